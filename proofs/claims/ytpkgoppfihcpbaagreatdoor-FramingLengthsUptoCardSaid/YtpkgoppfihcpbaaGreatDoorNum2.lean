/-
The reference's numbers to the bases 10 and 16.
-/
import Derived.Test.YtpkgoppfihcpbaaGreatDoorNum1
set_option linter.unusedVariables false
set_option linter.unusedSimpArgs false
namespace Go.Proofs.YtpkgoppfihcpbaaGreatDoor
open Go.RowKit

theorem all_succ_l (l : List UInt8) (p : UInt8 → Bool) (k : Nat) (h : k < l.length) : (l.take (k + 1)).all p = ((l.take k).all p && p l[k]) := by
  rw [List.take_succ_eq_append_getElem h, List.all_append]; simp only [List.all_cons, List.all_nil, Bool.and_true]
theorem low_all (l : List UInt8) (p : UInt8 → Bool) : (lowL l).all p = l.all fun b => p (lowB b) := by unfold lowL; rw [List.all_map]; rfl
theorem valF_app (B : Nat) : ∀ (a : Nat) (l m : List UInt8), valF B a (l ++ m) = valF B (valF B a l) m := by
  intro a l m; unfold valF; rw [List.foldl_append]
theorem val_succ (B : Nat) (l : List UInt8) (k : Nat) (h : k < l.length) : valL B (lowL (l.take (k + 1))) = valL B (lowL (l.take k)) * B + digV (lowB l[k]) := by
  unfold valL
  rw [List.take_succ_eq_append_getElem h]
  unfold lowL
  rw [List.map_append, valF_app]; rfl
theorem val_mono (B : Nat) (hB : 1 ≤ B) (l : List UInt8) (k : Nat) : valL B (lowL (l.take k)) ≤ valL B (lowL l) := by
  have e : lowL l = lowL (l.take k) ++ lowL (l.drop k) := by unfold lowL; rw [← List.map_append, List.take_append_drop]
  unfold valL
  conv => rhs; rw [e]
  rw [valF_app]
  exact valF_ge B hB _ _
theorem numL_nil (B most : Nat) : numL B most [] = (0, 21) := by unfold numL; rw [if_pos (.inl rfl)]
theorem numL_bad (B most : Nat) (l : List UInt8) (k : Nat) (hk : k < l.length) (h : isDig B (lowB l[k]) = false) : numL B most l = (0, 21) := by
  unfold numL
  refine if_pos (.inr ?_)
  rw [low_all, Bool.eq_false_iff]
  intro ha
  have := List.all_eq_true.1 ha l[k] (List.getElem_mem hk)
  simp only [h] at this
  cases this
theorem numL_good (B most : Nat) (l : List UInt8) (h0 : 0 < l.length) (h : (l.all fun b => isDig B (lowB b)) = true) : numL B most l = if valL B (lowL l) ≤ most then ((valL B (lowL l) : Int), 0) else (0, 11) := by
  unfold numL
  rw [if_neg]
  rw [low_all, h]
  intro hh
  rcases hh with hh | hh
  · subst hh; simp at h0
  · cases hh

set_option maxHeartbeats 2000000 in
set_option maxRecDepth 100000 in
theorem rnumber10_c (l : List UInt8) (hs : l.length ≤ maxLen) (w : World) :
    Calls Tryz.prog 54 #[.string (str l), .int .i64 10, .int .i64 1000000000000000000] w (Gives (.tuple #[.int .i64 (numL 10 1000000000000000000 l).1, .int .i64 (numL 10 1000000000000000000 l).2]) w) := by
  unfold maxLen at hs
  generalize hN : numL 10 1000000000000000000 l = N
  have HN := Lib.hid hN
  clear hN
  by_cases h0 : 0 < l.length
  · have hne : ((l.length : Int) == 0) = false := by rw [beq_eq_false_iff_ne]; omega
    go_enter Tryz.func54, Tryz.ntmps54
    go_wp2
    go_loopw [8] (fun i wr => ∃ k : Nat, k ≤ l.length ∧ i = .int .i64 k ∧ ((l.take k).all fun b => isDig 10 (lowB b)) = true ∧ w = wr) (fun i _ => l.length - (intOf i).toNat)
    case atStart => exact ⟨0, Nat.zero_le _, rfl, rfl, rfl⟩
    case round =>
      obtain ⟨k, hk, rfl, hall, rfl⟩ := hrel
      have HA := Lib.hid hall
      clear hall
      by_cases hlt : k < l.length
      · have hsucc := all_succ_l l (fun b => isDig 10 (lowB b)) k hlt
        rw [HA.out] at hsucc
        have HS := Lib.hid hsucc
        clear hsucc
        have h256 := UInt8.toNat_lt l[k]
        rcases worth_u8 10 (by omega) l[k] with ⟨hg, hv, hd⟩ | ⟨hg, hv⟩
        · have HG := Lib.hid hg
          have HV := Lib.hid hv
          have hd0 : ¬ ((digV (lowB l[k]) : Int) < 0) := by omega
          clear hg hv hd
          go_wp2_with (go_at_call 68; refine (worth_c 10 (by omega) (by omega) _ h256 _).mono ?_; rintro e w1 ⟨rfl, rfl⟩; rw [show worthV 10 l[k].toNat = _ from HV.out])
          go_roundw
          case rel => exact ⟨k + 1, by omega, by go_num, by rw [HS.out, HG.out]; rfl, by trivial⟩
          case measure => simp [intOf]; omega
        · have HG := Lib.hid hg
          have HV := Lib.hid hv
          clear hg hv
          go_wp2_with (go_at_call 68; refine (worth_c 10 (by omega) (by omega) _ h256 _).mono ?_; rintro e w1 ⟨rfl, rfl⟩; rw [show worthV 10 l[k].toNat = _ from HV.out])
          go_ret2
          exact ⟨ret_val (by rw [← HN.out, numL_bad _ _ l k hlt HG.out]; rfl), Ext.rfl' _⟩
      · obtain rfl : k = l.length := by omega
        rw [List.take_of_length_le (Nat.le_refl _)] at HA
        have hgood := numL_good 10 1000000000000000000 l h0 HA.out
        rw [HN.out] at hgood
        have HGD := Lib.hid hgood
        clear hgood
        go_wp2
        go_loopw [9, 10] (fun n i wr => ∃ k acc : Nat, k ≤ l.length ∧ i = .int .i64 k ∧ n = .int .i64 acc ∧ Hid (acc = valL 10 (lowL (l.take k))) ∧ acc ≤ 1000000000000000000 ∧ w = wr) (fun _ i _ => l.length - (intOf i).toNat)
        case atStart => exact ⟨0, 0, Nat.zero_le _, rfl, rfl, Lib.hid rfl, Nat.zero_le _, rfl⟩
        case round =>
          obtain ⟨k, acc, hk, rfl, rfl, HAC, hac, rfl⟩ := hrel
          by_cases hlt : k < l.length
          · have h256 := UInt8.toNat_lt l[k]
            have hvs := val_succ 10 l k hlt
            rw [← HAC.out] at hvs
            have hvm := val_mono 10 (by omega) l (k + 1)
            rw [hvs] at hvm
            have HVS := Lib.hid hvs
            have HVM := Lib.hid hvm
            clear hvs hvm
            have hdig := List.all_eq_true.1 HA.out l[k] (List.getElem_mem hlt)
            rcases worth_u8 10 (by omega) l[k] with ⟨hg, hv, hd⟩ | ⟨hg, hv⟩
            · have HV := Lib.hid hv
              clear hg hv hdig
              obtain ⟨d, hdd⟩ : ∃ d, d = digV (lowB l[k]) := ⟨_, rfl⟩
              rw [← hdd] at hd HV HVS HVM
              clear hdd
              by_cases hbig : 1000000000000000000 < acc * 10 + d
              · have hgt : (((1000000000000000000 : Nat) : Int) - (d : Int)) / ((10 : Nat) : Int) < (acc : Int) := by omega
                have hnn : (0 : Int) ≤ ((1000000000000000000 : Nat) : Int) - (d : Int) := by omega
                have hgt' : (1000000000000000000 - (d : Int)).tdiv 10 < (acc : Int) := by rw [Int.tdiv_eq_ediv_of_nonneg (by omega)]; omega
                have hval : ¬ valL 10 (lowL l) ≤ 1000000000000000000 := by have := HVM.out; omega
                rw [if_neg hval] at HGD
                clear hval hbig
                go_wp2_with (go_at_call 68; refine (worth_c 10 (by omega) (by omega) _ h256 _).mono ?_; rintro e w1 ⟨rfl, rfl⟩; rw [show worthV 10 l[k].toNat = _ from HV.out])
                go_ret2
                exact ⟨ret_val (by rw [HGD.out]; rfl), Ext.rfl' _⟩
              · have hle : ¬ (((1000000000000000000 : Nat) : Int) - (d : Int)) / ((10 : Nat) : Int) < (acc : Int) := by omega
                have hnn : (0 : Int) ≤ ((1000000000000000000 : Nat) : Int) - (d : Int) := by omega
                have hgt' : ¬ (1000000000000000000 - (d : Int)).tdiv 10 < (acc : Int) := by rw [Int.tdiv_eq_ediv_of_nonneg (by omega)]; omega
                have hb1 : (acc : Int) * 10 + d ≤ 1000000000000000000 := by omega
                go_wp2_with (go_at_call 68; refine (worth_c 10 (by omega) (by omega) _ h256 _).mono ?_; rintro e w1 ⟨rfl, rfl⟩; rw [show worthV 10 l[k].toNat = _ from HV.out])
                go_roundw
                case rel => exact ⟨k + 1, acc * 10 + d, by omega, by go_num, by go_num, Lib.hid HVS.out.symm, by omega, by trivial⟩
                case measure => simp [intOf]; omega
            · rw [hg] at hdig; cases hdig
          · obtain rfl : k = l.length := by omega
            rw [List.take_of_length_le (Nat.le_refl _)] at HAC
            rw [← HAC.out, if_pos hac] at HGD
            go_wp2
            go_ret2
            exact ⟨ret_val (by rw [HGD.out]; rfl), Ext.rfl' _⟩
  · obtain rfl : l = [] := List.eq_nil_of_length_eq_zero (by omega)
    rw [numL_nil] at HN
    go_enter Tryz.func54, Tryz.ntmps54
    go_wp2
    go_ret2
    exact ⟨ret_val (by rw [← HN.out]; rfl), Ext.rfl' _⟩
set_option maxHeartbeats 2000000 in
set_option maxRecDepth 100000 in
theorem rnumber16_c (l : List UInt8) (hs : l.length ≤ maxLen) (w : World) :
    Calls Tryz.prog 54 #[.string (str l), .int .i64 16, .int .i64 1152921504606846976] w (Gives (.tuple #[.int .i64 (numL 16 1152921504606846976 l).1, .int .i64 (numL 16 1152921504606846976 l).2]) w) := by
  unfold maxLen at hs
  generalize hN : numL 16 1152921504606846976 l = N
  have HN := Lib.hid hN
  clear hN
  by_cases h0 : 0 < l.length
  · have hne : ((l.length : Int) == 0) = false := by rw [beq_eq_false_iff_ne]; omega
    go_enter Tryz.func54, Tryz.ntmps54
    go_wp2
    go_loopw [8] (fun i wr => ∃ k : Nat, k ≤ l.length ∧ i = .int .i64 k ∧ ((l.take k).all fun b => isDig 16 (lowB b)) = true ∧ w = wr) (fun i _ => l.length - (intOf i).toNat)
    case atStart => exact ⟨0, Nat.zero_le _, rfl, rfl, rfl⟩
    case round =>
      obtain ⟨k, hk, rfl, hall, rfl⟩ := hrel
      have HA := Lib.hid hall
      clear hall
      by_cases hlt : k < l.length
      · have hsucc := all_succ_l l (fun b => isDig 16 (lowB b)) k hlt
        rw [HA.out] at hsucc
        have HS := Lib.hid hsucc
        clear hsucc
        have h256 := UInt8.toNat_lt l[k]
        rcases worth_u8 16 (by omega) l[k] with ⟨hg, hv, hd⟩ | ⟨hg, hv⟩
        · have HG := Lib.hid hg
          have HV := Lib.hid hv
          have hd0 : ¬ ((digV (lowB l[k]) : Int) < 0) := by omega
          clear hg hv hd
          go_wp2_with (go_at_call 68; refine (worth_c 16 (by omega) (by omega) _ h256 _).mono ?_; rintro e w1 ⟨rfl, rfl⟩; rw [show worthV 16 l[k].toNat = _ from HV.out])
          go_roundw
          case rel => exact ⟨k + 1, by omega, by go_num, by rw [HS.out, HG.out]; rfl, by trivial⟩
          case measure => simp [intOf]; omega
        · have HG := Lib.hid hg
          have HV := Lib.hid hv
          clear hg hv
          go_wp2_with (go_at_call 68; refine (worth_c 16 (by omega) (by omega) _ h256 _).mono ?_; rintro e w1 ⟨rfl, rfl⟩; rw [show worthV 16 l[k].toNat = _ from HV.out])
          go_ret2
          exact ⟨ret_val (by rw [← HN.out, numL_bad _ _ l k hlt HG.out]; rfl), Ext.rfl' _⟩
      · obtain rfl : k = l.length := by omega
        rw [List.take_of_length_le (Nat.le_refl _)] at HA
        have hgood := numL_good 16 1152921504606846976 l h0 HA.out
        rw [HN.out] at hgood
        have HGD := Lib.hid hgood
        clear hgood
        go_wp2
        go_loopw [9, 10] (fun n i wr => ∃ k acc : Nat, k ≤ l.length ∧ i = .int .i64 k ∧ n = .int .i64 acc ∧ Hid (acc = valL 16 (lowL (l.take k))) ∧ acc ≤ 1152921504606846976 ∧ w = wr) (fun _ i _ => l.length - (intOf i).toNat)
        case atStart => exact ⟨0, 0, Nat.zero_le _, rfl, rfl, Lib.hid rfl, Nat.zero_le _, rfl⟩
        case round =>
          obtain ⟨k, acc, hk, rfl, rfl, HAC, hac, rfl⟩ := hrel
          by_cases hlt : k < l.length
          · have h256 := UInt8.toNat_lt l[k]
            have hvs := val_succ 16 l k hlt
            rw [← HAC.out] at hvs
            have hvm := val_mono 16 (by omega) l (k + 1)
            rw [hvs] at hvm
            have HVS := Lib.hid hvs
            have HVM := Lib.hid hvm
            clear hvs hvm
            have hdig := List.all_eq_true.1 HA.out l[k] (List.getElem_mem hlt)
            rcases worth_u8 16 (by omega) l[k] with ⟨hg, hv, hd⟩ | ⟨hg, hv⟩
            · have HV := Lib.hid hv
              clear hg hv hdig
              obtain ⟨d, hdd⟩ : ∃ d, d = digV (lowB l[k]) := ⟨_, rfl⟩
              rw [← hdd] at hd HV HVS HVM
              clear hdd
              by_cases hbig : 1152921504606846976 < acc * 16 + d
              · have hgt : (((1152921504606846976 : Nat) : Int) - (d : Int)) / ((16 : Nat) : Int) < (acc : Int) := by omega
                have hnn : (0 : Int) ≤ ((1152921504606846976 : Nat) : Int) - (d : Int) := by omega
                have hgt' : (1152921504606846976 - (d : Int)).tdiv 16 < (acc : Int) := by rw [Int.tdiv_eq_ediv_of_nonneg (by omega)]; omega
                have hval : ¬ valL 16 (lowL l) ≤ 1152921504606846976 := by have := HVM.out; omega
                rw [if_neg hval] at HGD
                clear hval hbig
                go_wp2_with (go_at_call 68; refine (worth_c 16 (by omega) (by omega) _ h256 _).mono ?_; rintro e w1 ⟨rfl, rfl⟩; rw [show worthV 16 l[k].toNat = _ from HV.out])
                go_ret2
                exact ⟨ret_val (by rw [HGD.out]; rfl), Ext.rfl' _⟩
              · have hle : ¬ (((1152921504606846976 : Nat) : Int) - (d : Int)) / ((16 : Nat) : Int) < (acc : Int) := by omega
                have hnn : (0 : Int) ≤ ((1152921504606846976 : Nat) : Int) - (d : Int) := by omega
                have hgt' : ¬ (1152921504606846976 - (d : Int)).tdiv 16 < (acc : Int) := by rw [Int.tdiv_eq_ediv_of_nonneg (by omega)]; omega
                have hb1 : (acc : Int) * 16 + d ≤ 1152921504606846976 := by omega
                go_wp2_with (go_at_call 68; refine (worth_c 16 (by omega) (by omega) _ h256 _).mono ?_; rintro e w1 ⟨rfl, rfl⟩; rw [show worthV 16 l[k].toNat = _ from HV.out])
                go_roundw
                case rel => exact ⟨k + 1, acc * 16 + d, by omega, by go_num, by go_num, Lib.hid HVS.out.symm, by omega, by trivial⟩
                case measure => simp [intOf]; omega
            · rw [hg] at hdig; cases hdig
          · obtain rfl : k = l.length := by omega
            rw [List.take_of_length_le (Nat.le_refl _)] at HAC
            rw [← HAC.out, if_pos hac] at HGD
            go_wp2
            go_ret2
            exact ⟨ret_val (by rw [HGD.out]; rfl), Ext.rfl' _⟩
  · obtain rfl : l = [] := List.eq_nil_of_length_eq_zero (by omega)
    rw [numL_nil] at HN
    go_enter Tryz.func54, Tryz.ntmps54
    go_wp2
    go_ret2
    exact ⟨ret_val (by rw [← HN.out]; rfl), Ext.rfl' _⟩
theorem rDecimal_c (l : List UInt8) (hs : l.length ≤ maxLen) (w : World) :
    Calls Tryz.prog 39 #[.string (str l)] w (Gives (.tuple #[.int .i64 (numL 10 1000000000000000000 l).1, .int .i64 (numL 10 1000000000000000000 l).2]) w) := by
  have C := rnumber10_c l hs
  generalize (numL 10 1000000000000000000 l).1 = a at *
  generalize (numL 10 1000000000000000000 l).2 = b at *
  have C := Lib.hid C
  go_enter Tryz.func39, Tryz.ntmps39
  go_wp2_with (go_at_call 54; refine (C.out _).mono ?_; rintro e w1 ⟨rfl, hx⟩)
  go_ret2
  exact ⟨rfl, hx⟩
end Go.Proofs.YtpkgoppfihcpbaaGreatDoor
