/-
The reference's name and Host.
-/
import Derived.Test.YtjapkhhdpppmdaaDoorUkn
set_option linter.unusedVariables false
set_option linter.unusedSimpArgs false
namespace Go.Proofs.YtjapkhhdpppmdaaDoor
open Go.RowKit

theorem tl_take (l : List UInt8) (k : Nat) : (l.take k).tail = l.tail.take (k - 1) := by
  cases l with
  | nil => simp
  | cons a l => cases k with | zero => simp | succ i => simp
theorem name_bad {l : List UInt8} (h : l.head? = some 91) (k : Nat) (hk : k < l.length) (h1 : 1 ≤ k) (ha : (l.take k).tail.all adrB = true) (hn : adrB l[k] = false) (h93 : l[k] ≠ 93) : nameL l = 0 := by
  unfold nameL
  rw [if_pos h]
  have ht : l.tail.length = l.length - 1 := List.length_tail
  rw [tl_take] at ha
  have hg : ∀ (hk' : k - 1 < l.tail.length), l.tail[k - 1] = l[k] := fun hk' => by
    rw [List.getElem_tail]; congr 1; omega
  have e := tw_eq adrB l.tail (k - 1) (by omega) ha (fun hk' => by rw [hg hk']; exact hn)
  have e2 : (l.tail.takeWhile adrB).length = k - 1 := by rw [e, List.length_take]; omega
  dsimp only
  rw [e2, if_neg]
  rintro ⟨h93', _⟩
  rw [List.getElem?_eq_getElem (by omega), hg (by omega)] at h93'
  exact h93 (Option.some.inj h93')
theorem no93 {l : List UInt8} (h : l.head? = some 91) (k : Nat) (hk : k ≤ l.length) (ha : (l.take k).tail.all adrB = true) : ∀ j (hj : j < k), l[j]'(by omega) ≠ 93 := by
  intro j hj e
  rw [tl_take, List.all_eq_true] at ha
  cases j with
  | zero => rw [List.head?_eq_getElem?, List.getElem?_eq_getElem (by omega), e] at h; exact absurd h (by decide)
  | succ j =>
    have hm : l[j + 1] ∈ l.tail.take (k - 1) := List.mem_take_iff_getElem.2 ⟨j, (by rw [List.length_tail]; show j < min (k - 1) (l.length - 1); omega), by rw [List.getElem_tail]⟩
    have := ha _ hm
    rw [e, adr_93] at this
    cases this
theorem all_tl_succ (l : List UInt8) (p : UInt8 → Bool) (k : Nat) (h : k < l.length) (h1 : 1 ≤ k) : (l.take (k + 1)).tail.all p = ((l.take k).tail.all p && p l[k]) := by
  have e : l.take (k + 1) = l.take k ++ [l[k]] := (List.take_append_getElem h).symm
  rw [e, List.tail_append_of_ne_nil (by intro h0; have := congrArg List.length h0; rw [List.length_take, List.length_nil] at this; omega), List.all_append]
  simp
theorem adr_w {b : UInt8} : adrB b = (decide (0 ≤ wrV b) || (b == 58 || b == 46)) := by
  unfold adrB wrV
  cases h : isDig 16 (lowB b)
  · simp
  · simp
theorem name_eq {l : List UInt8} (h : l.head? ≠ some 91) (k : Nat) (hk : k ≤ l.length) (ha : (l.take k).all plnB = true) (hs : ∀ h : k < l.length, plnB l[k] = false) : nameL l = if k ≤ 255 then k else 0 := by
  unfold nameL
  rw [if_neg h]
  have e : l.takeWhile plnB = l.take k := tw_eq plnB l k hk ha hs
  have e2 : (l.takeWhile plnB).length = k := by rw [e, List.length_take]; omega
  dsimp only
  rw [e2]

set_option maxRecDepth 100000 in
set_option maxHeartbeats 2000000 in
theorem urname_b (l : List UInt8) (hs : l.length ≤ 140737488355328) (h91 : l.head? = some 91) (w : World) :
    Calls Tryd.prog 69 #[.string (str l)] w (Gives (.int .i64 (nameL l : Nat)) w) := by
  have hl0 : 0 < l.length := by cases l with | nil => cases h91 | cons a l => simp
  have hb0 : l[0] = 91 := by rw [List.head?_eq_getElem?, List.getElem?_eq_getElem hl0] at h91; exact Option.some.inj h91
  have hb1 : ((l[0].toNat : Int) == 91) = true := by rw [hb0]; rfl
  have HH := Lib.hid h91
  clear h91 hb0
  obtain ⟨n, hn⟩ : ∃ n, n = nameL l := ⟨_, rfl⟩
  rw [← hn]
  have HN := Lib.hid hn
  clear hn
  go_enter Tryd.func69, Tryd.ntmps69
  go_wp2
  clear hb1
  go_loopw [3] (fun i wr => ∃ k : Nat, i = .int .i64 (k : Nat) ∧ 1 ≤ k ∧ k ≤ l.length ∧ (l.take k).tail.all adrB = true ∧ Ext w wr) (fun i _ => l.length - (intOf i).toNat)
  case atStart => exact ⟨1, rfl, Nat.le_refl _, hl0, by rw [tl_take]; simp, Ext.rfl' _⟩
  case round =>
    obtain ⟨k, rfl, h1, hk, hall, hext⟩ := hrel
    have HA := Lib.hid hall
    clear hall
    by_cases hlt : k < l.length
    · have HS := Lib.hid (all_tl_succ l adrB k hlt h1)
      have hki : IntKind.i64.wrap ((k : Int) + 1) = (k : Int) + 1 := by rw [IntKind.wrap_i64]; omega
      by_cases hb : l[k] = 93
      · have hb1 : ((l[k].toNat : Int) == 93) = true := by rw [hb]; rfl
        have HR := name_br HH.out k hlt h1 hb (no93 HH.out k hk HA.out)
        rw [HA.out, ← HN.out] at HR
        by_cases hc : 3 ≤ k ∧ k ≤ 61
        · rw [if_pos ⟨hc, rfl⟩] at HR
          have HR := Lib.hid HR
          have c1 : decide ((k : Int) < 3) = false := by rw [decide_eq_false_iff_not]; omega
          have c2 : decide ((61 : Int) < (k : Int)) = false := by rw [decide_eq_false_iff_not]; omega
          clear hb hc
          go_wp2
          go_ret
          exact ⟨ret_val (by rw [HR.out]; rfl), hext⟩
        · rw [if_neg (fun h => hc h.1)] at HR
          have HR := Lib.hid HR
          by_cases c1 : k < 3
          · have c2 : decide ((k : Int) < 3) = true := by rw [decide_eq_true_eq]; omega
            clear hb hc
            go_wp2
            go_ret
            exact ⟨ret_val (by rw [HR.out]; rfl), hext⟩
          · have c2 : decide ((k : Int) < 3) = false := by rw [decide_eq_false_iff_not]; omega
            have c3 : decide ((61 : Int) < (k : Int)) = true := by rw [decide_eq_true_eq]; omega
            clear hb hc
            go_wp2
            go_ret
            exact ⟨ret_val (by rw [HR.out]; rfl), hext⟩
      · have hb1 : ((l[k].toNat : Int) == 93) = false := by
          rw [beq_eq_false_iff_ne]; intro h; exact hb (UInt8.toNat_inj.1 (by show l[k].toNat = 93; omega))
        have hgo : ∀ (hp : adrB l[k] = true), (l.take (k + 1)).tail.all adrB = true := fun hp => by rw [HS.out, HA.out, hp]; rfl
        have hstop : ∀ (hp : adrB l[k] = false), n = 0 := fun hp => by rw [HN.out]; exact name_bad HH.out k hlt h1 HA.out hp hb
        have HGO := Lib.hid hgo
        have HST := Lib.hid hstop
        clear hb hgo hstop
        by_cases hd : isDig 16 (lowB l[k]) = true
        · have HR := Lib.hid (HGO.out (by unfold adrB; rw [hd]; rfl))
          have v1 := wr_dig hd
          obtain ⟨x, hx⟩ : ∃ x : Nat, x = digV (lowB l[k]) := ⟨_, rfl⟩
          rw [← hx] at v1
          have V1 := Lib.hid v1
          clear hd hx v1
          go_wp2_with (go_at_call 73; refine (urworth_c _ _).mono ?_; rintro e w1 ⟨rfl, hx1⟩; rw [V1.out])
          go_roundw
          case rel => exact ⟨k + 1, by go_num, by omega, by omega, HR.out, by (repeat (first | exact Ext.rfl' _ | assumption | refine Ext.dr ?_ | refine Ext.drN ?_ _ | refine Ext.al ?_ _ | refine Ext.st ?_ (by simp) _ | refine Ext.tr ?_ (by assumption)))⟩
          case measure => simp [intOf]; omega
        · have V1 := Lib.hid (wr_no hd)
          by_cases h58 : l[k] = 58
          · have e58 : ((l[k].toNat : Int) != 58) = false := by rw [h58]; rfl
            have HR := Lib.hid (HGO.out (by unfold adrB; rw [h58]; rfl))
            clear h58 hd
            go_wp2_with (go_at_call 73; refine (urworth_c _ _).mono ?_; rintro e w1 ⟨rfl, hx1⟩; rw [V1.out])
            go_roundw
            case rel => exact ⟨k + 1, by go_num, by omega, by omega, HR.out, by (repeat (first | exact Ext.rfl' _ | assumption | refine Ext.dr ?_ | refine Ext.drN ?_ _ | refine Ext.al ?_ _ | refine Ext.st ?_ (by simp) _ | refine Ext.tr ?_ (by assumption)))⟩
            case measure => simp [intOf]; omega
          · have e58 : ((l[k].toNat : Int) != 58) = true := by
              rw [bne_iff_ne]; intro h; exact h58 (UInt8.toNat_inj.1 (by show l[k].toNat = 58; omega))
            by_cases h46 : l[k] = 46
            · have e46 : ((l[k].toNat : Int) != 46) = false := by rw [h46]; rfl
              have HR := Lib.hid (HGO.out (by unfold adrB; rw [h46]; rfl))
              clear h58 h46 hd
              go_wp2_with (go_at_call 73; refine (urworth_c _ _).mono ?_; rintro e w1 ⟨rfl, hx1⟩; rw [V1.out])
              go_roundw
              case rel => exact ⟨k + 1, by go_num, by omega, by omega, HR.out, by (repeat (first | exact Ext.rfl' _ | assumption | refine Ext.dr ?_ | refine Ext.drN ?_ _ | refine Ext.al ?_ _ | refine Ext.st ?_ (by simp) _ | refine Ext.tr ?_ (by assumption)))⟩
              case measure => simp [intOf]; omega
            · have e46 : ((l[k].toNat : Int) != 46) = true := by
                rw [bne_iff_ne]; intro h; exact h46 (UInt8.toNat_inj.1 (by show l[k].toNat = 46; omega))
              have HR := Lib.hid (HST.out (by unfold adrB; simp [hd, h58, h46]))
              clear h58 h46 hd
              go_wp2_with (go_at_call 73; refine (urworth_c _ _).mono ?_; rintro e w1 ⟨rfl, hx1⟩; rw [V1.out])
              go_ret
              exact ⟨ret_val (by rw [HR.out]; rfl), by (repeat (first | exact Ext.rfl' _ | assumption | refine Ext.dr ?_ | refine Ext.drN ?_ _ | refine Ext.al ?_ _ | refine Ext.st ?_ (by simp) _ | refine Ext.tr ?_ (by assumption)))⟩
    · obtain rfl : k = l.length := by omega
      have HR := Lib.hid (show n = 0 by
        rw [HN.out]
        refine name_br0 HH.out (fun hm => ?_)
        obtain ⟨j, hj, hj2⟩ := List.getElem_of_mem hm
        exact no93 HH.out l.length (Nat.le_refl _) HA.out j hj hj2)
      go_wp2
      go_ret
      exact ⟨ret_val (by rw [HR.out]; rfl), hext⟩
set_option maxRecDepth 100000 in
set_option maxHeartbeats 2000000 in
theorem urname_p (l : List UInt8) (hs : l.length ≤ 140737488355328) (h91 : l.head? ≠ some 91) (w : World) :
    Calls Tryd.prog 69 #[.string (str l)] w (Gives (.int .i64 (nameL l : Nat)) w) := by
  obtain ⟨n, hn⟩ : ∃ n, n = nameL l := ⟨_, rfl⟩
  rw [← hn]
  have HN := Lib.hid hn
  clear hn
  have HH := Lib.hid h91
  by_cases hl0 : 0 < l.length
  · have hb0 : l[0] ≠ 91 := fun e => h91 (by rw [List.head?_eq_getElem?, List.getElem?_eq_getElem hl0, e])
    have hb1 : ((l[0].toNat : Int) == 91) = false := by
      rw [beq_eq_false_iff_ne]; intro h; exact hb0 (UInt8.toNat_inj.1 (by show l[0].toNat = 91; omega))
    clear h91 hb0
    go_enter Tryd.func69, Tryd.ntmps69
    go_wp2
    clear hb1
    · go_loopw [4] (fun i wr => ∃ k : Nat, i = .int .i64 (k : Nat) ∧ k ≤ l.length ∧ (l.take k).all plnB = true ∧ w = wr) (fun i _ => l.length - (intOf i).toNat)
      case atStart => exact ⟨0, rfl, Nat.zero_le _, rfl, rfl⟩
      case round =>
        obtain ⟨k, rfl, hk, hall, rfl⟩ := hrel
        have HA := Lib.hid hall
        clear hall
        by_cases hc : k < l.length ∧ (∀ h : k < l.length, plnB l[k] = true)
        · have hlt := hc.1
          have HP := Lib.hid (hc.2 hlt)
          have HR := Lib.hid (show (l.take (k + 1)).all plnB = true by rw [all_succ_l l plnB k hlt, HA.out, HP.out]; rfl)
          clear hc
          have hki : IntKind.i64.wrap ((k : Int) + 1) = (k : Int) + 1 := by rw [IntKind.wrap_i64]; omega
          go_wp2_with (go_at_call 77; refine (urplain_c _ _).mono ?_; rintro e w1 ⟨rfl, rfl⟩; rw [HP.out])
          go_roundw
          case rel => exact ⟨k + 1, by go_num, by omega, HR.out, by trivial⟩
          case measure => simp [intOf]; omega
        · have hst : ∀ h : k < l.length, plnB l[k] = false := fun h => by
            cases hp : plnB l[k] with
            | false => rfl
            | true => exact absurd ⟨h, fun _ => hp⟩ hc
          have HR := name_eq HH.out k hk HA.out hst
          rw [← HN.out] at HR
          clear hc
          by_cases h255 : k ≤ 255
          · rw [if_pos h255] at HR
            have c2 : decide ((255 : Int) < (k : Int)) = false := by rw [decide_eq_false_iff_not]; omega
            have HR := Lib.hid HR
            by_cases hlt : k < l.length
            · have HP := Lib.hid (hst hlt)
              clear hst
              go_wp2_with (go_at_call 77; refine (urplain_c _ _).mono ?_; rintro e w1 ⟨rfl, rfl⟩; rw [HP.out])
              go_ret
              exact ⟨ret_val (by rw [HR.out]; rfl), Ext.rfl' _⟩
            · clear hst
              obtain rfl : k = l.length := by omega
              go_wp2
              go_ret
              exact ⟨ret_val (by rw [HR.out]; rfl), Ext.rfl' _⟩
          · rw [if_neg h255] at HR
            have c2 : decide ((255 : Int) < (k : Int)) = true := by rw [decide_eq_true_eq]; omega
            have HR := Lib.hid HR
            by_cases hlt : k < l.length
            · have HP := Lib.hid (hst hlt)
              clear hst
              go_wp2_with (go_at_call 77; refine (urplain_c _ _).mono ?_; rintro e w1 ⟨rfl, rfl⟩; rw [HP.out])
              go_ret
              exact ⟨ret_val (by rw [HR.out]; rfl), Ext.rfl' _⟩
            · clear hst
              obtain rfl : k = l.length := by omega
              go_wp2
              go_ret
              exact ⟨ret_val (by rw [HR.out]; rfl), Ext.rfl' _⟩
  · obtain rfl : l = [] := by cases l with | nil => rfl | cons a l => simp at hl0
    clear h91 hl0
    have HR := Lib.hid (show n = 0 by rw [HN.out]; rfl)
    go_enter Tryd.func69, Tryd.ntmps69
    go_wp2
    go_loopw [4] (fun i wr => i = .int .i64 0 ∧ w = wr) (fun i _ => 0)
    case atStart => exact ⟨rfl, rfl⟩
    case round =>
      obtain ⟨rfl, rfl⟩ := hrel
      go_wp2
      go_ret
      exact ⟨ret_val (by rw [HR.out]; rfl), Ext.rfl' _⟩

theorem urname_c (l : List UInt8) (hs : l.length ≤ 140737488355328) (w : World) : Calls Tryd.prog 69 #[.string (str l)] w (Gives (.int .i64 (nameL l : Nat)) w) := by
  by_cases h : l.head? = some 91
  · exact urname_b l hs h w
  · exact urname_p l hs h w
end Go.Proofs.YtjapkhhdpppmdaaDoor
