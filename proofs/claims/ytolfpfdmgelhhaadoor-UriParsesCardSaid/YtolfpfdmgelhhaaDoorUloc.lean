/-
The reference's local.
-/
import Derived.Test.YtolfpfdmgelhhaaDoorUmay
set_option linter.unusedVariables false
set_option linter.unusedSimpArgs false
namespace Go.Proofs.YtolfpfdmgelhhaaDoor
open Go.RowKit

theorem results_four {fn : Func} {t u v x : Tmp} (h : fn.results = #[.tmp t, .tmp u, .tmp v, .tmp x]) (tmps : Array Value) (P : Program) (w : World) :
    (results fn tmps).run P w = .ok (.tuple #[tmps.getD t undef, tmps.getD u undef, tmps.getD v undef, tmps.getD x undef]) w := by
  simp [results, h]
macro "go_ret4" : tactic => `(tactic|
  ((try simp only [Exit.inBlock, Exit.then]); refine bodyPost_ret (results_four rfl _ _ _) rfl ?_))

set_option maxRecDepth 100000 in
set_option maxHeartbeats 4000000 in
theorem urlocal_c (l : List UInt8) (hs : l.length ≤ 140737488355328) (w : World) :
    Calls Tryd.prog 85 #[.string (str l)] w (Gives (locV (localL l)) w) := by
  obtain ⟨R, hR⟩ : ∃ R, R = localL l := ⟨_, rfl⟩
  rw [← hR]
  have HR := Lib.hid hR
  clear hR
  go_enter Tryd.func85, Tryd.ntmps85
  go_wp2
  go_loopw [6] (fun i wr => ∃ k : Nat, i = .int .i64 (k : Nat) ∧ k ≤ l.length ∧ (l.take k).all (mayB false) = true ∧ w = wr) (fun i _ => l.length - (intOf i).toNat)
  case atStart => exact ⟨0, rfl, Nat.zero_le _, rfl, rfl⟩
  case round =>
    obtain ⟨k, rfl, hk, hall, rfl⟩ := hrel
    have HA := Lib.hid hall
    clear hall
    by_cases hlt : k < l.length
    · have hki : IntKind.i64.wrap ((k : Int) + 1) = (k : Int) + 1 := by rw [IntKind.wrap_i64]; omega
      have hkn : ((k : Int) == (l.length : Int)) = false := by rw [beq_eq_false_iff_ne]; omega
      by_cases h63 : l[k] = 63
      · have e63 : ((l[k].toNat : Int) != 63) = false := by rw [h63]; rfl
        have hl := loc_at k hlt HA.out h63
        rw [← HR.out] at hl
        have HL := Lib.hid hl
        clear hl h63
        go_wp2
        go_loopw [7] (fun i wr => ∃ m : Nat, i = .int .i64 (m : Nat) ∧ k ≤ m ∧ m ≤ l.length ∧ ((l.take m).drop k).all (mayB true) = true ∧ w = wr) (fun i _ => l.length - (intOf i).toNat)
        case atStart => exact ⟨k, rfl, Nat.le_refl _, hk, by rw [List.drop_eq_nil_of_le (by rw [List.length_take]; omega)]; rfl, rfl⟩
        case round =>
          obtain ⟨m, rfl, hm1, hm2, hall2, rfl⟩ := hrel
          have HA2 := Lib.hid hall2
          clear hall2
          clear e63
          by_cases hlt2 : m < l.length
          · have hmi : IntKind.i64.wrap ((m : Int) + 1) = (m : Int) + 1 := by rw [IntKind.wrap_i64]; omega
            by_cases hp : mayB true l[m] = true
            · have HP := Lib.hid hp
              have HS := Lib.hid (show ((l.take (m + 1)).drop k).all (mayB true) = true by rw [all_td l _ k m hm1 hlt2, HA2.out, hp]; rfl)
              clear hp
              go_wp2_with (go_at_call 133; refine (urmay_c _ _ _).mono ?_; rintro e w1 ⟨rfl, rfl⟩; rw [HP.out])
              go_roundw
              case rel => exact ⟨m + 1, by go_num, by omega, by omega, HS.out, by trivial⟩
              case measure => simp [intOf]; omega
            · have hp2 : mayB true l[m] = false := by simpa using hp
              have HP := Lib.hid hp2
              have HN := Lib.hid (show R = none by
                rw [HL.out, if_neg]
                intro h
                have hmem : l[m] ∈ l.drop k := List.mem_drop_iff_getElem.2 ⟨m - k, by omega, by congr 1; omega⟩
                exact hp (List.all_eq_true.1 h _ hmem))
              clear hp hp2
              go_wp2_with (go_at_call 133; refine (urmay_c _ _ _).mono ?_; rintro e w1 ⟨rfl, rfl⟩; rw [HP.out])
              go_ret4
              exact ⟨ret_val (by rw [HN.out]; rfl), by (repeat (first | exact Ext.rfl' _ | assumption | refine Ext.dr ?_ | refine Ext.drN ?_ _ | refine Ext.al ?_ _ | refine Ext.st ?_ (by simp) _ | refine Ext.tr ?_ (by assumption)))⟩
          · obtain rfl : m = l.length := by omega
            clear hlt2
            have HN := Lib.hid (show R = some (l.take k, l.drop (k + 1), true) by
              rw [HL.out, if_pos]
              have := HA2.out
              rwa [List.take_length] at this)
            have i2 : ((k : Int) + 1).toNat = k + 1 := by omega
            have i3 : (0 : Int) ≤ (k : Int) + 1 := by omega
            have i4 : (k : Int) + 1 ≤ (l.length : Int) := by omega
            go_wp2
            go_quiet (fail)
            go_wp2
            go_ret4
            exact ⟨ret_val (by rw [HN.out]; rfl), by (repeat (first | exact Ext.rfl' _ | assumption | refine Ext.dr ?_ | refine Ext.drN ?_ _ | refine Ext.al ?_ _ | refine Ext.st ?_ (by simp) _ | refine Ext.tr ?_ (by assumption)))⟩
      · have e63 : ((l[k].toNat : Int) != 63) = true := by
          rw [bne_iff_ne]; intro h; exact h63 (UInt8.toNat_inj.1 (by show l[k].toNat = 63; omega))
        by_cases hp : mayB false l[k] = true
        · have HP := Lib.hid hp
          have HS := Lib.hid (show (l.take (k + 1)).all (mayB false) = true by rw [all_succ_l l _ k hlt, HA.out, hp]; rfl)
          clear hp h63
          go_wp2_with (go_at_call 133; refine (urmay_c _ _ _).mono ?_; rintro e w1 ⟨rfl, rfl⟩; rw [HP.out])
          go_roundw
          case rel => exact ⟨k + 1, by go_num, by omega, HS.out, by trivial⟩
          case measure => simp [intOf]; omega
        · have hp2 : mayB false l[k] = false := by simpa using hp
          have HP := Lib.hid hp2
          have HN := Lib.hid (show R = none by rw [HR.out]; exact loc_bad k hlt HA.out h63 hp2)
          clear hp hp2 h63
          go_wp2_with (go_at_call 133; refine (urmay_c _ _ _).mono ?_; rintro e w1 ⟨rfl, rfl⟩; rw [HP.out])
          go_ret4
          exact ⟨ret_val (by rw [HN.out]; rfl), by (repeat (first | exact Ext.rfl' _ | assumption | refine Ext.dr ?_ | refine Ext.drN ?_ _ | refine Ext.al ?_ _ | refine Ext.st ?_ (by simp) _ | refine Ext.tr ?_ (by assumption)))⟩
    · obtain rfl : k = l.length := by omega
      have HN := Lib.hid (show R = some (l, [], false) by rw [HR.out]; have := HA.out; rw [List.take_length] at this; exact loc_end this)
      go_wp2
      go_ret4
      exact ⟨ret_val (by rw [HN.out]; rfl), by (repeat (first | exact Ext.rfl' _ | assumption | refine Ext.dr ?_ | refine Ext.drN ?_ _ | refine Ext.al ?_ _ | refine Ext.st ?_ (by simp) _ | refine Ext.tr ?_ (by assumption)))⟩
end Go.Proofs.YtolfpfdmgelhhaaDoor
