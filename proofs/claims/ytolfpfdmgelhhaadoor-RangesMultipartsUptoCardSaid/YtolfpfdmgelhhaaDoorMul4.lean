/-
Which boundaries may be: the program's plain and the reference's.
-/
import Derived.Test.YtolfpfdmgelhhaaDoorMul3
import Derived.Test.YtolfpfdmgelhhaaDoorAsc6
import Derived.Test.YtolfpfdmgelhhaaDoorShelfB
import Derived.Test.YtolfpfdmgelhhaaDoorPln
set_option linter.unusedVariables false
set_option linter.unusedSimpArgs false
namespace Go.Proofs.YtolfpfdmgelhhaaDoor
open Go.RowKit

set_option maxRecDepth 100000 in
set_option maxHeartbeats 2000000 in
theorem rplain_c (l : List UInt8) (hs : l.length ≤ maxLen) (w : World) :
    Calls Tryd.prog 61 #[.string (str l)] w fun e w' => e = .returned (.bool (plainL l)) ∧ Ext w w' := by
  unfold maxLen at hs
  go_enter Tryd.func61, Tryd.ntmps61
  go_wp2
  go_loopw [3] (fun i wr => ∃ k : Nat, k ≤ l.length ∧ i = .int .i64 k ∧ alL (l.take k) = true ∧ Ext w wr) (fun i _ => l.length - (intOf i).toNat)
  case atStart => exact ⟨0, Nat.zero_le _, rfl, rfl, Ext.rfl' _⟩
  case round =>
    obtain ⟨k, hk, rfl, hall, hext⟩ := hrel
    have HA := Lib.hid hall
    clear hall
    by_cases hlt : k < l.length
    · have HS := Lib.hid (al_take l k hlt)
      have HFF := Lib.hid (al_false l k hlt)
      have h256 := UInt8.toNat_lt l[k]
      obtain ⟨x, hx⟩ : ∃ x : Int, x = (l[k].toNat : Int) := ⟨_, rfl⟩
      have hc := al_cases l[k].toNat
      obtain ⟨v, hv⟩ : ∃ v, v = alB l[k].toNat := ⟨_, rfl⟩
      rw [← hv] at hc
      rw [← hx] at hc
      have HV := Lib.hid hv
      clear hv
      rcases hc with ⟨rfl, c1, c2, c3⟩ | ⟨rfl, c1, c2, c3, c4⟩ | ⟨rfl, c1, c2, c3, c4⟩ | ⟨rfl, c1, c2, c3⟩ | ⟨rfl, c1, c2, c3, c4, c5⟩ | ⟨rfl, c1, c2⟩ | ⟨rfl, c1, c2, c3, c4, c5, c6⟩
      all_goals (rw [hx] at c1 c2; try rw [hx] at c3)
      all_goals (try rw [hx] at c4)
      all_goals (try rw [hx] at c5)
      all_goals (try rw [hx] at c6)
      all_goals clear hx
      · go_wp2
        go_ret
        exact ⟨ret_bool (by unfold plainL; rw [HFF.out HV.out.symm]; rfl), by (repeat (first | exact Ext.rfl' _ | assumption | refine Ext.dr ?_ | refine Ext.drN ?_ _ | refine Ext.al ?_ _ | refine Ext.st ?_ (by simp) _ | refine Ext.tr ?_ (by assumption)))⟩
      · go_wp2
        go_roundw
        case rel => exact ⟨k + 1, by omega, by go_num, by rw [HS.out, HA.out, ← HV.out]; rfl, by (repeat (first | exact Ext.rfl' _ | assumption | refine Ext.dr ?_ | refine Ext.drN ?_ _ | refine Ext.al ?_ _ | refine Ext.st ?_ (by simp) _ | refine Ext.tr ?_ (by assumption)))⟩
        case measure => simp [intOf]; omega
      · go_wp2
        go_ret
        exact ⟨ret_bool (by unfold plainL; rw [HFF.out HV.out.symm]; rfl), by (repeat (first | exact Ext.rfl' _ | assumption | refine Ext.dr ?_ | refine Ext.drN ?_ _ | refine Ext.al ?_ _ | refine Ext.st ?_ (by simp) _ | refine Ext.tr ?_ (by assumption)))⟩
      · go_wp2
        go_roundw
        case rel => exact ⟨k + 1, by omega, by go_num, by rw [HS.out, HA.out, ← HV.out]; rfl, by (repeat (first | exact Ext.rfl' _ | assumption | refine Ext.dr ?_ | refine Ext.drN ?_ _ | refine Ext.al ?_ _ | refine Ext.st ?_ (by simp) _ | refine Ext.tr ?_ (by assumption)))⟩
        case measure => simp [intOf]; omega
      · go_wp2
        go_ret
        exact ⟨ret_bool (by unfold plainL; rw [HFF.out HV.out.symm]; rfl), by (repeat (first | exact Ext.rfl' _ | assumption | refine Ext.dr ?_ | refine Ext.drN ?_ _ | refine Ext.al ?_ _ | refine Ext.st ?_ (by simp) _ | refine Ext.tr ?_ (by assumption)))⟩
      · go_wp2
        go_roundw
        case rel => exact ⟨k + 1, by omega, by go_num, by rw [HS.out, HA.out, ← HV.out]; rfl, by (repeat (first | exact Ext.rfl' _ | assumption | refine Ext.dr ?_ | refine Ext.drN ?_ _ | refine Ext.al ?_ _ | refine Ext.st ?_ (by simp) _ | refine Ext.tr ?_ (by assumption)))⟩
        case measure => simp [intOf]; omega
      · go_wp2
        go_ret
        exact ⟨ret_bool (by unfold plainL; rw [HFF.out HV.out.symm]; rfl), by (repeat (first | exact Ext.rfl' _ | assumption | refine Ext.dr ?_ | refine Ext.drN ?_ _ | refine Ext.al ?_ _ | refine Ext.st ?_ (by simp) _ | refine Ext.tr ?_ (by assumption)))⟩
    · obtain rfl : k = l.length := by omega
      have HP := Lib.hid (show alL l = true by have := HA.out; rwa [List.take_length] at this)
      by_cases p1 : 1 ≤ l.length
      · have q1 : decide ((1 : Int) ≤ (l.length : Int)) = true := by rw [decide_eq_true_eq]; omega
        by_cases p2 : l.length ≤ 60
        · have q2 : decide ((l.length : Int) ≤ 60) = true := by rw [decide_eq_true_eq]; omega
          go_wp2
          go_ret
          exact ⟨ret_bool (by unfold plainL; rw [HP.out]; simp [p1, p2]), by (repeat (first | exact Ext.rfl' _ | assumption | refine Ext.dr ?_ | refine Ext.drN ?_ _ | refine Ext.al ?_ _ | refine Ext.st ?_ (by simp) _ | refine Ext.tr ?_ (by assumption)))⟩
        · have q2 : decide ((l.length : Int) ≤ 60) = false := by rw [decide_eq_false_iff_not]; omega
          go_wp2
          go_ret
          exact ⟨ret_bool (by unfold plainL; rw [HP.out]; simp [p1, p2]), by (repeat (first | exact Ext.rfl' _ | assumption | refine Ext.dr ?_ | refine Ext.drN ?_ _ | refine Ext.al ?_ _ | refine Ext.st ?_ (by simp) _ | refine Ext.tr ?_ (by assumption)))⟩
      · have q1 : decide ((1 : Int) ≤ (l.length : Int)) = false := by rw [decide_eq_false_iff_not]; omega
        go_wp2
        go_ret
        exact ⟨ret_bool (by unfold plainL; rw [HP.out]; simp [p1]), by (repeat (first | exact Ext.rfl' _ | assumption | refine Ext.dr ?_ | refine Ext.drN ?_ _ | refine Ext.al ?_ _ | refine Ext.st ?_ (by simp) _ | refine Ext.tr ?_ (by assumption)))⟩
end Go.Proofs.YtolfpfdmgelhhaaDoor
