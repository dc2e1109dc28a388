/-
The statement RangesResolves: its helpers and its walk.
-/
import Derived.Test.YtolfpfdmgelhhaaDoorRng5
set_option linter.unusedVariables false
set_option linter.unusedSimpArgs false
/-
The statement RangesResolves: its helpers and its walk.
-/
section
namespace Go.Proofs.YtolfpfdmgelhhaaDoor
open Go.RowKit

theorem num17_c (n : Int) (w : World) : Calls Tryd.prog 17 #[.int .i64 n] w fun e w' => e = .returned (.int .i64 n) ∧ w = w' := by
  go_enter Tryd.func17, Tryd.ntmps17
  go_wp2
  go_ret
  exact ⟨rfl, rfl⟩

end Go.Proofs.YtolfpfdmgelhhaaDoor
end

/-
What must come of Resolve and ContentRange: the closed facts.
-/
section
namespace Go.Proofs.YtolfpfdmgelhhaaDoor
open Go.RowKit

theorem res1 : resolveL [(0, 4), (-1, 3)] 10 = ([(0, 5), (7, 10)], 0) := by decide +kernel
theorem res2 : resolveL [(10, -1)] 10 = ([], 62) := by decide +kernel
theorem dd0 : Lib.decDigits 0 = [48] := Lib.decDigits_one (by omega)
theorem dd4 : Lib.decDigits 4 = [52] := Lib.decDigits_one (by omega)
theorem dd10 : Lib.decDigits 10 = [49, 48] := Lib.decDigits_two (by omega) (by omega)
theorem cr1 : str (crL 0 5 10) = ⟨#[98, 121, 116, 101, 115, 32, 48, 45, 52, 47, 49, 48]⟩ := by
  have h : crL 0 5 10 = [98, 121, 116, 101, 115, 32, 48, 45, 52, 47, 49, 48] := by
    unfold crL Lib.itoa
    simp [dd0, dd4, dd10]
  rw [h]; rfl
set_option maxRecDepth 100000 in
set_option maxHeartbeats 1000000 in
theorem knows17_c (w : World) (hp : Pow w) : Calls Tryd.prog 21 #[] w (Gives (.bool true) w) := by
  have HP := Lib.hid hp
  clear hp
  go_enter Tryd.func21, Tryd.ntmps21
  go_wp2_with fail
  refine (Resolve_c _ _ 2 2 [(0, 4), (-1, 3)] 10 rfl (by simp [maxLen]) (.inr ⟨_, _, rfl, fun j u hj => by rw [Nat.zero_add]; exact new_at _ _ _ j u (by simpa [pc] using hj)⟩) (by omega) (by omega)).mono ?_
  rintro e w1 h1
  rw [res1] at h1
  obtain ⟨v, rfl, ⟨A1, c1, rfl, hr1, hc1⟩, hx1⟩ := h1.out
  go_wp2_with fail
  refine (Resolve_c _ _ 1 1 [(10, -1)] 10 rfl (by simp [maxLen]) (.inr ⟨_, _, rfl, fun j u hj => by rw [Nat.zero_add]; exact new_at _ _ _ j u (by simpa [pc] using hj)⟩) (by omega) (by omega)).mono ?_
  rintro e w2 h2
  rw [res2] at h2
  obtain ⟨v, rfl, ⟨A2, c2, rfl, hr2, hc2⟩, hx2⟩ := h2.out
  obtain ⟨b, o, rfl, hbl, hS0⟩ := hr1.pair (k := 0) (by simp)
  obtain ⟨_, _, he, _, hS1⟩ := hr1.pair (k := 1) (by simp)
  cases he
  obtain ⟨c0, d0⟩ := hS0.out w2 (by (repeat (first | exact Ext.rfl' _ | assumption | refine Ext.dr ?_ | refine Ext.al ?_ _ | refine Ext.st ?_ (by simp) _ | refine Ext.tr ?_ (by assumption))))
  obtain ⟨c1, d1⟩ := hS1.out w2 (by (repeat (first | exact Ext.rfl' _ | assumption | refine Ext.dr ?_ | refine Ext.al ?_ _ | refine Ext.st ?_ (by simp) _ | refine Ext.tr ?_ (by assumption))))
  simp only [Nat.zero_mul, Nat.one_mul, Nat.add_zero, List.getElem_cons_zero, List.getElem_cons_succ] at c0 d0 c1 d1
  go_wp2_with (first | (go_at_call 17; refine (num17_c _ _).mono ?_; rintro e w3 ⟨rfl, rfl⟩) | (go_at_call 59; refine (ContentRange_c _ _ _ _ (HP.out.ext (by (repeat (first | exact Ext.rfl' _ | assumption | refine Ext.dr ?_ | refine Ext.al ?_ _ | refine Ext.st ?_ (by simp) _ | refine Ext.tr ?_ (by assumption))))) (by omega) (by omega) (by omega) (by omega) (by omega) (by omega)).mono ?_; rintro e w3 ⟨rfl, hx3⟩; rw [cr1]))
  go_ret
  exact ⟨rfl, by (repeat (first | exact Ext.rfl' _ | assumption | refine Ext.dr ?_ | refine Ext.al ?_ _ | refine Ext.st ?_ (by simp) _ | refine Ext.tr ?_ (by assumption)))⟩
end Go.Proofs.YtolfpfdmgelhhaaDoor
end
