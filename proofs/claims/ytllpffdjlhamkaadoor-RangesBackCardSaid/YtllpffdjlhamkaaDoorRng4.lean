/-
The reference's Resolve: the same function of a list of spans and a size.
-/
import Derived.Test.YtllpffdjlhamkaaDoorRGa
set_option linter.unusedVariables false
set_option linter.unusedSimpArgs false
namespace Go.Proofs.YtllpffdjlhamkaaDoor
open Go.RowKit

theorem okS_of {x y : Int} (h : okS (x, y) = true) : (0 ≤ x ∧ x ≤ y ∧ y ≤ 1000000000000000000) ∨ (0 ≤ x ∧ y < 0 ∧ -1 ≤ y ∧ x ≤ 1000000000000000000) ∨ (x < 0 ∧ 0 ≤ y ∧ y ≤ 1000000000000000000 ∧ -1 ≤ x) := by
  simp only [okS, kindOf, decide_eq_true_eq] at h
  split at h
  · simp at h
  · omega
theorem sum16 {n : Int} (hb0 : 0 ≤ n) (hb1 : n ≤ 1048576) {ps : List (Int × Int)} {k : Nat} (h : sumP (keepP n (ps.take k)) ≤ ((ps.take k).length : Int) * n) (hk : k ≤ 16) : sumP (keepP n (ps.take k)) ≤ 16 * 1048576 := by
  have h5 : ((ps.take k).length : Int) ≤ 16 := by simp only [List.length_take]; omega
  have := Int.mul_le_mul_of_nonneg_right h5 hb0
  omega


end Go.Proofs.YtllpffdjlhamkaaDoor
