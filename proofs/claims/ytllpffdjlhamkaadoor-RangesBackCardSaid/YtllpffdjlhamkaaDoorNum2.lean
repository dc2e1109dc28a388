/-
The reference's numbers to the bases 10 and 16.
-/
import Derived.Test.YtllpffdjlhamkaaDoorNum1
set_option linter.unusedVariables false
set_option linter.unusedSimpArgs false
namespace Go.Proofs.YtllpffdjlhamkaaDoor
open Go.RowKit

theorem all_succ_l (l : List UInt8) (p : UInt8 → Bool) (k : Nat) (h : k < l.length) : (l.take (k + 1)).all p = ((l.take k).all p && p l[k]) := by
  rw [List.take_succ_eq_append_getElem h, List.all_append]; simp only [List.all_cons, List.all_nil, Bool.and_true]
theorem low_all (l : List UInt8) (p : UInt8 → Bool) : (lowL l).all p = l.all fun b => p (lowB b) := by unfold lowL; rw [List.all_map]; rfl
theorem valF_app (B : Nat) : ∀ (a : Nat) (l m : List UInt8), valF B a (l ++ m) = valF B (valF B a l) m := by
  intro a l m; unfold valF; rw [List.foldl_append]
theorem val_succ (B : Nat) (l : List UInt8) (k : Nat) (h : k < l.length) : valL B (lowL (l.take (k + 1))) = valL B (lowL (l.take k)) * B + digV (lowB l[k]) := by
  unfold valL
  rw [List.take_succ_eq_append_getElem h]
  unfold lowL
  rw [List.map_append, valF_app]; rfl
theorem val_mono (B : Nat) (hB : 1 ≤ B) (l : List UInt8) (k : Nat) : valL B (lowL (l.take k)) ≤ valL B (lowL l) := by
  have e : lowL l = lowL (l.take k) ++ lowL (l.drop k) := by unfold lowL; rw [← List.map_append, List.take_append_drop]
  unfold valL
  conv => rhs; rw [e]
  rw [valF_app]
  exact valF_ge B hB _ _
theorem numL_nil (B most : Nat) : numL B most [] = (0, 21) := by unfold numL; rw [if_pos (.inl rfl)]
theorem numL_bad (B most : Nat) (l : List UInt8) (k : Nat) (hk : k < l.length) (h : isDig B (lowB l[k]) = false) : numL B most l = (0, 21) := by
  unfold numL
  refine if_pos (.inr ?_)
  rw [low_all, Bool.eq_false_iff]
  intro ha
  have := List.all_eq_true.1 ha l[k] (List.getElem_mem hk)
  simp only [h] at this
  cases this
theorem numL_good (B most : Nat) (l : List UInt8) (h0 : 0 < l.length) (h : (l.all fun b => isDig B (lowB b)) = true) : numL B most l = if valL B (lowL l) ≤ most then ((valL B (lowL l) : Int), 0) else (0, 11) := by
  unfold numL
  rw [if_neg]
  rw [low_all, h]
  intro hh
  rcases hh with hh | hh
  · subst hh; simp at h0
  · cases hh

end Go.Proofs.YtllpffdjlhamkaaDoor
