/-
The reference's Split; two lists of texts that are the same.
-/
import Derived.Test.YtllpffdjlhamkaaDoorAsc10
set_option linter.unusedVariables false
set_option linter.unusedSimpArgs false
namespace Go.Proofs.YtllpffdjlhamkaaDoor
open Go.RowKit

theorem splitL_at (sep : UInt8) (l : List UInt8) (f i : Nat) (hf : f ≤ i) (hi : l[i]? = some sep) (hn : ∀ j, f ≤ j → j < i → l[j]? ≠ some sep) :
    splitL sep (l.drop f) = (if trimL ((l.take i).drop f) = [] then [] else [trimL ((l.take i).drop f)]) ++ splitL sep (l.drop (i + 1)) := by
  have h := splitL_cut sep (l.drop f) (i - f) (by rw [List.getElem?_drop, Nat.add_sub_cancel' hf]; exact hi) (fun j hj => by rw [List.getElem?_drop]; exact hn _ (by omega) (by omega))
  rw [h, List.drop_take, List.drop_drop]
  rw [show f + (i - f + 1) = i + 1 from by omega]
theorem splitL_end (sep : UInt8) (l : List UInt8) (f : Nat) (hn : ∀ j, f ≤ j → j < l.length → l[j]? ≠ some sep) :
    splitL sep (l.drop f) = if trimL (l.drop f) = [] then [] else [trimL (l.drop f)] := by
  refine splitL_one sep _ (not_mem_of fun k => ?_)
  rw [List.getElem?_drop]
  rcases Nat.lt_or_ge (f + k) l.length with h | h
  · exact hn _ (by omega) h
  · rw [List.getElem?_eq_none h]; simp

/-- Where the loop stands. -/
def SplAt (sep : UInt8) (l : List UInt8) (acc : List (List UInt8)) (f i : Nat) : Prop :=
  (i ≤ l.length ∧ f ≤ i ∧ (∀ j, f ≤ j → j < i → l[j]? ≠ some sep) ∧ splitL sep l = acc ++ splitL sep (l.drop f)) ∨ (i = l.length + 1 ∧ splitL sep l = acc)

end Go.Proofs.YtllpffdjlhamkaaDoor
