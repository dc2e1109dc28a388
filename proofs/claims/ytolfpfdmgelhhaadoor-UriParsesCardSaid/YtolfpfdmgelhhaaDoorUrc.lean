/-
The reference's Clean; Resolve, both.
-/
import Derived.Test.YtolfpfdmgelhhaaDoorCln
import Derived.Test.YtolfpfdmgelhhaaDoorUdec
import Derived.Test.YtolfpfdmgelhhaaDoorAsc12
set_option linter.unusedVariables false
set_option linter.unusedSimpArgs false
namespace Go.Proofs.YtolfpfdmgelhhaaDoor
open Go.RowKit

theorem segs_at (l : List UInt8) (f i : Nat) (hf : f ≤ i) (hi : l[i]? = some 47) (hn : ∀ j, f ≤ j → j < i → l[j]? ≠ some 47) :
    segsL (l.drop f) = (l.take i).drop f :: segsL (l.drop (i + 1)) := by
  obtain ⟨hl, hg⟩ := List.getElem?_eq_some_iff.1 hi
  have e : l.drop f = (l.take i).drop f ++ 47 :: l.drop (i + 1) := by
    have e1 : l = l.take i ++ 47 :: l.drop (i + 1) := by
      conv => lhs; rw [← List.take_append_drop i l, List.drop_eq_getElem_cons hl, hg]
    conv => lhs; rw [e1]
    rw [List.drop_append_of_le_length (by rw [List.length_take]; omega)]
  rw [e]
  refine segs_some _ _ (fun hm => ?_)
  obtain ⟨j, hj, hj2⟩ := List.getElem_of_mem hm
  simp only [List.length_drop, List.length_take] at hj
  refine hn (f + j) (by omega) (by omega) ?_
  rw [List.getElem_drop, List.getElem_take] at hj2
  rw [List.getElem?_eq_getElem (by omega), hj2]
theorem segs_end (l : List UInt8) (f : Nat) (hn : ∀ j, f ≤ j → j < l.length → l[j]? ≠ some 47) : segsL (l.drop f) = [l.drop f] := by
  refine segs_none _ (not_mem_of fun k => ?_)
  rw [List.getElem?_drop]
  rcases Nat.lt_or_ge (f + k) l.length with h | h
  · exact hn _ (by omega) h
  · rw [List.getElem?_eq_none h]; simp
/-- Where the loop stands. -/
def SegAt (l : List UInt8) (S acc : List (List UInt8)) (f i : Nat) : Prop :=
  (i ≤ l.length ∧ f ≤ i ∧ (∀ j, f ≤ j → j < i → l[j]? ≠ some 47) ∧ S = acc ++ segsL (l.drop f)) ∨ (i = l.length + 1 ∧ S = acc)

theorem clean_no {l : List UInt8} (h : ¬ (l.head? = some 47 ∧ l.length ≤ 4096 ∧ 0 ∉ l)) : cleanL l = ([], 40) := by unfold cleanL; rw [if_neg h]
theorem clean_out {l : List UInt8} (h : l.head? = some 47 ∧ l.length ≤ 4096 ∧ 0 ∉ l) (hw : walkS [] (segsL (l.drop 1)) = none) : cleanL l = ([], 40) := by
  unfold cleanL; rw [if_pos h, ← List.drop_one, hw]
theorem clean_in {l : List UInt8} (h : l.head? = some 47 ∧ l.length ≤ 4096 ∧ 0 ∉ l) {L : List (List UInt8)} (hw : walkS [] (segsL (l.drop 1)) = some L) : cleanL l = (outS L (dotS ((segsL (l.drop 1)).getLastD [])), 0) := by
  unfold cleanL; rw [if_pos h, ← List.drop_one, hw]
theorem walk_take {S : List (List UInt8)} {k : Nat} {L : List (List UInt8)} (hk : k < S.length) (h : walkS [] (S.take k) = some L) : walkS [] (S.take (k + 1)) = walkS L [S[k]] := by
  rw [List.take_succ_eq_append_getElem hk, walk_app, h]; rfl
theorem walk_none {S : List (List UInt8)} {k : Nat} (h : walkS [] (S.take k) = none) : walkS [] S = none := walk_prefix (List.take_prefix k S) h
theorem flat_take (L : List (List UInt8)) (k : Nat) (h : k < L.length) : (L.take (k + 1)).flatMap (fun s => 47 :: s) = (L.take k).flatMap (fun s => 47 :: s) ++ 47 :: L[k] := by
  rw [List.take_succ_eq_append_getElem h, List.flatMap_append]; simp
theorem flat_len (L : List (List UInt8)) (k : Nat) : ((L.take k).flatMap (fun s => 47 :: s)).length ≤ totS L := by
  rw [tot_flat]
  have : totS L = totS (L.take k) + totS (L.drop k) := by rw [← tot_app, List.take_append_drop]
  omega
theorem tot_mem {L : List (List UInt8)} {k : Nat} (h : k < L.length) : L[k].length ≤ totS L := by
  have e : L = L.take k ++ L[k] :: L.drop (k + 1) := by
    conv => lhs; rw [← List.take_append_drop k L, List.drop_eq_getElem_cons h]
  have : totS L = totS (L.take k) + (L[k].length + 1 + totS (L.drop (k + 1))) := by conv => lhs; rw [e, tot_app, tot_cons]
  omega

/-- Decoded, and cleaned. -/
def resU (l : List UInt8) : List UInt8 × Int := match decL l with | some x => cleanL x | none => ([], 40)
theorem resU_some {l x : List UInt8} (h : decL l = some x) : resU l = cleanL x := by unfold resU; rw [h]
theorem resU_none {l : List UInt8} (h : decL l = none) : resU l = ([], 40) := by unfold resU; rw [h]
end Go.Proofs.YtolfpfdmgelhhaaDoor
