/-
Parts of a list: plain words, and the program's Split.
-/
import Derived.Test.YtllpffdjlhamkaaDoorAsc9
import Derived.Lib.IndexLaws
set_option linter.unusedVariables false
set_option linter.unusedSimpArgs false
namespace Go.Proofs.YtllpffdjlhamkaaDoor
open Go.RowKit

/-- The cells of a list of texts. -/
def sc (ps : List (List UInt8)) : List Value := ps.map fun p => .string (str p)
@[simp] theorem sc_len (ps : List (List UInt8)) : (sc ps).length = ps.length := by simp [sc]
theorem sc_at (ps : List (List UInt8)) (k : Nat) (h : k < ps.length) : (sc ps)[k]? = some (.string (str ps[k])) := by simp [sc, h]
theorem sc_app (a b : List (List UInt8)) : sc (a ++ b) = sc a ++ sc b := by simp [sc]
/-- A slice of texts that reads as a list. -/
def IsSlS (ps : List (List UInt8)) (v : Value) (w : World) : Prop := ∃ A c, v = .slice A ps.length c ∧ Rd w A (sc ps) ∧ c ≤ maxLen
theorem IsSlS.mk {ps : List (List UInt8)} {w : World} {A : Option Addr} {n c : Nat} (hn : n = ps.length) (h : Rd w A (sc ps)) (hc : c ≤ maxLen) : IsSlS ps (.slice A n c) w := ⟨A, c, by rw [hn], h, hc⟩
/-- A text, cut at each separator. -/
def pieces (sep : UInt8) : List UInt8 → List (List UInt8)
  | [] => [[]]
  | b :: t => if b = sep then [] :: pieces sep t else match pieces sep t with
    | [] => [[b]]
    | p :: ps => (b :: p) :: ps
def keepS (ps : List (List UInt8)) : List (List UInt8) := (ps.map trimL).filter fun p => !p.isEmpty
def splitL (sep : UInt8) (l : List UInt8) : List (List UInt8) := keepS (pieces sep l)
theorem pieces_len (sep : UInt8) : ∀ l, (pieces sep l).length ≤ l.length + 1
  | [] => by simp [pieces]
  | b :: t => by
    have ih := pieces_len sep t
    unfold pieces
    split
    · simp only [List.length_cons]; omega
    · split
      · simp only [List.length_cons, List.length_nil]; omega
      · rename_i h; rw [h] at ih; simp only [List.length_cons] at *; omega
theorem keepS_len (ps : List (List UInt8)) : (keepS ps).length ≤ ps.length := by
  unfold keepS; exact Nat.le_trans (List.length_filter_le _ _) (by simp)
theorem splitL_len (sep : UInt8) (l : List UInt8) : (splitL sep l).length ≤ l.length + 1 := Nat.le_trans (keepS_len _) (pieces_len sep l)
theorem pieces_one (sep : UInt8) : ∀ l : List UInt8, sep ∉ l → pieces sep l = [l]
  | [], _ => rfl
  | b :: t, h => by
    simp only [List.mem_cons, not_or] at h
    unfold pieces
    rw [if_neg (fun e => h.1 e.symm), pieces_one sep t h.2]
theorem pieces_cut (sep : UInt8) : ∀ (l r : List UInt8), sep ∉ l → pieces sep (l ++ sep :: r) = l :: pieces sep r
  | [], r, _ => by simp [pieces]
  | b :: t, r, h => by
    simp only [List.mem_cons, not_or] at h
    rw [List.cons_append, pieces, if_neg (fun e => h.1 e.symm), pieces_cut sep t r h.2]
theorem keepS_cons (p : List UInt8) (ps : List (List UInt8)) : keepS (p :: ps) = (if trimL p = [] then [] else [trimL p]) ++ keepS ps := by
  unfold keepS
  rw [List.map_cons, List.filter_cons]
  by_cases h : trimL p = []
  · simp [h]
  · rw [if_neg h, if_pos (by cases hh : trimL p <;> simp_all)]; rfl
theorem trim_nil : trimL [] = [] := by rw [trimL_eq]; rfl
theorem splitL_nil (sep : UInt8) : splitL sep [] = [] := by unfold splitL pieces; rw [keepS_cons, if_pos trim_nil]; rfl
theorem splitL_one (sep : UInt8) (l : List UInt8) (h : sep ∉ l) : splitL sep l = if trimL l = [] then [] else [trimL l] := by
  unfold splitL; rw [pieces_one sep l h, keepS_cons]; simp [keepS]
theorem splitL_cut (sep : UInt8) (l : List UInt8) (k : Nat) (hk : l[k]? = some sep) (hn : ∀ j, j < k → l[j]? ≠ some sep) :
    splitL sep l = (if trimL (l.take k) = [] then [] else [trimL (l.take k)]) ++ splitL sep (l.drop (k + 1)) := by
  obtain ⟨hl, hg⟩ := List.getElem?_eq_some_iff.1 hk
  have e : l = l.take k ++ sep :: l.drop (k + 1) := by
    conv => lhs; rw [← List.take_append_drop k l, List.drop_eq_getElem_cons hl, hg]
  have hm : sep ∉ l.take k := by
    intro h
    obtain ⟨j, hj, hj2⟩ := List.getElem_of_mem h
    simp only [List.length_take] at hj
    refine hn j (by omega) ?_
    rw [List.getElem_take] at hj2
    rw [List.getElem?_eq_getElem (by omega), hj2]
  unfold splitL
  conv => lhs; rw [e]
  rw [pieces_cut sep _ _ hm, keepS_cons]
theorem not_mem_of {l : List UInt8} {c : UInt8} (h : ∀ k : Nat, l[k]? ≠ some c) : c ∉ l := by
  intro hm
  obtain ⟨j, hj, hj2⟩ := List.getElem_of_mem hm
  exact h j (by rw [List.getElem?_eq_getElem hj, hj2])
theorem trim_len (l : List UInt8) : (trimL l).length ≤ l.length := by
  rw [trimL_eq, List.length_reverse]
  refine Nat.le_trans (List.dropWhile_suffix _).length_le ?_
  rw [List.length_reverse]
  exact (List.dropWhile_suffix _).length_le
theorem idx_cases (l : List UInt8) (c : UInt8) : (Lib.indexByte l c = -1 ∧ c ∉ l) ∨ ∃ k : Nat, Lib.indexByte l c = (k : Int) ∧ k < l.length ∧ l[k]? = some c ∧ ∀ j, j < k → l[j]? ≠ some c := by
  have h := Lib.indexByte_ge l c
  by_cases h0 : Lib.indexByte l c = -1
  · exact .inl ⟨h0, not_mem_of (Lib.indexByte_none h0)⟩
  · obtain ⟨k, hk⟩ : ∃ k : Nat, Lib.indexByte l c = (k : Int) := ⟨(Lib.indexByte l c).toNat, by omega⟩
    have := Lib.indexByte_some hk
    exact .inr ⟨k, hk, (List.getElem?_eq_some_iff.1 this.1).1, this.1, this.2⟩

end Go.Proofs.YtllpffdjlhamkaaDoor
