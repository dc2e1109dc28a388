/-
Letters made small: a new slice of bytes out of a text, written in place, and back; the program's Lower.
-/
import Derived.Test.YtllpffdjlhamkaaAsc6
set_option linter.unusedVariables false
set_option linter.unusedSimpArgs false
namespace Go.Proofs.Ytllpffdjlhamkaa
open Go.RowKit

/-- A block whose first cells are the bytes l, to be written. -/
def Own (w : World) (g : Nat) (l : List UInt8) : Prop :=
  ∃ C t fr, w.heap[g]? = some (.cells C t fr) ∧ ∀ j (h : j < l.length), C[j]? = some (.int .u8 (l[j].toNat : Int)) ∧ (decide (fr.1 ≤ j) && decide (j < fr.2)) = false
theorem Own.cell {w : World} {g : Nat} {l : List UInt8} (h : Own w g l) (j : Nat) (hj : j < l.length) : w.cell? ⟨g, j, none⟩ = some (.int .u8 (l[j].toNat : Int)) := by
  obtain ⟨C, t, fr, hh, hc⟩ := h
  rw [cell_of_row w g j C t fr hh]; exact (hc j hj).1
theorem Own.free {w : World} {g : Nat} {l : List UInt8} (h : Own w g l) (j : Nat) (hj : j < l.length) : w.frozen? ⟨g, j, none⟩ = false := by
  obtain ⟨C, t, fr, hh, hc⟩ := h
  unfold World.frozen?
  simp only [hh]
  exact (hc j hj).2
theorem Own.set_ {w : World} {g : Nat} {l : List UInt8} (h : Own w g l) (j : Nat) (hj : j < l.length) (b : UInt8) : Own (w.setCell ⟨g, j, none⟩ (.int .u8 (b.toNat : Int))) g (l.set j b) := by
  obtain ⟨C, t, fr, hh, hc⟩ := h
  refine ⟨C.setIfInBounds j (.int .u8 (b.toNat : Int)), t, fr, ?_, ?_⟩
  · simp [World.setCell, Array.getElem?_modify, hh]
  · intro i hi
    simp only [List.length_set] at hi
    have h0 := hc i hi
    refine ⟨?_, h0.2⟩
    by_cases hij : j = i
    · subst hij
      have hs : j < C.size := (Array.getElem?_eq_some_iff.1 h0.1).1
      rw [Array.getElem?_setIfInBounds_self_of_lt hs]
      simp
    · rw [Array.getElem?_setIfInBounds_ne hij, h0.1]
      simp [List.getElem_set, hij]
theorem Own.rd {w : World} {g : Nat} {l : List UInt8} (h : Own w g l) : Rd w (some ⟨g, 0, none⟩) (bc l) := by
  refine .inr ⟨g, 0, rfl, fun j u hj => ?_⟩
  have hl : j < l.length := by have := (List.getElem?_eq_some_iff.1 hj).1; simpa using this
  rw [bc_at l j hl] at hj
  rw [Nat.zero_add, h.cell j hl, ← hj]

/-- A new slice of bytes out of a text: its capacity and the world behind. -/
def cvC (w : World) (e : TypeId) (n : Nat) : Nat := grownCap w n 0 e
def cvW (w : World) (e : TypeId) (s : ByteArray) : World :=
  w.drew.alloc (.cells (bytesRow s (grownCap w s.size 0 e)) e ((bytesRow s (grownCap w s.size 0 e)).size, (bytesRow s (grownCap w s.size 0 e)).size + 1))
theorem cv_run {P : Program} {src dst e : TypeId} (s : ByteArray) (hs : P.underlying src = some .string) (hd : P.underlying dst = some (.slice e)) (he : P.underlying e = some (.int .u8)) (w : World) :
    (convert src dst (.string s)).run P w = .ok (.slice (some ⟨w.heap.size, 0, none⟩) s.size (cvC w e s.size)) (cvW w e s) := run_bytes_of_string w src dst e s hs hd he
theorem cv_ext (w : World) (e : TypeId) (s : ByteArray) : Ext w (cvW w e s) := by unfold cvW; exact Ext.al (Ext.dr (Ext.rfl' w)) _
theorem cv_size (w : World) (e : TypeId) (s : ByteArray) : w.heap.size < (cvW w e s).heap.size := by unfold cvW; simp
theorem cv_own (w : World) (e : TypeId) (l : List UInt8) : Own (cvW w e (str l)) w.heap.size l := by
  refine ⟨_, _, _, heap_alloc_new w.drew _, fun j hj => ⟨?_, ?_⟩⟩
  · exact bytesRow_at (str l) _ j (by simpa [str] using hj)
  · have : j < (bytesRow (str l) (grownCap w (str l).size 0 e)).size := by simp [bytesRow, str]; omega
    simp only [Bool.and_eq_false_iff, decide_eq_false_iff_not]
    exact .inl (by omega)
theorem cv_cap (w : World) (e : TypeId) (n : Nat) (h : n ≤ maxLen) : n ≤ cvC w e n ∧ cvC w e n ≤ maxLen := ⟨grownCap_ge _ _ _ _, grownCap_le_maxLen _ _ _ _ h⟩

/-- A letter made small. -/
def lowB (b : UInt8) : UInt8 := if uppB b.toNat then b + 32 else b
def lowL (l : List UInt8) : List UInt8 := l.map lowB
theorem low_set (l : List UInt8) (k : Nat) (h : k < l.length) : (lowL (l.take k) ++ l.drop k).set k (lowB l[k]) = lowL (l.take (k + 1)) ++ l.drop (k + 1) := by
  unfold lowL
  rw [List.take_succ_eq_append_getElem h, List.map_append]
  rw [List.set_append_right _ _ (by simp; omega)]
  have : k - (List.map lowB (List.take k l)).length = 0 := by simp; omega
  rw [this, List.drop_eq_getElem_cons h, List.set_cons_zero]; simp
theorem low_at (l : List UInt8) (k : Nat) (h : k < l.length) : (lowL (l.take k) ++ l.drop k)[k]'(by simp [lowL]; omega) = l[k] := by
  have h1 : (lowL (l.take k)).length = k := by simp [lowL]; omega
  rw [List.getElem_append_right (by omega)]
  simp [h1]
theorem low_same (l : List UInt8) (k : Nat) (h : k < l.length) (hu : uppB l[k].toNat = false) : lowL (l.take k) ++ l.drop k = lowL (l.take (k + 1)) ++ l.drop (k + 1) := by
  rw [← low_set l k h]
  have hb : lowB l[k] = l[k] := by unfold lowB; rw [hu]; rfl
  rw [hb]
  have := low_at l k h
  conv => rhs; rw [← this]
  rw [List.set_getElem_self]
theorem low_len (l : List UInt8) (k : Nat) : (lowL (l.take k) ++ l.drop k).length = l.length := by simp [lowL]; omega

end Go.Proofs.Ytllpffdjlhamkaa
