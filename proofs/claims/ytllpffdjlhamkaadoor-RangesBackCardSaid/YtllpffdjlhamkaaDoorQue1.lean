/-
A queue of bytes as a thing with memory of its own; the program's NewQueue, none, Len, Put.
-/
import Derived.Test.YtllpffdjlhamkaaDoorProg
import Derived.Test.YtllpffdjlhamkaaDoorTrn
import Derived.Test.YtllpffdjlhamkaaDoorDig
set_option linter.unusedVariables false
set_option linter.unusedSimpArgs false
namespace Go.Proofs.YtllpffdjlhamkaaDoor
open Go.RowKit

/-- A queue lies at block p: its bytes, its bound; k owns p, k + 1 its bytes' room. -/
structure QAt (T : TypeId) (w : World) (o : Ow) (k p : Nat) (l : List UInt8) (lim : Nat) : Prop where
  own : o p = k
  lo : 1 ≤ lim
  hi : lim ≤ 1048576
  le : l.length ≤ lim
  at_ : ∃ A c, w.heap[p]? = some (.cells #[.slice A l.length c, .int .i64 (lim : Int)] T (0, 0)) ∧ Sl w o (k + 1) 1 A l.length c (bc l) ∧ (A = none → c = 0)
theorem q_facts {w : World} {p n c lim : Nat} {A : Option Addr} {t : TypeId} (h : w.heap[p]? = some (.cells #[.slice A n c, .int .i64 (lim : Int)] t (0, 0))) :
    w.cell? ⟨p, 0, none⟩ = some (.slice A n c) ∧ w.cell? ⟨p, 1, none⟩ = some (.int .i64 (lim : Int)) ∧ w.frozen? ⟨p, 0, none⟩ = false :=
  ⟨(row_facts h 0 _ rfl).1, (row_facts h 1 _ rfl).1, (row_facts h 0 _ rfl).2⟩
/-- Whose blocks a queue's calls turn. -/
def KQ (k : Nat) (i : Nat) : Prop := i = k ∨ i = k + 1
/-- The queue behind a new slice in its first cell. -/
theorem QAt.put {T : TypeId} {w w' : World} {o o' : Ow} {k p lim n c : Nat} {l l' : List UInt8} {A : Option Addr} (h : QAt T w o k p l lim) (s : Stp (fun i => i = k + 1) w o w' o') (hl : l'.length ≤ lim) (hn : n = l'.length) (hs : Sl w' o' (k + 1) 1 A n c (bc l')) (ha : A = none → c = 0) :
    QAt T (w'.setCell ⟨p, 0, none⟩ (.slice A n c)) o' k p l' lim ∧ Stp (KQ k) w o (w'.setCell ⟨p, 0, none⟩ (.slice A n c)) o' := by
  subst hn
  obtain ⟨A0, c0, hh, _, _⟩ := h.at_
  have hp : o' p = k := by rw [s.own p (row_lt hh)]; exact h.own
  have hh' : w'.heap[p]? = _ := (s.keep p (row_lt hh) (by rw [h.own]; omega)).trans hh
  have st : Stp (fun i => i = k) w' o' (w'.setCell ⟨p, 0, none⟩ (.slice A l'.length c)) o' := Stp.set p 0 _ (fun _ => hp)
  exact ⟨⟨hp, h.lo, h.hi, hl, A, c, row_set hh' 0 _, hs.stp st (by omega), ha⟩, (s.mono fun i hi => .inr hi).tr (st.mono fun i hi => .inl hi)⟩
theorem QAt.stp {T : TypeId} {K : Nat → Prop} {w w' : World} {o o' : Ow} {k p lim : Nat} {l : List UInt8} (h : QAt T w o k p l lim) (s : Stp K w o w' o') (h0 : ¬ K k) (h1 : ¬ K (k + 1)) : QAt T w' o' k p l lim := by
  obtain ⟨A, c, hh, hs, hn⟩ := h.at_
  exact ⟨by rw [s.own p (row_lt hh)]; exact h.own, h.lo, h.hi, h.le, A, c, by rw [s.keep p (row_lt hh) (by rw [h.own]; exact h0)]; exact hh, hs.stp s h1, hn⟩
theorem QAt.ext {T : TypeId} {w w' : World} {o : Ow} {k p lim : Nat} {l : List UInt8} (h : QAt T w o k p l lim) (e : Ext w w') : QAt T w' o k p l lim := h.stp (K := fun _ => False) (Stp.ext e) (fun x => x) (fun x => x)

/-- Put: what is in the queue behind it, and what it answers. -/
def putL (lim : Nat) (l m : List UInt8) : List UInt8 := if m.length ≤ lim - l.length then l ++ m else l
def putE (lim : Nat) (l m : List UInt8) : Int := if m.length ≤ lim - l.length then 0 else 6

end Go.Proofs.YtllpffdjlhamkaaDoor
