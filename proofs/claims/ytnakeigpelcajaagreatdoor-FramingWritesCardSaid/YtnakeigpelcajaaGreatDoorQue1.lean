/-
A queue of bytes as a thing with memory of its own; the program's NewQueue, none, Len, Put.
-/
import Derived.Test.YtnakeigpelcajaaGreatDoorProg
import Derived.Test.YtnakeigpelcajaaGreatDoorOwn
import Derived.Test.YtnakeigpelcajaaGreatDoorDig
set_option linter.unusedVariables false
set_option linter.unusedSimpArgs false
namespace Go.Proofs.YtnakeigpelcajaaGreatDoor
open Go.RowKit

/-- A contract that turns what K owns: its result and what holds behind it. -/
def Turns (K : Nat → Prop) (w : World) (o : Ow) (R : Value → World → Ow → Prop) (e : Ending) (w' : World) : Prop := ∃ v o', e = .returned v ∧ R v w' o' ∧ Stp K w o w' o'
theorem Turns.mk {K : Nat → Prop} {w : World} {o : Ow} {R : Value → World → Ow → Prop} {e : Ending} {w' : World} {v : Value} (o' : Ow) (he : e = .returned v) (h : R v w' o') (s : Stp K w o w' o') : Turns K w o R e w' := ⟨v, o', he, h, s⟩
/-- A slice of bytes whose room k owns. -/
def IsB (k : Nat) (l : List UInt8) (v : Value) (w : World) (o : Ow) : Prop := ∃ A c, v = .slice A l.length c ∧ Sl w o k 1 A l.length c (bc l) ∧ (A = none → c = 0)
theorem slt_u8 : SlT Tryz.prog 22 5 (.int .u8 0) 1 1 := ⟨Tryz.underlying22, by kernel_rfl, rfl, by omega⟩

/-- A queue lies at block p: its bytes, its bound; k owns p, k + 1 its bytes' room. -/
structure QAt (T : TypeId) (w : World) (o : Ow) (k p : Nat) (l : List UInt8) (lim : Nat) : Prop where
  own : o p = k
  lo : 1 ≤ lim
  hi : lim ≤ 1048576
  le : l.length ≤ lim
  at_ : ∃ A c, w.heap[p]? = some (.cells #[.slice A l.length c, .int .i64 (lim : Int)] T (0, 0)) ∧ Sl w o (k + 1) 1 A l.length c (bc l) ∧ (A = none → c = 0)
theorem row_facts {w : World} {p : Nat} {cs : Array Value} {t : TypeId} (h : w.heap[p]? = some (.cells cs t (0, 0))) (i : Nat) (u : Value) (hu : cs[i]? = some u) :
    w.cell? ⟨p, i, none⟩ = some u ∧ w.frozen? ⟨p, i, none⟩ = false := by
  refine ⟨by rw [cell_of_row w p i cs t (0, 0) h]; exact hu, ?_⟩
  unfold World.frozen?
  simp only [h]
  simp
theorem row_lt {w : World} {p : Nat} {x : Obj} (h : w.heap[p]? = some x) : p < w.heap.size := (Array.getElem?_eq_some_iff.1 h).1
theorem row_set {w : World} {p : Nat} {cs : Array Value} {t : TypeId} (h : w.heap[p]? = some (.cells cs t (0, 0))) (i : Nat) (u : Value) :
    (w.setCell ⟨p, i, none⟩ u).heap[p]? = some (.cells (cs.setIfInBounds i u) t (0, 0)) := by
  simp [World.setCell, Array.getElem?_modify, h]
theorem q_facts {w : World} {p n c lim : Nat} {A : Option Addr} {t : TypeId} (h : w.heap[p]? = some (.cells #[.slice A n c, .int .i64 (lim : Int)] t (0, 0))) :
    w.cell? ⟨p, 0, none⟩ = some (.slice A n c) ∧ w.cell? ⟨p, 1, none⟩ = some (.int .i64 (lim : Int)) ∧ w.frozen? ⟨p, 0, none⟩ = false :=
  ⟨(row_facts h 0 _ rfl).1, (row_facts h 1 _ rfl).1, (row_facts h 0 _ rfl).2⟩
/-- Whose blocks a queue's calls turn. -/
def KQ (k : Nat) (i : Nat) : Prop := i = k ∨ i = k + 1
/-- The queue behind a new slice in its first cell. -/
theorem QAt.put {T : TypeId} {w w' : World} {o o' : Ow} {k p lim n c : Nat} {l l' : List UInt8} {A : Option Addr} (h : QAt T w o k p l lim) (s : Stp (fun i => i = k + 1) w o w' o') (hl : l'.length ≤ lim) (hn : n = l'.length) (hs : Sl w' o' (k + 1) 1 A n c (bc l')) (ha : A = none → c = 0) :
    QAt T (w'.setCell ⟨p, 0, none⟩ (.slice A n c)) o' k p l' lim ∧ Stp (KQ k) w o (w'.setCell ⟨p, 0, none⟩ (.slice A n c)) o' := by
  subst hn
  obtain ⟨A0, c0, hh, _, _⟩ := h.at_
  have hp : o' p = k := by rw [s.own p (row_lt hh)]; exact h.own
  have hh' : w'.heap[p]? = _ := (s.keep p (row_lt hh) (by rw [h.own]; omega)).trans hh
  have st : Stp (fun i => i = k) w' o' (w'.setCell ⟨p, 0, none⟩ (.slice A l'.length c)) o' := Stp.set p 0 _ (fun _ => hp)
  exact ⟨⟨hp, h.lo, h.hi, hl, A, c, row_set hh' 0 _, hs.stp st (by omega), ha⟩, (s.mono fun i hi => .inr hi).tr (st.mono fun i hi => .inl hi)⟩
theorem QAt.stp {T : TypeId} {K : Nat → Prop} {w w' : World} {o o' : Ow} {k p lim : Nat} {l : List UInt8} (h : QAt T w o k p l lim) (s : Stp K w o w' o') (h0 : ¬ K k) (h1 : ¬ K (k + 1)) : QAt T w' o' k p l lim := by
  obtain ⟨A, c, hh, hs, hn⟩ := h.at_
  exact ⟨by rw [s.own p (row_lt hh)]; exact h.own, h.lo, h.hi, h.le, A, c, by rw [s.keep p (row_lt hh) (by rw [h.own]; exact h0)]; exact hh, hs.stp s h1, hn⟩
theorem QAt.ext {T : TypeId} {w w' : World} {o : Ow} {k p lim : Nat} {l : List UInt8} (h : QAt T w o k p l lim) (e : Ext w w') : QAt T w' o k p l lim := h.stp (K := fun _ => False) (Stp.ext e) (fun x => x) (fun x => x)

/-- Put: what is in the queue behind it, and what it answers. -/
def putL (lim : Nat) (l m : List UInt8) : List UInt8 := if m.length ≤ lim - l.length then l ++ m else l
def putE (lim : Nat) (l m : List UInt8) : Int := if m.length ≤ lim - l.length then 0 else 6

end Go.Proofs.YtnakeigpelcajaaGreatDoor
