/-
Contracts of calls that turn memory of their own; a slice of bytes; a row of cells.
-/
import Derived.Test.YtemdgilifnhdpaaGreatDoorProg
import Derived.Test.YtemdgilifnhdpaaGreatDoorOwn
set_option linter.unusedVariables false
set_option linter.unusedSimpArgs false
namespace Go.Proofs.YtemdgilifnhdpaaGreatDoor
open Go.RowKit

/-- A contract that turns what K owns: its result and what holds behind it. -/
def Turns (K : Nat → Prop) (w : World) (o : Ow) (R : Value → World → Ow → Prop) (e : Ending) (w' : World) : Prop := ∃ v o', e = .returned v ∧ R v w' o' ∧ Stp K w o w' o'
theorem Turns.mk {K : Nat → Prop} {w : World} {o : Ow} {R : Value → World → Ow → Prop} {e : Ending} {w' : World} {v : Value} (o' : Ow) (he : e = .returned v) (h : R v w' o') (s : Stp K w o w' o') : Turns K w o R e w' := ⟨v, o', he, h, s⟩
/-- A slice of bytes whose room k owns. -/
def IsB (k : Nat) (l : List UInt8) (v : Value) (w : World) (o : Ow) : Prop := ∃ A c, v = .slice A l.length c ∧ Sl w o k 1 A l.length c (bc l) ∧ (A = none → c = 0)
theorem slt_u8 : SlT Tryz.prog 22 5 (.int .u8 0) 1 1 := ⟨Tryz.underlying22, by kernel_rfl, rfl, by omega⟩

theorem row_facts {w : World} {p : Nat} {cs : Array Value} {t : TypeId} (h : w.heap[p]? = some (.cells cs t (0, 0))) (i : Nat) (u : Value) (hu : cs[i]? = some u) :
    w.cell? ⟨p, i, none⟩ = some u ∧ w.frozen? ⟨p, i, none⟩ = false := by
  refine ⟨by rw [cell_of_row w p i cs t (0, 0) h]; exact hu, ?_⟩
  unfold World.frozen?
  simp only [h]
  simp
theorem row_lt {w : World} {p : Nat} {x : Obj} (h : w.heap[p]? = some x) : p < w.heap.size := (Array.getElem?_eq_some_iff.1 h).1
theorem row_set {w : World} {p : Nat} {cs : Array Value} {t : TypeId} (h : w.heap[p]? = some (.cells cs t (0, 0))) (i : Nat) (u : Value) :
    (w.setCell ⟨p, i, none⟩ u).heap[p]? = some (.cells (cs.setIfInBounds i u) t (0, 0)) := by
  simp [World.setCell, Array.getElem?_modify, h]
theorem IsB.stp {K : Nat → Prop} {w w' : World} {o o' : Ow} {k : Nat} {l : List UInt8} {v : Value} (h : IsB k l v w o) (s : Stp K w o w' o') (hk : ¬ K k) : IsB k l v w' o' := by
  obtain ⟨A, c, hv, hs, hn⟩ := h
  exact ⟨A, c, hv, hs.stp s hk, hn⟩
theorem IsB.ext {w w' : World} {o : Ow} {k : Nat} {l : List UInt8} {v : Value} (h : IsB k l v w o) (e : Ext w w') : IsB k l v w' o := h.stp (K := fun _ => False) (Stp.ext e) (fun x => x)
theorem IsB.nil_ (k : Nat) (w : World) (o : Ow) : IsB k [] (.slice none 0 0) w o := ⟨none, 0, rfl, Sl.nil_ _ _ _ _ _, fun _ => rfl⟩
end Go.Proofs.YtemdgilifnhdpaaGreatDoor
