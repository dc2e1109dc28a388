/-
Head's target: may a text stand in a first line?
-/
import Derived.Test.YtnakeigpelcajaaGreatDoorHd2
import Derived.Lib.ConvBytes
set_option linter.unusedVariables false
set_option linter.unusedSimpArgs false
namespace Go.Proofs.YtnakeigpelcajaaGreatDoor
open Go.RowKit

theorem Ext.bwH {a b : World} (h : Ext a b) (e : TypeId) (s : ByteArray) : Ext a (Lib.bytesWorld b e s) :=
  ⟨by simpa [Lib.bytesWorld, World.freeze, World.alloc, World.drew, -World.alloc_eq, -World.drew_eq] using h.os,
   by simpa [Lib.bytesWorld, World.freeze, World.alloc, World.drew, -World.alloc_eq, -World.drew_eq] using h.tape,
   by simpa [Lib.bytesWorld, World.freeze, World.alloc, World.drew, -World.alloc_eq, -World.drew_eq] using h.output,
   by rw [Lib.bytesWorld_size]; have := h.size; omega,
   fun i hi => by rw [Lib.bytesWorld_at_old _ _ _ _ (by have := h.size; omega)]; exact h.block i hi⟩
/-- May a byte stand in a target? -/
def tgB (b : UInt8) : Bool := decide (32 < b.toNat) && decide (b.toNat < 127)
def tgH (l : List UInt8) : Bool := l.all tgB && !(l == [])
theorem tg_no {l : List UInt8} {k : Nat} (h : k < l.length) (hb : tgB l[k] = false) : tgH l = false := by
  unfold tgH
  have : l.all tgB = false := by rw [List.all_eq_false]; exact ⟨l[k], List.getElem_mem h, by rw [hb]; decide⟩
  rw [this]; rfl
theorem tg_all {l : List UInt8} (h : ∀ j (hj : j < l.length), tgB l[j] = true) : l.all tgB = true := by
  rw [List.all_eq_true]
  intro b hb
  obtain ⟨j, hj, rfl⟩ := List.getElem_of_mem hb
  exact h j hj
end Go.Proofs.YtnakeigpelcajaaGreatDoor
