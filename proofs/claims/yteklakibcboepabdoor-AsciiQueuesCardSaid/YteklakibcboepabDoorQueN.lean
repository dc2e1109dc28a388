/-
A queue of bytes: the program's NewQueue; a slice of bytes that is owned, in later worlds.
-/
import Derived.Test.YteklakibcboepabDoorQue2
set_option linter.unusedVariables false
set_option linter.unusedSimpArgs false
namespace Go.Proofs.YteklakibcboepabDoor
open Go.RowKit

theorem NewQueue_c (k : Nat) (lim : Nat) (h1 : 1 ≤ lim) (h2 : lim ≤ 1048576) (w : World) (o : Ow) :
    Calls Tryd.prog 13 #[.int .i64 (lim : Int)] w (Turns (fun _ => False) w o fun v w' o' => ∃ p, v = .tuple #[.pointer (some ⟨p, 0, none⟩), .int .i64 0] ∧ QIs w' o' k p [] lim ∧ w.heap.size ≤ p) := by
  go_enter Tryd.func13, Tryd.ntmps13
  go_wp2
  go_ret2
  exact Turns.mk (fun b => if b = w.heap.size then k else o b) rfl ⟨w.heap.size, rfl, ⟨by simp, h1, h2, by simp, none, 0, heap_alloc_new w _, Sl.nil_ _ _ _ _ _, fun _ => rfl⟩, Nat.le_refl _⟩
    (Stp.ext2 (by (repeat (first | exact Ext.rfl' _ | assumption | refine Ext.dr ?_ | refine Ext.drN ?_ _ | refine Ext.al ?_ _ | refine Ext.st ?_ (by simp) _ | refine Ext.tr ?_ (by assumption)))) (fun b hb => by rw [if_neg (by omega)]))
theorem IsB.stp {K : Nat → Prop} {w w' : World} {o o' : Ow} {k : Nat} {l : List UInt8} {v : Value} (h : IsB k l v w o) (s : Stp K w o w' o') (hk : ¬ K k) : IsB k l v w' o' := by
  obtain ⟨A, c, hv, hs, hn⟩ := h
  exact ⟨A, c, hv, hs.stp s hk, hn⟩
theorem IsB.ext {w w' : World} {o : Ow} {k : Nat} {l : List UInt8} {v : Value} (h : IsB k l v w o) (e : Ext w w') : IsB k l v w' o := h.stp (K := fun _ => False) (Stp.ext e) (fun x => x)
theorem IsB.nil_ (k : Nat) (w : World) (o : Ow) : IsB k [] (.slice none 0 0) w o := ⟨none, 0, rfl, Sl.nil_ _ _ _ _ _, fun _ => rfl⟩
end Go.Proofs.YteklakibcboepabDoor
