/-
A queue of bytes: the program's NewQueue, Clone, Peek, Take.
-/
import Derived.Test.YtnakeigpelcajaaGreatDoorQue1
import Derived.Lib.SliceRun
set_option linter.unusedVariables false
set_option linter.unusedSimpArgs false
/-
A queue of bytes: the program's NewQueue, Clone, Peek, Take.
-/
section
namespace Go.Proofs.YtnakeigpelcajaaGreatDoor
open Go.RowKit

/-- The queue behind its first bytes. -/
theorem QAt.cut {T : TypeId} {w w' : World} {o o' : Ow} {k p lim q c : Nat} {l : List UInt8} {A A' : Option Addr} (h : QAt T w o k p l lim) (s : Stp (fun _ => False) w o w' o') (hh : w.heap[p]? = some (.cells #[.slice A l.length c, .int .i64 (lim : Int)] T (0, 0))) (hs : Sl w o (k + 1) 1 A l.length c (bc l)) (hq : q ≤ l.length)
    (ha : (∃ g f, A = some ⟨g, f, none⟩ ∧ A' = some ⟨g, f + q, none⟩) ∨ c = q) (hn : A' = none → c - q = 0) :
    QAt T (w'.setCell ⟨p, 0, none⟩ (.slice A' (l.length - q) (c - q))) o' k p (l.drop q) lim ∧ Stp (fun i => i = k) w o (w'.setCell ⟨p, 0, none⟩ (.slice A' (l.length - q) (c - q))) o' := by
  have hp : o' p = k := by rw [s.own p (row_lt hh)]; exact h.own
  have hh' := (s.keep p (row_lt hh) (fun x => x)).trans hh
  have hs' := hs.stp s (fun x => x)
  have st : Stp (fun i => i = k) w' o' (w'.setCell ⟨p, 0, none⟩ (.slice A' (l.length - q) (c - q))) o' := Stp.set p 0 _ (fun _ => hp)
  have hl : (l.drop q).length = l.length - q := List.length_drop
  refine ⟨⟨hp, h.lo, h.hi, by rw [hl]; have := h.le; omega, A', c - q, by rw [hl]; exact row_set hh' 0 _, ?_, hn⟩, (s.mono fun _ x => x.elim).tr st⟩
  rw [hl]
  refine Sl.stp ?_ st (by omega)
  rcases ha with ⟨g, f, rfl, rfl⟩ | rfl
  · have := hs'.drop q hq
    rw [Nat.mul_one, bc_drop] at this
    exact this
  · have : l.length = c := by have := hs.le; omega
    subst this
    rw [Nat.sub_self, List.drop_of_length_le (by omega)]
    exact Sl.nil_ _ _ _ _ _

end Go.Proofs.YtnakeigpelcajaaGreatDoor
end

/-
A queue of bytes: the program's NewQueue; a slice of bytes that is owned, in later worlds.
-/
section
namespace Go.Proofs.YtnakeigpelcajaaGreatDoor
open Go.RowKit

theorem IsB.stp {K : Nat → Prop} {w w' : World} {o o' : Ow} {k : Nat} {l : List UInt8} {v : Value} (h : IsB k l v w o) (s : Stp K w o w' o') (hk : ¬ K k) : IsB k l v w' o' := by
  obtain ⟨A, c, hv, hs, hn⟩ := h
  exact ⟨A, c, hv, hs.stp s hk, hn⟩
theorem IsB.ext {w w' : World} {o : Ow} {k : Nat} {l : List UInt8} {v : Value} (h : IsB k l v w o) (e : Ext w w') : IsB k l v w' o := h.stp (K := fun _ => False) (Stp.ext e) (fun x => x)
theorem IsB.nil_ (k : Nat) (w : World) (o : Ow) : IsB k [] (.slice none 0 0) w o := ⟨none, 0, rfl, Sl.nil_ _ _ _ _ _, fun _ => rfl⟩
end Go.Proofs.YtnakeigpelcajaaGreatDoor
end
