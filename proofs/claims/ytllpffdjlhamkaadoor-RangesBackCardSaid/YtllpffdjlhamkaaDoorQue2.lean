/-
A queue of bytes: the program's NewQueue, Clone, Peek, Take.
-/
import Derived.Test.YtllpffdjlhamkaaDoorQue1
import Derived.Lib.SliceRun
set_option linter.unusedVariables false
set_option linter.unusedSimpArgs false
namespace Go.Proofs.YtllpffdjlhamkaaDoor
open Go.RowKit

/-- The queue behind its first bytes. -/
theorem QAt.cut {T : TypeId} {w w' : World} {o o' : Ow} {k p lim q c : Nat} {l : List UInt8} {A A' : Option Addr} (h : QAt T w o k p l lim) (s : Stp (fun _ => False) w o w' o') (hh : w.heap[p]? = some (.cells #[.slice A l.length c, .int .i64 (lim : Int)] T (0, 0))) (hs : Sl w o (k + 1) 1 A l.length c (bc l)) (hq : q ≤ l.length)
    (ha : (∃ g f, A = some ⟨g, f, none⟩ ∧ A' = some ⟨g, f + q, none⟩) ∨ c = q) (hn : A' = none → c - q = 0) :
    QAt T (w'.setCell ⟨p, 0, none⟩ (.slice A' (l.length - q) (c - q))) o' k p (l.drop q) lim ∧ Stp (fun i => i = k) w o (w'.setCell ⟨p, 0, none⟩ (.slice A' (l.length - q) (c - q))) o' := by
  have hp : o' p = k := by rw [s.own p (row_lt hh)]; exact h.own
  have hh' := (s.keep p (row_lt hh) (fun x => x)).trans hh
  have hs' := hs.stp s (fun x => x)
  have st : Stp (fun i => i = k) w' o' (w'.setCell ⟨p, 0, none⟩ (.slice A' (l.length - q) (c - q))) o' := Stp.set p 0 _ (fun _ => hp)
  have hl : (l.drop q).length = l.length - q := List.length_drop
  refine ⟨⟨hp, h.lo, h.hi, by rw [hl]; have := h.le; omega, A', c - q, by rw [hl]; exact row_set hh' 0 _, ?_, hn⟩, (s.mono fun _ x => x.elim).tr st⟩
  rw [hl]
  refine Sl.stp ?_ st (by omega)
  rcases ha with ⟨g, f, rfl, rfl⟩ | rfl
  · have := hs'.drop q hq
    rw [Nat.mul_one, bc_drop] at this
    exact this
  · have : l.length = c := by have := hs.le; omega
    subst this
    rw [Nat.sub_self, List.drop_of_length_le (by omega)]
    exact Sl.nil_ _ _ _ _ _

end Go.Proofs.YtllpffdjlhamkaaDoor
