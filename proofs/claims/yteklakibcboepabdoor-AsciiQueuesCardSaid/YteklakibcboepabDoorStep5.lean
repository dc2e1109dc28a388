/-
The law AsciiQueues: its orders as the row hands them, and one step of any kind.
-/
import Derived.Test.YteklakibcboepabDoorStep4
set_option linter.unusedVariables false
set_option linter.unusedSimpArgs false
namespace Go.Proofs.YteklakibcboepabDoor
open Go.RowKit

/-- An order, as it lies in memory. -/
structure OpV where
  kind : Int
  n : Int
  B : Option Addr
  d : Nat
  mm : List UInt8
def opC (x : OpV) : List Value := [.int .i64 x.kind, .int .i64 x.n, .slice x.B x.mm.length x.d]
def opsC (l : List OpV) : List Value := l.flatMap opC
theorem opsC_len (l : List OpV) : (opsC l).length = l.length * 3 := by induction l with | nil => rfl | cons x l ih => simp [opsC, List.flatMap_cons, opC] at *; omega
theorem opsC_at (l : List OpV) (k i : Nat) (hi : i < 3) : (opsC l)[k * 3 + i]? = l[k]?.bind fun x => (opC x)[i]? := by
  induction l generalizing k with
  | nil => simp [opsC]
  | cons x l ih => cases k with
    | zero =>
      simp only [opsC, List.flatMap_cons, Nat.zero_mul, Nat.zero_add, List.getElem?_cons_zero, Option.bind_some]
      rw [List.getElem?_append_left (by simp [opC]; omega)]
    | succ k =>
      have := ih k
      simp only [opsC, List.flatMap_cons] at *
      rw [List.getElem?_append_right (by simp [opC]; omega), show (k + 1) * 3 + i - (opC x).length = k * 3 + i from by simp [opC]; omega, this]
      simp
/-- Orders that a slice holds. -/
structure RdOps (w : World) (A : Option Addr) (l : List OpV) : Prop where
  rd : Rd w A (opsC l)
  each : ∀ x ∈ l, Rd w x.B (bc x.mm) ∧ x.mm.length ≤ 140737488351232 ∧ (-9223372036854775808 ≤ x.n ∧ x.n ≤ 9223372036854775807)
theorem RdOps.row {w : World} {A : Option Addr} {l : List OpV} (h : RdOps w A l) {k : Nat} (hk : k < l.length) :
    ∃ b f, A = some ⟨b, f, none⟩ ∧ b < w.heap.size ∧ (w.cell? ⟨b, f + k * 3, none⟩ = some (.int .i64 l[k].kind) ∧ w.cell? ⟨b, f + k * 3 + 1, none⟩ = some (.int .i64 l[k].n) ∧ w.cell? ⟨b, f + k * 3 + 2, none⟩ = some (.slice l[k].B l[k].mm.length l[k].d)) := by
  obtain ⟨b, f, hA, hb, hc⟩ := h.rd.at_ (by rw [opsC_len]; omega)
  have g := fun i hi => opsC_at l k i hi
  rw [List.getElem?_eq_getElem hk] at g
  refine ⟨b, f, hA, hb, ?_, ?_, ?_⟩
  · exact hc (k * 3) _ (by have := g 0 (by omega); simpa [opC] using this)
  · rw [Nat.add_assoc]; exact hc (k * 3 + 1) _ (by have := g 1 (by omega); simpa [opC] using this)
  · rw [Nat.add_assoc]; exact hc (k * 3 + 2) _ (by have := g 2 (by omega); simpa [opC] using this)
theorem step_c (k p j r lim : Nat) (hk0 : 1 ≤ k) (hk : k + 1 < j) (hj : j + 1 < 9) (l : List UInt8) (x : OpV) (h0 : -9223372036854775808 ≤ x.n) (h1 : x.n ≤ 9223372036854775807) (hb : x.mm.length ≤ 140737488351232) (w : World) (o : Ow) (ht : Twin w o k p j r l lim)
    (hB : Rd w x.B (bc x.mm)) (hBo : x.mm ≠ [] → ∀ a, x.B = some a → a.block < w.heap.size → o a.block = 0) :
    Calls Tryd.prog 15 #[.pointer (some ⟨p, 0, none⟩), .pointer (some ⟨r, 0, none⟩), .agg #[.int .i64 x.kind, .int .i64 x.n, .slice x.B x.mm.length x.d]] w (Turns (KS k j) w o (StepEnd k p j r lim)) := by
  by_cases e0 : x.kind = 0
  · rw [e0]; exact step_put k p j r lim hk0 hk hj l x.mm x.n x.B x.d hb w o ht hB hBo
  · by_cases e1 : x.kind = 1
    · rw [e1]; exact step_take k p j r lim hk0 hk hj l x.n h0 h1 x.B _ x.d w o ht
    · by_cases e2 : x.kind = 2
      · rw [e2]; exact step_peek k p j r lim hk0 hk hj l x.n h0 h1 x.B _ x.d w o ht
      · exact step_line k p j r lim hk0 hk hj l x.kind x.n e0 e1 e2 x.B _ x.d w o ht
end Go.Proofs.YteklakibcboepabDoor
