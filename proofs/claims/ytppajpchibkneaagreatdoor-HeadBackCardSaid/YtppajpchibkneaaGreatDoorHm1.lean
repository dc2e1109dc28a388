/-
Head's parser in memory: its cells, what is written into them.
-/
import Derived.Test.YtppajpchibkneaaGreatDoorHPa
set_option linter.unusedVariables false
set_option linter.unusedSimpArgs false
namespace Go.Proofs.YtppajpchibkneaaGreatDoor
open Go.RowKit

/-- What k, the line's room and the fields' room are owned by. -/
def KP (k : Nat) : Nat → Prop := fun i => i = k ∨ i = k + 1 ∨ i = k + 2
/-- It ends, or it gives up with a number. -/
def GoneP (e : Int) : Ending := if e = 0 then .returned (.tuple #[]) else .panicked [{ v := .iface 26 (.int .i64 e), recovered := false }]
/-- A call that turns a parser, and ends or gives up. -/
def TurnsP (k : Nat) (w : World) (o : Ow) (P : Nat) (q : Pst × Int) (r : Ending) (w' : World) : Prop := r = GoneP q.2 ∧ ∃ o', PsAt w' o' k P q.1 ∧ Stp (KP k) w o w' o'
theorem gone_ok : GoneP 0 = .returned (.tuple #[]) := rfl
theorem gone_no {e : Int} (h : e ≠ 0) : GoneP e = .panicked [{ v := .iface 26 (.int .i64 e), recovered := false }] := if_neg h
/-- A parser's row of cells. -/
def Prow (w : World) (P : Nat) (s : Pst) (A : Option Addr) (c : Nat) (B : Option Addr) (d : Nat) : Prop := w.heap[P]? = some (.cells (s.cells P A c B d) 57 (0, 0))
section
variable {w : World} {P : Nat} {s : Pst} {A B : Option Addr} {c d : Nat}
theorem Prow.c0 (h : Prow w P s A c B d) : w.cell? ⟨P, 0, none⟩ = some (.bool true) := (row_facts h 0 _ rfl).1
theorem Prow.c1 (h : Prow w P s A c B d) : w.cell? ⟨P, 1, none⟩ = some (.bool s.reply) := (row_facts h 1 _ rfl).1
theorem Prow.c2 (h : Prow w P s A c B d) : w.cell? ⟨P, 2, none⟩ = some (.slice A s.line.length c) := (row_facts h 2 _ rfl).1
theorem Prow.c3 (h : Prow w P s A c B d) : w.cell? ⟨P, 3, none⟩ = some (.bool s.cr) := (row_facts h 3 _ rfl).1
theorem Prow.c4 (h : Prow w P s A c B d) : w.cell? ⟨P, 4, none⟩ = some (.bool s.done) := (row_facts h 4 _ rfl).1
theorem Prow.c5 (h : Prow w P s A c B d) : w.cell? ⟨P, 5, none⟩ = some (.int .i64 (s.all : Int)) := (row_facts h 5 _ rfl).1
theorem Prow.c6 (h : Prow w P s A c B d) : w.cell? ⟨P, 6, none⟩ = some (.int .i64 (s.empty : Int)) := (row_facts h 6 _ rfl).1
theorem Prow.c7 (h : Prow w P s A c B d) : w.cell? ⟨P, 7, none⟩ = some (.int .i64 s.e) := (row_facts h 7 _ rfl).1
theorem Prow.c8 (h : Prow w P s A c B d) : w.cell? ⟨P, 8, none⟩ = some (.func (.func s.nx) #[.pointer (some ⟨P, 0, none⟩)] #[]) := (row_facts h 8 _ rfl).1
theorem Prow.c15 (h : Prow w P s A c B d) : w.cell? ⟨P, 15, none⟩ = some (.slice B s.fields.length d) := (row_facts h 15 _ rfl).1
theorem Prow.fz (h : Prow w P s A c B d) (i : Nat) (hi : i < 16) : w.frozen? ⟨P, i, none⟩ = false := by
  obtain ⟨u, hu⟩ : ∃ u, (s.cells P A c B d)[i]? = some u := ⟨(s.cells P A c B d)[i]'(by simp [Pst.cells]; omega), by simp⟩
  exact (row_facts h i u hu).2
theorem Prow.set (h : Prow w P s A c B d) (i : Nat) (u : Value) {s' : Pst} {A' B' : Option Addr} {c' d' : Nat} (he : (s.cells P A c B d).setIfInBounds i u = s'.cells P A' c' B' d') : Prow (w.setCell ⟨P, i, none⟩ u) P s' A' c' B' d' := by
  unfold Prow
  rw [← he]
  exact row_set h i u
theorem Prow.ext {w' : World} (h : Prow w P s A c B d) (e : Ext w w') : Prow w' P s A c B d := (e.block P (row_lt h)).trans h
end
/-- A parser's cells are turned by its owner. -/
theorem set_stp {w : World} {o : Ow} {k P : Nat} (i : Nat) (u : Value) (h : o P = k) : Stp (KP k) w o (w.setCell ⟨P, i, none⟩ u) o := Stp.set P i u (fun _ => .inl h)
theorem PsAt.row {w : World} {o : Ow} {k P : Nat} {s : Pst} (h : PsAt w o k P s) : ∃ A c B d, Prow w P s A c B d ∧ Sl w o (k + 1) 1 A s.line.length c (bc s.line) ∧ (A = none → c = 0) ∧ Sl w o (k + 2) 2 B s.fields.length d (fc s.fields) ∧ (B = none → d = 0) := h.at_
theorem PsAt.of {w : World} {o : Ow} {k P : Nat} {s : Pst} {A B : Option Addr} {c d : Nat} (h : o P = k) (hr : Prow w P s A c B d) (h1 : Sl w o (k + 1) 1 A s.line.length c (bc s.line)) (h2 : A = none → c = 0) (h3 : Sl w o (k + 2) 2 B s.fields.length d (fc s.fields)) (h4 : B = none → d = 0) : PsAt w o k P s := ⟨h, A, c, B, d, hr, h1, h2, h3, h4⟩
end Go.Proofs.YtppajpchibkneaaGreatDoor
