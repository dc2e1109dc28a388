/-
Framing's reader in memory: its cells, what is written into them; demand.
-/
import Derived.Test.YtnakeigpelcajaaGreatDoorFa1
set_option linter.unusedVariables false
set_option linter.unusedSimpArgs false
namespace Go.Proofs.YtnakeigpelcajaaGreatDoor
open Go.RowKit

theorem fdemand_yes (e : Int) (w : World) : Calls Tryz.prog 56 #[.bool true, .int .i64 e] w fun r w' => r = .returned (.tuple #[]) ∧ w = w' := by
  go_enter Tryz.func56, Tryz.ntmps56
  go_wp2
  go_end0
  exact ⟨rfl, rfl⟩
theorem fdemand_no (e : Int) (w : World) : Calls Tryz.prog 56 #[.bool false, .int .i64 e] w fun r w' => r = .panicked [{ v := .iface 25 (.int .i64 e), recovered := false }] ∧ w = w' := by
  go_enter Tryz.func56, Tryz.ntmps56
  go_wp2
  simp [bodyPost]
/-- It goes on, or it gives up. -/
def GupF (ok : Bool) (e : Int) (w : World) (r : Ending) (w' : World) : Prop := (ok = true → r = .returned (.tuple #[])) ∧ (ok = false → r = .panicked [{ v := .iface 25 (.int .i64 e), recovered := false }]) ∧ w = w'
theorem fdemand_c (ok : Bool) (e : Int) (w : World) : Calls Tryz.prog 56 #[.bool ok, .int .i64 e] w (GupF ok e w) := by
  cases ok with
  | true => exact (fdemand_yes e w).mono (by rintro r w' ⟨rfl, rfl⟩; exact ⟨fun _ => rfl, fun h => (by cases h), rfl⟩)
  | false => exact (fdemand_no e w).mono (by rintro r w' ⟨rfl, rfl⟩; exact ⟨fun h => (by cases h), fun _ => rfl, rfl⟩)
/-- A reader's cells. -/
def Rst.cells (s : Rst) (A : Option Addr) (c : Nat) (B : Option Addr) (d : Nat) (C : Option Addr) (g : Nat) : Array Value :=
  #[.int .i64 (s.kind : Int), .int .i64 (s.n : Int), .int .i64 (s.most : Int), .int .i64 (s.all : Int), .int .i64 (s.state : Int), .int .i64 (s.left : Int), .slice A s.line.length c, .bool s.cr, .slice B s.tail.length d, .bool true, .bool s.done, .int .i64 s.e, .slice C s.body.length g]
/-- A reader's row of cells. -/
def Frow (w : World) (P : Nat) (s : Rst) (A : Option Addr) (c : Nat) (B : Option Addr) (d : Nat) (C : Option Addr) (g : Nat) : Prop := w.heap[P]? = some (.cells (s.cells A c B d C g) 55 (0, 0))
section
variable {w : World} {P : Nat} {s : Rst} {A B C : Option Addr} {c d g : Nat}
theorem Frow.c0 (h : Frow w P s A c B d C g) : w.cell? ⟨P, 0, none⟩ = some (.int .i64 (s.kind : Int)) := (row_facts h 0 _ rfl).1
theorem Frow.c1 (h : Frow w P s A c B d C g) : w.cell? ⟨P, 1, none⟩ = some (.int .i64 (s.n : Int)) := (row_facts h 1 _ rfl).1
theorem Frow.c2 (h : Frow w P s A c B d C g) : w.cell? ⟨P, 2, none⟩ = some (.int .i64 (s.most : Int)) := (row_facts h 2 _ rfl).1
theorem Frow.c3 (h : Frow w P s A c B d C g) : w.cell? ⟨P, 3, none⟩ = some (.int .i64 (s.all : Int)) := (row_facts h 3 _ rfl).1
theorem Frow.c4 (h : Frow w P s A c B d C g) : w.cell? ⟨P, 4, none⟩ = some (.int .i64 (s.state : Int)) := (row_facts h 4 _ rfl).1
theorem Frow.c5 (h : Frow w P s A c B d C g) : w.cell? ⟨P, 5, none⟩ = some (.int .i64 (s.left : Int)) := (row_facts h 5 _ rfl).1
theorem Frow.c6 (h : Frow w P s A c B d C g) : w.cell? ⟨P, 6, none⟩ = some (.slice A s.line.length c) := (row_facts h 6 _ rfl).1
theorem Frow.c7 (h : Frow w P s A c B d C g) : w.cell? ⟨P, 7, none⟩ = some (.bool s.cr) := (row_facts h 7 _ rfl).1
theorem Frow.c8 (h : Frow w P s A c B d C g) : w.cell? ⟨P, 8, none⟩ = some (.slice B s.tail.length d) := (row_facts h 8 _ rfl).1
theorem Frow.c9 (h : Frow w P s A c B d C g) : w.cell? ⟨P, 9, none⟩ = some (.bool true) := (row_facts h 9 _ rfl).1
theorem Frow.c10 (h : Frow w P s A c B d C g) : w.cell? ⟨P, 10, none⟩ = some (.bool s.done) := (row_facts h 10 _ rfl).1
theorem Frow.c11 (h : Frow w P s A c B d C g) : w.cell? ⟨P, 11, none⟩ = some (.int .i64 s.e) := (row_facts h 11 _ rfl).1
theorem Frow.c12 (h : Frow w P s A c B d C g) : w.cell? ⟨P, 12, none⟩ = some (.slice C s.body.length g) := (row_facts h 12 _ rfl).1
theorem Frow.fz (h : Frow w P s A c B d C g) (i : Nat) (hi : i < 13) : w.frozen? ⟨P, i, none⟩ = false := by
  obtain ⟨u, hu⟩ : ∃ u, (s.cells A c B d C g)[i]? = some u := ⟨(s.cells A c B d C g)[i]'(by simp [Rst.cells]; omega), by simp⟩
  exact (row_facts h i u hu).2
theorem Frow.set (h : Frow w P s A c B d C g) (i : Nat) (u : Value) {s' : Rst} {A' B' C' : Option Addr} {c' d' g' : Nat} (he : (s.cells A c B d C g).setIfInBounds i u = s'.cells A' c' B' d' C' g') : Frow (w.setCell ⟨P, i, none⟩ u) P s' A' c' B' d' C' g' := by
  unfold Frow
  rw [← he]
  exact row_set h i u
theorem Frow.ext {w' : World} (h : Frow w P s A c B d C g) (e : Ext w w') : Frow w' P s A c B d C g := (e.block P (row_lt h)).trans h
theorem Frow.stp {K : Nat → Prop} {w' : World} {o o' : Ow} (h : Frow w P s A c B d C g) (e : Stp K w o w' o') (hk : ¬ K (o P)) : Frow w' P s A c B d C g := (e.keep P (row_lt h) hk).trans h
end
/-- What a reader's number, its line's room, its fields' and its body's are owned by. -/
def KF (k : Nat) : Nat → Prop := fun i => i = k ∨ i = k + 1 ∨ i = k + 2 ∨ i = k + 3
/-- A reader lies at block p. -/
structure FsAt (w : World) (o : Ow) (k p : Nat) (s : Rst) : Prop where
  own : o p = k
  row : ∃ A c B d C g, Frow w p s A c B d C g ∧ Sl w o (k + 1) 1 A s.line.length c (bc s.line) ∧ (A = none → c = 0) ∧ Sl w o (k + 2) 2 B s.tail.length d (fc s.tail) ∧ (B = none → d = 0) ∧ Sl w o (k + 3) 1 C s.body.length g (bc s.body) ∧ (C = none → g = 0)
theorem FsAt.stp {K : Nat → Prop} {w w' : World} {o o' : Ow} {k p : Nat} {s : Rst} (h : FsAt w o k p s) (st : Stp K w o w' o') (h0 : ¬ K k) (h1 : ¬ K (k + 1)) (h2 : ¬ K (k + 2)) (h3 : ¬ K (k + 3)) : FsAt w' o' k p s := by
  obtain ⟨A, c, B, d, C, g, hh, hs, hn, ht, hm, hu, hv⟩ := h.row
  exact ⟨by rw [st.own p (row_lt hh)]; exact h.own, A, c, B, d, C, g, hh.stp st (by rw [h.own]; exact h0), hs.stp st h1, hn, ht.stp st h2, hm, hu.stp st h3, hv⟩
theorem FsAt.ext {w w' : World} {o : Ow} {k p : Nat} {s : Rst} (h : FsAt w o k p s) (e : Ext w w') : FsAt w' o k p s := h.stp (K := fun _ => False) (Stp.ext e) (fun x => x) (fun x => x) (fun x => x) (fun x => x)
/-- A cell of the reader that is no slice, written anew. -/
theorem FsAt.put {w : World} {o : Ow} {k P : Nat} {s s' : Rst} (h : FsAt w o k P s) (i : Nat) (u : Value) (hl : s'.line = s.line) (ht : s'.tail = s.tail) (hb : s'.body = s.body) (he : ∀ A c B d C g, (s.cells A c B d C g).setIfInBounds i u = s'.cells A c B d C g) : FsAt (w.setCell ⟨P, i, none⟩ u) o k P s' := by
  obtain ⟨A, c, B, d, C, g, hh, hs, hn, h5, hm, hu, hv⟩ := h.row
  have st : Stp (fun i => i = k) w o (w.setCell ⟨P, i, none⟩ u) o := Stp.set P i u (fun _ => h.own)
  exact ⟨h.own, A, c, B, d, C, g, hh.set i u (he A c B d C g), by rw [hl]; exact hs.stp st (by omega), hn, by rw [ht]; exact h5.stp st (by omega), hm, by rw [hb]; exact hu.stp st (by omega), hv⟩
/-- It ends, or it gives up with a number. -/
def GoneF (e : Int) : Ending := if e = 0 then .returned (.tuple #[]) else .panicked [{ v := .iface 25 (.int .i64 e), recovered := false }]
/-- A call that turns a reader, and ends or gives up. -/
def TurnsF (k : Nat) (w : World) (o : Ow) (P : Nat) (q : Rst × Int) (r : Ending) (w' : World) : Prop := r = GoneF q.2 ∧ ∃ o', FsAt w' o' k P q.1 ∧ Stp (KF k) w o w' o'
theorem goneF_ok : GoneF 0 = .returned (.tuple #[]) := rfl
theorem goneF_no {e : Int} (h : e ≠ 0) : GoneF e = .panicked [{ v := .iface 25 (.int .i64 e), recovered := false }] := if_neg h
theorem setF_stp {w : World} {o : Ow} {k P : Nat} (i : Nat) (u : Value) (h : o P = k) : Stp (KF k) w o (w.setCell ⟨P, i, none⟩ u) o := Stp.set P i u (fun _ => .inl h)
end Go.Proofs.YtnakeigpelcajaaGreatDoor
