/-
Head's parser as plain functions: a line, a byte, bytes.
-/
import Derived.Test.YtppajpchibkneaaGreatDoorHDb
import Derived.Test.YtppajpchibkneaaGreatDoorHd8
import Derived.Test.YtppajpchibkneaaGreatDoorNum1
set_option linter.unusedVariables false
set_option linter.unusedSimpArgs false
/-
Head's parser as plain functions: a line, a byte, bytes.
-/
section
namespace Go.Proofs.YtppajpchibkneaaGreatDoor
open Go.RowKit

/-- What stands ahead of the first c, and behind it. -/
def cutW (c : UInt8) : List UInt8 → Option (List UInt8 × List UInt8)
  | [] => none
  | b :: l => if b = c then some ([], l) else (cutW c l).map fun p => (b :: p.1, p.2)
theorem cutW_no {c : UInt8} : ∀ {l : List UInt8}, c ∉ l → cutW c l = none
  | [], _ => rfl
  | b :: l, h => by
    have h1 : ¬ b = c := fun e => h (by rw [e]; exact List.mem_cons_self)
    have h2 := cutW_no (l := l) (fun e => h (List.mem_cons_of_mem _ e))
    unfold cutW
    rw [if_neg h1, h2]; rfl
theorem cutW_at {c : UInt8} : ∀ {a : List UInt8} (r : List UInt8), c ∉ a → cutW c (a ++ c :: r) = some (a, r)
  | [], r, _ => by simp [cutW]
  | b :: a, r, h => by
    have h1 : ¬ b = c := fun e => h (by rw [e]; exact List.mem_cons_self)
    have h2 := cutW_at (a := a) r (fun e => h (List.mem_cons_of_mem _ e))
    show cutW c (b :: (a ++ c :: r)) = _
    unfold cutW
    rw [if_neg h1, h2]; rfl
theorem cutW_some {c : UInt8} : ∀ {l a r : List UInt8}, cutW c l = some (a, r) → l = a ++ c :: r ∧ c ∉ a
  | [], _, _, h => by cases h
  | b :: l, a, r, h => by
    unfold cutW at h
    split at h
    · rename_i hb
      cases h
      exact ⟨by rw [hb]; rfl, by simp⟩
    · rename_i hb
      cases hc : cutW c l with
      | none => rw [hc] at h; cases h
      | some p =>
        rw [hc] at h
        cases h
        obtain ⟨h1, h2⟩ := cutW_some (l := l) (a := p.1) (r := p.2) hc
        refine ⟨by rw [h1]; rfl, ?_⟩
        intro hm
        rcases List.mem_cons.1 hm with e | e
        · exact hb e.symm
        · exact h2 e
/-- Three parts: a first line. -/
def w3 (l : List UInt8) : Option (List UInt8 × List UInt8 × List UInt8) :=
  match cutW 32 l with
  | none => none
  | some (a, r) => match cutW 32 r with
    | none => none
    | some (b, t) => some (a, b, t)
theorem w3_no1 {l : List UInt8} (h : 32 ∉ l) : w3 l = none := by unfold w3; rw [cutW_no h]
theorem w3_no2 {a r : List UInt8} (h : 32 ∉ a) (h2 : 32 ∉ r) : w3 (a ++ 32 :: r) = none := by unfold w3; rw [cutW_at r h]; dsimp only; rw [cutW_no h2]
theorem w3_yes {a b t : List UInt8} (h : 32 ∉ a) (h2 : 32 ∉ b) : w3 (a ++ 32 :: (b ++ 32 :: t)) = some (a, b, t) := by unfold w3; rw [cutW_at _ h]; dsimp only; rw [cutW_at t h2]
theorem w3_some {l a b t : List UInt8} (h : w3 l = some (a, b, t)) : l = a ++ 32 :: (b ++ 32 :: t) ∧ 32 ∉ a ∧ 32 ∉ b := by
  unfold w3 at h
  cases h1 : cutW 32 l with
  | none => rw [h1] at h; cases h
  | some p =>
    rw [h1] at h
    obtain ⟨a', r⟩ := p
    dsimp only at h
    cases h2 : cutW 32 r with
    | none => rw [h2] at h; cases h
    | some q =>
      rw [h2] at h
      obtain ⟨b', t'⟩ := q
      cases h
      obtain ⟨e1, n1⟩ := cutW_some h1
      obtain ⟨e2, n2⟩ := cutW_some h2
      exact ⟨by rw [e1, e2], n1, n2⟩
def tokL (l : List UInt8) : Bool := (l.all fun b => tokB b.toNat) && decide (0 < l.length)
def vlL (l : List UInt8) : Bool := (l.all fun b => valB b.toNat) && endsB l
/-- The number of a status, or none. -/
def stN (l : List UInt8) : Int × Int := numL 10 1000000000000000000 l
def reqG (p : List UInt8 × List UInt8 × List UInt8) : Bool := decide (p.1.length ≤ 32) && tokL p.1 && tgH p.2.1 && (verH p.2.2).2
def rspG (p : List UInt8 × List UInt8 × List UInt8) : Bool := decide (p.2.1.length = 3) && (verH p.1).2 && decide ((stN p.2.1).2 = 0) && decide (100 ≤ (stN p.2.1).1) && decide ((stN p.2.1).1 ≤ 599)
/-- A first line of a request. -/
def reqP (s : Pst) (l : List UInt8) : Pst × Int :=
  if l = [] ∧ s.empty < 4 then ({ s with empty := s.empty + 1 }, 0) else
  match w3 l with
  | none => ({ s with nx := 44 }, 43)
  | some p => if reqG p = true then ({ s with nx := 44, meth := p.1, targ := p.2.1, minor := (verH p.2.2).1 }, 0) else ({ s with nx := 44 }, 43)
/-- A first line of a response. -/
def rspP (s : Pst) (l : List UInt8) : Pst × Int :=
  match w3 l with
  | none => ({ s with nx := 44 }, 43)
  | some p => if rspG p = true then ({ s with nx := 44, minor := (verH p.1).1, status := (stN p.2.1).1, reason := p.2.2 }, 0) else ({ s with nx := 44 }, 43)
/-- A field's line: what it says. -/
def fldV (l : List UInt8) : Option Fld :=
  match cutW 58 l with
  | none => none
  | some (a, r) => if (tokL a && vlL (trimL r)) = true then some (a, trimL r) else none
def fldP (s : Pst) (l : List UInt8) : Pst × Int :=
  if l = [] then ({ s with done := true }, 0) else
  match fldV l with
  | none => (s, 42)
  | some p => if s.fields.length < 100 then ({ s with fields := s.fields ++ [p] }, 0) else (s, 44)
/-- A line, by what is next. -/
def lineP (s : Pst) (l : List UInt8) : Pst × Int := if s.nx = 30 then reqP s l else if s.nx = 31 then rspP s l else fldP s l
/-- A byte. -/
def takeP (s0 : Pst) (c : UInt8) : Pst × Int :=
  if 32768 ≤ s0.all then ({ s0 with all := s0.all + 1 }, 44) else
  if s0.cr = true then
    if c = 10 then lineP { s0 with all := s0.all + 1, cr := false, line := [] } s0.line else ({ s0 with all := s0.all + 1, cr := false }, 22)
  else if c = 13 then ({ s0 with all := s0.all + 1, cr := true }, 0)
  else if valB c.toNat = true then
    if s0.line.length < 8192 then ({ s0 with all := s0.all + 1, line := s0.line ++ [c] }, 0) else ({ s0 with all := s0.all + 1 }, 44)
  else ({ s0 with all := s0.all + 1 }, 22)
/-- Bytes: what becomes of the parser, how many are used, the number that is given up with. -/
def runP (s : Pst) : List UInt8 → Pst × Nat × Int
  | [] => (s, 0, 0)
  | c :: l => let r := takeP s c
    if r.2 ≠ 0 then (r.1, 1, r.2) else if r.1.done = true then (r.1, 1, 0) else let q := runP r.1 l; (q.1, q.2.1 + 1, q.2.2)
def feedP (s : Pst) (b : List UInt8) : Pst × Nat × Bool × Int :=
  if s.done = true ∨ s.e ≠ 0 then (s, 0, s.done, s.e) else
  let r := runP s b
  ({ r.1 with e := r.2.2 }, r.2.1, decide (r.2.2 = 0) && r.1.done, r.2.2)
/-- A parser that may go on. -/
structure Pok (s : Pst) : Prop where
  e0 : s.e = 0
  d0 : s.done = false
  al : s.all ≤ 32768
  ln : s.line.length ≤ 8192
  fl : s.fields.length ≤ 100
  em : s.empty ≤ 4
  nx : s.nx = 30 ∨ s.nx = 31 ∨ s.nx = 44
theorem newP_ok (r : Bool) : Pok (newP r) := ⟨rfl, rfl, Nat.zero_le _, Nat.zero_le _, Nat.zero_le _, Nat.zero_le _, by cases r; exact .inl rfl; exact .inr (.inl rfl)⟩
theorem num_rs : (30 : Nat) ≠ 31 := by decide
theorem num_rf : (30 : Nat) ≠ 44 := by decide
theorem num_sf : (31 : Nat) ≠ 44 := by decide
end Go.Proofs.YtppajpchibkneaaGreatDoor
end

/-
Head's parser as plain functions: bytes in pieces; what a head holds.
-/
section
namespace Go.Proofs.YtppajpchibkneaaGreatDoor
open Go.RowKit

theorem req_e (s : Pst) (l : List UInt8) : (reqP s l).1.e = s.e := by unfold reqP; split; rfl; split; rfl; split <;> rfl
theorem rsp_e (s : Pst) (l : List UInt8) : (rspP s l).1.e = s.e := by unfold rspP; split; rfl; split <;> rfl
theorem fld_e (s : Pst) (l : List UInt8) : (fldP s l).1.e = s.e := by unfold fldP; split; rfl; split; rfl; split <;> rfl
theorem line_e (s : Pst) (l : List UInt8) : (lineP s l).1.e = s.e := by
  unfold lineP
  split
  · exact req_e s l
  · split
    · exact rsp_e s l
    · exact fld_e s l
theorem take_e (s : Pst) (c : UInt8) : (takeP s c).1.e = s.e := by
  unfold takeP
  split
  · rfl
  · split
    · split
      · rw [line_e]
      · rfl
    · split
      · rfl
      · split
        · split <;> rfl
        · rfl
theorem run_cons (s : Pst) (c : UInt8) (l : List UInt8) : runP s (c :: l) = if (takeP s c).2 ≠ 0 then ((takeP s c).1, 1, (takeP s c).2) else if (takeP s c).1.done = true then ((takeP s c).1, 1, 0) else ((runP (takeP s c).1 l).1, (runP (takeP s c).1 l).2.1 + 1, (runP (takeP s c).1 l).2.2) := rfl
/-- Nothing was given up, it is not done: on with the rest. -/
theorem run_app : ∀ (a b : List UInt8) (s : Pst), s.done = false → (runP s a).2.2 = 0 → (runP s a).1.done = false →
    runP s (a ++ b) = ((runP (runP s a).1 b).1, (runP s a).2.1 + (runP (runP s a).1 b).2.1, (runP (runP s a).1 b).2.2)
  | [], b, s, _, _, _ => by simp [runP]
  | c :: a, b, s, h0, h1, h2 => by
    show runP s (c :: (a ++ b)) = _
    rw [run_cons s c (a ++ b)]
    rw [run_cons s c a] at h1 h2 ⊢
    by_cases k1 : (takeP s c).2 ≠ 0
    · rw [if_pos k1] at h1; exact absurd h1 k1
    · rw [if_neg k1] at h1 h2 ⊢
      rw [if_neg k1]
      by_cases k2 : (takeP s c).1.done = true
      · rw [if_pos k2] at h2; dsimp only at h2; rw [k2] at h2; cases h2
      · rw [if_neg k2] at h1 h2 ⊢
        rw [if_neg k2]
        have ih := run_app a b (takeP s c).1 (by simpa using k2) h1 h2
        rw [ih]
        simp only [Prod.mk.injEq, true_and, and_true]
        omega
theorem run_end : ∀ (a b : List UInt8) (s : Pst), ((runP s a).2.2 ≠ 0 ∨ (runP s a).1.done = true) → s.done = false → runP s (a ++ b) = runP s a
  | [], b, s, h, h0 => by rcases h with h | h; exact absurd rfl h; rw [show (runP s []).1 = s from rfl, h0] at h; cases h
  | c :: a, b, s, h, h0 => by
    show runP s (c :: (a ++ b)) = _
    rw [run_cons s c (a ++ b)]
    rw [run_cons s c a] at h ⊢
    by_cases k1 : (takeP s c).2 ≠ 0
    · rw [if_pos k1, if_pos k1]
    · rw [if_neg k1] at h ⊢
      rw [if_neg k1]
      by_cases k2 : (takeP s c).1.done = true
      · rw [if_pos k2, if_pos k2]
      · rw [if_neg k2] at h ⊢
        rw [if_neg k2]
        rw [run_end a b (takeP s c).1 h (by simpa using k2)]
theorem run_le : ∀ (a : List UInt8) (s : Pst), (runP s a).2.1 ≤ a.length
  | [], _ => Nat.le_refl _
  | c :: a, s => by
    have ih := run_le a (takeP s c).1
    rw [run_cons]
    split
    · simp
    · split
      · simp
      · simp only [List.length_cons]; omega
theorem run_e : ∀ (a : List UInt8) (s : Pst), (runP s a).1.e = s.e
  | [], _ => rfl
  | c :: a, s => by
    have ih := run_e a (takeP s c).1
    rw [run_cons]
    split
    · exact take_e s c
    · split
      · exact take_e s c
      · exact ih.trans (take_e s c)
/-- Bytes in two pieces. -/
theorem feed_app (s : Pst) (h0 : s.done = false) (h1 : s.e = 0) (a b : List UInt8) (h2 : (feedP s a).2.2.1 = false) (h3 : (feedP s a).2.2.2 = 0) :
    feedP s (a ++ b) = ((feedP (feedP s a).1 b).1, (feedP s a).2.1 + (feedP (feedP s a).1 b).2.1, (feedP (feedP s a).1 b).2.2) := by
  have hc : ¬ (s.done = true ∨ s.e ≠ 0) := by rw [h0, h1]; simp
  unfold feedP at h2 h3
  rw [if_neg hc] at h2 h3
  dsimp only at h2 h3
  rw [h3] at h2
  have h4 : (runP s a).1.done = false := by simpa using h2
  have ha := run_app a b s h0 h3 h4
  have e1 : (feedP s a).1 = { (runP s a).1 with e := 0 } := by unfold feedP; rw [if_neg hc]; dsimp only; rw [h3]
  have e2 : (feedP s a).2.1 = (runP s a).2.1 := by unfold feedP; rw [if_neg hc]
  have e3 : (runP s a).1.e = 0 := (run_e a s).trans h1
  have e4 : (feedP s a).1 = (runP s a).1 := by rw [e1, ← e3]
  rw [e2, e4]
  have hc2 : ¬ ((runP s a).1.done = true ∨ (runP s a).1.e ≠ 0) := by rw [h4, e3]; simp
  unfold feedP
  rw [if_neg hc, if_neg hc2, ha]
theorem feed_end (s : Pst) (h0 : s.done = false) (h1 : s.e = 0) (a b : List UInt8) (h2 : (feedP s a).2.2.1 = true ∨ (feedP s a).2.2.2 ≠ 0) : feedP s (a ++ b) = feedP s a := by
  have hc : ¬ (s.done = true ∨ s.e ≠ 0) := by rw [h0, h1]; simp
  unfold feedP at h2 ⊢
  rw [if_neg hc] at h2
  rw [if_neg hc, if_neg hc]
  dsimp only at h2
  rw [run_end a b s (by rcases h2 with h | h; exact .inr (by simpa using (Bool.and_eq_true .. ▸ h).2); exact .inl h) h0]
theorem req_ok {s : Pst} {l : List UInt8} (h : Pok s) (h0 : (reqP s l).2 = 0) : Pok (reqP s l).1 := by
  unfold reqP at h0 ⊢
  split
  · rename_i hc; exact ⟨h.e0, h.d0, h.al, h.ln, h.fl, by have := hc.2; dsimp only; omega, h.nx⟩
  · rename_i hc
    rw [if_neg hc] at h0
    cases hw : w3 l with
    | none => exact ⟨h.e0, h.d0, h.al, h.ln, h.fl, h.em, .inr (.inr rfl)⟩
    | some p => dsimp only; split <;> exact ⟨h.e0, h.d0, h.al, h.ln, h.fl, h.em, .inr (.inr rfl)⟩
theorem rsp_ok {s : Pst} {l : List UInt8} (h : Pok s) : Pok (rspP s l).1 := by
  unfold rspP
  cases hw : w3 l with
  | none => exact ⟨h.e0, h.d0, h.al, h.ln, h.fl, h.em, .inr (.inr rfl)⟩
  | some p => dsimp only; split <;> exact ⟨h.e0, h.d0, h.al, h.ln, h.fl, h.em, .inr (.inr rfl)⟩
theorem fld_ok {s : Pst} {l : List UInt8} (h : Pok s) (h0 : (fldP s l).1.done = false) : Pok (fldP s l).1 := by
  unfold fldP at h0 ⊢
  split
  · rename_i hc; rw [if_pos hc] at h0; cases h0
  · cases hw : fldV l with
    | none => exact h
    | some p =>
      dsimp only
      split
      · rename_i hf; exact ⟨h.e0, h.d0, h.al, h.ln, by dsimp only; rw [List.length_append]; simp only [List.length_cons, List.length_nil]; omega, h.em, h.nx⟩
      · exact h
theorem line_ok {s : Pst} {l : List UInt8} (h : Pok s) (h0 : (lineP s l).2 = 0) (h1 : (lineP s l).1.done = false) : Pok (lineP s l).1 := by
  unfold lineP at h0 h1 ⊢
  split
  · rename_i hc; rw [if_pos hc] at h0; exact req_ok h h0
  · rename_i hc
    rw [if_neg hc] at h0 h1
    split
    · exact rsp_ok h
    · rename_i hc2; rw [if_neg hc2] at h1; exact fld_ok h h1
theorem take_ok {s : Pst} {c : UInt8} (h : Pok s) (h0 : (takeP s c).2 = 0) (h1 : (takeP s c).1.done = false) : Pok (takeP s c).1 := by
  unfold takeP at h0 h1 ⊢
  split
  · rename_i hc; rw [if_pos hc] at h0; cases h0
  · rename_i hc
    rw [if_neg hc] at h0 h1
    have hal : s.all + 1 ≤ 32768 := by omega
    split
    · rename_i k1
      rw [if_pos k1] at h0 h1
      split
      · rename_i k2
        rw [if_pos k2] at h0 h1
        exact line_ok ⟨h.e0, h.d0, hal, Nat.zero_le _, h.fl, h.em, h.nx⟩ h0 h1
      · rename_i k2; rw [if_neg k2] at h0; cases h0
    · rename_i k1
      rw [if_neg k1] at h0 h1
      split
      · exact ⟨h.e0, h.d0, hal, h.ln, h.fl, h.em, h.nx⟩
      · rename_i k2
        rw [if_neg k2] at h0 h1
        split
        · rename_i k3
          rw [if_pos k3] at h0 h1
          split
          · exact ⟨h.e0, h.d0, hal, by dsimp only; rw [List.length_append]; simp only [List.length_cons, List.length_nil]; omega, h.fl, h.em, h.nx⟩
          · rename_i k4; rw [if_neg k4] at h0; cases h0
        · rename_i k3; rw [if_neg k3] at h0; cases h0
end Go.Proofs.YtppajpchibkneaaGreatDoor
end
