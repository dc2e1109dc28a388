/-
Framing: plain words: a field's line; a reader of a body, byte by byte.
-/
import Derived.Test.YtnakeigpelcajaaGreatDoorHd7
import Derived.Test.YtnakeigpelcajaaGreatDoorHd3
import Derived.Test.YtnakeigpelcajaaGreatDoorHd5
import Derived.Test.YtnakeigpelcajaaGreatDoorQue1
import Derived.Test.YtnakeigpelcajaaGreatDoorNum1
set_option linter.unusedVariables false
set_option linter.unusedSimpArgs false
namespace Go.Proofs.YtnakeigpelcajaaGreatDoor
open Go.RowKit

/-- What stands ahead of the first c, and behind it. -/
def cutW (c : UInt8) : List UInt8 → Option (List UInt8 × List UInt8)
  | [] => none
  | b :: l => if b = c then some ([], l) else (cutW c l).map fun p => (b :: p.1, p.2)
theorem cutW_no {c : UInt8} : ∀ {l : List UInt8}, c ∉ l → cutW c l = none
  | [], _ => rfl
  | b :: l, h => by
    have h1 : ¬ b = c := fun e => h (by rw [e]; exact List.mem_cons_self)
    have h2 := cutW_no (l := l) (fun e => h (List.mem_cons_of_mem _ e))
    unfold cutW
    rw [if_neg h1, h2]; rfl
theorem cutW_at {c : UInt8} : ∀ {a : List UInt8} (r : List UInt8), c ∉ a → cutW c (a ++ c :: r) = some (a, r)
  | [], r, _ => by simp [cutW]
  | b :: a, r, h => by
    have h1 : ¬ b = c := fun e => h (by rw [e]; exact List.mem_cons_self)
    have h2 := cutW_at (a := a) r (fun e => h (List.mem_cons_of_mem _ e))
    show cutW c (b :: (a ++ c :: r)) = _
    unfold cutW
    rw [if_neg h1, h2]; rfl
theorem cutW_some {c : UInt8} : ∀ {l a r : List UInt8}, cutW c l = some (a, r) → l = a ++ c :: r ∧ c ∉ a
  | [], _, _, h => by cases h
  | b :: l, a, r, h => by
    unfold cutW at h
    split at h
    · rename_i hb
      cases h
      exact ⟨by rw [hb]; rfl, by simp⟩
    · rename_i hb
      cases hc : cutW c l with
      | none => rw [hc] at h; cases h
      | some p =>
        rw [hc] at h
        cases h
        obtain ⟨h1, h2⟩ := cutW_some (l := l) (a := p.1) (r := p.2) hc
        refine ⟨by rw [h1]; rfl, ?_⟩
        intro hm
        rcases List.mem_cons.1 hm with e | e
        · exact hb e.symm
        · exact h2 e
def tokL (l : List UInt8) : Bool := (l.all fun b => tokB b.toNat) && decide (0 < l.length)
def vlL (l : List UInt8) : Bool := (l.all fun b => valB b.toNat) && endsB l
/-- A field's line: what it says. -/
def fldV (l : List UInt8) : Option Fld :=
  match cutW 58 l with
  | none => none
  | some (a, r) => if (tokL a && vlL (trimL r)) = true then some (a, trimL r) else none
theorem fc_one (fs : List Fld) : ∀ u ∈ fc fs, u.oneCell' = true := by
  intro u hu
  obtain ⟨p, _, hp⟩ := List.mem_flatMap.1 hu
  simp only [List.mem_cons, List.mem_nil_iff, or_false] at hp
  rcases hp with rfl | rfl <;> rfl
/-- Where a reader of a body stands. -/
structure Rst where
  kind : Nat
  n : Nat
  most : Nat
  all : Nat
  state : Nat
  left : Nat
  line : List UInt8
  cr : Bool
  tail : List Fld
  done : Bool
  e : Int
  body : List UInt8
/-- A byte of a line: what becomes of the reader; the line, if it ends; the number that is given up with. -/
def textF (s : Rst) (c : UInt8) : Rst × Option (List UInt8) × Int :=
  if s.cr = true then
    if c = 10 then ({ s with cr := false, line := [] }, some s.line, 0) else (s, none, 22)
  else if c = 13 then ({ s with cr := true }, none, 0)
  else if valB c.toNat = true then
    if s.line.length < 8192 then ({ s with line := s.line ++ [c] }, none, 0) else (s, none, 44)
  else (s, none, 22)
/-- What stands ahead of a size's first ; or blank. -/
def szN (l : List UInt8) : Nat := (l.takeWhile fun b => !(b == 59 || b == 32 || b == 9)).length
def hexV (l : List UInt8) : Int × Int := numL 16 1152921504606846976 l
/-- Is a line a size's? -/
def szG (l : List UInt8) : Bool := decide ((hexV (l.take (szN l))).2 = 0) && decide (szN l ≤ 15) && ((trimL (l.drop (szN l))).isEmpty || decide ((trimL (l.drop (szN l)))[0]? = some 59))
def szV (l : List UInt8) : Int := (hexV (l.take (szN l))).1
/-- A size's line. -/
def sizeL (s : Rst) (l : List UInt8) : Rst × Int :=
  if szG l = true then
    if szV l ≤ (s.most : Int) - s.all then ({ s with state := if szV l = 0 then 4 else 2, left := (szV l).toNat }, 0) else (s, 6)
  else (s, 45)
/-- A trailer's line. -/
def tailL (s : Rst) (l : List UInt8) : Rst × Int :=
  if l = [] then ({ s with done := true }, 0) else
  match fldV l with
  | none => (s, 42)
  | some p => if s.tail.length < 100 then ({ s with tail := s.tail ++ [p] }, 0) else (s, 44)
def plainF (s : Rst) (c : UInt8) : Rst × Int :=
  if s.all < s.most then ({ s with all := s.all + 1, body := s.body ++ [c], done := decide (s.kind = 1) && decide (s.all + 1 = s.n) }, 0) else (s, 6)
def sizeF (s : Rst) (c : UInt8) : Rst × Int :=
  match textF s c with
  | (t, none, e) => (t, e)
  | (t, some l, _) => sizeL t l
def dataF (s : Rst) (c : UInt8) : Rst × Int :=
  if s.left = 1 then ({ s with all := s.all + 1, body := s.body ++ [c], state := 3, left := 2 }, 0) else ({ s with all := s.all + 1, body := s.body ++ [c], left := s.left - 1 }, 0)
def behindF (s : Rst) (c : UInt8) : Rst × Int :=
  if c = (if s.left = 2 then 13 else 10) then (if s.left = 1 then ({ s with left := 0, state := 1 }, 0) else ({ s with left := s.left - 1 }, 0)) else (s, 45)
def trailF (s : Rst) (c : UInt8) : Rst × Int :=
  match textF s c with
  | (t, none, e) => (t, e)
  | (t, some l, _) => tailL t l
/-- A byte, by the state. -/
def takeF (s : Rst) (c : UInt8) : Rst × Int :=
  if s.state = 0 then plainF s c else if s.state = 1 then sizeF s c else if s.state = 2 then dataF s c else if s.state = 3 then behindF s c else trailF s c
/-- What is known without a byte. -/
def readyF (s : Rst) : Rst × Int :=
  if s.kind = 0 then ({ s with done := true }, 0)
  else if s.kind = 1 then (if s.n ≤ s.most then ({ s with done := decide (s.all = s.n) }, 0) else (s, 6))
  else (s, 0)
/-- Bytes: what becomes of the reader, how many are used, the number that is given up with. -/
def runF (s : Rst) : List UInt8 → Rst × Nat × Int
  | [] => (s, 0, 0)
  | c :: l => if s.done = true then (s, 0, 0) else let r := takeF s c
    if r.2 ≠ 0 then (r.1, 1, r.2) else let q := runF r.1 l; (q.1, q.2.1 + 1, q.2.2)
/-- feed: the reader with its body, how many are used. -/
def goF (s : Rst) (b : List UInt8) : Rst × Nat :=
  if s.done = true ∨ s.e ≠ 0 then (s, 0) else
  let r := readyF s
  if r.2 ≠ 0 then ({ r.1 with e := r.2 }, 0) else let q := runF r.1 b; ({ q.1 with e := q.2.2 }, q.2.1)
/-- Feed: the reader; how many are used, the body's bytes, whole?, the number. -/
def feedF (s : Rst) (b : List UInt8) : Rst × Nat × List UInt8 × Bool × Int :=
  let q := goF s b
  ({ q.1 with body := [] }, q.2, q.1.body, q.1.done, q.1.e)
/-- A reader that may go on. -/
structure Rok (s : Rst) : Prop where
  e0 : s.e = 0
  mo : s.most ≤ 1048576
  al : s.all ≤ s.most
  kd : s.kind ≤ 3
  nn : s.n < 9223372036854775808
  st : s.state ≤ 4
  ck : s.kind = 2 ↔ s.state ≠ 0
  ln : s.line.length ≤ 8192
  fl : s.tail.length ≤ 100
  bl : s.body.length ≤ s.all
  l2 : s.state = 2 → 1 ≤ s.left ∧ s.all + s.left ≤ s.most
  l3 : s.state = 3 → s.left = 1 ∨ s.left = 2
def newF (kind n most : Nat) : Rst := ⟨kind, n, most, 0, if kind = 2 then 1 else 0, 0, [], false, [], false, 0, []⟩
/-- 3, a line's end, abc, a line's end, 0, two line's ends, and one behind it. -/
def knF : List UInt8 := [51, 13, 10, 97, 98, 99, 13, 10, 48, 13, 10, 13, 10, 120]
theorem kn_frame : (feedF (newF 2 0 10) knF).2 = (13, [97, 98, 99], true, 0) := by decide +kernel
end Go.Proofs.YtnakeigpelcajaaGreatDoor
