/-
Targets: plain words and laws. No program in sight.
-/
import Derived.Test.YtolfpfdmgelhhaaDoorUri2
set_option linter.unusedVariables false
set_option linter.unusedSimpArgs false
namespace Go.Proofs.YtolfpfdmgelhhaaDoor
open Go.RowKit

/-- May a byte stand in a path; in a query? -/
def mayB (q : Bool) (b : UInt8) : Bool :=
  (decide (33 ≤ b.toNat) && decide (b.toNat ≤ 126)) && (!(b == 34 || b == 35 || b == 60 || b == 62 || b == 92 || b == 94 || b == 96 || b == 123 || b == 124 || b == 125) && (b != 63 || q))
/-- A path and a query; whether there is one. -/
def localL (r : List UInt8) : Option (List UInt8 × List UInt8 × Bool) :=
  let p := r.takeWhile (fun b => b != 63)
  if p.all (mayB false) = true ∧ (r.drop (p.length + 1)).all (mayB true) = true then some (p, r.drop (p.length + 1), decide (p.length < r.length)) else none
abbrev TgtT := Int × List UInt8 × Int × List UInt8 × List UInt8 × Bool
def badT : TgtT × Int := ((0, [], 0, [], [], false), 40)
def finT (form : Int) (host : List UInt8) (port : Int) (r : List UInt8) : TgtT × Int :=
  match localL r with
  | none => badT
  | some (p, q, a) => ((form, host, port, if p = [] then [47] else p, q, a), 0)
def httpL : List UInt8 := [104, 116, 116, 112, 58, 47, 47]
/-- Where a host ends. -/
def authL (r : List UInt8) : Nat := (r.takeWhile fun b => !(b == 47 || b == 63)).length
/-- A target. -/
def tgtL (m t : List UInt8) : TgtT × Int :=
  if 8192 < t.length ∨ t = [] then badT
  else if m = [67, 79, 78, 78, 69, 67, 84] then (if (hostL t).2.2 = 0 ∧ 0 ≤ (hostL t).2.1 then ((3, (hostL t).1, (hostL t).2.1, [], [], false), 0) else badT)
  else if m = [79, 80, 84, 73, 79, 78, 83] ∧ t = [42] then ((4, [], -1, [], [], false), 0)
  else if 7 ≤ t.length ∧ lowL (t.take 7) = httpL then
    (if (hostL ((t.drop 7).take (authL (t.drop 7)))).2.2 = 0 then finT 2 (hostL ((t.drop 7).take (authL (t.drop 7)))).1 (hostL ((t.drop 7).take (authL (t.drop 7)))).2.1 ((t.drop 7).drop (authL (t.drop 7))) else badT)
  else if t.head? = some 47 then finT 1 [] (-1) t
  else badT
theorem local_none (r : List UInt8) (h : 63 ∉ r) : localL r = if r.all (mayB false) = true then some (r, [], false) else none := by
  have e : r.takeWhile (fun b => b != 63) = r := by
    have := tw_eq (fun b => b != 63) r r.length (Nat.le_refl _) (by rw [List.take_length, List.all_eq_true]; intro x hx; simp only [bne_iff_ne]; intro e; exact h (e ▸ hx)) (fun h => by omega)
    rw [this, List.take_length]
  unfold localL
  dsimp only
  rw [e, List.drop_eq_nil_of_le (by omega)]
  simp
theorem local_some (p q : List UInt8) (h : 63 ∉ p) : localL (p ++ 63 :: q) = if p.all (mayB false) = true ∧ q.all (mayB true) = true then some (p, q, true) else none := by
  have e : (p ++ 63 :: q).takeWhile (fun b => b != 63) = p := by
    have := tw_eq (fun b => b != 63) (p ++ 63 :: q) p.length (by simp) (by rw [List.take_left, List.all_eq_true]; intro x hx; simp only [bne_iff_ne]; intro e; exact h (e ▸ hx)) (fun h => by rw [List.getElem_append_right (Nat.le_refl _)]; simp)
    rw [this, List.take_left]
  unfold localL
  dsimp only
  rw [e]
  have e2 : (p ++ 63 :: q).drop (p.length + 1) = q := by
    rw [List.drop_append]
    simp [List.drop_eq_nil_of_le]
  rw [e2]
  have e3 : decide (p.length < (p ++ 63 :: q).length) = true := by simp
  rw [e3]
end Go.Proofs.YtolfpfdmgelhhaaDoor
