/-
Numbers to a base: plain words, and the reference's worth of a digit.
-/
import Derived.Test.YtllpffdjlhamkaaDoorPu1
set_option linter.unusedVariables false
set_option linter.unusedSimpArgs false
namespace Go.Proofs.YtllpffdjlhamkaaDoor
open Go.RowKit

def worthV (B : Int) (c : Nat) : Int :=
  let n : Int := if 48 ≤ c ∧ c ≤ 57 then (c : Int) - 48 else if 97 ≤ c ∧ c ≤ 102 then (c : Int) - 87 else if 65 ≤ c ∧ c ≤ 70 then (c : Int) - 55 else -1
  if B ≤ n then -1 else n
/-- A number to a base, at most most, or a fault. -/
def numL (B most : Nat) (l : List UInt8) : Int × Int :=
  if l = [] ∨ (lowL l).all (isDig B) = false then (0, 21) else if valL B (lowL l) ≤ most then ((valL B (lowL l) : Int), 0) else (0, 11)

theorem worth_dig (B : Nat) (hB : B ≤ 16) : ∀ c : Nat, c < 256 → (isDig B (lowB c.toUInt8) = true ∧ worthV B c = (digV (lowB c.toUInt8) : Int) ∧ digV (lowB c.toUInt8) < B) ∨ (isDig B (lowB c.toUInt8) = false ∧ worthV B c = -1) := by
  have : ∀ B : Fin 17, ∀ c : Fin 256, (isDig B (lowB c.val.toUInt8) = true ∧ worthV B.val c = (digV (lowB c.val.toUInt8) : Int) ∧ digV (lowB c.val.toUInt8) < B.val) ∨ (isDig B.val (lowB c.val.toUInt8) = false ∧ worthV B.val c = -1) := by decide +kernel
  intro c hc
  exact this ⟨B, by omega⟩ ⟨c, hc⟩
theorem worth_u8 (B : Nat) (hB : B ≤ 16) (b : UInt8) : (isDig B (lowB b) = true ∧ worthV B b.toNat = (digV (lowB b) : Int) ∧ digV (lowB b) < B) ∨ (isDig B (lowB b) = false ∧ worthV B b.toNat = -1) := by
  have := worth_dig B hB b.toNat (UInt8.toNat_lt b)
  simpa using this

end Go.Proofs.YtllpffdjlhamkaaDoor
