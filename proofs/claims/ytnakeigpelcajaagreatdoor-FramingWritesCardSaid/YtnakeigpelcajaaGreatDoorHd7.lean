/-
Head's version: its digit.
-/
import Derived.Test.YtnakeigpelcajaaGreatDoorHd6
import Derived.Test.YtnakeigpelcajaaGreatDoorShelf
set_option linter.unusedVariables false
set_option linter.unusedSimpArgs false
namespace Go.Proofs.YtnakeigpelcajaaGreatDoor
open Go.RowKit

def httpL : List UInt8 := [72, 84, 84, 80, 47, 49, 46]
/-- The digit of a version, and whether it is one. -/
def verH (l : List UInt8) : Int × Bool :=
  match l with
  | [72, 84, 84, 80, 47, 49, 46, d] => if 48 ≤ d.toNat ∧ d.toNat ≤ 57 then ((d.toNat : Int) - 48, true) else (0, false)
  | _ => (0, false)
theorem ver_no {l : List UInt8} (hn : ∀ r, l ≠ httpL ++ r) : verH l = (0, false) := by
  unfold verH
  split
  · rename_i d
    exact absurd rfl (hn [d])
  · rfl
theorem ver_len {r : List UInt8} (h : r.length ≠ 1) : verH (httpL ++ r) = (0, false) := by
  unfold verH
  split
  · rename_i d hd
    have h2 := congrArg List.length hd
    simp [httpL] at h2
    omega
  · rfl
theorem ver_one (d : UInt8) : verH (httpL ++ [d]) = if 48 ≤ d.toNat ∧ d.toNat ≤ 57 then ((d.toNat : Int) - 48, true) else (0, false) := rfl
end Go.Proofs.YtnakeigpelcajaaGreatDoor
