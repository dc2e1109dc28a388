/-
The reference's Trim.
-/
import Derived.Test.YtemdgilifnhdpaaGreatDoorAsc3
set_option linter.unusedVariables false
set_option linter.unusedSimpArgs false
namespace Go.Proofs.YtemdgilifnhdpaaGreatDoor
open Go.RowKit

def blk (b : UInt8) : Bool := blkB b.toNat
theorem trimL_eq (l : List UInt8) : trimL l = ((l.dropWhile blk).reverse.dropWhile blk).reverse := by
  have hp : (fun b => ([32, 9] : List UInt8).contains b) = blk := funext blk_mem
  unfold trimL Lib.trimS Lib.trimLeftS Lib.trimRightS
  rw [hp]
  exact trim_comm blk l
theorem cons_len (b : UInt8) (t : List UInt8) : (str (b :: t)).size = t.length + 1 := by simp

theorem nil_or_snoc (l : List UInt8) : l = [] ∨ ∃ t b, l = t ++ [b] := by
  rcases List.eq_nil_or_concat l with h | ⟨t, b, h⟩
  · exact .inl h
  · exact .inr ⟨t, b, by simpa using h⟩
def strLen : Value → Nat | .string s => s.size | _ => 0
end Go.Proofs.YtemdgilifnhdpaaGreatDoor
