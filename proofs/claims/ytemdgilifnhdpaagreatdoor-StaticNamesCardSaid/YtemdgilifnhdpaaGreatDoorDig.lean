/-
Numbers written to the base 10: the program's Digits and the reference's give the same text.
-/
import Derived.Test.YtemdgilifnhdpaaGreatDoorProg
import Derived.Test.YtemdgilifnhdpaaGreatDoorBytes
import Derived.Test.YtemdgilifnhdpaaGreatDoorShelf
import Derived.Lib.AppendIntMem
import Derived.Lib.ItoaLen
import Derived.Lib.ItoaMem
set_option linter.unusedVariables false
set_option linter.unusedSimpArgs false
namespace Go.Proofs.YtemdgilifnhdpaaGreatDoor
open Go.RowKit

/-- The library's table of powers of ten lies in this world. -/
def Pow (w : World) : Prop := Lib.TabIs Tryz.prog w "internal/strconv.uint64pow10" .u64 Lib.pow10Tab
theorem gPow : Tryz.prog.globalNamed "internal/strconv.uint64pow10" = some 1 := by kernel_rfl
theorem Pow.ext {w w' : World} (h : Pow w) (e : Ext w w') : Pow w' := by
  have h0 := h.cell gPow 0 (by rw [Lib.pow10Tab_length]; omega)
  exact var?_below e gPow (lt_of_cell h0) h

/-- The text of a number. -/
def decB (n : Int) : ByteArray := str (Lib.itoa n)

theorem Digits_c (n : Int) (w : World) (h : Pow w) (h0 : -9223372036854775808 ≤ n) (h1 : n ≤ 9223372036854775807) :
    Calls Tryz.prog 71 #[.int .i64 n] w (Gives (.string (decB n)) w) := by
  go_enter Tryz.func71, Tryz.ntmps71
  go_wp2_with (go_at_call 101; refine (Tryz.strconv_Itoa n h0 h1 _ h).mono ?_; rintro e w1 ⟨rfl, k, os, rfl⟩)
  go_ret
  exact ⟨rfl, Lib.below_grow _ _ (Nat.le_refl _) _ _⟩

theorem dec_step {N : Nat} {y : Nat} {out : List UInt8} (h : Lib.decDigits N = Lib.decDigits y ++ out) (hy : ¬ y < 10) :
    Lib.decDigits N = Lib.decDigits (y / 10) ++ (UInt8.ofNat (48 + y % 10) :: out) := by
  rw [h, Lib.decDigits, dif_neg hy]; simp
theorem dec_last {N : Nat} {y : Nat} {out : List UInt8} (h : Lib.decDigits N = Lib.decDigits y ++ out) (hy : y < 10) :
    Lib.decDigits N = UInt8.ofNat (48 + y % 10) :: out := by
  rw [h, Lib.decDigits, dif_pos hy, Nat.mod_eq_of_lt hy]; rfl

end Go.Proofs.YtemdgilifnhdpaaGreatDoor
