/-
A closed fact of the program's ties: the list, and what stands ahead of the run.
-/
import Derived.Test.YtieheagfcmcbiaaGreatDoorRows
import Derived.LaidByTextLater
import Derived.SevenTiedAt
import Derived.KernelRfl
namespace Go.Proofs.YtieheagfcmcbiaaGreatDoor
open Go
def tieL : List (String × DataW Unit) := [("unicode/utf8.acceptRanges", Rows.laid_unicode_utf8_acceptRanges), ("strconv.ErrSyntax", Rows.laid_strconv_ErrSyntax), ("strconv.ErrRange", Rows.laid_strconv_ErrRange), ("internal/strconv.uint64pow10", Rows.laid_internal_strconv_uint64pow10), ("math/bits.deBruijn32tab", Rows.laid_math_bits_deBruijn32tab), ("math/bits.deBruijn64tab", Rows.laid_math_bits_deBruijn64tab)]
theorem tie_a1 : Tryz.prog.worded (varsWordLater true) = true := by kernel_rfl
theorem tie_a2 : Tryz.prog.worded (varsWordLater !true) = false := by kernel_rfl
theorem tie_a3 : Tryz.prog.worded rootWordLater = true := by kernel_rfl
theorem tie_a4 : tieL.map (fun x => Tryz.prog.kindOfLater x.1) = ([.data, .sentinel, .sentinel, .data, .data, .data] : List LaidKind).map some := by kernel_rfl
theorem tie_a5 : (Tryz.prog.funcNamed "gosem.cut.vars").isSome = true := by kernel_rfl
end Go.Proofs.YtieheagfcmcbiaaGreatDoor
