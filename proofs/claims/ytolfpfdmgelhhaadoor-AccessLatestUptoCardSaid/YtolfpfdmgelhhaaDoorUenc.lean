/-
Bytes that do not stand for themselves, written by % and two digits: the program's Encode and the reference's.
-/
import Derived.Test.YtolfpfdmgelhhaaDoorUdec
import Derived.Test.YtolfpfdmgelhhaaDoorBld
set_option linter.unusedVariables false
set_option linter.unusedSimpArgs false
namespace Go.Proofs.YtolfpfdmgelhhaaDoor
open Go.RowKit

theorem hexD_cut0 : ∀ d : Fin 16, ((⟨#[48, 49, 50, 51, 52, 53, 54, 55, 56, 57, 65, 66, 67, 68, 69, 70]⟩ : ByteArray).extract d.val (d.val + 1)) = str [hexD d.val] := by decide +kernel
theorem hexD_cut (n : Nat) (h : n < 16) : ((⟨#[48, 49, 50, 51, 52, 53, 54, 55, 56, 57, 65, 66, 67, 68, 69, 70]⟩ : ByteArray).extract n (n + 1)) = str [hexD n] := hexD_cut0 ⟨n, h⟩
theorem and15_0 : ∀ b : Fin 256, bits .and .u8 (b.val : Int) 15 = (b.val : Int) % 16 := by decide +kernel
theorem and15 (b : UInt8) : bits .and .u8 (b.toNat : Int) 15 = (b.toNat : Int) % 16 := and15_0 ⟨b.toNat, UInt8.toNat_lt b⟩
theorem enc_take (l : List UInt8) (k : Nat) (h : k < l.length) : encL (l.take (k + 1)) = encL (l.take k) ++ encB l[k] := by
  unfold encL; rw [List.take_succ_eq_append_getElem h, List.flatMap_append]; simp

theorem hexD_at0 : ∀ d : Fin 16, ((⟨#[48, 49, 50, 51, 52, 53, 54, 55, 56, 57, 65, 66, 67, 68, 69, 70]⟩ : ByteArray)[d.val]'(show d.val < 16 from d.isLt)) = hexD d.val := by decide +kernel
theorem hexD_at (n : Nat) (h : n < 16) : ((⟨#[48, 49, 50, 51, 52, 53, 54, 55, 56, 57, 65, 66, 67, 68, 69, 70]⟩ : ByteArray)[n]'(show n < 16 from h)) = hexD n := hexD_at0 ⟨n, h⟩

end Go.Proofs.YtolfpfdmgelhhaaDoor
