/-
Blanks at the ends of texts: the program's Trim and the reference's.
-/
import Derived.Test.YtmnohicojefhfaaGreatDoorBytes
import Derived.Test.YtmnohicojefhfaaGreatDoorShelf
import Derived.Shelf.Strings.SlTrimAscii
set_option linter.unusedVariables false
set_option linter.unusedSimpArgs false
namespace Go.Proofs.YtmnohicojefhfaaGreatDoor
open Go.RowKit

@[simp] theorem str_get (l : List UInt8) (i : Nat) (h : i < (str l).size) : (str l)[i] = l[i]'(by simpa using h) := rfl
@[simp] theorem str_extract (l : List UInt8) (a b : Nat) : (str l).extract a b = str ((l.take b).drop a) := by
  have h : ((str l).extract a b).data.toList = (l.take b).drop a := by
    rw [Lib.extract_data, str_data, List.drop_take]
  rw [← str_toList ((str l).extract a b), h]

/-- A blank. -/
def blkB (c : Nat) : Bool := decide (c = 9) || decide (c = 32)
def trimL (l : List UInt8) : List UInt8 := Lib.trimS l [32, 9]
theorem Trim_c (l : List UInt8) (hs : l.length ≤ maxLen) (w : World) : Calls Tryz.prog 128 #[.string (str l)] w (Gives (.string (str (trimL l))) w) := by
  unfold maxLen at hs
  go_enter Tryz.func128, Tryz.ntmps128
  go_wp2_with fail
  refine (Any.strings_Trim_laid Tryz.lays160 (by kernel_rfl) (str l) ⟨#[32, 9]⟩ _ (by rw [str_size]; omega) (by decide) (ascii_of_all (by decide))).mono ?_
  rintro e w1 ⟨rfl, hx⟩
  go_wp2
  go_ret
  exact ⟨rfl, hx⟩
theorem dw_nil {p : UInt8 → Bool} : ∀ {l : List UInt8}, l.dropWhile p = [] ↔ ∀ x ∈ l, p x = true
  | [] => by simp
  | a :: t => by
    by_cases h : p a = true
    · rw [List.dropWhile_cons_of_pos h, dw_nil (l := t)]; simp [h]
    · rw [List.dropWhile_cons_of_neg h]; simp [h]
end Go.Proofs.YtmnohicojefhfaaGreatDoor
