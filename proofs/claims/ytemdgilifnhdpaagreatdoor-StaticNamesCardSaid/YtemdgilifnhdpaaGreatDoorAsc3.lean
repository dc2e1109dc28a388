/-
Blanks at the ends of texts: the program's Trim and the reference's.
-/
import Derived.Test.YtemdgilifnhdpaaGreatDoorBytes
import Derived.Test.YtemdgilifnhdpaaGreatDoorShelf
import Derived.Shelf.Strings.SlTrimAscii
set_option linter.unusedVariables false
set_option linter.unusedSimpArgs false
namespace Go.Proofs.YtemdgilifnhdpaaGreatDoor
open Go.RowKit

@[simp] theorem str_get (l : List UInt8) (i : Nat) (h : i < (str l).size) : (str l)[i] = l[i]'(by simpa using h) := rfl
@[simp] theorem str_extract (l : List UInt8) (a b : Nat) : (str l).extract a b = str ((l.take b).drop a) := by
  have h : ((str l).extract a b).data.toList = (l.take b).drop a := by
    rw [Lib.extract_data, str_data, List.drop_take]
  rw [← str_toList ((str l).extract a b), h]

/-- A blank. -/
def blkB (c : Nat) : Bool := decide (c = 9) || decide (c = 32)
def trimL (l : List UInt8) : List UInt8 := Lib.trimS l [32, 9]
theorem blk_mem (b : UInt8) : [32, 9].contains b = blkB b.toNat := by
  have : ∀ c, c < 256 → ([32, 9] : List UInt8).contains c.toUInt8 = blkB c := by decide +kernel
  have h := this b.toNat (UInt8.toNat_lt _)
  simpa using h
theorem Trim_c (l : List UInt8) (hs : l.length ≤ maxLen) (w : World) : Calls Tryz.prog 132 #[.string (str l)] w (Gives (.string (str (trimL l))) w) := by
  unfold maxLen at hs
  go_enter Tryz.func132, Tryz.ntmps132
  go_wp2_with fail
  refine (Any.strings_Trim_laid Tryz.lays160 (by kernel_rfl) (str l) ⟨#[32, 9]⟩ _ (by rw [str_size]; omega) (by decide) (ascii_of_all (by decide))).mono ?_
  rintro e w1 ⟨rfl, hx⟩
  go_wp2
  go_ret
  exact ⟨rfl, hx⟩
theorem dw_nil {p : UInt8 → Bool} : ∀ {l : List UInt8}, l.dropWhile p = [] ↔ ∀ x ∈ l, p x = true
  | [] => by simp
  | a :: t => by
    by_cases h : p a = true
    · rw [List.dropWhile_cons_of_pos h, dw_nil (l := t)]; simp [h]
    · rw [List.dropWhile_cons_of_neg h]; simp [h]
/-- Left, then right, is as right, then left. -/
theorem trim_comm (p : UInt8 → Bool) (l : List UInt8) : (((l.reverse.dropWhile p).reverse).dropWhile p) = (((l.dropWhile p).reverse.dropWhile p).reverse) := by
  by_cases h : l.all p = true
  · have h1 : l.dropWhile p = [] := dw_nil.2 fun x hx => List.all_eq_true.1 h x hx
    have h2 : l.reverse.dropWhile p = [] := dw_nil.2 fun x hx => List.all_eq_true.1 h x (List.mem_reverse.1 hx)
    rw [h1, h2]; rfl
  · induction l with
    | nil => simp at h
    | cons a t ih =>
      by_cases ha : p a = true
      · have ht : ¬ t.all p = true := by simpa [ha] using h
        have ih := ih ht
        rw [List.dropWhile_cons_of_pos ha, ← ih]
        have hne : (t.reverse.dropWhile p) ≠ [] := by
          intro h0
          apply ht
          rw [dw_nil] at h0
          exact List.all_eq_true.2 fun x hx => h0 x (List.mem_reverse.2 hx)
        rw [List.reverse_cons, List.dropWhile_append, if_neg (by simpa using hne), List.reverse_append]
        simp [ha]
      · rw [List.dropWhile_cons_of_neg ha]
        have e : ((a :: t).reverse.dropWhile p).reverse = a :: (t.reverse.dropWhile p).reverse := by
          rw [List.reverse_cons, List.dropWhile_append]
          split
          · rename_i h0
            have h0 : t.reverse.dropWhile p = [] := by simpa using h0
            rw [h0]
            simp [ha]
          · simp
        rw [e, List.dropWhile_cons_of_neg ha]
end Go.Proofs.YtemdgilifnhdpaaGreatDoor
