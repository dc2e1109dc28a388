/-
Numbers written to the base 16: plain words, and the reference's HexDigits.
-/
import Derived.Test.YtllpffdjlhamkaaDoorDig
set_option linter.unusedVariables false
set_option linter.unusedSimpArgs false
namespace Go.Proofs.YtllpffdjlhamkaaDoor
open Go.RowKit

def hxB (n : Nat) : UInt8 := if n < 10 then UInt8.ofNat (48 + n) else UInt8.ofNat (87 + n)
def hxL (n : Nat) : List UInt8 := if h : n < 16 then [hxB n] else hxL (n / 16) ++ [hxB (n % 16)]
termination_by n
decreasing_by omega
theorem hxL_lt {n : Nat} (h : n < 16) : hxL n = [hxB n] := by rw [hxL, dif_pos h]
theorem hxL_ge {n : Nat} (h : ¬ n < 16) : hxL n = hxL (n / 16) ++ [hxB (n % 16)] := by rw [hxL, dif_neg h]
theorem hx_step {N : Nat} {y : Nat} {out : List UInt8} (h : hxL N = hxL y ++ out) (hy : ¬ y < 16) : hxL N = hxL (y / 16) ++ (hxB (y % 16) :: out) := by
  rw [h, hxL_ge hy]; simp
theorem hx_last {N : Nat} {y : Nat} {out : List UInt8} (h : hxL N = hxL y ++ out) (hy : y < 16) : hxL N = hxB (y % 16) :: out := by
  rw [h, hxL_lt hy, Nat.mod_eq_of_lt hy]; rfl
/-- At most so many digits. -/
theorem hx_len : ∀ (k n : Nat), n < 16 ^ (k + 1) → (hxL n).length ≤ k + 1
  | 0, n, h => by rw [hxL_lt (by simpa using h)]; simp
  | k + 1, n, h => by
    by_cases hn : n < 16
    · rw [hxL_lt hn]; simp
    · rw [hxL_ge hn, List.length_append]
      have := hx_len k (n / 16) (by rw [Nat.pow_succ] at h; omega)
      simp only [List.length_cons, List.length_nil]; omega
theorem hx_pos (n : Nat) : 0 < (hxL n).length := by
  by_cases hn : n < 16
  · rw [hxL_lt hn]; simp
  · rw [hxL_ge hn]; simp
theorem hx_cut : ∀ d : Fin 16, ((⟨#[48, 49, 50, 51, 52, 53, 54, 55, 56, 57, 97, 98, 99, 100, 101, 102]⟩ : ByteArray).extract d.val (d.val + 1)) = str [hxB d.val] := by decide +kernel

/-- A number as a word of 64 bits. -/
def u64N (n : Int) : Nat := (n % 18446744073709551616).toNat
theorem u64N_lt (n : Int) : u64N n < 18446744073709551616 := by unfold u64N; omega
/-- The text to the base 16. -/
def hexB (n : Int) : ByteArray := str (hxL (u64N n))

end Go.Proofs.YtllpffdjlhamkaaDoor
