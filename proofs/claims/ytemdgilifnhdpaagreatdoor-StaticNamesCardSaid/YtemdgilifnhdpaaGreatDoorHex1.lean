/-
Numbers written to the base 16: plain words, and the reference's HexDigits.
-/
import Derived.Test.YtemdgilifnhdpaaGreatDoorDig
set_option linter.unusedVariables false
set_option linter.unusedSimpArgs false
namespace Go.Proofs.YtemdgilifnhdpaaGreatDoor
open Go.RowKit

def hxB (n : Nat) : UInt8 := if n < 10 then UInt8.ofNat (48 + n) else UInt8.ofNat (87 + n)
def hxL (n : Nat) : List UInt8 := if h : n < 16 then [hxB n] else hxL (n / 16) ++ [hxB (n % 16)]
termination_by n
decreasing_by omega
theorem hxL_lt {n : Nat} (h : n < 16) : hxL n = [hxB n] := by rw [hxL, dif_pos h]
theorem hxL_ge {n : Nat} (h : ¬ n < 16) : hxL n = hxL (n / 16) ++ [hxB (n % 16)] := by rw [hxL, dif_neg h]
theorem hx_step {N : Nat} {y : Nat} {out : List UInt8} (h : hxL N = hxL y ++ out) (hy : ¬ y < 16) : hxL N = hxL (y / 16) ++ (hxB (y % 16) :: out) := by
  rw [h, hxL_ge hy]; simp
theorem hx_last {N : Nat} {y : Nat} {out : List UInt8} (h : hxL N = hxL y ++ out) (hy : y < 16) : hxL N = hxB (y % 16) :: out := by
  rw [h, hxL_lt hy, Nat.mod_eq_of_lt hy]; rfl
/-- At most so many digits. -/
theorem hx_len : ∀ (k n : Nat), n < 16 ^ (k + 1) → (hxL n).length ≤ k + 1
  | 0, n, h => by rw [hxL_lt (by simpa using h)]; simp
  | k + 1, n, h => by
    by_cases hn : n < 16
    · rw [hxL_lt hn]; simp
    · rw [hxL_ge hn, List.length_append]
      have := hx_len k (n / 16) (by rw [Nat.pow_succ] at h; omega)
      simp only [List.length_cons, List.length_nil]; omega
theorem hx_pos (n : Nat) : 0 < (hxL n).length := by
  by_cases hn : n < 16
  · rw [hxL_lt hn]; simp
  · rw [hxL_ge hn]; simp
theorem hx_cut : ∀ d : Fin 16, ((⟨#[48, 49, 50, 51, 52, 53, 54, 55, 56, 57, 97, 98, 99, 100, 101, 102]⟩ : ByteArray).extract d.val (d.val + 1)) = str [hxB d.val] := by decide +kernel

/-- A number as a word of 64 bits. -/
def u64N (n : Int) : Nat := (n % 18446744073709551616).toNat
theorem u64N_lt (n : Int) : u64N n < 18446744073709551616 := by unfold u64N; omega
/-- The text to the base 16. -/
def hexB (n : Int) : ByteArray := str (hxL (u64N n))

set_option maxRecDepth 100000 in
set_option maxHeartbeats 1000000 in
theorem rHexDigits_c (n : Int) (w : World) :
    Calls Tryz.prog 26 #[.int .i64 n] w (Gives (.string (hexB n)) w) := by
  have hN := u64N_lt n
  have hl := hx_len 15 (u64N n) (by omega)
  have hw : IntKind.u64.wrap n = (u64N n : Int) := by unfold u64N; simp [IntKind.wrap, IntKind.signed, IntKind.bits]; omega
  unfold hexB
  generalize u64N n = N at *
  go_enter Tryz.func26, Tryz.ntmps26
  go_wp2
  go_loopw [3, 5] (fun i o wr => ∃ (y : Nat) (out : List UInt8), i = .int .u64 y ∧ y ≤ N ∧ o = .string (str out) ∧ hxL N = hxL y ++ out ∧ Ext w wr) (fun i _ _ => (intOf i).toNat)
  case atStart => exact ⟨N, [], by first | rfl | (rw [hw]), Nat.le_refl _, rfl, by simp, Ext.rfl' _⟩
  case round =>
    obtain ⟨y, out, rfl, hy, rfl, hd, hext⟩ := hrel
    have hol : out.length ≤ 16 := by
      have h2 := congrArg List.length hd
      rw [List.length_append] at h2
      omega
    have hcut : (⟨#[48, 49, 50, 51, 52, 53, 54, 55, 56, 57, 97, 98, 99, 100, 101, 102]⟩ : ByteArray).extract (y % 16) (y % 16 + 1) ++ str out = str (hxB (y % 16) :: out) := by
      rw [hx_cut ⟨y % 16, Nat.mod_lt _ (by omega)⟩, str_app]; rfl
    have HS := Lib.hid fun h : ¬ y < 16 => hx_step hd h
    have HL := Lib.hid fun h : y < 16 => hx_last hd h
    have HC := Lib.hid hcut
    clear hd hcut
    by_cases hy0 : y < 16
    · go_wp2
      go_ret
      exact ⟨ret_val (by rw [HL.out hy0]; exact congrArg Value.string HC.out), by (repeat (first | exact Ext.rfl' _ | assumption | refine Ext.dr ?_ | refine Ext.drN ?_ _ | refine Ext.al ?_ _ | refine Ext.st ?_ (by simp) _ | refine Ext.tr ?_ (by assumption)))⟩
    · go_wp2
      go_roundw
      case rel => exact ⟨y / 16, hxB (y % 16) :: out, by go_num, by omega, congrArg Value.string HC.out, HS.out hy0, by (repeat (first | exact Ext.rfl' _ | assumption | refine Ext.dr ?_ | refine Ext.drN ?_ _ | refine Ext.al ?_ _ | refine Ext.st ?_ (by simp) _ | refine Ext.tr ?_ (by assumption)))⟩
      case measure => simp [intOf]; omega
end Go.Proofs.YtemdgilifnhdpaaGreatDoor
