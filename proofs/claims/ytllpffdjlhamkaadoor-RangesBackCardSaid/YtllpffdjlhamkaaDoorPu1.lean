/-
Rows of digits to the bases 10 and 16, read by the library's ParseUint at 63 bits.
-/
import Derived.Test.YtllpffdjlhamkaaDoorAsc12
set_option linter.unusedVariables false
set_option linter.unusedSimpArgs false
namespace Go.Proofs.YtllpffdjlhamkaaDoor
open Go.RowKit

/-- The worth of a digit (of small letters), and of a row of digits. -/
def digV (b : UInt8) : Nat := if b.toNat ≤ 57 then b.toNat - 48 else b.toNat - 87
def isDig (B : Nat) (b : UInt8) : Bool := ((decide (48 ≤ b.toNat) && decide (b.toNat ≤ 57)) || (decide (97 ≤ b.toNat) && decide (b.toNat ≤ 102))) && decide (digV b < B)
def valF (B : Nat) (a : Nat) (l : List UInt8) : Nat := l.foldl (fun a b => a * B + digV b) a
def valL (B : Nat) (l : List UInt8) : Nat := valF B 0 l
theorem valF_cons (B a : Nat) (b : UInt8) (l : List UInt8) : valF B a (b :: l) = valF B (a * B + digV b) l := rfl
theorem valF_ge (B : Nat) (hB : 1 ≤ B) : ∀ (l : List UInt8) (a : Nat), a ≤ valF B a l
  | [], a => Nat.le_refl _
  | b :: l, a => by
    rw [valF_cons]
    have h1 := valF_ge B hB l (a * B + digV b)
    have h2 : a ≤ a * B := Nat.le_mul_of_pos_right a hB
    omega
/-- What ParseUint answers: the number, or the greatest and an error. -/
def puV (t : TypeId) (n : Nat) : Value := if n < 9223372036854775808 then .tuple #[.int .u64 (n : Int), .nilIface] else .tuple #[.int .u64 9223372036854775807, .iface t (.int .i64 1)]
theorem puV_lt {t : TypeId} {n : Nat} (h : n < 9223372036854775808) : puV t n = .tuple #[.int .u64 (n : Int), .nilIface] := by unfold puV; rw [if_pos h]
theorem puV_ge {t : TypeId} {n : Nat} (h : 9223372036854775808 ≤ n) : puV t n = .tuple #[.int .u64 9223372036854775807, .iface t (.int .i64 1)] := by unfold puV; rw [if_neg (by omega)]
theorem or32 : ∀ c : Nat, c < 256 → 97 ≤ c → c ≤ 102 → bits .or .u8 (c : Int) 32 = (c : Int) := by decide +kernel
theorem pulow_c (c : Int) (w : World) : Calls Tryd.prog 87 #[.int .u8 c] w fun e w' => e = .returned (.int .u8 (bits .or .u8 c 32)) ∧ w = w' := by
  go_enter Tryd.func87, Tryd.ntmps87
  go_wp2
  go_ret
  exact ⟨rfl, rfl⟩
end Go.Proofs.YtllpffdjlhamkaaDoor
