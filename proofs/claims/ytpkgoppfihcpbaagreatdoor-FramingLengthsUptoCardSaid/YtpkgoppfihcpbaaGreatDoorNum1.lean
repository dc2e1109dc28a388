/-
Numbers to a base: plain words, and the reference's worth of a digit.
-/
import Derived.Test.YtpkgoppfihcpbaaGreatDoorPu1
set_option linter.unusedVariables false
set_option linter.unusedSimpArgs false
namespace Go.Proofs.YtpkgoppfihcpbaaGreatDoor
open Go.RowKit

def worthV (B : Int) (c : Nat) : Int :=
  let n : Int := if 48 ≤ c ∧ c ≤ 57 then (c : Int) - 48 else if 97 ≤ c ∧ c ≤ 102 then (c : Int) - 87 else if 65 ≤ c ∧ c ≤ 70 then (c : Int) - 55 else -1
  if B ≤ n then -1 else n
/-- A number to a base, at most most, or a fault. -/
def numL (B most : Nat) (l : List UInt8) : Int × Int :=
  if l = [] ∨ (lowL l).all (isDig B) = false then (0, 21) else if valL B (lowL l) ≤ most then ((valL B (lowL l) : Int), 0) else (0, 11)

theorem worth_dig (B : Nat) (hB : B ≤ 16) : ∀ c : Nat, c < 256 → (isDig B (lowB c.toUInt8) = true ∧ worthV B c = (digV (lowB c.toUInt8) : Int) ∧ digV (lowB c.toUInt8) < B) ∨ (isDig B (lowB c.toUInt8) = false ∧ worthV B c = -1) := by
  have : ∀ B : Fin 17, ∀ c : Fin 256, (isDig B (lowB c.val.toUInt8) = true ∧ worthV B.val c = (digV (lowB c.val.toUInt8) : Int) ∧ digV (lowB c.val.toUInt8) < B.val) ∨ (isDig B.val (lowB c.val.toUInt8) = false ∧ worthV B.val c = -1) := by decide +kernel
  intro c hc
  exact this ⟨B, by omega⟩ ⟨c, hc⟩
theorem worth_u8 (B : Nat) (hB : B ≤ 16) (b : UInt8) : (isDig B (lowB b) = true ∧ worthV B b.toNat = (digV (lowB b) : Int) ∧ digV (lowB b) < B) ∨ (isDig B (lowB b) = false ∧ worthV B b.toNat = -1) := by
  have := worth_dig B hB b.toNat (UInt8.toNat_lt b)
  simpa using this

set_option maxRecDepth 100000 in
theorem worth_c (B : Int) (hB0 : 1 ≤ B) (hB1 : B ≤ 16) (c : Nat) (hc : c < 256) (w : World) :
    Calls Tryz.prog 68 #[.int .u8 (c : Int), .int .i64 B] w fun e w' => e = .returned (.int .i64 (worthV B c)) ∧ w = w' := by
  rcases (show c ≤ 47 ∨ (48 ≤ c ∧ c ≤ 57) ∨ (58 ≤ c ∧ c ≤ 64) ∨ (65 ≤ c ∧ c ≤ 70) ∨ (71 ≤ c ∧ c ≤ 96) ∨ (97 ≤ c ∧ c ≤ 102) ∨ 103 ≤ c from by omega) with h1 | ⟨h1, h2⟩ | ⟨h1, h2⟩ | ⟨h1, h2⟩ | ⟨h1, h2⟩ | ⟨h1, h2⟩ | h1
  · have e : worthV B c = if B ≤ (-1 : Int) then -1 else (-1 : Int) := by
      unfold worthV
      dsimp only
      repeat' split
      all_goals (first | rfl | omega)
    by_cases hB : B ≤ (-1 : Int)
    · rw [e, if_pos hB]
      clear e
      go_enter Tryz.func68, Tryz.ntmps68
      go_wp2
      all_goals go_ret
      all_goals exact ⟨rfl, rfl⟩
    · rw [e, if_neg hB]
      clear e
      go_enter Tryz.func68, Tryz.ntmps68
      go_wp2
      all_goals go_ret
      all_goals first | exact ⟨rfl, rfl⟩ | exact ⟨ret_int (by omega), rfl⟩
  · have e : worthV B c = if B ≤ ((c : Int) - 48) then -1 else ((c : Int) - 48) := by
      unfold worthV
      dsimp only
      repeat' split
      all_goals (first | rfl | omega)
    by_cases hB : B ≤ ((c : Int) - 48)
    · rw [e, if_pos hB]
      clear e
      go_enter Tryz.func68, Tryz.ntmps68
      go_wp2
      all_goals go_ret
      all_goals exact ⟨rfl, rfl⟩
    · rw [e, if_neg hB]
      clear e
      go_enter Tryz.func68, Tryz.ntmps68
      go_wp2
      all_goals go_ret
      all_goals first | exact ⟨rfl, rfl⟩ | exact ⟨ret_int (by omega), rfl⟩
  · have e : worthV B c = if B ≤ (-1 : Int) then -1 else (-1 : Int) := by
      unfold worthV
      dsimp only
      repeat' split
      all_goals (first | rfl | omega)
    by_cases hB : B ≤ (-1 : Int)
    · rw [e, if_pos hB]
      clear e
      go_enter Tryz.func68, Tryz.ntmps68
      go_wp2
      all_goals go_ret
      all_goals exact ⟨rfl, rfl⟩
    · rw [e, if_neg hB]
      clear e
      go_enter Tryz.func68, Tryz.ntmps68
      go_wp2
      all_goals go_ret
      all_goals first | exact ⟨rfl, rfl⟩ | exact ⟨ret_int (by omega), rfl⟩
  · have e : worthV B c = if B ≤ ((c : Int) - 55) then -1 else ((c : Int) - 55) := by
      unfold worthV
      dsimp only
      repeat' split
      all_goals (first | rfl | omega)
    by_cases hB : B ≤ ((c : Int) - 55)
    · rw [e, if_pos hB]
      clear e
      go_enter Tryz.func68, Tryz.ntmps68
      go_wp2
      all_goals go_ret
      all_goals exact ⟨rfl, rfl⟩
    · rw [e, if_neg hB]
      clear e
      go_enter Tryz.func68, Tryz.ntmps68
      go_wp2
      all_goals go_ret
      all_goals first | exact ⟨rfl, rfl⟩ | exact ⟨ret_int (by omega), rfl⟩
  · have e : worthV B c = if B ≤ (-1 : Int) then -1 else (-1 : Int) := by
      unfold worthV
      dsimp only
      repeat' split
      all_goals (first | rfl | omega)
    by_cases hB : B ≤ (-1 : Int)
    · rw [e, if_pos hB]
      clear e
      go_enter Tryz.func68, Tryz.ntmps68
      go_wp2
      all_goals go_ret
      all_goals exact ⟨rfl, rfl⟩
    · rw [e, if_neg hB]
      clear e
      go_enter Tryz.func68, Tryz.ntmps68
      go_wp2
      all_goals go_ret
      all_goals first | exact ⟨rfl, rfl⟩ | exact ⟨ret_int (by omega), rfl⟩
  · have e : worthV B c = if B ≤ ((c : Int) - 87) then -1 else ((c : Int) - 87) := by
      unfold worthV
      dsimp only
      repeat' split
      all_goals (first | rfl | omega)
    by_cases hB : B ≤ ((c : Int) - 87)
    · rw [e, if_pos hB]
      clear e
      go_enter Tryz.func68, Tryz.ntmps68
      go_wp2
      all_goals go_ret
      all_goals exact ⟨rfl, rfl⟩
    · rw [e, if_neg hB]
      clear e
      go_enter Tryz.func68, Tryz.ntmps68
      go_wp2
      all_goals go_ret
      all_goals first | exact ⟨rfl, rfl⟩ | exact ⟨ret_int (by omega), rfl⟩
  · have e : worthV B c = if B ≤ (-1 : Int) then -1 else (-1 : Int) := by
      unfold worthV
      dsimp only
      repeat' split
      all_goals (first | rfl | omega)
    by_cases hB : B ≤ (-1 : Int)
    · rw [e, if_pos hB]
      clear e
      go_enter Tryz.func68, Tryz.ntmps68
      go_wp2
      all_goals go_ret
      all_goals exact ⟨rfl, rfl⟩
    · rw [e, if_neg hB]
      clear e
      go_enter Tryz.func68, Tryz.ntmps68
      go_wp2
      all_goals go_ret
      all_goals first | exact ⟨rfl, rfl⟩ | exact ⟨ret_int (by omega), rfl⟩
end Go.Proofs.YtpkgoppfihcpbaaGreatDoor
