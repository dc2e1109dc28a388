/-
Which texts are tokens and which are values of fields: the reference's loops.
-/
import Derived.Test.YtnakeigpelcajaaGreatDoorAsc2
import Derived.Test.YtnakeigpelcajaaGreatDoorAsc4
set_option linter.unusedVariables false
set_option linter.unusedSimpArgs false
namespace Go.Proofs.YtnakeigpelcajaaGreatDoor
open Go.RowKit

theorem al0 : ∀ c, c < 256 → (c ≤ 47 ∨ (58 ≤ c ∧ c ≤ 64) ∨ (91 ≤ c ∧ c ≤ 96) ∨ 123 ≤ c) → alnumB c = false := by decide +kernel
theorem al1 : ∀ c, c < 256 → ((48 ≤ c ∧ c ≤ 57) ∨ (65 ≤ c ∧ c ≤ 90) ∨ (97 ≤ c ∧ c ≤ 122)) → alnumB c = true := by decide +kernel
theorem letter_c (c : Nat) (hc : c < 256) (w : World) : Calls Tryz.prog 23 #[.int .u8 (c : Int)] w fun e w' => e = .returned (.bool (alnumB c)) ∧ w = w' := by
  rcases (show c ≤ 47 ∨ (48 ≤ c ∧ c ≤ 57) ∨ (58 ≤ c ∧ c ≤ 64) ∨ (65 ≤ c ∧ c ≤ 90) ∨ (91 ≤ c ∧ c ≤ 96) ∨ (97 ≤ c ∧ c ≤ 122) ∨ 123 ≤ c from by omega) with hiv | hiv | hiv | hiv | hiv | hiv | hiv
  · have hlo : 0 ≤ c := by omega
    have hhi : c ≤ 47 := by omega
    rw [al0 c hc (by omega)]
    clear hiv
    go_enter Tryz.func23, Tryz.ntmps23
    go_wp2
    go_ret
    first | exact ⟨rfl, rfl⟩ | exact ⟨ret_bool (by simp only [Bool.or_eq_false_iff, Bool.or_eq_true, decide_eq_true_eq, decide_eq_false_iff_not]; omega), rfl⟩
  · have hlo : 48 ≤ c := by omega
    have hhi : c ≤ 57 := by omega
    rw [al1 c hc (by omega)]
    clear hiv
    go_enter Tryz.func23, Tryz.ntmps23
    go_wp2
    go_ret
    first | exact ⟨rfl, rfl⟩ | exact ⟨ret_bool (by simp only [Bool.or_eq_false_iff, Bool.or_eq_true, decide_eq_true_eq, decide_eq_false_iff_not]; omega), rfl⟩
  · have hlo : 58 ≤ c := by omega
    have hhi : c ≤ 64 := by omega
    rw [al0 c hc (by omega)]
    clear hiv
    go_enter Tryz.func23, Tryz.ntmps23
    go_wp2
    go_ret
    first | exact ⟨rfl, rfl⟩ | exact ⟨ret_bool (by simp only [Bool.or_eq_false_iff, Bool.or_eq_true, decide_eq_true_eq, decide_eq_false_iff_not]; omega), rfl⟩
  · have hlo : 65 ≤ c := by omega
    have hhi : c ≤ 90 := by omega
    rw [al1 c hc (by omega)]
    clear hiv
    go_enter Tryz.func23, Tryz.ntmps23
    go_wp2
    go_ret
    first | exact ⟨rfl, rfl⟩ | exact ⟨ret_bool (by simp only [Bool.or_eq_false_iff, Bool.or_eq_true, decide_eq_true_eq, decide_eq_false_iff_not]; omega), rfl⟩
  · have hlo : 91 ≤ c := by omega
    have hhi : c ≤ 96 := by omega
    rw [al0 c hc (by omega)]
    clear hiv
    go_enter Tryz.func23, Tryz.ntmps23
    go_wp2
    go_ret
    first | exact ⟨rfl, rfl⟩ | exact ⟨ret_bool (by simp only [Bool.or_eq_false_iff, Bool.or_eq_true, decide_eq_true_eq, decide_eq_false_iff_not]; omega), rfl⟩
  · have hlo : 97 ≤ c := by omega
    have hhi : c ≤ 122 := by omega
    rw [al1 c hc (by omega)]
    clear hiv
    go_enter Tryz.func23, Tryz.ntmps23
    go_wp2
    go_ret
    first | exact ⟨rfl, rfl⟩ | exact ⟨ret_bool (by simp only [Bool.or_eq_false_iff, Bool.or_eq_true, decide_eq_true_eq, decide_eq_false_iff_not]; omega), rfl⟩
  · have hlo : 123 ≤ c := by omega
    have hhi : c ≤ 255 := by omega
    rw [al0 c hc (by omega)]
    clear hiv
    go_enter Tryz.func23, Tryz.ntmps23
    go_wp2
    go_ret
    first | exact ⟨rfl, rfl⟩ | exact ⟨ret_bool (by simp only [Bool.or_eq_false_iff, Bool.or_eq_true, decide_eq_true_eq, decide_eq_false_iff_not]; omega), rfl⟩

theorem tok_punct : ∀ c, c < 256 → (c = 33 ∨ c = 35 ∨ c = 36 ∨ c = 37 ∨ c = 38 ∨ c = 39 ∨ c = 42 ∨ c = 43 ∨ c = 45 ∨ c = 46 ∨ c = 94 ∨ c = 95 ∨ c = 96 ∨ c = 124 ∨ c = 126) → tokB c = true := by decide +kernel
theorem tok_alnum : ∀ c, c < 256 → ¬ (c = 33 ∨ c = 35 ∨ c = 36 ∨ c = 37 ∨ c = 38 ∨ c = 39 ∨ c = 42 ∨ c = 43 ∨ c = 45 ∨ c = 46 ∨ c = 94 ∨ c = 95 ∨ c = 96 ∨ c = 124 ∨ c = 126) → tokB c = alnumB c := by decide +kernel

set_option maxRecDepth 100000 in
set_option maxHeartbeats 2000000 in
theorem rToken_c (s : ByteArray) (hs : s.size ≤ maxLen) (w : World) :
    Calls Tryz.prog 14 #[.string s] w (Gives (.bool ((s.data.toList.all fun b => tokB b.toNat) && decide (0 < s.size))) w) := by
  unfold maxLen at hs
  go_enter Tryz.func14, Tryz.ntmps14
  go_wp2
  go_loopw [3] (fun i wr => ∃ k : Nat, k ≤ s.size ∧ i = .int .i64 k ∧ ((s.data.toList.take k).all fun b => tokB b.toNat) = true ∧ w = wr) (fun i _ => s.size - (intOf i).toNat)
  case atStart => exact ⟨0, Nat.zero_le _, rfl, rfl, rfl⟩
  case round =>
    obtain ⟨k, hk, rfl, hall, rfl⟩ := hrel
    have HA := Lib.hid hall
    clear hall
    by_cases hlt : k < s.size
    · have hsucc := all_take s tokB k hlt
      rw [HA.out] at hsucc
      have HS := Lib.hid hsucc
      clear hsucc
      have hbt := bt_get s k hlt
      have hlt2 := bt_lt s k
      by_cases hp : bt s k = 33 ∨ bt s k = 35 ∨ bt s k = 36 ∨ bt s k = 37 ∨ bt s k = 38 ∨ bt s k = 39 ∨ bt s k = 42 ∨ bt s k = 43 ∨ bt s k = 45 ∨ bt s k = 46 ∨ bt s k = 94 ∨ bt s k = 95 ∨ bt s k = 96 ∨ bt s k = 124 ∨ bt s k = 126
      · rcases hp with hp | hp | hp | hp | hp | hp | hp | hp | hp | hp | hp | hp | hp | hp | hp
        · have ht := Lib.hid (tok_punct (bt s k) (bt_lt s k) (by omega))
          go_wp2
          go_roundw
          case rel => exact ⟨k + 1, by omega, by go_num, by rw [HS.out, ht.out]; rfl, by trivial⟩
          case measure => simp [intOf]; omega
        · have ht := Lib.hid (tok_punct (bt s k) (bt_lt s k) (by omega))
          go_wp2
          go_roundw
          case rel => exact ⟨k + 1, by omega, by go_num, by rw [HS.out, ht.out]; rfl, by trivial⟩
          case measure => simp [intOf]; omega
        · have ht := Lib.hid (tok_punct (bt s k) (bt_lt s k) (by omega))
          go_wp2
          go_roundw
          case rel => exact ⟨k + 1, by omega, by go_num, by rw [HS.out, ht.out]; rfl, by trivial⟩
          case measure => simp [intOf]; omega
        · have ht := Lib.hid (tok_punct (bt s k) (bt_lt s k) (by omega))
          go_wp2
          go_roundw
          case rel => exact ⟨k + 1, by omega, by go_num, by rw [HS.out, ht.out]; rfl, by trivial⟩
          case measure => simp [intOf]; omega
        · have ht := Lib.hid (tok_punct (bt s k) (bt_lt s k) (by omega))
          go_wp2
          go_roundw
          case rel => exact ⟨k + 1, by omega, by go_num, by rw [HS.out, ht.out]; rfl, by trivial⟩
          case measure => simp [intOf]; omega
        · have ht := Lib.hid (tok_punct (bt s k) (bt_lt s k) (by omega))
          go_wp2
          go_roundw
          case rel => exact ⟨k + 1, by omega, by go_num, by rw [HS.out, ht.out]; rfl, by trivial⟩
          case measure => simp [intOf]; omega
        · have ht := Lib.hid (tok_punct (bt s k) (bt_lt s k) (by omega))
          go_wp2
          go_roundw
          case rel => exact ⟨k + 1, by omega, by go_num, by rw [HS.out, ht.out]; rfl, by trivial⟩
          case measure => simp [intOf]; omega
        · have ht := Lib.hid (tok_punct (bt s k) (bt_lt s k) (by omega))
          go_wp2
          go_roundw
          case rel => exact ⟨k + 1, by omega, by go_num, by rw [HS.out, ht.out]; rfl, by trivial⟩
          case measure => simp [intOf]; omega
        · have ht := Lib.hid (tok_punct (bt s k) (bt_lt s k) (by omega))
          go_wp2
          go_roundw
          case rel => exact ⟨k + 1, by omega, by go_num, by rw [HS.out, ht.out]; rfl, by trivial⟩
          case measure => simp [intOf]; omega
        · have ht := Lib.hid (tok_punct (bt s k) (bt_lt s k) (by omega))
          go_wp2
          go_roundw
          case rel => exact ⟨k + 1, by omega, by go_num, by rw [HS.out, ht.out]; rfl, by trivial⟩
          case measure => simp [intOf]; omega
        · have ht := Lib.hid (tok_punct (bt s k) (bt_lt s k) (by omega))
          go_wp2
          go_roundw
          case rel => exact ⟨k + 1, by omega, by go_num, by rw [HS.out, ht.out]; rfl, by trivial⟩
          case measure => simp [intOf]; omega
        · have ht := Lib.hid (tok_punct (bt s k) (bt_lt s k) (by omega))
          go_wp2
          go_roundw
          case rel => exact ⟨k + 1, by omega, by go_num, by rw [HS.out, ht.out]; rfl, by trivial⟩
          case measure => simp [intOf]; omega
        · have ht := Lib.hid (tok_punct (bt s k) (bt_lt s k) (by omega))
          go_wp2
          go_roundw
          case rel => exact ⟨k + 1, by omega, by go_num, by rw [HS.out, ht.out]; rfl, by trivial⟩
          case measure => simp [intOf]; omega
        · have ht := Lib.hid (tok_punct (bt s k) (bt_lt s k) (by omega))
          go_wp2
          go_roundw
          case rel => exact ⟨k + 1, by omega, by go_num, by rw [HS.out, ht.out]; rfl, by trivial⟩
          case measure => simp [intOf]; omega
        · have ht := Lib.hid (tok_punct (bt s k) (bt_lt s k) (by omega))
          go_wp2
          go_roundw
          case rel => exact ⟨k + 1, by omega, by go_num, by rw [HS.out, ht.out]; rfl, by trivial⟩
          case measure => simp [intOf]; omega
      · have ht := Lib.hid (tok_alnum (bt s k) (bt_lt s k) hp)
        have q : ∀ n : Nat, bt s k ≠ n → ((bt s k : Int) == (n : Int)) = false := fun n h => by rw [beq_eq_false_iff_ne]; omega
        have q1 := q 33 (by omega); have q2 := q 35 (by omega); have q3 := q 36 (by omega); have q4 := q 37 (by omega); have q5 := q 38 (by omega)
        have q6 := q 39 (by omega); have q7 := q 42 (by omega); have q8 := q 43 (by omega); have q9 := q 45 (by omega); have q10 := q 46 (by omega)
        have q11 := q 94 (by omega); have q12 := q 95 (by omega); have q13 := q 96 (by omega); have q14 := q 124 (by omega); have q15 := q 126 (by omega)
        clear q hp
        cases hv : alnumB (bt s k) with
        | true =>
          have HV := Lib.hid hv
          clear hv
          go_wp2_with (go_at_call 23; refine (letter_c _ hlt2 _).mono ?_; rintro e w1 ⟨rfl, rfl⟩; rw [HV.out])
          go_roundw
          case rel => exact ⟨k + 1, by omega, by go_num, by rw [HS.out, ht.out, HV.out]; rfl, by trivial⟩
          case measure => simp [intOf]; omega
        | false =>
          have HV := Lib.hid hv
          clear hv
          go_wp2_with (go_at_call 23; refine (letter_c _ hlt2 _).mono ?_; rintro e w1 ⟨rfl, rfl⟩; rw [HV.out])
          go_ret
          exact ⟨ret_bool (by rw [all_false s tokB k hlt (by rw [ht.out, HV.out])]; rfl), Ext.rfl' _⟩
    · obtain rfl : k = s.size := by omega
      rw [List.take_of_length_le (by simp)] at HA
      go_wp2
      all_goals go_ret
      all_goals exact ⟨ret_bool (by rw [HA.out]; simp [*]), Ext.rfl' _⟩
end Go.Proofs.YtnakeigpelcajaaGreatDoor
