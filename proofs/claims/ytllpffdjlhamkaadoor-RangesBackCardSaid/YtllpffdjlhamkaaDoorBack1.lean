/-
What is written is read as it was: plain laws on numbers and texts. No program in sight.
-/
import Derived.Test.YtllpffdjlhamkaaDoorHex1
import Derived.Test.YtllpffdjlhamkaaDoorNum3
set_option linter.unusedVariables false
set_option linter.unusedSimpArgs false
namespace Go.Proofs.YtllpffdjlhamkaaDoor
open Go.RowKit

theorem low_idem (l : List UInt8) : lowL (lowL l) = lowL l := by
  unfold lowL
  rw [List.map_map]
  refine List.map_congr_left fun b _ => ?_
  have : ∀ c : Fin 256, lowB (lowB c.val.toUInt8) = lowB c.val.toUInt8 := by decide +kernel
  have h := this ⟨b.toNat, UInt8.toNat_lt b⟩
  simpa using h
theorem dw_idem (p : UInt8 → Bool) : ∀ l : List UInt8, (l.dropWhile p).dropWhile p = l.dropWhile p
  | [] => rfl
  | a :: l => by by_cases h : p a = true <;> simp [List.dropWhile_cons, h, dw_idem p l]
theorem trim_idem (l : List UInt8) : trimL (trimL l) = trimL l := by
  rw [trimL_eq (trimL l)]
  have h1 : (trimL l).dropWhile blk = trimL l := by
    rw [trimL_eq l, ← trim_comm blk l, dw_idem]
  rw [h1]
  have h2 : (trimL l).reverse.dropWhile blk = (trimL l).reverse := by
    rw [trimL_eq l, List.reverse_reverse, dw_idem]
  rw [h2, List.reverse_reverse]
theorem valF_one (B a : Nat) (b : UInt8) : valF B a [b] = a * B + digV b := rfl
theorem hxB_dig : ∀ d : Fin 16, isDig 16 (hxB d.val) = true ∧ digV (hxB d.val) = d.val ∧ lowB (hxB d.val) = hxB d.val := by decide +kernel
theorem hxL_all : ∀ n : Nat, (hxL n).all (isDig 16) = true ∧ valL 16 (hxL n) = n ∧ lowL (hxL n) = hxL n := by
  intro n
  induction n using Nat.strongRecOn with
  | ind n ih =>
    by_cases h : n < 16
    · have := hxB_dig ⟨n, h⟩
      rw [hxL_lt h]
      refine ⟨by simp [this.1], ?_, by simp [lowL, this.2.2]⟩
      have e : valL 16 [hxB n] = 0 * 16 + digV (hxB n) := rfl
      rw [e, this.2.1]; simp
    · have := hxB_dig ⟨n % 16, Nat.mod_lt _ (by omega)⟩
      obtain ⟨h1, h2, h3⟩ := ih (n / 16) (by omega)
      rw [hxL_ge h]
      refine ⟨by simp [h1, this.1], ?_, ?_⟩
      · unfold valL at h2 ⊢
        rw [valF_app, h2, valF_one, this.2.1]; simp only; omega
      · unfold lowL at h3 ⊢
        rw [List.map_append, h3]; simp [this.2.2]
theorem dec_dig : ∀ d : Fin 10, isDig 10 (UInt8.ofNat (48 + d.val)) = true ∧ digV (UInt8.ofNat (48 + d.val)) = d.val ∧ lowB (UInt8.ofNat (48 + d.val)) = UInt8.ofNat (48 + d.val) := by decide +kernel
theorem decL_all : ∀ n : Nat, (Lib.decDigits n).all (isDig 10) = true ∧ valL 10 (Lib.decDigits n) = n ∧ lowL (Lib.decDigits n) = Lib.decDigits n ∧ 0 < (Lib.decDigits n).length := by
  intro n
  induction n using Nat.strongRecOn with
  | ind n ih =>
    by_cases h : n < 10
    · have t := dec_dig ⟨n, h⟩
      have t1 : isDig 10 (UInt8.ofNat (48 + n)) = true := t.1
      have t2 : digV (UInt8.ofNat (48 + n)) = n := t.2.1
      have t3 : lowB (UInt8.ofNat (48 + n)) = UInt8.ofNat (48 + n) := t.2.2
      rw [Lib.decDigits_one h]
      generalize UInt8.ofNat (48 + n) = b at *
      refine ⟨by simp [t1], ?_, by simp [lowL, t3], by simp⟩
      have e : valL 10 [b] = 0 * 10 + digV b := rfl
      rw [e, t2]; simp
    · have t := dec_dig ⟨n % 10, Nat.mod_lt _ (by omega)⟩
      have t1 : isDig 10 (UInt8.ofNat (48 + n % 10)) = true := t.1
      have t2 : digV (UInt8.ofNat (48 + n % 10)) = n % 10 := t.2.1
      have t3 : lowB (UInt8.ofNat (48 + n % 10)) = UInt8.ofNat (48 + n % 10) := t.2.2
      obtain ⟨h1, h2, h3, _⟩ := ih (n / 10) (by omega)
      rw [Lib.decDigits, dif_neg h]
      generalize UInt8.ofNat (48 + n % 10) = b at *
      refine ⟨by simp [h1, t1], ?_, ?_, by simp⟩
      · unfold valL at h2 ⊢
        rw [valF_app, h2, valF_one, t2]; omega
      · unfold lowL at h3 ⊢
        rw [List.map_append, h3]; simp [t3]
/-- A number of digits that is not too great is read as it was. -/
theorem num_hex (n : Nat) (h : n ≤ 1152921504606846976) : numL 16 1152921504606846976 (hxL n) = ((n : Int), 0) := by
  obtain ⟨h1, h2, h3⟩ := hxL_all n
  have hp := hx_pos n
  unfold numL
  rw [h3, h2, if_neg, if_pos h]
  intro hh
  rcases hh with hh | hh
  · rw [hh] at hp; simp at hp
  · rw [h1] at hh; cases hh
theorem num_dec (n : Nat) (h : n ≤ 1000000000000000000) : numL 10 1000000000000000000 (Lib.itoa n) = ((n : Int), 0) := by
  obtain ⟨h1, h2, h3, hp⟩ := decL_all n
  rw [Lib.itoa_nonneg]
  unfold numL
  rw [h3, h2, if_neg, if_pos h]
  intro hh
  rcases hh with hh | hh
  · rw [hh] at hp; simp at hp
  · rw [h1] at hh; cases hh
end Go.Proofs.YtllpffdjlhamkaaDoor
