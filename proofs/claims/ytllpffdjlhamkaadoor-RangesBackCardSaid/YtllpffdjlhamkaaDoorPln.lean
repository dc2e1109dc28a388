/-
Letters and digits: plain words and laws. No program in sight.
-/
import Derived.Test.YtllpffdjlhamkaaDoorBytes
set_option linter.unusedVariables false
set_option linter.unusedSimpArgs false
namespace Go.Proofs.YtllpffdjlhamkaaDoor
open Go.RowKit

def alB (c : Nat) : Bool := (decide (97 ≤ c) && decide (c ≤ 122)) || (decide (65 ≤ c) && decide (c ≤ 90)) || (decide (48 ≤ c) && decide (c ≤ 57))
def alL (l : List UInt8) : Bool := l.all fun b => alB b.toNat
def plainL (l : List UInt8) : Bool := alL l && (decide (1 ≤ l.length) && decide (l.length ≤ 60))
/-- The seven ranges that the tests part. -/
def AlC (c : Int) (b : Bool) : Prop :=
  (b = false ∧ (decide ((97 : Int) ≤ c) = false ∧ decide ((65 : Int) ≤ c) = false ∧ decide ((48 : Int) ≤ c) = false)) ∨
  (b = true ∧ (decide ((97 : Int) ≤ c) = false ∧ decide ((65 : Int) ≤ c) = false ∧ decide ((48 : Int) ≤ c) = true ∧ decide (c ≤ 57) = true)) ∨
  (b = false ∧ (decide ((97 : Int) ≤ c) = false ∧ decide ((65 : Int) ≤ c) = false ∧ decide ((48 : Int) ≤ c) = true ∧ decide (c ≤ 57) = false)) ∨
  (b = true ∧ (decide ((97 : Int) ≤ c) = false ∧ decide ((65 : Int) ≤ c) = true ∧ decide (c ≤ 90) = true)) ∨
  (b = false ∧ (decide ((97 : Int) ≤ c) = false ∧ decide ((65 : Int) ≤ c) = true ∧ decide (c ≤ 90) = false ∧ decide ((48 : Int) ≤ c) = true ∧ decide (c ≤ 57) = false)) ∨
  (b = true ∧ (decide ((97 : Int) ≤ c) = true ∧ decide (c ≤ 122) = true)) ∨
  (b = false ∧ (decide ((97 : Int) ≤ c) = true ∧ decide (c ≤ 122) = false ∧ decide ((65 : Int) ≤ c) = true ∧ decide (c ≤ 90) = false ∧ decide ((48 : Int) ≤ c) = true ∧ decide (c ≤ 57) = false))
theorem al_cases (c : Nat) : AlC (c : Int) (alB c) := by
  unfold AlC alB
  simp only [decide_eq_true_eq, decide_eq_false_iff_not, Bool.or_eq_true, Bool.and_eq_true, Bool.or_eq_false_iff, Bool.and_eq_false_iff]
  omega
theorem al_small {c : Nat} (h : alB c = true) : c < 128 := by
  simp only [alB, Bool.or_eq_true, Bool.and_eq_true, decide_eq_true_eq] at h; omega
theorem al_take (l : List UInt8) (k : Nat) (h : k < l.length) : alL (l.take (k + 1)) = (alL (l.take k) && alB l[k].toNat) := by
  unfold alL
  rw [List.take_succ_eq_append_getElem h, List.all_append]; simp
theorem al_false (l : List UInt8) (k : Nat) (h : k < l.length) (hb : alB l[k].toNat = false) : alL l = false := by
  unfold alL
  rw [List.all_eq_false]
  exact ⟨l[k], List.getElem_mem h, by simp [hb]⟩

theorem alB_rune (s : ByteArray) (i : Nat) (h : 128 ≤ (s.get! i).toNat) : alB (Utf8.decode s i).1 = false := by
  have key : 123 ≤ (Utf8.decode s i).1 := by
    unfold Utf8.decode
    simp only [Nat.add_zero, Utf8.runeError]
    have h2 : ¬ (s.get! i).toNat < 128 := by omega
    rw [if_neg h2]
    repeat' split
    all_goals first | (simp only [Bool.and_eq_true, decide_eq_true_eq] at *; omega) | (simp at *; omega) | (simp)
  unfold alB
  simp only [Bool.or_eq_false_iff, Bool.and_eq_false_iff, decide_eq_false_iff_not]
  omega
end Go.Proofs.YtllpffdjlhamkaaDoor
