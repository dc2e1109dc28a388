/-
Of numbers in a row some text with the number behind it does not stand in a given text: plain laws. No program in sight.
-/
import Derived.Test.YtllpffdjlhamkaaDoorBack1
import Derived.Test.YtllpffdjlhamkaaDoorProg
set_option linter.unusedVariables false
set_option linter.unusedSimpArgs false
/-
Of numbers in a row some text with the number behind it does not stand in a given text: plain laws. No program in sight.
-/
section
namespace Go.Proofs.YtllpffdjlhamkaaDoor
open Go.RowKit

theorem holes : ∀ (M : Nat) (l : List Nat), l.Nodup → (∀ x ∈ l, x < M) → l.length ≤ M
  | 0, l, _, h => by
    cases l with
    | nil => simp
    | cons x l => have := h x (by simp); omega
  | M + 1, l, hn, h => by
    have h1 := holes M (l.erase M) (hn.erase M) (fun x hx => by
      have h2 := (hn.mem_erase_iff).1 hx
      have := h x h2.2
      omega)
    have h2 : l.length ≤ (l.erase M).length + 1 := by
      by_cases hm : M ∈ l
      · rw [List.length_erase_of_mem hm]; omega
      · rw [List.erase_of_not_mem hm]; omega
    omega
/-- A function that tells numbers apart has no fewer values. -/
theorem holes_fn (f : Nat → Nat) (N M : Nat) (hf : ∀ i, i < N → f i < M) (hi : ∀ i j, i < j → j < N → f i ≠ f j) : N ≤ M := by
  have h := holes M ((List.range N).map f) ?_ (fun x hx => by
    obtain ⟨i, h1, rfl⟩ := List.mem_map.1 hx
    exact hf i (List.mem_range.1 h1))
  · simpa using h
  · unfold List.Nodup
    rw [List.pairwise_map]
    refine List.Pairwise.imp_of_mem ?_ (List.pairwise_lt_range)
    intro i j _ hj hlt
    exact hi i j hlt (List.mem_range.1 hj)

/-- Does a text stand in l at place i? -/
def standsAt (l w : List UInt8) (i : Nat) : Prop := (l.drop i).take w.length = w
theorem dec_inj {a b : Nat} (h : Lib.decDigits a = Lib.decDigits b) : a = b := by
  have h1 := (decL_all a).2.1
  have h2 := (decL_all b).2.1
  rw [h, h2] at h1
  exact h1.symm
/-- Not all numbers up to a bound stand in l behind a given head. -/
theorem some_free (l head : List UInt8) (N : Nat) (hN : l.length * 21 + 21 < N) (hN2 : N ≤ 18446744073709551616) :
    ∃ n, n < N ∧ ∀ i, i + (head ++ Lib.decDigits n).length ≤ l.length → ¬ standsAt l (head ++ Lib.decDigits n) i := by
  refine Classical.byContradiction fun hno => ?_
  have hall : ∀ n, ∃ i, n < N → i + (head ++ Lib.decDigits n).length ≤ l.length ∧ standsAt l (head ++ Lib.decDigits n) i := fun n => by
    by_cases hn : n < N
    · refine Classical.byContradiction fun h => hno ⟨n, hn, fun i hi hs => h ⟨i, fun _ => ⟨hi, hs⟩⟩⟩
    · exact ⟨0, fun h => absurd h hn⟩
  obtain ⟨p, hp⟩ := Classical.axiomOfChoice hall
  have hd : ∀ n, n < N → (Lib.decDigits n).length ≤ 20 := fun n hn => by
    rw [Lib.decDigits_length]; exact Lib.nDigits_le20 n (by omega)
  have hlt := holes_fn (fun n => p n * 21 + (Lib.decDigits n).length) N (l.length * 21 + 21) (fun n hn => by
    have h1 := (hp n hn).1
    have h2 := hd n hn
    rw [List.length_append] at h1
    show p n * 21 + (Lib.decDigits n).length < l.length * 21 + 21
    have : p n ≤ l.length := by omega
    have := Nat.mul_le_mul_right 21 this
    omega) (fun i j hij hj he => by
    have hi : i < N := by omega
    have he : p i * 21 + (Lib.decDigits i).length = p j * 21 + (Lib.decDigits j).length := he
    have a1 := hd i hi
    have a2 := hd j hj
    have hpe : p i = p j := by omega
    have hle : (Lib.decDigits i).length = (Lib.decDigits j).length := by omega
    have s1 := (hp i hi).2
    have s2 := (hp j hj).2
    unfold standsAt at s1 s2
    rw [List.length_append] at s1 s2
    rw [hpe, hle, s2] at s1
    have := dec_inj (List.append_cancel_left s1)
    omega)
  omega
end Go.Proofs.YtllpffdjlhamkaaDoor
end

/-
Where a text stands in bytes: the reference's has.
-/
section
namespace Go.Proofs.YtllpffdjlhamkaaDoor
open Go.RowKit

end Go.Proofs.YtllpffdjlhamkaaDoor
end

/-
The reference's Boundary: the first name that does not stand in the bytes.
-/
section
namespace Go.Proofs.YtllpffdjlhamkaaDoor
open Go.RowKit

/-- Does a text stand somewhere in l? -/
def HasW (l ww : List UInt8) : Prop := ∃ k, k + ww.length ≤ l.length ∧ standsAt l ww k
theorem least_of {p : Nat → Prop} : ∀ n, p n → ∃ k, k ≤ n ∧ p k ∧ ∀ i, i < k → ¬ p i := by
  intro n
  induction n using Nat.strongRecOn with
  | ind n ih =>
    intro hn
    by_cases h : ∃ i, i < n ∧ p i
    · obtain ⟨i, hi, hp⟩ := h
      obtain ⟨k, h1, h2, h3⟩ := ih i hi hp
      exact ⟨k, by omega, h2, h3⟩
    · exact ⟨n, Nat.le_refl _, hn, fun i hi hp => h ⟨i, hi, hp⟩⟩
theorem HasW.first {l ww : List UInt8} (h : HasW l ww) : ∃ k, k + ww.length ≤ l.length ∧ standsAt l ww k ∧ ∀ i, 0 ≤ i → i < k → ¬ standsAt l ww i := by
  obtain ⟨n, h1, h2⟩ := h
  obtain ⟨k, k1, k2, k3⟩ := least_of (p := standsAt l ww) n h2
  exact ⟨k, by omega, k2, fun i _ hi => k3 i hi⟩
/-- The name, and the mark. -/
def ghL (n : Nat) : List UInt8 := [103, 97, 116, 101, 104, 111, 117, 115, 101] ++ Lib.decDigits n
def mkL (n : Nat) : List UInt8 := [45, 45] ++ ghL n
theorem mk_app (n : Nat) : mkL n = [45, 45, 103, 97, 116, 101, 104, 111, 117, 115, 101] ++ Lib.decDigits n := rfl
/-- The least number whose mark does not stand in l. -/
theorem free_num (l : List UInt8) (hl : l.length ≤ 140737488355328) : ∃ N, N ≤ l.length * 21 + 22 ∧ ¬ HasW l (mkL N) ∧ ∀ m, m < N → HasW l (mkL m) := by
  obtain ⟨n, hn, hf⟩ := some_free l [45, 45, 103, 97, 116, 101, 104, 111, 117, 115, 101] (l.length * 21 + 22) (by omega) (by omega)
  obtain ⟨k, h1, h2, h3⟩ := least_of (p := fun m => ¬ HasW l (mkL m)) n (fun ⟨i, hi, hs⟩ => hf i hi hs)
  exact ⟨k, by omega, h2, fun m hm => Classical.byContradiction fun h => h3 m hm h⟩
theorem mk_len (n : Nat) (hn : n < 18446744073709551616) : 11 ≤ (mkL n).length ∧ (mkL n).length ≤ 31 := by
  rw [mk_app, List.length_append]
  have h1 : (Lib.decDigits n).length ≤ 20 := by rw [Lib.decDigits_length]; exact Lib.nDigits_le20 n hn
  simp only [List.length_cons, List.length_nil]
  omega
theorem dec_nat (n : Nat) : decB (n : Int) = str (Lib.decDigits n) := by unfold decB; rw [Lib.itoa_nonneg]

end Go.Proofs.YtllpffdjlhamkaaDoor
end
