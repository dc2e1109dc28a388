/-
Framing's reader as plain functions: what stays; bytes in two pieces.
-/
import Derived.Test.YtnakeigpelcajaaGreatDoorFb6
set_option linter.unusedVariables false
set_option linter.unusedSimpArgs false
namespace Go.Proofs.YtnakeigpelcajaaGreatDoor
open Go.RowKit

theorem text_ok {s t : Rst} {c : UInt8} {ol : Option (List UInt8)} {e : Int} (h : Rok s) (ht : textF s c = (t, ol, e)) : Rok t ∧ t.kind = s.kind ∧ t.state = s.state := by
  unfold textF at ht
  split at ht
  · split at ht
    · cases ht; exact ⟨⟨h.e0, h.mo, h.al, h.kd, h.nn, h.st, h.ck, Nat.zero_le _, h.fl, h.bl, h.l2, h.l3⟩, rfl, rfl⟩
    · cases ht; exact ⟨h, rfl, rfl⟩
  · split at ht
    · cases ht; exact ⟨⟨h.e0, h.mo, h.al, h.kd, h.nn, h.st, h.ck, h.ln, h.fl, h.bl, h.l2, h.l3⟩, rfl, rfl⟩
    · split at ht
      · split at ht
        · cases ht; exact ⟨⟨h.e0, h.mo, h.al, h.kd, h.nn, h.st, h.ck, by dsimp only; rw [List.length_append]; simp only [List.length_cons, List.length_nil]; omega, h.fl, h.bl, h.l2, h.l3⟩, rfl, rfl⟩
        · cases ht; exact ⟨h, rfl, rfl⟩
      · cases ht; exact ⟨h, rfl, rfl⟩
theorem take_okF {s : Rst} {c : UInt8} (h : Rok s) : Rok (takeF s c).1 := by
  unfold takeF
  split
  · rename_i k0
    unfold plainF
    split
    · refine ⟨h.e0, h.mo, by dsimp only; omega, h.kd, h.nn, h.st, h.ck, h.ln, h.fl, ?_, fun e => ?_, fun e => ?_⟩
      · dsimp only; rw [List.length_append]; simp only [List.length_cons, List.length_nil]; have := h.bl; omega
      · exact absurd (k0.symm.trans e) (by decide)
      · exact absurd (k0.symm.trans e) (by decide)
    · exact h
  · split
    · rename_i k0 k1
      unfold sizeF
      obtain ⟨⟨t, ol, e⟩, hx⟩ : ∃ q, q = textF s c := ⟨_, rfl⟩
      rw [← hx]
      obtain ⟨ht, hk, hs⟩ := text_ok h hx.symm
      cases ol with
      | none => exact ht
      | some l =>
        dsimp only
        unfold sizeL
        have hck : t.kind = 2 := ht.ck.2 (by omega)
        split
        · split
          · rename_i hg hv
            have h0 := numL_nn 16 1152921504606846976 (l.take (szN l))
            have h0 : 0 ≤ szV l := h0
            have ha := ht.al
            by_cases hz : szV l = 0
            · rw [if_pos hz]
              exact ⟨ht.e0, ht.mo, ht.al, ht.kd, ht.nn, by simp, ⟨fun _ => by simp, fun _ => hck⟩, ht.ln, ht.fl, ht.bl, fun e => by simp at e, fun e => by simp at e⟩
            · rw [if_neg hz]
              exact ⟨ht.e0, ht.mo, ht.al, ht.kd, ht.nn, by simp, ⟨fun _ => by simp, fun _ => hck⟩, ht.ln, ht.fl, ht.bl, fun _ => ⟨by dsimp only; omega, by dsimp only; omega⟩, fun e => by simp at e⟩
          · exact ht
        · exact ht
    · split
      · rename_i k0 k1 k2
        obtain ⟨l1, l2⟩ := h.l2 k2
        have hck : s.kind = 2 := h.ck.2 (by omega)
        unfold dataF
        split
        · refine ⟨h.e0, h.mo, by dsimp only; omega, h.kd, h.nn, by simp, ⟨fun _ => by simp, fun _ => hck⟩, h.ln, h.fl, ?_, fun e => by simp at e, fun _ => .inr rfl⟩
          dsimp only; rw [List.length_append]; simp only [List.length_cons, List.length_nil]; have := h.bl; omega
        · refine ⟨h.e0, h.mo, by dsimp only; omega, h.kd, h.nn, h.st, h.ck, h.ln, h.fl, ?_, fun _ => ⟨by dsimp only; omega, by dsimp only; omega⟩, fun e => absurd (k2.symm.trans e) (by decide)⟩
          dsimp only; rw [List.length_append]; simp only [List.length_cons, List.length_nil]; have := h.bl; omega
      · split
        · rename_i k0 k1 k2 k3
          have hck : s.kind = 2 := h.ck.2 (by omega)
          unfold behindF
          by_cases hc : c = (if s.left = 2 then 13 else 10)
          · rw [if_pos hc]
            by_cases hl : s.left = 1
            · rw [if_pos hl]
              exact ⟨h.e0, h.mo, h.al, h.kd, h.nn, by simp, ⟨fun _ => by simp, fun _ => hck⟩, h.ln, h.fl, h.bl, fun e => by simp at e, fun e => by simp at e⟩
            · rw [if_neg hl]
              exact ⟨h.e0, h.mo, h.al, h.kd, h.nn, h.st, h.ck, h.ln, h.fl, h.bl, fun e => absurd (k3.symm.trans e) (by decide), fun _ => .inl (by have := h.l3 k3; dsimp only; omega)⟩
          · rw [if_neg hc]
            exact h
        · unfold trailF
          obtain ⟨⟨t, ol, e⟩, hx⟩ : ∃ q, q = textF s c := ⟨_, rfl⟩
          rw [← hx]
          obtain ⟨ht, hk, hs⟩ := text_ok h hx.symm
          cases ol with
          | none => exact ht
          | some l =>
            dsimp only
            unfold tailL
            split
            · exact ⟨ht.e0, ht.mo, ht.al, ht.kd, ht.nn, ht.st, ht.ck, ht.ln, ht.fl, ht.bl, ht.l2, ht.l3⟩
            · cases fldV l with
              | none => exact ht
              | some p =>
                dsimp only
                split
                · exact ⟨ht.e0, ht.mo, ht.al, ht.kd, ht.nn, ht.st, ht.ck, ht.ln, by dsimp only; rw [List.length_append]; simp only [List.length_cons, List.length_nil]; omega, ht.bl, ht.l2, ht.l3⟩
                · exact ht
theorem ready_okF {s : Rst} (h : Rok s) : Rok (readyF s).1 := by
  unfold readyF
  split
  · exact ⟨h.e0, h.mo, h.al, h.kd, h.nn, h.st, h.ck, h.ln, h.fl, h.bl, h.l2, h.l3⟩
  · split
    · split
      · exact ⟨h.e0, h.mo, h.al, h.kd, h.nn, h.st, h.ck, h.ln, h.fl, h.bl, h.l2, h.l3⟩
      · exact h
    · exact h
theorem new_okF {kind n most : Nat} (h1 : kind ≤ 3) (h2 : n < 9223372036854775808) (h3 : most ≤ 1048576) : Rok (newF kind n most) := by
  refine ⟨rfl, h3, Nat.zero_le _, h1, h2, ?_, ?_, Nat.zero_le _, Nat.zero_le _, Nat.le_refl _, fun e => ?_, fun e => ?_⟩
  · unfold newF; dsimp only; split <;> decide
  · unfold newF; dsimp only; split <;> simp_all
  · unfold newF at e; dsimp only at e; split at e <;> cases e
  · unfold newF at e; dsimp only at e; split at e <;> cases e
theorem runF_cons (s : Rst) (c : UInt8) (l : List UInt8) : runF s (c :: l) = if s.done = true then (s, 0, 0) else if (takeF s c).2 ≠ 0 then ((takeF s c).1, 1, (takeF s c).2) else ((runF (takeF s c).1 l).1, (runF (takeF s c).1 l).2.1 + 1, (runF (takeF s c).1 l).2.2) := rfl
theorem runF_done {s : Rst} (h : s.done = true) : ∀ l, runF s l = (s, 0, 0)
  | [] => rfl
  | c :: l => by rw [runF_cons, if_pos h]
theorem runF_le : ∀ (a : List UInt8) (s : Rst), (runF s a).2.1 ≤ a.length
  | [], _ => Nat.le_refl _
  | c :: a, s => by
    have ih := runF_le a (takeF s c).1
    rw [runF_cons]
    split
    · exact Nat.zero_le _
    · split
      · simp
      · simp only [List.length_cons]; omega
theorem runF_ok : ∀ (a : List UInt8) (s : Rst), Rok s → Rok (runF s a).1
  | [], _, h => h
  | c :: a, s, h => by
    have ih := runF_ok a (takeF s c).1 (take_okF h)
    rw [runF_cons]
    split
    · exact h
    · split
      · exact take_okF h
      · exact ih
/-- Nothing was given up: on with the rest. -/
theorem runF_app : ∀ (a b : List UInt8) (s : Rst), (runF s a).2.2 = 0 →
    runF s (a ++ b) = ((runF (runF s a).1 b).1, (runF s a).2.1 + (runF (runF s a).1 b).2.1, (runF (runF s a).1 b).2.2)
  | [], b, s, _ => by simp [runF]
  | c :: a, b, s, h1 => by
    show runF s (c :: (a ++ b)) = _
    rw [runF_cons s c (a ++ b)]
    rw [runF_cons s c a] at h1 ⊢
    by_cases k0 : s.done = true
    · rw [if_pos k0, if_pos k0]; dsimp only; rw [runF_done k0]; rfl
    · rw [if_neg k0] at h1 ⊢
      rw [if_neg k0]
      by_cases k1 : (takeF s c).2 ≠ 0
      · rw [if_pos k1] at h1; exact absurd h1 k1
      · rw [if_neg k1] at h1 ⊢
        rw [if_neg k1]
        have ih := runF_app a b (takeF s c).1 h1
        rw [ih]
        simp only [Prod.mk.injEq, true_and, and_true]
        omega
theorem runF_end : ∀ (a b : List UInt8) (s : Rst), (runF s a).2.2 ≠ 0 → runF s (a ++ b) = runF s a
  | [], b, s, h => absurd rfl h
  | c :: a, b, s, h => by
    show runF s (c :: (a ++ b)) = _
    rw [runF_cons s c (a ++ b)]
    rw [runF_cons s c a] at h ⊢
    by_cases k0 : s.done = true
    · rw [if_pos k0, if_pos k0]
    · rw [if_neg k0] at h ⊢
      rw [if_neg k0]
      by_cases k1 : (takeF s c).2 ≠ 0
      · rw [if_pos k1, if_pos k1]
      · rw [if_neg k1] at h ⊢
        rw [if_neg k1, runF_end a b (takeF s c).1 h]
end Go.Proofs.YtnakeigpelcajaaGreatDoor
