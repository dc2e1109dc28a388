/-
Head's parser as plain functions: what a head that is whole holds.
-/
import Derived.Test.YtppajpchibkneaaGreatDoorHPa
set_option linter.unusedVariables false
set_option linter.unusedSimpArgs false
/-
Head's parser as plain functions: what a head that is whole holds.
-/
section
namespace Go.Proofs.YtppajpchibkneaaGreatDoor
open Go.RowKit

theorem dw_idH (p : UInt8 → Bool) : ∀ l : List UInt8, (l.dropWhile p).dropWhile p = l.dropWhile p
  | [] => rfl
  | a :: l => by by_cases h : p a = true <;> simp [List.dropWhile_cons, h, dw_idH p l]
theorem trim_idH (l : List UInt8) : trimL (trimL l) = trimL l := by
  rw [trimL_eq (trimL l)]
  have h1 : (trimL l).dropWhile blk = trimL l := by
    rw [trimL_eq l, ← trim_comm blk l, dw_idH]
  rw [h1]
  have h2 : (trimL l).reverse.dropWhile blk = (trimL l).reverse := by
    rw [trimL_eq l, List.reverse_reverse, dw_idH]
  rw [h2, List.reverse_reverse]
def FOk (f : Fld) : Prop := tokL f.1 = true ∧ vlL f.2 = true ∧ trimL f.2 = f.2 ∧ f.1.length ≤ 8192 ∧ f.2.length ≤ 8192
/-- What holds of a request's parser that has read u. -/
structure HInv (u : List UInt8) (s : Pst) : Prop where
  nx : s.nx = 30 ∨ s.nx = 44
  ends : s.nx = 44 → s.line = [] → if s.cr = true then ∃ v, u = v ++ [13, 10, 13] else ∃ v, u = v ++ [13, 10]
  crU : s.cr = true → ∃ v, u = v ++ [13]
  first : s.nx = 44 → tokL s.meth = true ∧ tgH s.targ = true ∧ s.meth.length ≤ 8192 ∧ s.targ.length ≤ 8192
  ln : s.line.length ≤ 8192
  flds : ∀ f ∈ s.fields, FOk f
structure HEnd (u : List UInt8) (s : Pst) : Prop where
  ends : ∃ v, u = v ++ [13, 10, 13, 10]
  tok : tokL s.meth = true
  tg : tgH s.targ = true
  lm : s.meth.length ≤ 8192
  lt : s.targ.length ≤ 8192
  flds : ∀ f ∈ s.fields, FOk f
theorem fldV_ok {l : List UInt8} {p : Fld} (hl : l.length ≤ 8192) (h : fldV l = some p) : FOk p := by
  unfold fldV at h
  cases hc : cutW 58 l with
  | none => rw [hc] at h; cases h
  | some q =>
    rw [hc] at h
    dsimp only at h
    split at h
    · rename_i hg
      cases h
      rw [Bool.and_eq_true] at hg
      obtain ⟨e, _⟩ := cutW_some hc
      have e2 := congrArg List.length e
      simp at e2
      have := trim_len q.2
      exact ⟨hg.1, hg.2, trim_idH _, by dsimp only; omega, by dsimp only; omega⟩
    · cases h
theorem w3_len {l : List UInt8} {p : List UInt8 × List UInt8 × List UInt8} (h : w3 l = some p) : p.1.length ≤ l.length ∧ p.2.1.length ≤ l.length := by
  obtain ⟨a, b, t⟩ := p
  obtain ⟨e, _⟩ := w3_some h
  have e2 := congrArg List.length e
  simp at e2
  constructor <;> (dsimp only; omega)
theorem take_inv {u : List UInt8} {s : Pst} {c : UInt8} (h : HInv u s) (h0 : (takeP s c).2 = 0) :
    s.done = false → ((takeP s c).1.done = true → HEnd (u ++ [c]) (takeP s c).1) ∧ ((takeP s c).1.done = false → HInv (u ++ [c]) (takeP s c).1) := by
  intro hnd
  unfold takeP at h0 ⊢
  split at h0
  · cases h0
  · rename_i k0
    rw [if_neg k0]
    split at h0
    · rename_i k1
      rw [if_pos k1]
      split at h0
      · rename_i k2
        rw [if_pos k2]
        subst k2
        obtain ⟨v, hv⟩ := h.crU k1
        have hu : ∃ v, u ++ [10] = v ++ [13, 10] := ⟨v, by rw [hv]; simp⟩
        unfold lineP at h0 ⊢
        dsimp only at h0 ⊢
        split at h0
        · rename_i k3
          rw [if_pos k3]
          unfold reqP at h0 ⊢
          dsimp only at h0 ⊢
          split at h0
          · rename_i k4
            rw [if_pos k4]
            refine ⟨fun hd => absurd (hd.symm.trans hnd) (by decide), fun _ => ?_⟩
            · exact ⟨.inl k3, fun hf => absurd (k3.symm.trans hf) num_rf, fun hc => (by cases hc), fun hf => absurd (k3.symm.trans hf) num_rf, Nat.zero_le _, h.flds⟩
          · rename_i k4
            rw [if_neg k4]
            cases hw : w3 s.line with
            | none => rw [hw] at h0; cases h0
            | some p =>
              rw [hw] at h0
              dsimp only at h0 ⊢
              split at h0
              · rename_i k5
                rw [if_pos k5]
                unfold reqG at k5
                simp only [Bool.and_eq_true] at k5
                refine ⟨fun hd => absurd (hd.symm.trans hnd) (by decide), fun _ => ?_⟩
                · exact ⟨.inr rfl, fun _ _ => by rw [if_neg Bool.false_ne_true]; exact hu, fun hc => (by cases hc), fun _ => ⟨k5.1.1.2, k5.1.2, by have := w3_len hw; have := h.ln; dsimp only; omega, by have := w3_len hw; have := h.ln; dsimp only; omega⟩, Nat.zero_le _, h.flds⟩
              · cases h0
        · rename_i k3
          rw [if_neg k3]
          have hnx : s.nx = 44 := by rcases h.nx with e | e; exact absurd e k3; exact e
          have k4 : ¬ s.nx = 31 := fun e => num_sf (e.symm.trans hnx)
          rw [if_neg k4] at h0 ⊢
          unfold fldP at h0 ⊢
          split at h0
          · rename_i k5
            rw [if_pos k5]
            refine ⟨fun _ => ?_, fun hd => (by cases hd)⟩
            have he := h.ends hnx k5
            rw [if_pos k1] at he
            obtain ⟨v2, hv2⟩ := he
            exact ⟨⟨v2, by rw [hv2]; simp⟩, (h.first hnx).1, (h.first hnx).2.1, (h.first hnx).2.2.1, (h.first hnx).2.2.2, h.flds⟩
          · rename_i k5
            rw [if_neg k5]
            cases hw : fldV s.line with
            | none => rw [hw] at h0; cases h0
            | some p =>
              rw [hw] at h0
              dsimp only at h0 ⊢
              split at h0
              · rename_i k6
                rw [if_pos k6]
                refine ⟨fun hd => absurd (hd.symm.trans hnd) (by decide), fun _ => ?_⟩
                · refine ⟨.inr hnx, fun _ _ => by rw [if_neg Bool.false_ne_true]; exact hu, fun hc => (by cases hc), h.first, Nat.zero_le _, fun f hf => ?_⟩
                  rcases List.mem_append.1 hf with e | e
                  · exact h.flds f e
                  · rw [List.mem_singleton.1 e]; exact fldV_ok h.ln hw
              · cases h0
      · cases h0
    · rename_i k1
      rw [if_neg k1]
      split at h0
      · rename_i k2
        rw [if_pos k2]
        subst k2
        refine ⟨fun hd => absurd (hd.symm.trans hnd) (by decide), fun _ => ?_⟩
        · refine ⟨h.nx, fun hf hl => ?_, fun _ => ⟨u, rfl⟩, h.first, h.ln, h.flds⟩
          have he := h.ends hf hl
          rw [if_neg k1] at he
          obtain ⟨v, hv⟩ := he
          rw [if_pos rfl]
          exact ⟨v, by rw [hv]; simp⟩
      · rename_i k2
        rw [if_neg k2]
        split at h0
        · rename_i k3
          rw [if_pos k3]
          split at h0
          · rename_i k4
            rw [if_pos k4]
            refine ⟨fun hd => absurd (hd.symm.trans hnd) (by decide), fun _ => ?_⟩
            · exact ⟨h.nx, fun _ hl => by simp at hl, fun hc => absurd hc k1, h.first, by dsimp only; rw [List.length_append]; simp only [List.length_cons, List.length_nil]; omega, h.flds⟩
          · cases h0
        · cases h0
theorem run_inv : ∀ (l u : List UInt8) (s : Pst), HInv u s → s.done = false → (runP s l).2.2 = 0 → (runP s l).1.done = true → HEnd (u ++ l.take (runP s l).2.1) (runP s l).1
  | [], u, s, _, h0, _, h2 => by rw [show (runP s []).1 = s from rfl, h0] at h2; cases h2
  | c :: l, u, s, h, h0, h1, h2 => by
    rw [run_cons] at h1 h2 ⊢
    by_cases k1 : (takeP s c).2 ≠ 0
    · rw [if_pos k1] at h1; exact absurd h1 k1
    · rw [if_neg k1] at h1 h2 ⊢
      have hi := take_inv (c := c) h (by simpa using k1) h0
      by_cases k2 : (takeP s c).1.done = true
      · rw [if_pos k2]
        simpa using hi.1 k2
      · rw [if_neg k2] at h1 h2 ⊢
        have ih := run_inv l (u ++ [c]) _ (hi.2 (by simpa using k2)) (by simpa using k2) h1 h2
        simpa using ih
theorem newP_inv : HInv [] (newP false) := ⟨.inl rfl, fun h => absurd h num_rf, fun h => (by cases h), fun h => absurd h num_rf, Nat.zero_le _, fun f hf => by cases hf⟩
/-- A head that is whole. -/
theorem feed_clean (b : List UInt8) (h : (feedP (newP false) b).2.2.1 = true) :
    HEnd (b.take (feedP (newP false) b).2.1) (feedP (newP false) b).1 ∧ (feedP (newP false) b).2.1 ≤ b.length ∧ (feedP (newP false) b).1.done = true := by
  have hc : ¬ ((newP false).done = true ∨ (newP false).e ≠ 0) := by decide
  unfold feedP at h ⊢
  rw [if_neg hc] at h ⊢
  dsimp only at h ⊢
  rw [Bool.and_eq_true] at h
  have h0 : (runP (newP false) b).2.2 = 0 := by simpa using h.1
  have hi := run_inv b [] _ newP_inv rfl h0 h.2
  rw [List.nil_append] at hi
  exact ⟨⟨hi.ends, hi.tok, hi.tg, hi.lm, hi.lt, hi.flds⟩, run_le _ _, h.2⟩
theorem tail_four {b v : List UInt8} {n : Nat} (h : b.take n = v ++ [13, 10, 13, 10]) (hn : n ≤ b.length) : 4 ≤ n ∧ (b.drop (n - 4)).take 4 = [13, 10, 13, 10] := by
  have hl := congrArg List.length h
  simp [List.length_take] at hl
  have h4 : n = v.length + 4 := by omega
  refine ⟨by omega, ?_⟩
  have e := congrArg (List.drop (n - 4)) h
  rw [List.drop_take, show n - (n - 4) = 4 by omega] at e
  rw [e, show n - 4 = v.length by omega, List.drop_left]
/-- Whose parser it is stays; its fields are few. -/
theorem take_rf (s : Pst) (c : UInt8) (h : s.fields.length ≤ 100) : (takeP s c).1.reply = s.reply ∧ (takeP s c).1.fields.length ≤ 100 := by
  have hl : ∀ (s : Pst) (l : List UInt8), s.fields.length ≤ 100 → (lineP s l).1.reply = s.reply ∧ (lineP s l).1.fields.length ≤ 100 := fun s l h => by
    unfold lineP
    split
    · unfold reqP
      split
      · exact ⟨rfl, h⟩
      · split
        · exact ⟨rfl, h⟩
        · split <;> exact ⟨rfl, h⟩
    · split
      · unfold rspP
        split
        · exact ⟨rfl, h⟩
        · split <;> exact ⟨rfl, h⟩
      · unfold fldP
        split
        · exact ⟨rfl, h⟩
        · split
          · exact ⟨rfl, h⟩
          · split
            · exact ⟨rfl, by dsimp only; rw [List.length_append]; simp only [List.length_cons, List.length_nil]; omega⟩
            · exact ⟨rfl, h⟩
  unfold takeP
  split
  · exact ⟨rfl, h⟩
  · split
    · split
      · exact hl _ _ h
      · exact ⟨rfl, h⟩
    · split
      · exact ⟨rfl, h⟩
      · split
        · split <;> exact ⟨rfl, h⟩
        · exact ⟨rfl, h⟩
theorem run_rf : ∀ (l : List UInt8) (s : Pst), s.fields.length ≤ 100 → (runP s l).1.reply = s.reply ∧ (runP s l).1.fields.length ≤ 100
  | [], s, h => ⟨rfl, h⟩
  | c :: l, s, h => by
    have h1 := take_rf s c h
    have ih := run_rf l (takeP s c).1 h1.2
    rw [run_cons]
    split
    · exact h1
    · split
      · exact h1
      · exact ⟨ih.1.trans h1.1, ih.2⟩
theorem feed_rf (l : List UInt8) (s : Pst) (h : s.fields.length ≤ 100) : (feedP s l).1.reply = s.reply ∧ (feedP s l).1.fields.length ≤ 100 := by
  unfold feedP
  split
  · exact ⟨rfl, h⟩
  · exact run_rf l s h
end Go.Proofs.YtppajpchibkneaaGreatDoor
end

/-
What is known of head's parser at two heads: a request; a line that ends wrong. A head in pieces.
-/
section
namespace Go.Proofs.YtppajpchibkneaaGreatDoor
open Go.RowKit

def kn1 : List UInt8 := [71, 69, 84, 32, 47, 32, 72, 84, 84, 80, 47, 49, 46, 49, 13, 10, 72, 111, 115, 116, 58, 32, 97, 13, 10, 13, 10, 120]
theorem kn_one : (feedP (newP false) kn1).2 = (27, true, 0) ∧ (feedP (newP false) kn1).1.targ = [47] := by decide +kernel
theorem kn_two : (feedP (newP false) [71, 10]).2 = (1 + 1, false, 22) := by decide +kernel
/-- Fed in pieces, up to b's first m bytes: as at once. -/
structure PcAt (s0 : Pst) (b : List UInt8) (m : Nat) (s : Pst) (n : Nat) (d : Bool) (e : Int) : Prop where
  le : m ≤ b.length
  st : s = (feedP s0 (b.take m)).1
  n_ : n = (feedP s0 (b.take m)).2.1
  d_ : d = (feedP s0 (b.take m)).2.2.1
  e_ : e = (feedP s0 (b.take m)).2.2.2
theorem pc_zero (s0 : Pst) (h0 : s0.done = false) (h1 : s0.e = 0) (b : List UInt8) : PcAt s0 b 0 s0 0 false 0 := by
  have e : feedP s0 (b.take 0) = (s0, 0, false, 0) := by
    unfold feedP
    rw [if_neg (by rw [h0, h1]; simp)]
    obtain ⟨r, ln, cr, dn, al, em, e, nx, me, tg, mi, st, re, fl⟩ := s0
    dsimp only at h0 h1
    subst h0 h1
    rfl
  exact ⟨Nat.zero_le _, by rw [e], by rw [e], by rw [e], by rw [e]⟩
theorem pc_next {s0 : Pst} (h0 : s0.done = false) (h1 : s0.e = 0) {b : List UInt8} {m n : Nat} {s : Pst} (h : PcAt s0 b m s n false 0) (t : Nat) (hm : m ≤ t) (ht : t ≤ b.length) :
    PcAt s0 b t (feedP s ((b.take t).drop m)).1 (n + (feedP s ((b.take t).drop m)).2.1) (feedP s ((b.take t).drop m)).2.2.1 (feedP s ((b.take t).drop m)).2.2.2 := by
  have e : b.take t = b.take m ++ (b.take t).drop m := by
    have := (List.take_append_drop m (b.take t)).symm
    rw [List.take_take, Nat.min_eq_left hm] at this
    exact this
  have hf := feed_app s0 h0 h1 (b.take m) ((b.take t).drop m) h.d_.symm h.e_.symm
  rw [← e, ← h.st, ← h.n_] at hf
  exact ⟨ht, by rw [hf], by rw [hf], by rw [hf], by rw [hf]⟩
/-- At the end of all bytes, or where it ended: as at once. -/
theorem pc_end {s0 : Pst} (h0 : s0.done = false) (h1 : s0.e = 0) {b : List UInt8} {m n : Nat} {s : Pst} {d : Bool} {e : Int} (h : PcAt s0 b m s n d e) (hh : m = b.length ∨ d = true ∨ e ≠ 0) :
    feedP s0 b = (s, n, d, e) := by
  have he : feedP s0 b = feedP s0 (b.take m) := by
    rcases hh with hh | hh
    · rw [List.take_of_length_le (by omega)]
    · have := feed_end s0 h0 h1 (b.take m) (b.drop m) (by rw [← h.d_, ← h.e_]; exact hh)
      rw [List.take_append_drop] at this
      exact this
  rw [he, h.st, h.n_, h.d_, h.e_]
end Go.Proofs.YtppajpchibkneaaGreatDoor
end
