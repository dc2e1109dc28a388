/-
Framing's reader as plain functions: bytes in pieces.
-/
import Derived.Test.YtpkgoppfihcpbaaDoorFa2
import Derived.Test.YtpkgoppfihcpbaaDoorFg3
import Derived.Test.YtpkgoppfihcpbaaDoorHd3
set_option linter.unusedVariables false
set_option linter.unusedSimpArgs false
/-
Framing's reader as plain functions: bytes in pieces.
-/
section
namespace Go.Proofs.YtpkgoppfihcpbaaDoor
open Go.RowKit

/-- A reader with p ahead of its body. -/
def shF (p : List UInt8) (s : Rst) : Rst := { s with body := p ++ s.body }
theorem text_sh (p : List UInt8) (s : Rst) (c : UInt8) : textF (shF p s) c = (shF p (textF s c).1, (textF s c).2) := by
  unfold textF shF
  dsimp only
  split
  · split <;> rfl
  · split
    · rfl
    · split
      · split <;> rfl
      · rfl
theorem size_sh (p : List UInt8) (s : Rst) (l : List UInt8) : sizeL (shF p s) l = (shF p (sizeL s l).1, (sizeL s l).2) := by
  unfold sizeL shF
  dsimp only
  split
  · split <;> rfl
  · rfl
theorem tail_sh (p : List UInt8) (s : Rst) (l : List UInt8) : tailL (shF p s) l = (shF p (tailL s l).1, (tailL s l).2) := by
  unfold tailL shF
  dsimp only
  split
  · rfl
  · cases fldV l with
    | none => rfl
    | some q => dsimp only; split <;> rfl
theorem take_sh (p : List UInt8) (s : Rst) (c : UInt8) : takeF (shF p s) c = (shF p (takeF s c).1, (takeF s c).2) := by
  unfold takeF
  rw [show (shF p s).state = s.state from rfl]
  split
  · unfold plainF shF
    dsimp only
    split
    · simp
    · rfl
  · split
    · unfold sizeF
      rw [text_sh]
      obtain ⟨⟨t, ol, e⟩, hx⟩ : ∃ q, q = textF s c := ⟨_, rfl⟩
      rw [← hx]
      cases ol with
      | none => rfl
      | some l => exact size_sh p t l
    · split
      · unfold dataF shF
        dsimp only
        split <;> simp
      · split
        · unfold behindF shF
          dsimp only
          by_cases hc : c = (if s.left = 2 then 13 else 10)
          · rw [if_pos hc, if_pos hc]; split <;> rfl
          · rw [if_neg hc, if_neg hc]
        · unfold trailF
          rw [text_sh]
          obtain ⟨⟨t, ol, e⟩, hx⟩ : ∃ q, q = textF s c := ⟨_, rfl⟩
          rw [← hx]
          cases ol with
          | none => rfl
          | some l => exact tail_sh p t l
theorem run_sh (p : List UInt8) : ∀ (l : List UInt8) (s : Rst), runF (shF p s) l = (shF p (runF s l).1, (runF s l).2)
  | [], _ => rfl
  | c :: l, s => by
    rw [runF_cons, runF_cons, take_sh]
    rw [show (shF p s).done = s.done from rfl]
    dsimp only
    split
    · rfl
    · split
      · rfl
      · rw [run_sh p l]
end Go.Proofs.YtpkgoppfihcpbaaDoor
end

/-
Framing's reader as plain functions: fed in two pieces is as fed at once.
-/
section
namespace Go.Proofs.YtpkgoppfihcpbaaDoor
open Go.RowKit

/-- A sized reader is done just when all is there (a plain one has no states). -/
def Dn (s : Rst) : Prop := (s.kind = 1 → s.done = decide (s.all = s.n)) ∧ (s.kind = 0 → s.done = true)
theorem text_kd {s t : Rst} {c : UInt8} {ol : Option (List UInt8)} {e : Int} (ht : textF s c = (t, ol, e)) : t.kind = s.kind ∧ t.done = s.done ∧ t.all = s.all ∧ t.n = s.n ∧ t.most = s.most := by
  unfold textF at ht
  split at ht
  · split at ht <;> (cases ht; exact ⟨rfl, rfl, rfl, rfl, rfl⟩)
  · split at ht
    · cases ht; exact ⟨rfl, rfl, rfl, rfl, rfl⟩
    · split at ht
      · split at ht <;> (cases ht; exact ⟨rfl, rfl, rfl, rfl, rfl⟩)
      · cases ht; exact ⟨rfl, rfl, rfl, rfl, rfl⟩
/-- The kind and the bound stay. -/
theorem take_kd (s : Rst) (c : UInt8) : (takeF s c).1.kind = s.kind ∧ (takeF s c).1.n = s.n ∧ (takeF s c).1.most = s.most := by
  unfold takeF
  split
  · unfold plainF; split <;> exact ⟨rfl, rfl, rfl⟩
  · split
    · unfold sizeF
      obtain ⟨⟨t, ol, e⟩, hx⟩ : ∃ q, q = textF s c := ⟨_, rfl⟩
      rw [← hx]
      obtain ⟨h1, _, _, h2, h3⟩ := text_kd hx.symm
      cases ol with
      | none => exact ⟨h1, h2, h3⟩
      | some l =>
        dsimp only
        unfold sizeL
        split
        · split <;> exact ⟨h1, h2, h3⟩
        · exact ⟨h1, h2, h3⟩
    · split
      · unfold dataF; split <;> exact ⟨rfl, rfl, rfl⟩
      · split
        · unfold behindF
          by_cases hc : c = (if s.left = 2 then 13 else 10)
          · rw [if_pos hc]; split <;> exact ⟨rfl, rfl, rfl⟩
          · rw [if_neg hc]; exact ⟨rfl, rfl, rfl⟩
        · unfold trailF
          obtain ⟨⟨t, ol, e⟩, hx⟩ : ∃ q, q = textF s c := ⟨_, rfl⟩
          rw [← hx]
          obtain ⟨h1, _, _, h2, h3⟩ := text_kd hx.symm
          cases ol with
          | none => exact ⟨h1, h2, h3⟩
          | some l =>
            dsimp only
            unfold tailL
            split
            · exact ⟨h1, h2, h3⟩
            · cases fldV l with
              | none => exact ⟨h1, h2, h3⟩
              | some p => dsimp only; split <;> exact ⟨h1, h2, h3⟩
/-- Of a reader that is not chunked: a byte leaves it done just when all is there. -/
theorem take_dn {s : Rst} {c : UInt8} (hok : Rok s) (hk : s.kind ≠ 0) (h : Dn s) (h0 : (takeF s c).2 = 0) : Dn (takeF s c).1 := by
  obtain ⟨k1, k2, _⟩ := take_kd s c
  refine ⟨fun e => ?_, fun e => absurd (k1.symm.trans e) hk⟩
  have e1 : s.kind = 1 := k1.symm.trans e
  have hs : s.state = 0 := Decidable.byContradiction fun hn => by have := hok.ck.2 hn; omega
  unfold takeF at h0 ⊢
  rw [if_pos hs] at h0 ⊢
  unfold plainF at h0 ⊢
  split
  · dsimp only; rw [e1]; rfl
  · rename_i hm; rw [if_neg hm] at h0; cases h0
theorem run_dn : ∀ (l : List UInt8) (s : Rst), Rok s → s.kind ≠ 0 → Dn s → (runF s l).2.2 = 0 → Dn (runF s l).1
  | [], _, _, _, h, _ => h
  | c :: l, s, hok, hk, h, h0 => by
    rw [runF_cons] at h0 ⊢
    by_cases kd : s.done = true
    · rw [if_pos kd]; exact h
    · rw [if_neg kd] at h0 ⊢
      by_cases k1 : (takeF s c).2 ≠ 0
      · rw [if_pos k1] at h0; exact absurd h0 k1
      · rw [if_neg k1] at h0 ⊢
        exact run_dn l _ (take_okF hok) (by rw [(take_kd s c).1]; exact hk) (take_dn hok hk h (by simpa using k1)) h0
end Go.Proofs.YtpkgoppfihcpbaaDoor
end

/-
Framing's reader as plain functions: what is known without a byte, twice.
-/
section
namespace Go.Proofs.YtpkgoppfihcpbaaDoor
open Go.RowKit

theorem ready_dn {s : Rst} (hr : (readyF s).2 = 0) : Dn (readyF s).1 ∧ (readyF s).1.kind = s.kind ∧ ((readyF s).1.kind = 1 → (readyF s).1.n ≤ (readyF s).1.most) := by
  unfold readyF at hr ⊢
  by_cases k0 : s.kind = 0
  · rw [if_pos k0]
    exact ⟨⟨fun e => by have : s.kind = 1 := e; omega, fun _ => rfl⟩, rfl, fun e => by have : s.kind = 1 := e; omega⟩
  · rw [if_neg k0] at hr ⊢
    by_cases k1 : s.kind = 1
    · rw [if_pos k1] at hr ⊢
      by_cases k2 : s.n ≤ s.most
      · rw [if_pos k2]
        exact ⟨⟨fun _ => rfl, fun e => absurd e k0⟩, rfl, fun _ => k2⟩
      · rw [if_neg k2] at hr; cases hr
    · rw [if_neg k1]
      exact ⟨⟨fun e => absurd e k1, fun e => absurd e k0⟩, rfl, fun e => absurd e k1⟩
theorem ready_idem {s : Rst} (h : Dn s) (hd : s.done = false) (hm : s.kind = 1 → s.n ≤ s.most) : readyF s = (s, 0) := by
  unfold readyF
  by_cases k0 : s.kind = 0
  · have := h.2 k0; rw [hd] at this; cases this
  · rw [if_neg k0]
    by_cases k1 : s.kind = 1
    · rw [if_pos k1, if_pos (hm k1), ← h.1 k1]
    · rw [if_neg k1]
theorem run_kd : ∀ (l : List UInt8) (s : Rst), (runF s l).1.kind = s.kind ∧ (runF s l).1.n = s.n ∧ (runF s l).1.most = s.most
  | [], _ => ⟨rfl, rfl, rfl⟩
  | c :: l, s => by
    obtain ⟨h1, h2, h3⟩ := take_kd s c
    obtain ⟨g1, g2, g3⟩ := run_kd l (takeF s c).1
    rw [runF_cons]
    split
    · exact ⟨rfl, rfl, rfl⟩
    · split
      · exact ⟨h1, h2, h3⟩
      · exact ⟨g1.trans h1, g2.trans h2, g3.trans h3⟩
end Go.Proofs.YtpkgoppfihcpbaaDoor
end

/-
Framing's reader as plain functions: fed in two pieces.
-/
section
namespace Go.Proofs.YtpkgoppfihcpbaaDoor
open Go.RowKit

theorem rst_eP {s : Rst} (h : s.e = 0) : { s with e := 0 } = s := by
  obtain ⟨a, b, c, d, e, f, g, h1, i, j, k, l⟩ := s
  dsimp only at h
  subst h
  rfl
/-- A feed that goes on: what it is. -/
theorem feed_onF {s : Rst} (hok : Rok s) (hd : s.done = false) (a : List UInt8) (h2 : (feedF s a).2.2.2.1 = false) (h3 : (feedF s a).2.2.2.2 = 0) :
    (readyF s).2 = 0 ∧ (runF (readyF s).1 a).2.2 = 0 ∧ (runF (readyF s).1 a).1.done = false ∧ feedF s a = ({ (runF (readyF s).1 a).1 with body := [] }, (runF (readyF s).1 a).2.1, (runF (readyF s).1 a).1.body, false, 0) := by
  have hc : ¬ (s.done = true ∨ s.e ≠ 0) := by rw [hd, hok.e0]; simp
  have hg : goF s a = if (readyF s).2 ≠ 0 then ({ (readyF s).1 with e := (readyF s).2 }, 0) else ({ (runF (readyF s).1 a).1 with e := (runF (readyF s).1 a).2.2 }, (runF (readyF s).1 a).2.1) := by unfold goF; rw [if_neg hc]
  have he : (goF s a).1.e = 0 := h3
  have hdn : (goF s a).1.done = false := h2
  by_cases hr : (readyF s).2 ≠ 0
  · rw [hg, if_pos hr] at he; exact absurd he hr
  · rw [hg, if_neg hr] at he hdn
    have hr0 : (readyF s).2 = 0 := by simpa using hr
    have e0 : (runF (readyF s).1 a).2.2 = 0 := he
    have d0 : (runF (readyF s).1 a).1.done = false := hdn
    have z0 := (runF_ok a _ (ready_okF hok)).e0
    refine ⟨hr0, e0, d0, ?_⟩
    unfold feedF
    rw [hg, if_neg hr]
    dsimp only
    rw [e0, d0]
    obtain ⟨z, hz⟩ : ∃ z, z = (runF (readyF s).1 a).1 := ⟨_, rfl⟩
    rw [← hz] at z0 ⊢
    obtain ⟨x1, x2, x3, x4, x5, x6, x7, x8, x9, x10, x11, x12⟩ := z
    dsimp only at z0 ⊢
    rw [z0]
/-- Fed in two pieces: as at once. -/
theorem feed_appF {s : Rst} (hok : Rok s) (hd : s.done = false) (a b : List UInt8) (h2 : (feedF s a).2.2.2.1 = false) (h3 : (feedF s a).2.2.2.2 = 0) :
    feedF s (a ++ b) = ((feedF (feedF s a).1 b).1, (feedF s a).2.1 + (feedF (feedF s a).1 b).2.1, (feedF s a).2.2.1 ++ (feedF (feedF s a).1 b).2.2.1, (feedF (feedF s a).1 b).2.2.2) := by
  obtain ⟨hr, e0, d0, hf⟩ := feed_onF hok hd a h2 h3
  have hc : ¬ (s.done = true ∨ s.e ≠ 0) := by rw [hd, hok.e0]; simp
  obtain ⟨dn, hk, hm⟩ := ready_dn hr
  have ok1 := ready_okF hok
  obtain ⟨s1, hs1⟩ : ∃ z, z = (readyF s).1 := ⟨_, rfl⟩
  rw [← hs1] at e0 d0 hf dn hk hm ok1
  have hk0 : s1.kind ≠ 0 := fun e => by
    have := dn.2 e
    rw [runF_done this] at d0
    rw [this] at d0; cases d0
  have dz := run_dn a s1 ok1 hk0 dn e0
  have okz := runF_ok a s1 ok1
  obtain ⟨kz, nz, mz⟩ := run_kd a s1
  have happ := runF_app a b s1 e0
  obtain ⟨z, hz⟩ : ∃ z, z = (runF s1 a).1 := ⟨_, rfl⟩
  obtain ⟨u, hu⟩ : ∃ z, z = (runF s1 a).2.1 := ⟨_, rfl⟩
  rw [← hz] at d0 dz okz kz nz mz
  rw [← hz, ← hu] at happ hf
  obtain ⟨x, hx⟩ : ∃ x : Rst, x = { z with body := [] } := ⟨_, rfl⟩
  have hsh : z = shF z.body x := by rw [hx]; unfold shF; simp
  have hxd : x.done = false := by rw [hx]; exact d0
  have hxe : x.e = 0 := by rw [hx]; exact okz.e0
  have hxr : readyF x = (x, 0) := ready_idem (by rw [hx]; exact dz) hxd (by rw [hx]; intro e; have e1 : z.kind = 1 := e; show z.n ≤ z.most; rw [nz, mz]; exact hm (kz.symm.trans e1))
  have hxc : ¬ (x.done = true ∨ x.e ≠ 0) := by rw [hxd, hxe]; simp
  have hgx : goF x b = ({ (runF x b).1 with e := (runF x b).2.2 }, (runF x b).2.1) := by unfold goF; rw [if_neg hxc, hxr]; simp
  have hrz : runF z b = (shF z.body (runF x b).1, (runF x b).2) := by
    have := run_sh z.body b x
    rw [← hsh] at this
    exact this
  have hgs : goF s (a ++ b) = ({ shF z.body (runF x b).1 with e := (runF x b).2.2 }, u + (runF x b).2.1) := by
    unfold goF
    rw [if_neg hc]
    dsimp only
    rw [if_neg (by rw [hr]; simp), ← hs1, happ, hrz]
  rw [hf, ← hx]
  unfold feedF
  rw [hgs, hgx]
  rfl
end Go.Proofs.YtpkgoppfihcpbaaDoor
end

/-
Framing's reader as plain functions: behind an end, or an error, nothing is taken.
-/
section
namespace Go.Proofs.YtpkgoppfihcpbaaDoor
open Go.RowKit

theorem run_stopF (s : Rst) (a b : List UInt8) (h : (runF s a).1.done = true ∨ (runF s a).2.2 ≠ 0) : runF s (a ++ b) = runF s a := by
  by_cases h0 : (runF s a).2.2 = 0
  · rcases h with h | h
    · rw [runF_app a b s h0, runF_done h]
      obtain ⟨z, hz⟩ : ∃ z, z = runF s a := ⟨_, rfl⟩
      rw [← hz] at h0 ⊢
      obtain ⟨x, u, e⟩ := z
      dsimp only at h0 ⊢
      rw [h0]; rfl
    · exact absurd h0 h
  · exact runF_end a b s h0
theorem feed_endF {s : Rst} (hok : Rok s) (hd : s.done = false) (a b : List UInt8) (h : (feedF s a).2.2.2.1 = true ∨ (feedF s a).2.2.2.2 ≠ 0) : feedF s (a ++ b) = feedF s a := by
  have hc : ¬ (s.done = true ∨ s.e ≠ 0) := by rw [hd, hok.e0]; simp
  have hg : ∀ l, goF s l = if (readyF s).2 ≠ 0 then ({ (readyF s).1 with e := (readyF s).2 }, 0) else ({ (runF (readyF s).1 l).1 with e := (runF (readyF s).1 l).2.2 }, (runF (readyF s).1 l).2.1) := fun l => by unfold goF; rw [if_neg hc]
  have h' : (goF s a).1.done = true ∨ (goF s a).1.e ≠ 0 := h
  have he : goF s (a ++ b) = goF s a := by
    rw [hg, hg]
    by_cases hr : (readyF s).2 ≠ 0
    · rw [if_pos hr, if_pos hr]
    · rw [hg, if_neg hr] at h'
      rw [if_neg hr, if_neg hr, run_stopF _ a b h']
  unfold feedF
  rw [he]
end Go.Proofs.YtpkgoppfihcpbaaDoor
end

/-
Framing's reader fed in pieces: up to the first m bytes.
-/
section
namespace Go.Proofs.YtpkgoppfihcpbaaDoor
open Go.RowKit

/-- Fed in pieces, up to b's first m bytes: as at once. -/
structure PcF (s0 : Rst) (b : List UInt8) (m : Nat) (s : Rst) (n : Nat) (got : List UInt8) (d : Bool) (e : Int) : Prop where
  le : m ≤ b.length
  all : feedF s0 (b.take m) = (s, n, got, d, e)
theorem pcF_next {s0 : Rst} (hok : Rok s0) (hd : s0.done = false) {b : List UInt8} {m n : Nat} {s : Rst} {got : List UInt8} (h : PcF s0 b m s n got false 0) (t : Nat) (hm : m ≤ t) (ht : t ≤ b.length) :
    PcF s0 b t (feedF s ((b.take t).drop m)).1 (n + (feedF s ((b.take t).drop m)).2.1) (got ++ (feedF s ((b.take t).drop m)).2.2.1) (feedF s ((b.take t).drop m)).2.2.2.1 (feedF s ((b.take t).drop m)).2.2.2.2 := by
  have e : b.take t = b.take m ++ (b.take t).drop m := by
    have := (List.take_append_drop m (b.take t)).symm
    rw [List.take_take, Nat.min_eq_left hm] at this
    exact this
  have hf := feed_appF hok hd (b.take m) ((b.take t).drop m) (by rw [h.all]) (by rw [h.all])
  rw [← e, h.all] at hf
  exact ⟨ht, hf⟩
/-- At the end of all bytes, or where it ended: as at once. -/
theorem pcF_end {s0 : Rst} (hok : Rok s0) (hd : s0.done = false) {b : List UInt8} {m n : Nat} {s : Rst} {got : List UInt8} {d : Bool} {e : Int} (h : PcF s0 b m s n got d e) (hh : m = b.length ∨ d = true ∨ e ≠ 0) :
    feedF s0 b = (s, n, got, d, e) := by
  rcases hh with hh | hh
  · have := h.all
    rw [List.take_of_length_le (by omega)] at this
    exact this
  · have := feed_endF hok hd (b.take m) (b.drop m) (by rw [h.all]; exact hh)
    rw [List.take_append_drop, h.all] at this
    exact this
/-- What a feed leaves may go on, or has ended. -/
theorem feed_goF {s : Rst} (b : List UInt8) (h : s.done = true ∨ s.e ≠ 0 ∨ Rok s) : (feedF s b).1.done = true ∨ (feedF s b).1.e ≠ 0 ∨ Rok (feedF s b).1 := by
  by_cases hc : s.done = true ∨ s.e ≠ 0
  · have hg : goF s b = (s, 0) := if_pos hc
    have hf : (feedF s b).1 = { s with body := [] } := by unfold feedF; rw [hg]
    rw [hf]
    rcases hc with h1 | h1
    · exact .inl h1
    · exact .inr (.inl h1)
  · have hok : Rok s := by
      rcases h with h | h | h
      · exact absurd (.inl h) hc
      · exact absurd (.inr h) hc
      · exact h
    have hg : goF s b = if (readyF s).2 ≠ 0 then ({ (readyF s).1 with e := (readyF s).2 }, 0) else ({ (runF (readyF s).1 b).1 with e := (runF (readyF s).1 b).2.2 }, (runF (readyF s).1 b).2.1) := by unfold goF; rw [if_neg hc]
    have hf : (feedF s b).1 = { (goF s b).1 with body := [] } := rfl
    rw [hf, hg]
    by_cases hr : (readyF s).2 ≠ 0
    · rw [if_pos hr]; exact .inr (.inl hr)
    · rw [if_neg hr]
      by_cases he : (runF (readyF s).1 b).2.2 = 0
      · have := runF_ok b _ (ready_okF hok)
        refine .inr (.inr ⟨he, this.mo, this.al, this.kd, this.nn, this.st, this.ck, this.ln, this.fl, Nat.zero_le _, this.l2, this.l3⟩)
      · exact .inr (.inl he)
end Go.Proofs.YtpkgoppfihcpbaaDoor
end

/-
The reference's NewReader; made: a reader and the reference's, or none.
-/
section
namespace Go.Proofs.YtpkgoppfihcpbaaDoor
open Go.RowKit

set_option maxRecDepth 100000 in
set_option maxHeartbeats 4000000 in
theorem rfNew_yes (kd n most : Nat) (h1 : kd ≤ 3) (h2 : n = 0 ∨ kd = 1) (h3 : most ≤ 1048576) (w : World) :
    Calls Tryd.prog 21 #[.agg #[.int .i64 (kd : Int), .int .i64 (n : Int)], .int .i64 (most : Int)] w (fun e w' => ∃ p, e = .returned (.pointer (some ⟨p, 0, none⟩)) ∧ Ext w w') := by
  have a1 : ¬ (kd : Int) < 0 := by omega
  have a2 : ¬ (3 : Int) < (kd : Int) := by omega
  have a3 : ¬ (n : Int) < 0 := by omega
  have a4 : ¬ (most : Int) < 0 := by omega
  have a5 : ¬ (1048576 : Int) < (most : Int) := by omega
  by_cases k1 : kd = 1
  · subst k1
    clear a1 a2 h1
    go_enter Tryd.func21, Tryd.ntmps21
    go_wp2
    refine bodyPost_ret (v := .pointer (some ⟨w.heap.size + 1, 0, none⟩)) (by simp [results, Tryd.results21, go_sem]) rfl ?_
    exact ⟨⟨_, rfl⟩, by (repeat (first | exact Ext.rfl' _ | assumption | refine Ext.dr ?_ | refine Ext.drN ?_ _ | refine Ext.al ?_ _ | refine Ext.st ?_ (by simp) _ | refine Ext.tr ?_ (by assumption)))⟩
  · obtain rfl : n = 0 := by omega
    have d1 : ((kd : Int) != 1) = true := by rw [bne_iff_ne]; omega
    clear a3
    go_enter Tryd.func21, Tryd.ntmps21
    go_wp2
    refine bodyPost_ret (v := .pointer (some ⟨w.heap.size + 1, 0, none⟩)) (by simp [results, Tryd.results21, go_sem]) rfl ?_
    exact ⟨⟨_, rfl⟩, by (repeat (first | exact Ext.rfl' _ | assumption | refine Ext.dr ?_ | refine Ext.drN ?_ _ | refine Ext.al ?_ _ | refine Ext.st ?_ (by simp) _ | refine Ext.tr ?_ (by assumption)))⟩
set_option maxRecDepth 100000 in
set_option maxHeartbeats 4000000 in
theorem rfNew_no (kd n most : Int) (h : goodR kd n most = false) (w : World) :
    Calls Tryd.prog 21 #[.agg #[.int .i64 kd, .int .i64 n], .int .i64 most] w (Gives (.pointer none) w) := by
  have W : ∀ (_ : kd < 0 ∨ 3 < kd ∨ n < 0 ∨ (kd ≠ 1 ∧ n ≠ 0) ∨ most < 0 ∨ 1048576 < most), Calls Tryd.prog 21 #[.agg #[.int .i64 kd, .int .i64 n], .int .i64 most] w (Gives (.pointer none) w) := by
    intro hc
    clear h
    by_cases b1 : kd < 0
    · clear hc
      go_enter Tryd.func21, Tryd.ntmps21
      go_wp2
      refine bodyPost_ret (v := .pointer none) (by simp [results, Tryd.results21, go_sem]) rfl ?_
      exact ⟨rfl, by (repeat (first | exact Ext.rfl' _ | assumption | refine Ext.dr ?_ | refine Ext.drN ?_ _ | refine Ext.al ?_ _ | refine Ext.st ?_ (by simp) _ | refine Ext.tr ?_ (by assumption)))⟩
    · by_cases b2 : 3 < kd
      · clear hc
        go_enter Tryd.func21, Tryd.ntmps21
        go_wp2
        refine bodyPost_ret (v := .pointer none) (by simp [results, Tryd.results21, go_sem]) rfl ?_
        exact ⟨rfl, by (repeat (first | exact Ext.rfl' _ | assumption | refine Ext.dr ?_ | refine Ext.drN ?_ _ | refine Ext.al ?_ _ | refine Ext.st ?_ (by simp) _ | refine Ext.tr ?_ (by assumption)))⟩
      · by_cases b3 : n < 0
        · clear hc
          go_enter Tryd.func21, Tryd.ntmps21
          go_wp2
          refine bodyPost_ret (v := .pointer none) (by simp [results, Tryd.results21, go_sem]) rfl ?_
          exact ⟨rfl, by (repeat (first | exact Ext.rfl' _ | assumption | refine Ext.dr ?_ | refine Ext.drN ?_ _ | refine Ext.al ?_ _ | refine Ext.st ?_ (by simp) _ | refine Ext.tr ?_ (by assumption)))⟩
        · by_cases b5 : kd = 1
          · subst b5
            clear b1 b2
            by_cases b6 : most < 0
            · clear hc
              go_enter Tryd.func21, Tryd.ntmps21
              go_wp2
              refine bodyPost_ret (v := .pointer none) (by simp [results, Tryd.results21, go_sem]) rfl ?_
              exact ⟨rfl, by (repeat (first | exact Ext.rfl' _ | assumption | refine Ext.dr ?_ | refine Ext.drN ?_ _ | refine Ext.al ?_ _ | refine Ext.st ?_ (by simp) _ | refine Ext.tr ?_ (by assumption)))⟩
            · have b7 : 1048576 < most := by omega
              clear hc
              go_enter Tryd.func21, Tryd.ntmps21
              go_wp2
              refine bodyPost_ret (v := .pointer none) (by simp [results, Tryd.results21, go_sem]) rfl ?_
              exact ⟨rfl, by (repeat (first | exact Ext.rfl' _ | assumption | refine Ext.dr ?_ | refine Ext.drN ?_ _ | refine Ext.al ?_ _ | refine Ext.st ?_ (by simp) _ | refine Ext.tr ?_ (by assumption)))⟩
          · have b5' : (kd != 1) = true := by rw [bne_iff_ne]; exact b5
            by_cases b4 : n = 0
            · subst b4
              clear b3
              by_cases b6 : most < 0
              · clear hc
                go_enter Tryd.func21, Tryd.ntmps21
                go_wp2
                refine bodyPost_ret (v := .pointer none) (by simp [results, Tryd.results21, go_sem]) rfl ?_
                exact ⟨rfl, by (repeat (first | exact Ext.rfl' _ | assumption | refine Ext.dr ?_ | refine Ext.drN ?_ _ | refine Ext.al ?_ _ | refine Ext.st ?_ (by simp) _ | refine Ext.tr ?_ (by assumption)))⟩
              · have b7 : 1048576 < most := by omega
                clear hc
                go_enter Tryd.func21, Tryd.ntmps21
                go_wp2
                refine bodyPost_ret (v := .pointer none) (by simp [results, Tryd.results21, go_sem]) rfl ?_
                exact ⟨rfl, by (repeat (first | exact Ext.rfl' _ | assumption | refine Ext.dr ?_ | refine Ext.drN ?_ _ | refine Ext.al ?_ _ | refine Ext.st ?_ (by simp) _ | refine Ext.tr ?_ (by assumption)))⟩
            · have b4' : (n != 0) = true := by rw [bne_iff_ne]; exact b4
              clear hc
              go_enter Tryd.func21, Tryd.ntmps21
              go_wp2
              refine bodyPost_ret (v := .pointer none) (by simp [results, Tryd.results21, go_sem]) rfl ?_
              exact ⟨rfl, by (repeat (first | exact Ext.rfl' _ | assumption | refine Ext.dr ?_ | refine Ext.drN ?_ _ | refine Ext.al ?_ _ | refine Ext.st ?_ (by simp) _ | refine Ext.tr ?_ (by assumption)))⟩
  apply W
  unfold goodR at h
  simp only [Bool.and_eq_false_iff, Bool.or_eq_false_iff, decide_eq_false_iff_not] at h
  omega
end Go.Proofs.YtpkgoppfihcpbaaDoor
end

/-
made: a reader and the reference's, or none.
-/
section
namespace Go.Proofs.YtpkgoppfihcpbaaDoor
open Go.RowKit

set_option maxRecDepth 100000 in
set_option maxHeartbeats 4000000 in
theorem made12_no (kd n most : Int) (h : goodR kd n most = false) (w : World) :
    Calls Tryd.prog 10 #[.int .i64 kd, .int .i64 n, .int .i64 most] w (Gives (.tuple #[.pointer none, .pointer none, .bool true]) w) := by
  have C1 := Lib.hid (fun w => fNew_no kd n most h w)
  have C2 := Lib.hid (fun w => rfNew_no kd n most h w)
  clear h
  go_enter Tryd.func10, Tryd.ntmps10
  go_wp2_with (first
    | (go_at_call 11; refine (C1.out _).mono ?_; rintro e w1 ⟨rfl, x1⟩)
    | (go_at_call 21; refine (C2.out _).mono ?_; rintro e w2 ⟨rfl, x2⟩)
    | (go_at_call 8; refine (num12_c _ _).mono ?_; rintro e w3 ⟨rfl, rfl⟩))
  refine bodyPost_ret (v := .tuple #[.pointer none, .pointer none, .bool true]) (by simp [results, Tryd.results10, go_sem]) rfl ?_
  exact ⟨rfl, by (repeat (first | exact Ext.rfl' _ | assumption | refine Ext.dr ?_ | refine Ext.drN ?_ _ | refine Ext.al ?_ _ | refine Ext.st ?_ (by simp) _ | refine Ext.tr ?_ (by assumption)))⟩
set_option maxRecDepth 100000 in
set_option maxHeartbeats 4000000 in
theorem made12_yes (k : Nat) (kd n most : Nat) (h1 : kd ≤ 3) (h2 : n = 0 ∨ kd = 1) (h3 : most ≤ 1048576) (hn : n < 9223372036854775808) (w : World) (o : Ow) :
    Calls Tryd.prog 10 #[.int .i64 (kd : Int), .int .i64 (n : Int), .int .i64 (most : Int)] w (Turns (fun _ => False) w o fun v w' o' => ∃ p q, v = .tuple #[.pointer (some ⟨p, 0, none⟩), .pointer (some ⟨q, 0, none⟩), .bool true] ∧ FsAt w' o' k p (newF kd n most) ∧ w.heap.size ≤ p) := by
  have C1 := Lib.hid (fun w => fNew_yes k kd n most h1 h2 h3 hn w o)
  have C2 := Lib.hid (fun w => rfNew_yes kd n most h1 h2 h3 w)
  clear h1 h2 h3 hn
  go_enter Tryd.func10, Tryd.ntmps10
  go_wp2_with (first
    | (go_at_call 11; refine (C1.out _).mono ?_; rintro e w1 ⟨v, o1, rfl, ⟨P, rfl, hp1, hP1⟩, st1⟩)
    | (go_at_call 21; refine (C2.out _).mono ?_; rintro e w2 ⟨Q, rfl, x2⟩)
    | (go_at_call 8; refine (num12_c _ _).mono ?_; rintro e w3 ⟨rfl, rfl⟩))
  refine bodyPost_ret (v := .tuple #[.pointer (some ⟨P, 0, none⟩), .pointer (some ⟨Q, 0, none⟩), .bool true]) (by simp [results, Tryd.results10, go_sem]) rfl ?_
  exact Turns.mk o1 rfl ⟨P, Q, rfl, hp1.ext (by (repeat (first | exact Ext.rfl' _ | assumption | refine Ext.dr ?_ | refine Ext.drN ?_ _ | refine Ext.al ?_ _ | refine Ext.st ?_ (by simp) _ | refine Ext.tr ?_ (by assumption)))), hP1⟩ (st1.tr (Stp.ext (by (repeat (first | exact Ext.rfl' _ | assumption | refine Ext.dr ?_ | refine Ext.drN ?_ _ | refine Ext.al ?_ _ | refine Ext.st ?_ (by simp) _ | refine Ext.tr ?_ (by assumption))))))
end Go.Proofs.YtpkgoppfihcpbaaDoor
end

/-
Framing's pieces: a piece of bytes; how far it goes; what is old stays.
-/
section
namespace Go.Proofs.YtpkgoppfihcpbaaDoor
open Go.RowKit

set_option maxRecDepth 100000 in
theorem cut_partH (b : List UInt8) (B : Option Addr) (n c X Y : Nat) (w : World) (hR : Rd w B (bc b)) (hX : X ≤ Y) (hY : Y ≤ b.length) (hc : b.length ≤ c) :
    ∃ B', (∀ w', (Instr.slice 32 (.slice B n c) (some (.int .i64 (X : Int))) (some (.int .i64 (Y : Int))) none).run Tryd.prog w' = .ok (.slice B' (Y - X) (c - X)) w') ∧ Rd w B' (bc ((b.take Y).drop X)) ∧ (∀ a', B' = some a' → ∃ a, B = some a ∧ a.block = a'.block) := by
  have hl : ((b.take Y).drop X).length = Y - X := by rw [List.length_drop, List.length_take]; omega
  have hz : ∀ w', (Go.sizeOf 5).run Tryd.prog w' = .ok 1 w' := fun _ => rfl
  have hu := Tryd.underlying32
  refine ⟨if c = X then B else B.map (·.add (X * 1)), fun w' => ?_, ?_, ?_⟩
  · have h1 : (0 : Int) ≤ (Y : Int) := by omega
    have h2 : (Y : Int) ≤ (c : Int) := by omega
    have h3 : (0 : Int) ≤ (X : Int) := by omega
    have h4 : (X : Int) ≤ (Y : Int) := by omega
    simp [Instr.slice, Instr.sliceBounds, Instr.sliceBound, asIntOf, run_underlying hu, go_sem, h1, h2, h3, h4, hz, hX, (show Y ≤ c by omega)]
  · by_cases h0 : X = Y
    · have h5 : (b.take Y).drop X = [] := List.eq_nil_of_length_eq_zero (by rw [hl]; omega)
      exact .inl (by rw [h5]; rfl)
    · rw [if_neg (by omega)]
      obtain ⟨g, f, rfl, hg, hcc⟩ := hR.at_ (by rw [bc_len]; omega)
      refine .inr ⟨g, f + X * 1, by simp [Addr.add], fun j u hu => ?_⟩
      have hj : j < Y - X := by have := (List.getElem?_eq_some_iff.1 hu).1; rw [bc_len, hl] at this; exact this
      rw [Nat.mul_one, Nat.add_assoc]
      refine hcc (X + j) u ?_
      rw [← hu, ← bc_drop, ← bc_take, List.getElem?_drop, List.getElem?_take_of_lt (by omega)]
  · intro a' ha
    split at ha
    · exact ⟨a', ha, rfl⟩
    · cases B with
      | none => cases ha
      | some a => cases ha; exact ⟨a, rfl, by cases a; simp only [Addr.add]; split <;> rfl⟩
/-- How far the next piece goes. -/
def cutT (n m : Nat) (ct : Int) : Nat := min n (m + (ct % ((n : Int) + 1)).toNat)
theorem cutT_ok (n m : Nat) (ct : Int) (_hc : 0 ≤ ct) (hm : m ≤ n) : m ≤ cutT n m ct ∧ cutT n m ct ≤ n ∧ 0 ≤ ct % ((n : Int) + 1) ∧ ct % ((n : Int) + 1) ≤ (n : Int) ∧ min (n : Int) ((m : Int) + ct % ((n : Int) + 1)) = (cutT n m ct : Int) := by
  have h1 : 0 ≤ ct % ((n : Int) + 1) := Int.emod_nonneg _ (by omega)
  have h2 : ct % ((n : Int) + 1) < (n : Int) + 1 := Int.emod_lt_of_pos ct (by omega)
  unfold cutT
  refine ⟨by omega, by omega, h1, by omega, ?_⟩
  omega
theorem own_old {K : Nat → Prop} {w0 w w' : World} {o o' : Ow} (h : ∀ x, x < w0.heap.size → o x = 0) (s : Stp K w o w' o') (hz : w0.heap.size ≤ w.heap.size) : ∀ x, x < w0.heap.size → o' x = 0 := fun x hx => (s.own x (by omega)).trans (h x hx)
theorem ext_old {K : Nat → Prop} {w0 w w' : World} {o o' : Ow} (x : Ext w0 w) (h : ∀ x, x < w0.heap.size → o x = 0) (s : Stp K w o w' o') (hk : ¬ K 0) : Ext w0 w' :=
  ⟨s.os.trans x.os, s.tape.trans x.tape, s.output.trans x.output, Nat.le_trans x.size s.size, fun b hb => (s.keep b (by have := x.size; omega) (by rw [h b hb]; exact hk)).trans (x.block b hb)⟩
theorem int_at {w : World} {C : Option Addr} {cs : List Int} (h : Rd w C (cs.map (Value.int .i64))) {t : Nat} (ht : t < cs.length) : ∃ g f, C = some ⟨g, f, none⟩ ∧ w.cell? ⟨g, f + t, none⟩ = some (.int .i64 cs[t]) := by
  obtain ⟨g, f, hC, _, hc⟩ := h.at_ (by rw [List.length_map]; omega)
  exact ⟨g, f, hC, hc t _ (by simp [ht])⟩
theorem feed_leF (s : Rst) (l : List UInt8) : (feedF s l).2.1 ≤ l.length := by
  show (goF s l).2 ≤ _
  unfold goF
  split
  · exact Nat.zero_le _
  · dsimp only
    split
    · exact Nat.zero_le _
    · exact runF_le l _
theorem pcF_le {s0 : Rst} {b : List UInt8} {m n : Nat} {s : Rst} {got : List UInt8} {d : Bool} {e : Int} (h : PcF s0 b m s n got d e) : n ≤ b.length := by
  have h1 := feed_leF s0 (b.take m)
  rw [h.all, List.length_take] at h1
  have := h.le
  dsimp only at h1
  omega
end Go.Proofs.YtpkgoppfihcpbaaDoor
end

/-
Fields with other names: Without, the reference's; two lists of fields that are the same.
-/
section
namespace Go.Proofs.YtpkgoppfihcpbaaDoor
open Go.RowKit

theorem met_succ {x : List UInt8} {nms : List (List UInt8)} {t : Nat} (ht : t < nms.length) : metH x (nms.take (t + 1)) = (metH x (nms.take t) || (lowL x == lowL nms[t])) := by
  unfold metH
  rw [List.take_succ_eq_append_getElem ht, List.any_append]; simp
set_option maxRecDepth 100000 in
set_option maxHeartbeats 4000000 in
theorem hFields_c (fs : List Fld) (A B : Option Addr) (n c m d : Nat) (hn : fs.length = n) (hm : fs.length = m) (hb : n ≤ maxLen) (w : World) (h : Rd w A (fc fs)) (hB : Rd w B (fc fs)) :
    Calls Tryd.prog 13 #[.slice A n c, .slice B m d] w (Gives (.bool true) w) := by
  obtain rfl : n = m := hn.symm.trans hm
  unfold maxLen at hb
  go_enter Tryd.func13, Tryd.ntmps13
  go_wp2
  go_loopw [5] (fun i wr => ∃ k : Nat, k ≤ n ∧ i = .int .i64 (k : Int) ∧ Ext w wr) (fun i _ => n - (intOf i).toNat)
  case atStart => exact ⟨0, Nat.zero_le _, rfl, Ext.rfl' _⟩
  case round =>
    obtain ⟨k, hk, rfl, hext⟩ := hrel
    by_cases hlt : k < n
    · obtain ⟨b, o, rfl, hbl, hS⟩ := h.fld (k := k) (by omega)
      obtain ⟨b', o', rfl, hbl', hS'⟩ := hB.fld (k := k) (by omega)
      obtain ⟨a0, a1⟩ := hS.out wr hext
      obtain ⟨e0, e1⟩ := hS'.out wr hext
      obtain ⟨p, hp⟩ : ∃ p, p = fs[k] := ⟨_, rfl⟩
      rw [← hp] at a0 a1 e0 e1
      obtain ⟨x, y⟩ := p
      have hk0 : (0 : Int) ≤ (k : Int) := by omega
      have hk1 : (k : Int) < (n : Int) := by omega
      clear hp
      go_wp2
      go_quiet (fail)
      go_wp2
      go_roundw
      case rel => exact ⟨k + 1, by omega, by go_num, hext.drN _⟩
      case measure => simp [intOf]; omega
    · obtain rfl : k = n := by omega
      go_wp2
      go_ret
      exact ⟨rfl, hext⟩
end Go.Proofs.YtpkgoppfihcpbaaDoor
end

/-
In whatever pieces a body comes: the law as a walk.
-/
section
namespace Go.Proofs.YtpkgoppfihcpbaaDoor
open Go.RowKit

theorem feed_bdF {s : Rst} (hok : Rok s) (b : List UInt8) : (feedF s b).1.tail.length ≤ 100 ∧ (feedF s b).2.2.1.length ≤ 1048576 := by
  have hg : (goF s b).1.tail.length ≤ 100 ∧ (goF s b).1.body.length ≤ 1048576 := by
    unfold goF
    split
    · exact ⟨hok.fl, Nat.le_trans hok.bl (Nat.le_trans hok.al hok.mo)⟩
    · have h1 := ready_okF hok
      dsimp only
      split
      · exact ⟨h1.fl, Nat.le_trans h1.bl (Nat.le_trans h1.al h1.mo)⟩
      · have h2 := runF_ok b _ h1
        exact ⟨h2.fl, Nat.le_trans h2.bl (Nat.le_trans h2.al h2.mo)⟩
  exact hg
theorem feed_mkF (s : Rst) (b : List UInt8) : ((feedF s b).1.done = (feedF s b).2.2.2.1) := rfl
/-- Fed in pieces, or not at all so far. -/
def PcG (s0 : Rst) (b : List UInt8) (m : Nat) (s : Rst) (n : Nat) (got : List UInt8) (d : Bool) (e : Int) (t : Nat) : Prop :=
  (t = 0 ∧ m = 0 ∧ s = s0 ∧ n = 0 ∧ got = [] ∧ d = false ∧ e = 0) ∨ PcF s0 b m s n got d e
theorem pcG_le {s0 : Rst} {b : List UInt8} {m n t : Nat} {s : Rst} {got : List UInt8} {d : Bool} {e : Int} (h : PcG s0 b m s n got d e t) : m ≤ b.length ∧ n ≤ b.length := by
  rcases h with ⟨_, h1, _, h2, _⟩ | h
  · exact ⟨by omega, by omega⟩
  · exact ⟨h.le, pcF_le h⟩
theorem pcG_next {s0 : Rst} (hok : Rok s0) (hd : s0.done = false) {b : List UInt8} {m n t : Nat} {s : Rst} {got : List UInt8} (h : PcG s0 b m s n got false 0 t) (T : Nat) (hm : m ≤ T) (ht : T ≤ b.length) :
    PcF s0 b T (feedF s ((b.take T).drop m)).1 (n + (feedF s ((b.take T).drop m)).2.1) (got ++ (feedF s ((b.take T).drop m)).2.2.1) (feedF s ((b.take T).drop m)).2.2.2.1 (feedF s ((b.take T).drop m)).2.2.2.2 := by
  rcases h with ⟨_, h1, h2, h3, h4, _⟩ | h
  · subst h1 h2 h3 h4
    refine ⟨ht, ?_⟩
    rw [List.drop_zero, Nat.zero_add, List.nil_append]
  · exact pcF_next hok hd h T hm ht
theorem pcG_end {s0 : Rst} (hok : Rok s0) (hd : s0.done = false) {b : List UInt8} {m n t : Nat} {s : Rst} {got : List UInt8} {d : Bool} {e : Int} (h : PcG s0 b m s n got d e t) (hh : (t ≠ 0 ∧ m = b.length) ∨ d = true ∨ e ≠ 0) : feedF s0 b = (s, n, got, d, e) := by
  rcases h with ⟨h0, _, _, _, _, h1, h2⟩ | h
  · rcases hh with hh | hh | hh
    · exact absurd h0 hh.1
    · rw [h1] at hh; cases hh
    · exact absurd h2 hh
  · refine pcF_end hok hd h ?_
    rcases hh with hh | hh
    · exact .inl hh.2
    · exact .inr hh
set_option maxRecDepth 100000 in
set_option maxHeartbeats 4000000 in
theorem FramingPieces_no (w : World) (hE : ErrR w) (kd n most : Int) (h : goodR kd n most = false) (B C : Option Addr) (bn bd m q : Nat) :
    Calls Tryd.prog 4 #[.int .i64 kd, .int .i64 n, .int .i64 most, .slice B bn bd, .slice C m q] w (Gives (.bool true) w) := by
  have HER := Lib.hid hE
  have C1 := Lib.hid (fun w => made12_no kd n most h w)
  clear h hE
  go_enter Tryd.func4, Tryd.ntmps4
  go_wp2_with (first
    | (go_at_call 10; refine (C1.out _).mono ?_; rintro e w1 ⟨rfl, x1⟩)
    | (go_at_call 9; refine (knows12_c _ (HER.out.ext x1)).mono ?_; rintro e w2 ⟨rfl, x2⟩))
  go_ret
  exact ⟨rfl, x1.tr x2⟩
/-- A slice of fields that reads as a list. -/
def IsFT (fs : List Fld) (v : Value) (w : World) : Prop := ∃ A c, v = .slice A fs.length c ∧ Rd w A (fc fs)
theorem trail_c (k P : Nat) (s : Rst) (hf : s.tail.length ≤ 1000000) (w : World) (o : Ow) (h : FsAt w o k P s) : Calls Tryd.prog 14 #[.pointer (some ⟨P, 0, none⟩)] w (Ret (IsFT (if s.done = true then s.tail else [])) w) := by
  by_cases hd : s.done = true
  · rw [if_pos hd]
    refine (fTrailers_yes 9 k P s hd hf w o h).mono ?_
    rintro e w1 ⟨v, o1, rfl, ⟨A, c, rfl, hs, _⟩, st⟩
    exact Ret.mk ⟨A, c, rfl, hs.rd⟩ st.noExt
  · rw [if_neg hd]
    obtain ⟨A, m, D, l, C, g, hr, h1⟩ := h.row
    have c10 := hr.c10
    rw [show s.done = false by simpa using hd] at c10
    refine (fTrailers_no P w c10).mono ?_
    rintro e w1 ⟨rfl, x⟩
    exact Ret.mk ⟨none, 0, rfl, .inl rfl⟩ x
/-- What the loop turns: the second reader, and what it gave. -/
def KG : Nat → Prop := fun i => KF 6 i ∨ i = 11
set_option maxRecDepth 100000 in
set_option maxHeartbeats 8000000 in
theorem FramingPieces_yes (w : World) (hE : ErrR w) (kd rn most : Nat) (hk1 : kd ≤ 3) (hk2 : rn = 0 ∨ kd = 1) (hk3 : most ≤ 1048576) (hrn : rn < 9223372036854775808) (b : List UInt8) (B : Option Addr) (bn bd : Nat) (hn : bn = b.length) (hb : bn ≤ 4611686018427387903) (hd : bn ≤ bd) (hB : Rd w B (bc b)) (cs : List Int) (C : Option Addr) (m q : Nat) (hm : m = cs.length) (hmb : m ≤ 4611686018427387903) (hcs : ∀ c ∈ cs, -9223372036854775808 ≤ c ∧ c ≤ 9223372036854775807) (hC : Rd w C (cs.map (Value.int .i64))) :
    Calls Tryd.prog 4 #[.int .i64 (kd : Int), .int .i64 (rn : Int), .int .i64 (most : Int), .slice B bn bd, .slice C m q] w (Gives (.bool true) w) := by
  have G0 := Lib.hid (show GlF w (fun _ => 0) from ⟨hE, rfl⟩)
  have HER := Lib.hid hE
  have HB := Lib.hid hB
  have HN := Lib.hid hn
  have HCC := Lib.hid hC
  have HCS := Lib.hid hcs
  have HMM := Lib.hid hm
  have HBW := Lib.hid (show ∀ l : List UInt8, ∀ A : Option Addr, l ≠ [] → (∀ a', A = some a' → ∃ a, B = some a ∧ a.block = a'.block) → b ≠ [] → ∀ a, A = some a → a.block < w.heap.size from fun l A _ h hne a ha => by
    obtain ⟨g, f, hB2, hg, _⟩ := HB.out.at_ (by rw [bc_len]; exact List.length_pos_iff.2 hne)
    obtain ⟨a0, h0, h1⟩ := h a ha
    rw [hB2] at h0
    cases h0
    rw [← h1]; exact hg)
  have CF := Lib.hid (fun k (hk : 0 < k) P (s : Rst) (hs : s.done = true ∨ s.e ≠ 0 ∨ Rok s) (l : List UInt8) (A : Option Addr) (n d : Nat) (hn : n = l.length) (hln : n ≤ 4611686018427387904) (w' : World) (o : Ow) (hp : FsAt w' o k P s) (hx : Ext w w') (ho : ∀ x, x < w.heap.size → o x = 0) (hA : Rd w' A (bc l)) (hbl : l ≠ [] → ∀ a, A = some a → a.block < w.heap.size) => fFeed_c k P hk s hs l A n d hn hln w' o hp (G0.out.stp (K := fun _ => False) (Stp.ext2 hx ho) (fun x => x)) hA (by
    intro hne a ha hlt
    rw [ho _ (hbl hne a ha)]
    unfold KF; omega))
  obtain ⟨s0, hs0⟩ : ∃ s, s = newF kd rn most := ⟨_, rfl⟩
  have hok0 : Rok s0 := by rw [hs0]; exact new_okF hk1 hrn hk3
  have D0 := Lib.hid (show s0.done = false from by rw [hs0]; rfl)
  have GO0 := Lib.hid (show s0.done = true ∨ s0.e ≠ 0 ∨ Rok s0 from .inr (.inr hok0))
  have OK0 := Lib.hid hok0
  obtain ⟨⟨z, u, body, dn, e0⟩, hz⟩ : ∃ r, r = feedF s0 b := ⟨_, rfl⟩
  have HZ := Lib.hid hz
  have CM := Lib.hid (fun w o => (by have := made12_yes 1 kd rn most hk1 hk2 hk3 hrn w o; rw [← hs0] at this; exact this : Calls Tryd.prog 10 #[.int .i64 (kd : Int), .int .i64 (rn : Int), .int .i64 (most : Int)] w (Turns (fun _ => False) w o fun v w' o' => ∃ p q, v = .tuple #[.pointer (some ⟨p, 0, none⟩), .pointer (some ⟨q, 0, none⟩), .bool true] ∧ FsAt w' o' 1 p s0 ∧ w.heap.size ≤ p)))
  have CN := Lib.hid (fun w o => (by have := fNew_yes 6 kd rn most hk1 hk2 hk3 hrn w o; rw [← hs0] at this; exact this : Calls Tryd.prog 11 #[.agg #[.int .i64 (kd : Int), .int .i64 (rn : Int)], .int .i64 (most : Int)] w (Turns (fun _ => False) w o fun v w' o' => ∃ p, v = .tuple #[.pointer (some ⟨p, 0, none⟩), .int .i64 0] ∧ FsAt w' o' 6 p s0 ∧ w.heap.size ≤ p)))
  clear hE hB hz hn hC hcs hm hs0 hok0 hk1 hk2 hk3 hrn
  go_enter Tryd.func4, Tryd.ntmps4
  go_wp2_with (first
    | (go_at_call 10; refine (CM.out w (fun _ => 0)).mono ?_; rintro e w1 ⟨v, o1, rfl, ⟨P, R, rfl, hp1, hP1⟩, st1⟩; have x1 := st1.noExt; have own1 := own_old (w0 := w) (fun _ _ => rfl) st1 (Nat.le_refl _))
    | (go_at_call 9; refine (knows12_c _ (HER.out.ext x1)).mono ?_; rintro e w3 ⟨rfl, x3⟩)
    | (go_at_call 11; refine (CN.out w3 o1).mono ?_; rintro e w2 ⟨v, o2, rfl, ⟨Q, rfl, hq2, hQ2⟩, st2⟩; have x2 := (x1.tr x3).tr st2.noExt; have own2 := own_old own1 ((Stp.ext x3).tr st2) x1.size)
    | (go_at_call 8; refine (num12_c _ _).mono ?_; rintro e w9 ⟨rfl, rfl⟩)
    | (go_at_call 12; have C := CF.out 1 (by decide) P s0 GO0.out b B bn bd HN.out (by omega) w2 o2 ((hp1.ext x3).stp st2 (fun x => x) (fun x => x) (fun x => x) (fun x => x)) x2 own2 (HB.out.ext x2) (HBW.out [0] B (by decide) (fun a h => ⟨a, h, rfl⟩)); rw [← HZ.out] at C; unfold IsFed at C; dsimp only at C; refine C.mono ?_; clear C; rintro e w4 ⟨v, o4, rfl, ⟨⟨C4, g4, rfl, hs4⟩, hp4⟩, st4⟩))
  have st0 : Stp (KF 1) w (fun _ => 0) w4 o4 := (((st1.mono fun _ h => h.elim).tr (Stp.ext x3)).tr (st2.mono fun _ h => h.elim)).tr st4
  have x4 : Ext w w4 := st0.toExt (fun _ _ => by unfold KF; omega)
  have own4 := own_old own2 st4 (x2.size)
  have hq4 : FsAt w4 o4 6 Q s0 := hq2.stp st4 (by unfold KF; omega) (by unfold KF; omega) (by unfold KF; omega) (by unfold KF; omega)
  have HS4 := Lib.hid hs4
  have HP4 := Lib.hid hp4
  have HO4 := Lib.hid own4
  have HX4 := Lib.hid x4
  have HQ4 := Lib.hid hq4
  clear st0 st1 st2 st4 x1 x2 x3 x4 own1 own2 own4 hp1 hq2 hp4 hq4 hs4
  go_loopw [20, 21, 22, 23, 24, 25] (fun vn vm vd ve vg vi wr => ∃ (N M t : Nat) (dd : Bool) (ee : Int) (s : Rst) (got : List UInt8) (A : Option Addr) (c : Nat) (o' : Ow), vn = .int .i64 (N : Int) ∧ vm = .int .i64 (M : Int) ∧ vd = .bool dd ∧ ve = .int .i64 ee ∧ vg = .slice A got.length c ∧ vi = .int .i64 (t : Int) ∧ t ≤ m + 1 ∧ (t = m + 1 → M = bn) ∧ PcG s0 b M s N got dd ee t ∧ (s.done = true ∨ s.e ≠ 0 ∨ Rok s) ∧ FsAt wr o' 6 Q s ∧ Sl wr o' 11 1 A got.length c (bc got) ∧ (A = none → c = 0) ∧ Stp KG w4 o4 wr o') (fun _ _ _ _ _ vi _ => m + 1 - (intOf vi).toNat)
  case atStart => exact ⟨0, 0, 0, false, 0, s0, [], none, 0, o4, rfl, rfl, rfl, rfl, rfl, rfl, Nat.zero_le _, fun h => by omega, (.inl ⟨rfl, rfl, rfl, rfl, rfl, rfl, rfl⟩), GO0.out, HQ4.out, Sl.nil_ _ _ _ _ _, fun _ => rfl, Stp.rfl'⟩
  case round =>
    obtain ⟨N, M, t, dd, ee, s, got, A, c, o', rfl, rfl, rfl, rfl, rfl, rfl, ht, htm, hpc, hgo, hps, hsg, hna, hst⟩ := hrel
    have HPC := Lib.hid hpc
    have HGO := Lib.hid hgo
    have HPS := Lib.hid hps
    have HSG := Lib.hid hsg
    have HNA := Lib.hid hna
    have HST := Lib.hid hst
    have hMn : M ≤ bn := by rw [HN.out]; exact (pcG_le hpc).1
    have hNn : N ≤ bn := by rw [HN.out]; exact (pcG_le hpc).2
    clear hpc hgo hps hst hsg hna
    by_cases hcont : t ≤ m ∧ dd = false ∧ ee = 0
    · obtain ⟨htl, rfl, rfl⟩ := hcont
      have XWR := Lib.hid (ext_old HX4.out HO4.out HST.out (by unfold KG KF; omega))
      have k1 : (t : Int) ≤ (m : Int) := by omega
      clear htm
      by_cases h1 : t < m
      · obtain ⟨g, f, rfl, hct⟩ := int_at (t := t) (HCC.out.ext XWR.out) (by rw [← HMM.out]; exact h1)
        have hcb := HCS.out _ (List.getElem_mem (show t < cs.length by rw [← HMM.out]; exact h1))
        obtain ⟨ct, hcte⟩ : ∃ c, c = cs[t]'(by rw [← HMM.out]; exact h1) := ⟨_, rfl⟩
        rw [← hcte] at hct hcb
        have t0 : (0 : Int) ≤ (t : Int) := by omega
        have t1 : (t : Int) < (m : Int) := by omega
        clear hcte
        by_cases hc : 0 ≤ ct
        · obtain ⟨hMT, hTn, c1, c2, c3⟩ := cutT_ok bn M ct hc hMn
          have hlast : t + 1 = m + 1 → cutT bn M ct = bn := fun h => by omega
          have r1 : IntKind.i64.wrap ((bn : Int) + 1) = (bn : Int) + 1 := by rw [IntKind.wrap_i64]; omega
          have r2 : ¬ ((bn : Int) + 1) = 0 := by omega
          have r4 : wrap64 ((M : Int) + ct % ((bn : Int) + 1)) = (M : Int) + ct % ((bn : Int) + 1) := by
            unfold wrap64; omega
          obtain ⟨T, hT⟩ : ∃ T, T = cutT bn M ct := ⟨_, rfl⟩
          rw [← hT] at hMT hTn c3 hlast
          clear hT
          have HLAST := Lib.hid hlast
          clear hlast
          obtain ⟨B', hcut, hrd, hblk⟩ := cut_partH b B bn bd M T wr (HB.out.ext XWR.out) hMT (by rw [← HN.out]; exact hTn) (by rw [← HN.out]; exact hd)
          have hlen : T - M = ((b.take T).drop M).length := by rw [List.length_drop, List.length_take]; have := HN.out; omega
          have CQ := CF.out 6 (by decide) Q s HGO.out ((b.take T).drop M) B' (T - M) (bd - M) hlen (by omega) wr o' HPS.out XWR.out (own_old HO4.out HST.out HX4.out.size) hrd (fun hne => HBW.out _ B' hne hblk (by intro h0; apply hne; rw [h0]; simp))
          have hpn := pcG_next OK0.out D0.out HPC.out T hMT (by rw [← HN.out]; exact hTn)
          have hgo2 := feed_goF ((b.take T).drop M) HGO.out
          obtain ⟨⟨s', N', x', d', e'⟩, hr⟩ : ∃ r, r = feedF s ((b.take T).drop M) := ⟨_, rfl⟩
          rw [← hr] at CQ hpn hgo2
          unfold IsFed at CQ
          dsimp only at CQ hpn hgo2
          have hNN := pcF_le hpn
          have hbd : got.length + x'.length ≤ 1048576 := by have := (feed_bdF OK0.out (b.take T)).2; rw [hpn.all, List.length_append] at this; exact this
          rw [← HN.out] at hNN
          have HPN := Lib.hid hpn
          have HG2 := Lib.hid hgo2
          have CQ := Lib.hid CQ
          have sN : IntKind.i64.wrap ((N : Int) + (N' : Int)) = ((N + N' : Nat) : Int) := by rw [IntKind.wrap_i64]; omega
          have st : IntKind.i64.wrap ((t : Int) + 1) = ((t + 1 : Nat) : Int) := by rw [IntKind.wrap_i64]; omega
          obtain ⟨L, hL⟩ : ∃ L, L = T - M := ⟨_, rfl⟩
          obtain ⟨L2, hL2⟩ : ∃ L, L = bd - M := ⟨_, rfl⟩
          rw [← hL, ← hL2] at hcut
          rw [← hL, ← hL2] at CQ
          clear hlen hrd hblk hpn hgo2 hr hL hL2 hNN
          go_wp2_with (first
            | (go_at_call 8; refine (num12_c _ _).mono ?_; rintro e w9 ⟨rfl, rfl⟩)
            | (go_at_call 12; refine CQ.out.mono ?_; rintro e w5 ⟨v, o5, rfl, ⟨⟨C5, g5, rfl, hs5⟩, hp5⟩, st5⟩; have HS5 := Lib.hid hs5; have HP5 := Lib.hid hp5; have ST5 := Lib.hid st5; clear hs5 hp5 st5)
            | (at_builtin; refine wpL_put slt_u8 (.tmp 125) (.tmp 126) rfl rfl rfl rfl (HSG.out.stp ST5.out (by unfold KF; omega)) HNA.out (Sl.src Tryd.underlying32 HS5.out.rd (by rw [bc_len]; omega) (by omega) (bc_one x') g5) (by omega) (by unfold maxLen; omega) ?_; intro A7 c7 w7 o7 hs7 hst7 hn7))
          go_roundw
          case rel => exact ⟨N + N', T, t + 1, d', e', s', got ++ x', A7, c7, o7, by go_num, by go_num, rfl, rfl, by rw [List.length_append], by go_num, by omega, (fun hh => by first | rfl | exact HLAST.out hh), (.inr HPN.out), HG2.out, HP5.out.stp hst7 (by omega) (by omega) (by omega) (by omega), by rw [bc_app, List.length_append]; exact hs7, hn7, HST.out.tr ((ST5.out.mono fun _ h => .inl h).tr (hst7.mono fun _ h => .inr h))⟩
          case measure => simp [intOf]; omega
        · have hMT : M ≤ bn := hMn
          have hTn : bn ≤ bn := Nat.le_refl _
          have hlast : t + 1 = m + 1 → bn = bn := fun _ => rfl
          have HLAST := Lib.hid hlast
          clear hlast
          obtain ⟨B', hcut, hrd, hblk⟩ := cut_partH b B bn bd M bn wr (HB.out.ext XWR.out) hMT (by rw [← HN.out]; exact hTn) (by rw [← HN.out]; exact hd)
          have hlen : bn - M = ((b.take bn).drop M).length := by rw [List.length_drop, List.length_take]; have := HN.out; omega
          have CQ := CF.out 6 (by decide) Q s HGO.out ((b.take bn).drop M) B' (bn - M) (bd - M) hlen (by omega) wr o' HPS.out XWR.out (own_old HO4.out HST.out HX4.out.size) hrd (fun hne => HBW.out _ B' hne hblk (by intro h0; apply hne; rw [h0]; simp))
          have hpn := pcG_next OK0.out D0.out HPC.out bn hMT (by rw [← HN.out]; exact hTn)
          have hgo2 := feed_goF ((b.take bn).drop M) HGO.out
          obtain ⟨⟨s', N', x', d', e'⟩, hr⟩ : ∃ r, r = feedF s ((b.take bn).drop M) := ⟨_, rfl⟩
          rw [← hr] at CQ hpn hgo2
          unfold IsFed at CQ
          dsimp only at CQ hpn hgo2
          have hNN := pcF_le hpn
          have hbd : got.length + x'.length ≤ 1048576 := by have := (feed_bdF OK0.out (b.take bn)).2; rw [hpn.all, List.length_append] at this; exact this
          rw [← HN.out] at hNN
          have HPN := Lib.hid hpn
          have HG2 := Lib.hid hgo2
          have CQ := Lib.hid CQ
          have sN : IntKind.i64.wrap ((N : Int) + (N' : Int)) = ((N + N' : Nat) : Int) := by rw [IntKind.wrap_i64]; omega
          have st : IntKind.i64.wrap ((t : Int) + 1) = ((t + 1 : Nat) : Int) := by rw [IntKind.wrap_i64]; omega
          obtain ⟨L, hL⟩ : ∃ L, L = bn - M := ⟨_, rfl⟩
          obtain ⟨L2, hL2⟩ : ∃ L, L = bd - M := ⟨_, rfl⟩
          rw [← hL, ← hL2] at hcut
          rw [← hL, ← hL2] at CQ
          clear hlen hrd hblk hpn hgo2 hr hL hL2 hNN
          go_wp2_with (first
            | (go_at_call 8; refine (num12_c _ _).mono ?_; rintro e w9 ⟨rfl, rfl⟩)
            | (go_at_call 12; refine CQ.out.mono ?_; rintro e w5 ⟨v, o5, rfl, ⟨⟨C5, g5, rfl, hs5⟩, hp5⟩, st5⟩; have HS5 := Lib.hid hs5; have HP5 := Lib.hid hp5; have ST5 := Lib.hid st5; clear hs5 hp5 st5)
            | (at_builtin; refine wpL_put slt_u8 (.tmp 125) (.tmp 126) rfl rfl rfl rfl (HSG.out.stp ST5.out (by unfold KF; omega)) HNA.out (Sl.src Tryd.underlying32 HS5.out.rd (by rw [bc_len]; omega) (by omega) (bc_one x') g5) (by omega) (by unfold maxLen; omega) ?_; intro A7 c7 w7 o7 hs7 hst7 hn7))
          go_roundw
          case rel => exact ⟨N + N', bn, t + 1, d', e', s', got ++ x', A7, c7, o7, by go_num, by go_num, rfl, rfl, by rw [List.length_append], by go_num, by omega, (fun hh => by first | rfl | exact HLAST.out hh), (.inr HPN.out), HG2.out, HP5.out.stp hst7 (by omega) (by omega) (by omega) (by omega), by rw [bc_app, List.length_append]; exact hs7, hn7, HST.out.tr ((ST5.out.mono fun _ h => .inl h).tr (hst7.mono fun _ h => .inr h))⟩
          case measure => simp [intOf]; omega
      · have k2 : ¬ (t : Int) < (m : Int) := by omega
        have hMT : M ≤ bn := hMn
        have hTn : bn ≤ bn := Nat.le_refl _
        have hlast : t + 1 = m + 1 → bn = bn := fun _ => rfl
        have HLAST := Lib.hid hlast
        clear hlast
        obtain ⟨B', hcut, hrd, hblk⟩ := cut_partH b B bn bd M bn wr (HB.out.ext XWR.out) hMT (by rw [← HN.out]; exact hTn) (by rw [← HN.out]; exact hd)
        have hlen : bn - M = ((b.take bn).drop M).length := by rw [List.length_drop, List.length_take]; have := HN.out; omega
        have CQ := CF.out 6 (by decide) Q s HGO.out ((b.take bn).drop M) B' (bn - M) (bd - M) hlen (by omega) wr o' HPS.out XWR.out (own_old HO4.out HST.out HX4.out.size) hrd (fun hne => HBW.out _ B' hne hblk (by intro h0; apply hne; rw [h0]; simp))
        have hpn := pcG_next OK0.out D0.out HPC.out bn hMT (by rw [← HN.out]; exact hTn)
        have hgo2 := feed_goF ((b.take bn).drop M) HGO.out
        obtain ⟨⟨s', N', x', d', e'⟩, hr⟩ : ∃ r, r = feedF s ((b.take bn).drop M) := ⟨_, rfl⟩
        rw [← hr] at CQ hpn hgo2
        unfold IsFed at CQ
        dsimp only at CQ hpn hgo2
        have hNN := pcF_le hpn
        have hbd : got.length + x'.length ≤ 1048576 := by have := (feed_bdF OK0.out (b.take bn)).2; rw [hpn.all, List.length_append] at this; exact this
        rw [← HN.out] at hNN
        have HPN := Lib.hid hpn
        have HG2 := Lib.hid hgo2
        have CQ := Lib.hid CQ
        have sN : IntKind.i64.wrap ((N : Int) + (N' : Int)) = ((N + N' : Nat) : Int) := by rw [IntKind.wrap_i64]; omega
        have st : IntKind.i64.wrap ((t : Int) + 1) = ((t + 1 : Nat) : Int) := by rw [IntKind.wrap_i64]; omega
        obtain ⟨L, hL⟩ : ∃ L, L = bn - M := ⟨_, rfl⟩
        obtain ⟨L2, hL2⟩ : ∃ L, L = bd - M := ⟨_, rfl⟩
        rw [← hL, ← hL2] at hcut
        rw [← hL, ← hL2] at CQ
        clear hlen hrd hblk hpn hgo2 hr hL hL2 hNN
        go_wp2_with (first
          | (go_at_call 8; refine (num12_c _ _).mono ?_; rintro e w9 ⟨rfl, rfl⟩)
          | (go_at_call 12; refine CQ.out.mono ?_; rintro e w5 ⟨v, o5, rfl, ⟨⟨C5, g5, rfl, hs5⟩, hp5⟩, st5⟩; have HS5 := Lib.hid hs5; have HP5 := Lib.hid hp5; have ST5 := Lib.hid st5; clear hs5 hp5 st5)
          | (at_builtin; refine wpL_put slt_u8 (.tmp 125) (.tmp 126) rfl rfl rfl rfl (HSG.out.stp ST5.out (by unfold KF; omega)) HNA.out (Sl.src Tryd.underlying32 HS5.out.rd (by rw [bc_len]; omega) (by omega) (bc_one x') g5) (by omega) (by unfold maxLen; omega) ?_; intro A7 c7 w7 o7 hs7 hst7 hn7))
        go_roundw
        case rel => exact ⟨N + N', bn, t + 1, d', e', s', got ++ x', A7, c7, o7, by go_num, by go_num, rfl, rfl, by rw [List.length_append], by go_num, by omega, (fun hh => by first | rfl | exact HLAST.out hh), (.inr HPN.out), HG2.out, HP5.out.stp hst7 (by omega) (by omega) (by omega) (by omega), by rw [bc_app, List.length_append]; exact hs7, hn7, HST.out.tr ((ST5.out.mono fun _ h => .inl h).tr (hst7.mono fun _ h => .inr h))⟩
        case measure => simp [intOf]; omega
    · have hend : (t ≠ 0 ∧ M = b.length) ∨ dd = true ∨ ee ≠ 0 := by
        rw [← HN.out]
        by_cases h1 : t ≤ m
        · cases dd with
          | true => exact .inr (.inl rfl)
          | false =>
            by_cases h2 : ee = 0
            · exact absurd ⟨h1, rfl, h2⟩ hcont
            · exact .inr (.inr h2)
        · exact .inl ⟨by omega, htm (by omega)⟩
      have hfin := pcG_end OK0.out D0.out HPC.out hend
      have hbd := feed_bdF OK0.out b
      have hdz := feed_mkF s0 b
      rw [← HZ.out] at hfin hbd hdz
      dsimp only at hbd hdz
      obtain ⟨rfl, rfl, rfl, rfl, rfl⟩ : z = s ∧ u = N ∧ body = got ∧ dn = dd ∧ e0 = ee := by simpa using hfin
      have HP9 : FsAt wr o' 1 P z := HP4.out.stp HST.out (by unfold KG KF; omega) (by unfold KG KF; omega) (by unfold KG KF; omega) (by unfold KG KF; omega)
      have cv1 := conv_bs (P := Tryd.prog) 32 9 5 Tryd.underlying32 Tryd.underlying5 Tryd.underlying9 HSG.out.rd body.length c rfl
      have cv2 := conv_bs (P := Tryd.prog) 32 9 5 Tryd.underlying32 Tryd.underlying5 Tryd.underlying9 (HS4.out.stp HST.out (by unfold KG KF; omega)).rd body.length g4 rfl
      obtain ⟨sb, hsb⟩ : ∃ s, s = str body := ⟨_, rfl⟩
      rw [← hsb] at cv1 cv2
      have HP9 := Lib.hid HP9
      have XW := Lib.hid (ext_old HX4.out HO4.out HST.out (by unfold KG KF; omega))
      have CT := Lib.hid (fun k P (w : World) (o : Ow) (h : FsAt w o k P z) => trail_c k P z (by omega) w o h)
      have hft : (if z.done = true then z.tail else []).length ≤ maxLen := by unfold maxLen; split <;> (first | omega | simp)
      obtain ⟨tl, htl⟩ : ∃ x, x = if z.done = true then z.tail else [] := ⟨_, rfl⟩
      rw [← htl] at CT hft
      have htf := hft
      clear hfin hend hsb htl hbd hdz hft
      by_cases h1 : t ≤ m
      · have k1 : (t : Int) ≤ (m : Int) := by omega
        cases dn with
        | true =>
          clear hcont htm
          by_cases h2 : M = bn
          · subst h2
            have k2 : ¬ (M : Int) < (M : Int) := by omega
            clear h1
            go_wp2_with (first
              | (go_at_call 8; refine (num12_c _ _).mono ?_; rintro e w9 ⟨rfl, rfl⟩)
              | (go_at_call_of 14 (Value.pointer (some ⟨P, 0, none⟩)); refine (CT.out 1 P _ o' (HP9.out.ext (by (repeat (first | exact Ext.rfl' _ | assumption | refine Ext.dr ?_ | refine Ext.drN ?_ _ | refine Ext.al ?_ _ | refine Ext.st ?_ (by simp) _ | refine Ext.tr ?_ (by assumption)))))).mono ?_; rintro e w5 ⟨v5, rfl, ⟨A5, c5, rfl, hr5⟩, x5⟩)
              | (go_at_call_of 14 (Value.pointer (some ⟨Q, 0, none⟩)); refine (CT.out 6 Q _ o' (HPS.out.ext (by (repeat (first | exact Ext.rfl' _ | assumption | refine Ext.dr ?_ | refine Ext.drN ?_ _ | refine Ext.al ?_ _ | refine Ext.st ?_ (by simp) _ | refine Ext.tr ?_ (by assumption)))))).mono ?_; rintro e w6 ⟨v6, rfl, ⟨A6, c6, rfl, hr6⟩, x6⟩)
              | (go_at_call 13; refine (hFields_c tl _ _ _ _ _ _ rfl rfl htf _ (hr5.ext (by (repeat (first | exact Ext.rfl' _ | assumption | refine Ext.dr ?_ | refine Ext.drN ?_ _ | refine Ext.al ?_ _ | refine Ext.st ?_ (by simp) _ | refine Ext.tr ?_ (by assumption))))) (hr6.ext (by (repeat (first | exact Ext.rfl' _ | assumption | refine Ext.dr ?_ | refine Ext.drN ?_ _ | refine Ext.al ?_ _ | refine Ext.st ?_ (by simp) _ | refine Ext.tr ?_ (by assumption)))))).mono ?_; rintro e w11 ⟨rfl, x11⟩))
            go_ret
            exact ⟨rfl, XW.out.tr (by (repeat (first | exact Ext.rfl' _ | assumption | refine Ext.dr ?_ | refine Ext.drN ?_ _ | refine Ext.al ?_ _ | refine Ext.st ?_ (by simp) _ | refine Ext.tr ?_ (by assumption))))⟩
          · have k2 : (M : Int) < (bn : Int) := by omega
            clear h1 h2
            go_wp2_with (first
              | (go_at_call 8; refine (num12_c _ _).mono ?_; rintro e w9 ⟨rfl, rfl⟩)
              | (go_at_call_of 14 (Value.pointer (some ⟨P, 0, none⟩)); refine (CT.out 1 P _ o' (HP9.out.ext (by (repeat (first | exact Ext.rfl' _ | assumption | refine Ext.dr ?_ | refine Ext.drN ?_ _ | refine Ext.al ?_ _ | refine Ext.st ?_ (by simp) _ | refine Ext.tr ?_ (by assumption)))))).mono ?_; rintro e w5 ⟨v5, rfl, ⟨A5, c5, rfl, hr5⟩, x5⟩)
              | (go_at_call_of 14 (Value.pointer (some ⟨Q, 0, none⟩)); refine (CT.out 6 Q _ o' (HPS.out.ext (by (repeat (first | exact Ext.rfl' _ | assumption | refine Ext.dr ?_ | refine Ext.drN ?_ _ | refine Ext.al ?_ _ | refine Ext.st ?_ (by simp) _ | refine Ext.tr ?_ (by assumption)))))).mono ?_; rintro e w6 ⟨v6, rfl, ⟨A6, c6, rfl, hr6⟩, x6⟩)
              | (go_at_call 13; refine (hFields_c tl _ _ _ _ _ _ rfl rfl htf _ (hr5.ext (by (repeat (first | exact Ext.rfl' _ | assumption | refine Ext.dr ?_ | refine Ext.drN ?_ _ | refine Ext.al ?_ _ | refine Ext.st ?_ (by simp) _ | refine Ext.tr ?_ (by assumption))))) (hr6.ext (by (repeat (first | exact Ext.rfl' _ | assumption | refine Ext.dr ?_ | refine Ext.drN ?_ _ | refine Ext.al ?_ _ | refine Ext.st ?_ (by simp) _ | refine Ext.tr ?_ (by assumption)))))).mono ?_; rintro e w11 ⟨rfl, x11⟩))
            go_ret
            exact ⟨rfl, XW.out.tr (by (repeat (first | exact Ext.rfl' _ | assumption | refine Ext.dr ?_ | refine Ext.drN ?_ _ | refine Ext.al ?_ _ | refine Ext.st ?_ (by simp) _ | refine Ext.tr ?_ (by assumption))))⟩
        | false =>
          have k3 : (e0 == 0) = false := by rw [beq_eq_false_iff_ne]; exact fun h => hcont ⟨h1, rfl, h⟩
          clear hcont htm
          by_cases h2 : M = bn
          · subst h2
            have k2 : ¬ (M : Int) < (M : Int) := by omega
            clear h1
            go_wp2_with (first
              | (go_at_call 8; refine (num12_c _ _).mono ?_; rintro e w9 ⟨rfl, rfl⟩)
              | (go_at_call_of 14 (Value.pointer (some ⟨P, 0, none⟩)); refine (CT.out 1 P _ o' (HP9.out.ext (by (repeat (first | exact Ext.rfl' _ | assumption | refine Ext.dr ?_ | refine Ext.drN ?_ _ | refine Ext.al ?_ _ | refine Ext.st ?_ (by simp) _ | refine Ext.tr ?_ (by assumption)))))).mono ?_; rintro e w5 ⟨v5, rfl, ⟨A5, c5, rfl, hr5⟩, x5⟩)
              | (go_at_call_of 14 (Value.pointer (some ⟨Q, 0, none⟩)); refine (CT.out 6 Q _ o' (HPS.out.ext (by (repeat (first | exact Ext.rfl' _ | assumption | refine Ext.dr ?_ | refine Ext.drN ?_ _ | refine Ext.al ?_ _ | refine Ext.st ?_ (by simp) _ | refine Ext.tr ?_ (by assumption)))))).mono ?_; rintro e w6 ⟨v6, rfl, ⟨A6, c6, rfl, hr6⟩, x6⟩)
              | (go_at_call 13; refine (hFields_c tl _ _ _ _ _ _ rfl rfl htf _ (hr5.ext (by (repeat (first | exact Ext.rfl' _ | assumption | refine Ext.dr ?_ | refine Ext.drN ?_ _ | refine Ext.al ?_ _ | refine Ext.st ?_ (by simp) _ | refine Ext.tr ?_ (by assumption))))) (hr6.ext (by (repeat (first | exact Ext.rfl' _ | assumption | refine Ext.dr ?_ | refine Ext.drN ?_ _ | refine Ext.al ?_ _ | refine Ext.st ?_ (by simp) _ | refine Ext.tr ?_ (by assumption)))))).mono ?_; rintro e w11 ⟨rfl, x11⟩))
            go_ret
            exact ⟨rfl, XW.out.tr (by (repeat (first | exact Ext.rfl' _ | assumption | refine Ext.dr ?_ | refine Ext.drN ?_ _ | refine Ext.al ?_ _ | refine Ext.st ?_ (by simp) _ | refine Ext.tr ?_ (by assumption))))⟩
          · have k2 : (M : Int) < (bn : Int) := by omega
            clear h1 h2
            go_wp2_with (first
              | (go_at_call 8; refine (num12_c _ _).mono ?_; rintro e w9 ⟨rfl, rfl⟩)
              | (go_at_call_of 14 (Value.pointer (some ⟨P, 0, none⟩)); refine (CT.out 1 P _ o' (HP9.out.ext (by (repeat (first | exact Ext.rfl' _ | assumption | refine Ext.dr ?_ | refine Ext.drN ?_ _ | refine Ext.al ?_ _ | refine Ext.st ?_ (by simp) _ | refine Ext.tr ?_ (by assumption)))))).mono ?_; rintro e w5 ⟨v5, rfl, ⟨A5, c5, rfl, hr5⟩, x5⟩)
              | (go_at_call_of 14 (Value.pointer (some ⟨Q, 0, none⟩)); refine (CT.out 6 Q _ o' (HPS.out.ext (by (repeat (first | exact Ext.rfl' _ | assumption | refine Ext.dr ?_ | refine Ext.drN ?_ _ | refine Ext.al ?_ _ | refine Ext.st ?_ (by simp) _ | refine Ext.tr ?_ (by assumption)))))).mono ?_; rintro e w6 ⟨v6, rfl, ⟨A6, c6, rfl, hr6⟩, x6⟩)
              | (go_at_call 13; refine (hFields_c tl _ _ _ _ _ _ rfl rfl htf _ (hr5.ext (by (repeat (first | exact Ext.rfl' _ | assumption | refine Ext.dr ?_ | refine Ext.drN ?_ _ | refine Ext.al ?_ _ | refine Ext.st ?_ (by simp) _ | refine Ext.tr ?_ (by assumption))))) (hr6.ext (by (repeat (first | exact Ext.rfl' _ | assumption | refine Ext.dr ?_ | refine Ext.drN ?_ _ | refine Ext.al ?_ _ | refine Ext.st ?_ (by simp) _ | refine Ext.tr ?_ (by assumption)))))).mono ?_; rintro e w11 ⟨rfl, x11⟩))
            go_ret
            exact ⟨rfl, XW.out.tr (by (repeat (first | exact Ext.rfl' _ | assumption | refine Ext.dr ?_ | refine Ext.drN ?_ _ | refine Ext.al ?_ _ | refine Ext.st ?_ (by simp) _ | refine Ext.tr ?_ (by assumption))))⟩
      · have k1 : ¬ (t : Int) ≤ (m : Int) := by omega
        have h2 := htm (by omega)
        subst h2
        clear hcont htm h1
        go_wp2_with (first
          | (go_at_call 8; refine (num12_c _ _).mono ?_; rintro e w9 ⟨rfl, rfl⟩)
          | (go_at_call_of 14 (Value.pointer (some ⟨P, 0, none⟩)); refine (CT.out 1 P _ o' (HP9.out.ext (by (repeat (first | exact Ext.rfl' _ | assumption | refine Ext.dr ?_ | refine Ext.drN ?_ _ | refine Ext.al ?_ _ | refine Ext.st ?_ (by simp) _ | refine Ext.tr ?_ (by assumption)))))).mono ?_; rintro e w5 ⟨v5, rfl, ⟨A5, c5, rfl, hr5⟩, x5⟩)
          | (go_at_call_of 14 (Value.pointer (some ⟨Q, 0, none⟩)); refine (CT.out 6 Q _ o' (HPS.out.ext (by (repeat (first | exact Ext.rfl' _ | assumption | refine Ext.dr ?_ | refine Ext.drN ?_ _ | refine Ext.al ?_ _ | refine Ext.st ?_ (by simp) _ | refine Ext.tr ?_ (by assumption)))))).mono ?_; rintro e w6 ⟨v6, rfl, ⟨A6, c6, rfl, hr6⟩, x6⟩)
          | (go_at_call 13; refine (hFields_c tl _ _ _ _ _ _ rfl rfl htf _ (hr5.ext (by (repeat (first | exact Ext.rfl' _ | assumption | refine Ext.dr ?_ | refine Ext.drN ?_ _ | refine Ext.al ?_ _ | refine Ext.st ?_ (by simp) _ | refine Ext.tr ?_ (by assumption))))) (hr6.ext (by (repeat (first | exact Ext.rfl' _ | assumption | refine Ext.dr ?_ | refine Ext.drN ?_ _ | refine Ext.al ?_ _ | refine Ext.st ?_ (by simp) _ | refine Ext.tr ?_ (by assumption)))))).mono ?_; rintro e w11 ⟨rfl, x11⟩))
        go_ret
        exact ⟨rfl, XW.out.tr (by (repeat (first | exact Ext.rfl' _ | assumption | refine Ext.dr ?_ | refine Ext.drN ?_ _ | refine Ext.al ?_ _ | refine Ext.st ?_ (by simp) _ | refine Ext.tr ?_ (by assumption))))⟩
theorem FramingPieces_w (w : World) (hE : ErrR w) (kd rn most : Int) (hrn : rn ≤ 9223372036854775807) (b : List UInt8) (B : Option Addr) (bn bd : Nat) (hn : bn = b.length) (hb : bn ≤ 4611686018427387903) (hd : bn ≤ bd) (hB : Rd w B (bc b)) (cs : List Int) (C : Option Addr) (m q : Nat) (hm : m = cs.length) (hmb : m ≤ 4611686018427387903) (hcs : ∀ c ∈ cs, -9223372036854775808 ≤ c ∧ c ≤ 9223372036854775807) (hC : Rd w C (cs.map (Value.int .i64))) :
    Calls Tryd.prog 4 #[.int .i64 kd, .int .i64 rn, .int .i64 most, .slice B bn bd, .slice C m q] w (Gives (.bool true) w) := by
  by_cases h : goodR kd rn most = true
  · have h2 := h
    unfold goodR at h2
    simp only [Bool.and_eq_true, Bool.or_eq_true, decide_eq_true_eq] at h2
    obtain ⟨k, rfl⟩ : ∃ k : Nat, kd = (k : Int) := ⟨kd.toNat, by omega⟩
    obtain ⟨r, rfl⟩ : ∃ k : Nat, rn = (k : Int) := ⟨rn.toNat, by omega⟩
    obtain ⟨mo, rfl⟩ : ∃ k : Nat, most = (k : Int) := ⟨most.toNat, by omega⟩
    exact FramingPieces_yes w hE k r mo (by omega) (by omega) (by omega) (by omega) b B bn bd hn hb hd hB cs C m q hm hmb hcs hC
  · exact FramingPieces_no w hE kd rn most (by simpa using h) B C bn bd m q
end Go.Proofs.YtpkgoppfihcpbaaDoor
end
