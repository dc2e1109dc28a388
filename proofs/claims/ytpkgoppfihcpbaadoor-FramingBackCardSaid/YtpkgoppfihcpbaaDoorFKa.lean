/-
Framing's reader as plain functions: chunks that are written are read as they were.
-/
import Derived.Test.YtpkgoppfihcpbaaDoorFa2
import Derived.Test.YtpkgoppfihcpbaaDoorHXa
import Derived.Test.YtpkgoppfihcpbaaDoorOwn
import Derived.Deep.DeepAppendWide
import Derived.Test.YtpkgoppfihcpbaaDoorFGa
import Derived.Test.YtpkgoppfihcpbaaDoorHd3
set_option linter.unusedVariables false
set_option linter.unusedSimpArgs false
/-
Framing's reader as plain functions: chunks that are written are read as they were.
-/
section
namespace Go.Proofs.YtpkgoppfihcpbaaDoor
open Go.RowKit

/-- The bytes l take a reader from s to t. -/
def Goes (s : Rst) (l : List UInt8) (t : Rst) : Prop := ∀ rest, runF s (l ++ rest) = ((runF t rest).1, l.length + (runF t rest).2.1, (runF t rest).2.2)
theorem Goes.nil_ (s : Rst) : Goes s [] s := fun rest => by simp
theorem Goes.app {s t u : Rst} {l m : List UInt8} (h : Goes s l t) (k : Goes t m u) : Goes s (l ++ m) u := fun rest => by
  rw [List.append_assoc, h, k, List.length_append, Nat.add_assoc]
theorem Goes.one {s t : Rst} {c : UInt8} (hd : s.done = false) (ht : takeF s c = (t, 0)) : Goes s [c] t := fun rest => by
  show runF s (c :: rest) = _
  rw [runF_cons, if_neg (by rw [hd]; decide), ht, if_neg (by simp)]
  simp [Nat.add_comm]
theorem Goes.cons {s t u : Rst} {c : UInt8} {l : List UInt8} (hd : s.done = false) (ht : takeF s c = (t, 0)) (k : Goes t l u) : Goes s (c :: l) u := Goes.app (Goes.one hd ht) k
def valsF (l : List UInt8) : Prop := ∀ b ∈ l, valB b.toNat = true
theorem textF_put {s : Rst} {c : UInt8} (hcr : s.cr = false) (hv : valB c.toNat = true) (hl : s.line.length < 8192) : textF s c = ({ s with line := s.line ++ [c] }, none, 0) := by
  have hc : c ≠ 13 := fun e => by rw [e] at hv; exact absurd hv (by decide)
  unfold textF
  rw [if_neg (by rw [hcr]; decide), if_neg hc, if_pos hv, if_pos hl]
theorem takeF_line {s t : Rst} {c : UInt8} (hs : s.state = 1 ∨ s.state = 4) (h : textF s c = (t, none, 0)) : takeF s c = (t, 0) := by
  unfold takeF
  rcases hs with hs | hs
  · rw [if_neg (by omega), if_pos hs]
    unfold sizeF
    rw [h]
  · rw [if_neg (by omega), if_neg (by omega), if_neg (by omega), if_neg (by omega)]
    unfold trailF
    rw [h]
theorem goes_text : ∀ (l : List UInt8) (s : Rst), (s.state = 1 ∨ s.state = 4) → s.cr = false → s.done = false → valsF l → s.line.length + l.length ≤ 8192 → Goes s l { s with line := s.line ++ l }
  | [], s, _, _, _, _, _ => by
    have e : { s with line := s.line ++ [] } = s := by rw [List.append_nil]
    rw [e]; exact Goes.nil_ s
  | c :: l, s, hs, hcr, hd, hv, hl => by
    simp only [List.length_cons] at hl
    have h1 := takeF_line hs (textF_put hcr (hv c List.mem_cons_self) (by omega))
    have ih := goes_text l { s with line := s.line ++ [c] } hs hcr hd (fun b hb => hv b (List.mem_cons_of_mem _ hb)) (by dsimp only; rw [List.length_append]; simp only [List.length_cons, List.length_nil]; omega)
    have e2 : s.line ++ [c] ++ l = s.line ++ c :: l := by simp
    dsimp only at ih
    rw [e2] at ih
    exact Goes.cons hd h1 ih
/-- A line's end. -/
theorem goes_crlf {s t : Rst} (hs : s.state = 1 ∨ s.state = 4) (hcr : s.cr = false) (hd : s.done = false) (hq : (if s.state = 1 then sizeL { s with cr := false, line := [] } s.line else tailL { s with cr := false, line := [] } s.line) = (t, 0)) : Goes s [13, 10] t := by
  have h1 : takeF s 13 = ({ s with cr := true }, 0) := takeF_line hs (by unfold textF; rw [if_neg (by rw [hcr]; decide), if_pos rfl])
  have h2 : takeF { s with cr := true } 10 = (t, 0) := by
    have ht : textF { s with cr := true } 10 = ({ s with cr := false, line := [] }, some s.line, 0) := by unfold textF; rw [if_pos rfl, if_pos rfl]
    unfold takeF
    dsimp only
    rcases hs with hs | hs
    · rw [if_pos hs] at hq
      rw [if_neg (by omega), if_pos hs]
      unfold sizeF
      rw [ht]
      exact hq
    · rw [if_neg (by omega)] at hq
      rw [if_neg (by omega), if_neg (by omega), if_neg (by omega), if_neg (by omega)]
      unfold trailF
      rw [ht]
      exact hq
  exact Goes.cons hd h1 (Goes.one hd h2)
/-- A whole line. -/
theorem goes_line {s t : Rst} (l : List UInt8) (hs : s.state = 1 ∨ s.state = 4) (hcr : s.cr = false) (hd : s.done = false) (hln : s.line = []) (hv : valsF l) (hl : l.length ≤ 8192)
    (hq : (if s.state = 1 then sizeL { s with cr := false, line := [] } l else tailL { s with cr := false, line := [] } l) = (t, 0)) : Goes s (l ++ [13, 10]) t := by
  have h1 := goes_text l s hs hcr hd hv (by rw [hln]; simpa using hl)
  rw [hln, List.nil_append] at h1
  exact Goes.app h1 (goes_crlf hs hcr hd hq)
/-- The digits of a size. -/
theorem hx_bytes (n : Nat) : ∀ b ∈ hxL n, valB b.toNat = true ∧ (!(b == 59 || b == 32 || b == 9)) = true := by
  have key : ∀ c : Fin 256, isDig 16 (UInt8.ofNat c.val) = true → valB c.val = true ∧ (!(UInt8.ofNat c.val == 59 || UInt8.ofNat c.val == 32 || UInt8.ofNat c.val == 9)) = true := by decide +kernel
  intro b hb
  have h1 := (hxL_all n).1
  rw [List.all_eq_true] at h1
  have h2 := key ⟨b.toNat, UInt8.toNat_lt b⟩
  simp only [UInt8.ofNat_toNat] at h2
  exact h2 (h1 b hb)
theorem tw_whole (p : UInt8 → Bool) : ∀ (l : List UInt8), (∀ b ∈ l, p b = true) → l.takeWhile p = l
  | [], _ => rfl
  | b :: l, h => by rw [List.takeWhile_cons, if_pos (h b List.mem_cons_self), tw_whole p l (fun c hc => h c (List.mem_cons_of_mem _ hc))]
theorem size_hx {n : Nat} (hn : n ≤ 1048576) : szN (hxL n) = (hxL n).length ∧ szV (hxL n) = (n : Int) ∧ szG (hxL n) = true := by
  have h1 : szN (hxL n) = (hxL n).length := by unfold szN; rw [tw_whole _ _ (fun b hb => (hx_bytes n b hb).2)]
  have h2 : hexV ((hxL n).take (szN (hxL n))) = ((n : Int), 0) := by rw [h1, List.take_length]; exact num_hex n (by omega)
  have h3 := hx_len 5 n (by omega)
  refine ⟨h1, by unfold szV; rw [h2], ?_⟩
  unfold szG
  rw [h2, h1, List.drop_length, trim_nil]
  simp only [decide_true, Bool.true_and, List.isEmpty_nil, Bool.true_or, Bool.and_true, decide_eq_true_eq]
  omega
/-- A chunk's bytes. -/
theorem goes_data : ∀ (x : List UInt8) (s : Rst), x ≠ [] → s.state = 2 → s.left = x.length → s.done = false → Goes s x { s with all := s.all + x.length, body := s.body ++ x, state := 3, left := 2 }
  | [], s, h, _, _, _ => absurd rfl h
  | [c], s, _, hs, hl, hd => by
    have ht : takeF s c = ({ s with all := s.all + 1, body := s.body ++ [c], state := 3, left := 2 }, 0) := by
      unfold takeF
      rw [if_neg (by omega), if_neg (by omega), if_pos hs]
      unfold dataF
      rw [if_pos (by rw [hl]; rfl)]
    exact Goes.one hd ht
  | c :: d :: x, s, _, hs, hl, hd => by
    simp only [List.length_cons] at hl
    have ht : takeF s c = ({ s with all := s.all + 1, body := s.body ++ [c], left := s.left - 1 }, 0) := by
      unfold takeF
      rw [if_neg (by omega), if_neg (by omega), if_pos hs]
      unfold dataF
      rw [if_neg (by omega)]
    have ih := goes_data (d :: x) { s with all := s.all + 1, body := s.body ++ [c], left := s.left - 1 } (by simp) hs (by simp only [List.length_cons]; omega) hd
    dsimp only at ih
    rw [show s.body ++ [c] ++ d :: x = s.body ++ c :: d :: x from by simp, show s.all + 1 + (d :: x).length = s.all + (c :: d :: x).length from by simp only [List.length_cons]; omega] at ih
    exact Goes.cons hd ht ih
/-- A piece as a chunk. -/
def chunkL (x : List UInt8) : List UInt8 := if x = [] then [] else hxL x.length ++ ([13, 10] ++ (x ++ [13, 10]))
/-- A reader between chunks. -/
structure Btw (s : Rst) : Prop where
  st : s.state = 1
  cr : s.cr = false
  dn : s.done = false
  ln : s.line = []
  lf : s.left = 0
theorem goes_chunk (x : List UInt8) (s : Rst) (h : Btw s) (hm : s.most ≤ 1048576) (ha : s.all + x.length ≤ s.most) : Goes s (chunkL x) { s with all := s.all + x.length, body := s.body ++ x } := by
  obtain ⟨h1, h2, h3, h4, h5⟩ := h
  unfold chunkL
  by_cases h0 : x = []
  · subst h0
    rw [if_pos rfl]
    have e : { s with all := s.all + ([] : List UInt8).length, body := s.body ++ [] } = s := by rw [List.append_nil]; rfl
    rw [e]; exact Goes.nil_ s
  · rw [if_neg h0]
    have hpos := List.length_pos_iff.2 h0
    obtain ⟨k1, k2, k3⟩ := size_hx (n := x.length) (by omega)
    have hlen := hx_len 5 x.length (by omega)
    have hq : (if s.state = 1 then sizeL { s with cr := false, line := [] } (hxL x.length) else tailL { s with cr := false, line := [] } (hxL x.length)) = ({ s with cr := false, line := [], state := 2, left := x.length }, 0) := by
      rw [if_pos h1]
      unfold sizeL
      rw [if_pos k3, k2, if_pos (by dsimp only; omega), if_neg (by omega)]
      rfl
    have g1 := goes_line (hxL x.length) (.inl h1) h2 h3 h4 (fun b hb => (hx_bytes _ b hb).1) (by omega) hq
    have g2 := goes_data x { s with cr := false, line := [], state := 2, left := x.length } h0 rfl rfl h3
    dsimp only at g2
    have t1 : takeF { s with cr := false, line := [], all := s.all + x.length, body := s.body ++ x, state := 3, left := 2 } 13 = ({ s with cr := false, line := [], all := s.all + x.length, body := s.body ++ x, state := 3, left := 1 }, 0) := by
      unfold takeF
      dsimp only
      rw [if_neg (by omega), if_neg (by omega), if_neg (by omega), if_pos rfl]
      unfold behindF
      dsimp only
      rw [if_pos (by rw [if_pos rfl]), if_neg (by omega)]
    have t2 : takeF { s with cr := false, line := [], all := s.all + x.length, body := s.body ++ x, state := 3, left := 1 } 10 = ({ s with cr := false, line := [], all := s.all + x.length, body := s.body ++ x, left := 0, state := 1 }, 0) := by
      unfold takeF
      dsimp only
      rw [if_neg (by omega), if_neg (by omega), if_neg (by omega), if_pos rfl]
      unfold behindF
      dsimp only
      rw [if_pos (by rw [if_neg (by decide)]), if_pos rfl]
    have g3 := Goes.cons (s := { s with cr := false, line := [], all := s.all + x.length, body := s.body ++ x, state := 3, left := 2 }) h3 t1 (Goes.one (s := { s with cr := false, line := [], all := s.all + x.length, body := s.body ++ x, state := 3, left := 1 }) h3 t2)
    have e : ({ s with cr := false, line := [], all := s.all + x.length, body := s.body ++ x, left := 0, state := 1 } : Rst) = { s with all := s.all + x.length, body := s.body ++ x } := by rw [← h1, ← h2, ← h4, ← h5]
    rw [e] at g3
    have g := g1.app (g2.app g3)
    rw [List.append_assoc] at g
    exact g
/-- Pieces, chunk by chunk. -/
theorem goes_chunks : ∀ (xs : List (List UInt8)) (s : Rst), Btw s → s.most ≤ 1048576 → s.all + xs.flatten.length ≤ s.most → Goes s (xs.flatMap chunkL) { s with all := s.all + xs.flatten.length, body := s.body ++ xs.flatten }
  | [], s, _, _, _ => by
    have e : { s with all := s.all + ([] : List (List UInt8)).flatten.length, body := s.body ++ ([] : List (List UInt8)).flatten } = s := by simp
    rw [e]; exact Goes.nil_ s
  | x :: xs, s, h, hm, ha => by
    rw [List.flatten_cons, List.length_append] at ha
    have g1 := goes_chunk x s h hm (by omega)
    have g2 := goes_chunks xs { s with all := s.all + x.length, body := s.body ++ x } ⟨h.st, h.cr, h.dn, h.ln, h.lf⟩ hm (by dsimp only; omega)
    dsimp only at g2
    rw [List.flatMap_cons, List.flatten_cons, List.length_append, ← Nat.add_assoc, ← List.append_assoc]
    exact g1.app g2
end Go.Proofs.YtpkgoppfihcpbaaDoor
end

/-
Framing's reader as plain functions: the last chunk and the trailers are read as they were written.
-/
section
namespace Go.Proofs.YtpkgoppfihcpbaaDoor
open Go.RowKit

/-- May a field be written? -/
def okF (f : Fld) : Bool := tokL f.1 && vlL f.2
def lenF (f : Fld) : Nat := f.1.length + 2 + f.2.length
/-- A field's line. -/
def wrF (f : Fld) : List UInt8 := f.1 ++ ([58, 32] ++ (f.2 ++ [13, 10]))
def wrS (fs : List Fld) : List UInt8 := fs.flatMap wrF
def longF (fs : List Fld) : Bool := decide (100 < fs.length) || fs.any fun f => decide (8192 < lenF f)
/-- The end of a chunked body, or why none. -/
def lastL (fs : List Fld) : List UInt8 × Int := if fs.all okF = false then ([], 42) else if longF fs = true then ([], 44) else ([48, 13, 10] ++ (wrS fs ++ [13, 10]), 0)
theorem tok_valF {l : List UInt8} (h : tokL l = true) : valsF l ∧ 58 ∉ l := by
  unfold tokL at h
  rw [Bool.and_eq_true, List.all_eq_true] at h
  have key : ∀ c : Fin 256, tokB c.val = true → valB c.val = true ∧ c.val ≠ 58 := by decide +kernel
  have k2 : ∀ b ∈ l, valB b.toNat = true ∧ b.toNat ≠ 58 := fun b hb => key ⟨b.toNat, UInt8.toNat_lt b⟩ (h.1 b hb)
  exact ⟨fun b hb => (k2 b hb).1, fun hm => (k2 _ hm).2 rfl⟩
theorem vl_valF {l : List UInt8} (h : vlL l = true) : valsF l := by
  unfold vlL at h
  rw [Bool.and_eq_true, List.all_eq_true] at h
  exact h.1
theorem trim_blankF {l : List UInt8} (h : vlL l = true) : trimL (32 :: l) = l := by
  unfold vlL at h
  rw [Bool.and_eq_true] at h
  have e := h.2
  rw [← trim_ends, beq_iff_eq] at e
  have e2 : trimL (32 :: l) = trimL l := by
    rw [trimL_eq, trimL_eq]
    rw [List.dropWhile_cons, if_pos (by decide)]
  rw [e2, e]
theorem fldV_wrF {f : Fld} (h : okF f = true) : fldV (f.1 ++ 58 :: 32 :: f.2) = some f := by
  unfold okF at h
  rw [Bool.and_eq_true] at h
  unfold fldV
  rw [cutW_at _ (tok_valF h.1).2]
  dsimp only
  rw [trim_blankF h.2, h.1, h.2]
  rfl
theorem goes_fields : ∀ (fs : List Fld) (s : Rst), s.state = 4 → s.cr = false → s.done = false → s.line = [] → fs.all okF = true → (∀ f ∈ fs, lenF f ≤ 8192) → s.tail.length + fs.length ≤ 100 → Goes s (wrS fs) { s with tail := s.tail ++ fs }
  | [], s, _, _, _, _, _, _, _ => by
    have e : { s with tail := s.tail ++ [] } = s := by rw [List.append_nil]
    rw [e]; exact Goes.nil_ s
  | f :: fs, s, hs, hcr, hd, hln, hok, hlen, hcnt => by
    rw [List.all_cons, Bool.and_eq_true] at hok
    simp only [List.length_cons] at hcnt
    have hlf := hlen f List.mem_cons_self
    have hok1 := hok.1
    unfold okF at hok1
    rw [Bool.and_eq_true] at hok1
    have hll : (f.1 ++ 58 :: 32 :: f.2).length = lenF f := by unfold lenF; simp; omega
    have hv : valsF (f.1 ++ 58 :: 32 :: f.2) := by
      intro b hb
      rcases List.mem_append.1 hb with h | h
      · exact (tok_valF hok1.1).1 b h
      · rcases List.mem_cons.1 h with rfl | h
        · decide
        · rcases List.mem_cons.1 h with rfl | h
          · decide
          · exact vl_valF hok1.2 b h
    have hq : (if s.state = 1 then sizeL { s with cr := false, line := [] } (f.1 ++ 58 :: 32 :: f.2) else tailL { s with cr := false, line := [] } (f.1 ++ 58 :: 32 :: f.2)) = ({ s with cr := false, line := [], tail := s.tail ++ [f] }, 0) := by
      rw [if_neg (by omega)]
      unfold tailL
      rw [if_neg (by simp), fldV_wrF hok.1]
      dsimp only
      rw [if_pos (by omega)]
    have g1 := goes_line (f.1 ++ 58 :: 32 :: f.2) (.inr hs) hcr hd hln hv (by rw [hll]; exact hlf) hq
    have g2 := goes_fields fs { s with cr := false, line := [], tail := s.tail ++ [f] } hs rfl hd rfl hok.2 (fun g hg => hlen g (List.mem_cons_of_mem _ hg)) (by dsimp only; rw [List.length_append]; simp only [List.length_cons, List.length_nil]; omega)
    dsimp only at g2
    have g := g1.app g2
    have e0 : (f.1 ++ 58 :: 32 :: f.2) ++ [13, 10] ++ wrS fs = wrS (f :: fs) := by
      unfold wrS wrF
      rw [List.flatMap_cons]
      simp
    rw [e0] at g
    have e : ({ s with cr := false, line := [], tail := s.tail ++ [f] ++ fs } : Rst) = { s with tail := s.tail ++ f :: fs } := by rw [← hcr, ← hln]; simp
    rw [e] at g
    exact g
theorem last_good {fs : List Fld} (h : (lastL fs).2 = 0) : lastL fs = ([48, 13, 10] ++ (wrS fs ++ [13, 10]), 0) ∧ fs.all okF = true ∧ fs.length ≤ 100 ∧ ∀ f ∈ fs, lenF f ≤ 8192 := by
  unfold lastL at h ⊢
  by_cases h1 : fs.all okF = false
  · rw [if_pos h1] at h; exact absurd h (by decide)
  · rw [if_neg h1] at h ⊢
    by_cases h2 : longF fs = true
    · rw [if_pos h2] at h; exact absurd h (by decide)
    · rw [if_neg h2]
      have h3 : longF fs = false := by simpa using h2
      unfold longF at h3
      rw [Bool.or_eq_false_iff, decide_eq_false_iff_not, List.any_eq_false] at h3
      exact ⟨rfl, by simpa using h1, by omega, fun f hf => by have := h3.2 f hf; simp at this; exact this⟩
theorem goes_last {fs : List Fld} (h : (lastL fs).2 = 0) (s : Rst) (hb : Btw s) (ht : s.tail = []) (ha : s.all ≤ s.most) : Goes s (lastL fs).1 { s with state := 4, tail := fs, done := true } := by
  obtain ⟨e0, h1, h2, h3⟩ := last_good h
  rw [e0]
  obtain ⟨b1, b2, b3, b4, b5⟩ := hb
  have hz : (48 :: [] : List UInt8) = hxL 0 := by rw [hxL_lt (by decide)]; rfl
  obtain ⟨k1, k2, k3⟩ := size_hx (n := 0) (by omega)
  have hq : (if s.state = 1 then sizeL { s with cr := false, line := [] } (hxL 0) else tailL { s with cr := false, line := [] } (hxL 0)) = ({ s with cr := false, line := [], state := 4, left := 0 }, 0) := by
    rw [if_pos b1]
    unfold sizeL
    rw [if_pos k3, k2, if_pos (by dsimp only; omega)]
    rfl
  have g1 := goes_line (hxL 0) (.inl b1) b2 b3 b4 (fun b hb => (hx_bytes _ b hb).1) (by rw [← hz]; decide) hq
  have g2 := goes_fields fs { s with cr := false, line := [], state := 4, left := 0 } rfl rfl b3 rfl h1 h3 (by dsimp only; rw [ht]; simpa using h2)
  dsimp only at g2
  have g3 := goes_crlf (s := { s with cr := false, line := [], state := 4, left := 0, tail := s.tail ++ fs }) (t := { s with cr := false, line := [], state := 4, left := 0, tail := s.tail ++ fs, done := true }) (.inr rfl) rfl b3 (by
    dsimp only
    rw [if_neg (by decide)]
    unfold tailL
    rw [if_pos rfl])
  have g := g1.app (g2.app g3)
  rw [← hz] at g
  have e : ({ s with cr := false, line := [], state := 4, left := 0, tail := s.tail ++ fs, done := true } : Rst) = { s with state := 4, tail := fs, done := true } := by rw [ht, List.nil_append, ← b2, ← b4, ← b5]
  rw [e] at g
  exact g
/-- A body in chunks, its end, and more behind it: what comes out. -/
theorem back_frame (xs : List (List UInt8)) (fs : List Fld) (more : List UInt8) (hx : xs.flatten.length ≤ 1048576) (h : (lastL fs).2 = 0) :
    ∃ z : Rst, feedF (newF 2 0 1048576) (xs.flatMap chunkL ++ (lastL fs).1 ++ more) = (z, (xs.flatMap chunkL ++ (lastL fs).1).length, xs.flatten, true, 0) ∧ z.tail = fs ∧ z.done = true ∧ z.e = 0 := by
  have hb : Btw (newF 2 0 1048576) := ⟨rfl, rfl, rfl, rfl, rfl⟩
  have g1 := goes_chunks xs (newF 2 0 1048576) hb (Nat.le_refl _) (by show 0 + _ ≤ 1048576; omega)
  have g2 := goes_last h { newF 2 0 1048576 with all := (newF 2 0 1048576).all + xs.flatten.length, body := (newF 2 0 1048576).body ++ xs.flatten } ⟨rfl, rfl, rfl, rfl, rfl⟩ rfl (by show 0 + xs.flatten.length ≤ 1048576; omega)
  obtain ⟨z, hz⟩ : ∃ z : Rst, z = { ({ newF 2 0 1048576 with all := (newF 2 0 1048576).all + xs.flatten.length, body := (newF 2 0 1048576).body ++ xs.flatten } : Rst) with state := 4, tail := fs, done := true } := ⟨_, rfl⟩
  have k1 : z.done = true := by rw [hz]
  have k2 : z.tail = fs := by rw [hz]
  have k3 : z.e = 0 := by rw [hz]; rfl
  have k4 : z.body = xs.flatten := by rw [hz]; rfl
  rw [← hz] at g2
  have g := g1.app g2 more
  rw [runF_done k1] at g
  have hr : readyF (newF 2 0 1048576) = (newF 2 0 1048576, 0) := rfl
  have hg : goF (newF 2 0 1048576) (xs.flatMap chunkL ++ (lastL fs).1 ++ more) = ({ z with e := 0 }, (xs.flatMap chunkL ++ (lastL fs).1).length) := by
    unfold goF
    rw [if_neg (by decide), hr]
    dsimp only
    rw [if_neg (by decide), g]
    rfl
  refine ⟨{ z with e := 0, body := [] }, ?_, k2, k1, rfl⟩
  unfold feedF
  rw [hg]
  dsimp only
  rw [k1, k4]
end Go.Proofs.YtpkgoppfihcpbaaDoor
end

/-
append onto a slice whose room is its owner's: nearly all that the machine holds.
-/
section
namespace Go.Proofs.YtpkgoppfihcpbaaDoor
open Go.RowKit

section
variable {P : Program} {t e : TypeId} {z : Value} {size bytes : Nat}
/-- append onto a slice whose room is its owner's: the room, or a new block of the owner's. -/
theorem run_putF (hT : SlT P t e z size bytes) {w : World} {o : Ow} {k n c m : Nat} {A : Option Addr} {xs news : List Value} {x : Value} {tx : TypeId} (ty : TypeId)
    (hs : Sl w o k size A n c xs) (hna : A = none → c = 0) (src : Src P size tx x m news w) (hfit : ¬ n + m ≤ c → Builtin.nextslicecap (n + m) c * bytes ≤ 281474976710656) (h63 : n + m ≤ maxLen) :
    ∃ A' c' w' o', (Builtin.append_ #[t, tx] ty #[.slice A n c, x]).run P w = .ok (.slice A' (n + m) c') w' ∧ Sl w' o' k size A' (n + m) c' (xs ++ news) ∧ Stp (fun i => 0 < c ∧ i = k) w o w' o' ∧ (A' = none → c' = 0) := by
  obtain ⟨ht, hi0, hz, hsz⟩ := hT
  obtain ⟨i, hi, h2, h3, h4⟩ := info_parts hi0
  subst h3
  subst h4
  have hnl := src.newsLen
  have hsmall : n + m ≤ 9223372036854775807 := by simp only [maxLen] at h63; omega
  have hL : (xs ++ news).length = (n + m) * i.size := by rw [List.length_append, hs.len, hnl, Nat.add_mul]
  by_cases hroom : n + m ≤ c
  · rcases Nat.eq_zero_or_pos c with h0 | hcp
    · obtain rfl : m = 0 := by omega
      obtain rfl : n = 0 := by omega
      obtain rfl : news = [] := List.eq_nil_of_length_eq_zero (by simpa using hnl)
      refine ⟨A, c, w, o, run_append_nothing (P := P) w t tx ty e i ht hi A 0 c (by omega) x src, ?_, Stp.rfl', hna⟩
      simpa using hs
    rcases hs.at_ with h0 | ⟨g, f, rfl, ho, hg, hc, hr⟩
    · omega
    · have hbd : ∀ j, j < news.length → n * i.size + j < c * i.size := fun j hj => by
        have : (n + m) * i.size ≤ c * i.size := Nat.mul_le_mul_right _ hroom
        rw [Nat.add_mul] at this; omega
      have hsome : ∀ j, j < news.length → (w.cell? ⟨g, f + n * i.size + j, none⟩).isSome = true := fun j hj => by rw [Nat.add_assoc]; exact (hr _ (hbd j hj)).1
      have hfr : ∀ j, j < news.length → w.frozen? ⟨g, f + n * i.size + j, none⟩ = false := fun j hj => by rw [Nat.add_assoc]; exact (hr _ (hbd j hj)).2
      have hkb := World.keptBut_setCells g (may := fun p => p.block = g) news (f + n * i.size) w (fun _ _ => rfl)
      refine ⟨_, _, _, o, run_append_room_src (P := P) w t tx ty e i ht hi g f n c x m news src hroom hsome hfr, ⟨hL, hroom, hs.max, .inr ⟨g, f, rfl, ho, Nat.lt_of_lt_of_le hg hkb.size, fun j u hu => ?_, fun j hj => ⟨World.isSome_setCells _ _ _ _ _ (hr j hj).1, ?_⟩⟩⟩,
        ⟨hkb.1, tape_setCells _ _ _ _, hkb.2.1, hkb.size, fun _ _ => rfl, fun b hb hn => World.heap_setCells_other w g _ news hb (fun e => hn (by rw [e]; exact ⟨hcp, ho⟩))⟩, fun e => by cases e⟩
      · by_cases hj : j < xs.length
        · rw [World.cell?_setCells_out g _ _ _ _ (fun _ _ => Or.inl (by show f + j < f + n * i.size; rw [← hs.len]; omega))]
          exact hc j u (by rw [List.getElem?_append_left hj] at hu; exact hu)
        · rw [List.getElem?_append_right (by omega)] at hu
          obtain ⟨ht', hu'⟩ := List.getElem?_eq_some_iff.1 hu
          have := World.cell?_setCells_in g news (f + n * i.size) w hsome (j - xs.length) ht'
          rw [show f + n * i.size + (j - xs.length) = f + j by rw [← hs.len]; omega] at this
          rw [this, hu']
      · rw [World.frozen?_setCells]; exact (hr j hj).2
  · have hold : (Builtin.firstCells i.size n (.slice A n c)).run P w.drew = .ok xs.toArray w.drew := by
      rcases hs.at_ with h0 | ⟨g, f, rfl, ho, hg, hc, hr⟩
      · have := hs.le; have := hs.len
        obtain rfl : n = 0 := by omega
        obtain rfl : xs = [] := List.eq_nil_of_length_eq_zero (by omega)
        cases A with
        | none => exact run_firstCells_none w.drew i.size 0 0 c
        | some a' => exact run_firstCells_some w.drew i.size 0 a' 0 c [] (by simp) (by intro _ _ h'; simp at h')
      · exact run_firstCells_some w.drew i.size n ⟨g, f, none⟩ n c xs hs.len (fun j u hu => by rw [add_mk]; exact hc j u hu)
    have hrun := run_append_grow_src (P := P) w t tx ty e i z ht hi h2 A n c xs hold x m news src (by omega) (by omega) (hfit hroom)
    have hge := grownCap_ge w (n + m) c e
    have hcm := grownCap_le_maxLen w (n + m) c e h63
    refine ⟨_, _, _, fun b => if b < w.heap.size then o b else k, hrun, ⟨hL, hge, hcm, .inr ⟨w.heap.size, 0, rfl, by simp, by simp, fun j u hu => ?_, fun j hj => ⟨?_, ?_⟩⟩⟩, ⟨rfl, rfl, rfl, by simp, fun b hb => by simp [hb], fun b hb _ => Below.heap_alloc w.drew _ b hb⟩, fun e => by cases e⟩
    · have e1 : (w.drew.alloc (.cells ((xs ++ news).toArray ++ Builtin.zeroCells z.cells (grownCap w (n + m) c e - (n + m))) e)).cell? ⟨w.heap.size, 0 + j, none⟩ = _ := World.cell?_alloc_new w.drew _ _ (0 + j)
      rw [e1, Nat.zero_add, Array.getElem?_append_left (by simp only [List.size_toArray]; exact (List.getElem?_eq_some_iff.1 hu).1), List.getElem?_toArray, hu]
    · have e1 : (w.drew.alloc (.cells ((xs ++ news).toArray ++ Builtin.zeroCells z.cells (grownCap w (n + m) c e - (n + m))) e)).cell? ⟨w.heap.size, 0 + j, none⟩ = _ := World.cell?_alloc_new w.drew _ _ (0 + j)
      rw [e1]
      have hsz' : ((xs ++ news).toArray ++ Builtin.zeroCells z.cells (grownCap w (n + m) c e - (n + m))).size = grownCap w (n + m) c e * i.size := by
        rw [Array.size_append, List.size_toArray, hL, size_zeroCells, hz, ← Nat.add_mul]
        congr 1
        omega
      rw [Array.getElem?_eq_getElem (by rw [hsz', Nat.zero_add]; exact hj)]
      rfl
    · exact World.frozen?_alloc_new w.drew _ _ (0 + j)

/-- The same at a list of operations. -/
theorem wpL_putF (hT : SlT P t e z size bytes) {ops : Array Oper} {rest : List Oper} {op : Oper} {a : Act} {Q : Exit → Act → World → Prop} (s x : Operand) {tx : TypeId}
    (ho : op.op = .call { callee := .builtin .append, args := #[s, x], argTypes := #[t, tx] }) (hw : Region.wanted op (yielded ops a.tmps) = true)
    {w : World} {o : Ow} {k n c m : Nat} {A : Option Addr} {xs news : List Value} {xv : Value} (hs : a.eval s = .slice A n c) (hx : a.eval x = xv)
    (hsl : Sl w o k size A n c xs) (hna : A = none → c = 0) (src : Src P size tx xv m news w) (hfit : ¬ n + m ≤ c → Builtin.nextslicecap (n + m) c * bytes ≤ 281474976710656) (h63 : n + m ≤ maxLen)
    (h : ∀ A' c' w' o', Sl w' o' k size A' (n + m) c' (xs ++ news) → Stp (fun i => i = k) w o w' o' → (A' = none → c' = 0) → wpList P ops Q rest (a.put op.dst (.slice A' (n + m) c')) w') : wpList P ops Q (op :: rest) a w := by
  obtain ⟨A', c', w', o', hr, h1, h2, h3⟩ := run_putF hT op.type hsl hna src hfit h63
  refine wpList_step fun _ hK => ?_
  rw [if_pos hw]
  unfold Oper.wp execOp
  simp only [ho, resolve, invoke, builtin, Sem.run_bind, Sem.run_pure, Result.andThen_ok, List.map_toArray, List.map_cons, List.map_nil, hs, hx, hr]
  exact hK _ _ (h A' c' w' o' h1 (h2.mono fun _ hi => hi.2) h3)
end
end Go.Proofs.YtpkgoppfihcpbaaDoor
end

/-
Framing's Chunk: a piece as a chunk.
-/
section
namespace Go.Proofs.YtpkgoppfihcpbaaDoor
open Go.RowKit

/-- Bytes that are read as a list. -/
def IsY (l : List UInt8) (v : Value) (w : World) : Prop := ∃ A c, v = .slice A l.length c ∧ Rd w A (bc l)
theorem src_strK (l : List UInt8) (w : World) : Src Tryd.prog 1 9 (.string (str l)) l.length (bc l) w := by
  have h := Src.ofString (w := w) Tryd.underlying9 (str l)
  rw [str_size] at h
  exact h
theorem cv_sl (w : World) (o : Ow) (k : Nat) (e : TypeId) (l : List UInt8) (h : l.length ≤ maxLen) : Sl (cvW w e (str l)) (fun b => if b < w.heap.size then o b else k) k 1 (some ⟨w.heap.size, 0, none⟩) l.length (cvC w e l.length) (bc l) := by
  have hc := cv_cap w e l.length h
  have hr := (cv_own w e l).rd
  have hh : (cvW w e (str l)).heap[w.heap.size]? = _ := heap_alloc_new w.drew _
  refine ⟨by rw [bc_len, Nat.mul_one], hc.1, hc.2, .inr ⟨w.heap.size, 0, rfl, by simp, cv_size w e (str l), fun j u hu => ?_, fun j hj => ?_⟩⟩
  · rcases hr with h0 | ⟨b, f, hA, hcc⟩
    · rw [h0] at hu; simp at hu
    · cases hA
      exact hcc j u hu
  · have hsz : j < (bytesRow (str l) (grownCap w (str l).size 0 e)).size := by
      rw [Nat.mul_one] at hj
      unfold cvC at hj
      rw [str_size]
      simp [bytesRow]
      omega
    rw [Nat.zero_add]
    constructor
    · unfold World.cell?
      simp only [hh]
      rw [Array.getElem?_eq_getElem hsz]; rfl
    · unfold World.frozen?
      simp only [hh, Bool.and_eq_false_iff, decide_eq_false_iff_not]
      exact .inl (by omega)
theorem own_oldK {K : Nat → Prop} {w0 w w' : World} {o o' : Ow} (h : ∀ x, x < w0.heap.size → o x = 0) (s : Stp K w o w' o') (hz : w0.heap.size ≤ w.heap.size) : ∀ x, x < w0.heap.size → o' x = 0 := fun x hx => (s.own x (by omega)).trans (h x hx)
theorem ext_oldK {K : Nat → Prop} {w0 w w' : World} {o o' : Ow} (x : Ext w0 w) (h : ∀ x, x < w0.heap.size → o x = 0) (s : Stp K w o w' o') (hk : ¬ K 0) : Ext w0 w' :=
  ⟨s.os.trans x.os, s.tape.trans x.tape, s.output.trans x.output, Nat.le_trans x.size s.size, fun b hb => (s.keep b (by have := x.size; omega) (by rw [h b hb]; exact hk)).trans (x.block b hb)⟩
theorem u64_small {n : Nat} (h : n < 18446744073709551616) : u64N (n : Int) = n := by unfold u64N; omega
theorem chunk_some {x : List UInt8} (h : x ≠ []) : chunkL x = ((hxL x.length ++ [13, 10]) ++ x) ++ [13, 10] := by unfold chunkL; rw [if_neg h]; simp
set_option maxRecDepth 100000 in
set_option maxHeartbeats 4000000 in
theorem fChunk_c (x : List UInt8) (A : Option Addr) (n c : Nat) (hn : n = x.length) (hb : n ≤ 140737488351232) (w : World) (hP : Bru w) (h : Rd w A (bc x)) :
    Calls Tryd.prog 16 #[.slice A n c] w (Ret (IsY (chunkL x)) w) := by
  by_cases h0 : x = []
  · subst h0
    obtain rfl : n = 0 := hn
    go_enter Tryd.func16, Tryd.ntmps16
    go_wp2
    go_ret
    exact Ret.mk ⟨none, 0, rfl, .inl rfl⟩ (by (repeat (first | exact Ext.rfl' _ | assumption | refine Ext.dr ?_ | refine Ext.drN ?_ _ | refine Ext.al ?_ _ | refine Ext.st ?_ (by simp) _ | refine Ext.tr ?_ (by assumption))))
  · have hpos := List.length_pos_iff.2 h0
    have d0 : ((n : Int) == 0) = false := by rw [beq_eq_false_iff_ne]; omega
    have HCH := Lib.hid (chunk_some h0)
    have CH := fun w hP => HexDigits_c (n : Int) w hP
    obtain ⟨hl, hhl⟩ : ∃ l, l = hxL n := ⟨_, rfl⟩
    have hxl : hl.length ≤ 16 := by rw [hhl]; exact hx_len 15 n (by omega)
    have hxb : hexB (n : Int) = str hl := by unfold hexB; rw [u64_small (by omega), hhl]
    rw [hxb] at CH
    have kc := fun W => cv_run (P := Tryd.prog) (src := 9) (dst := 32) (e := 5) (str hl) Tryd.underlying9 Tryd.underlying32 Tryd.underlying5 W
    have hsz : (str hl).size = hl.length := str_size hl
    rw [hsz] at kc
    have KS := Lib.hid (fun (w : World) => cv_sl w (fun _ => 0) 9 5 hl (by unfold maxLen; omega))
    have KX := Lib.hid (fun (w : World) => cv_ext w 5 (str hl))
    obtain ⟨sh, hsh⟩ : ∃ s, s = str hl := ⟨_, rfl⟩
    rw [← hsh] at CH kc KS KX
    rw [hn] at hhl
    have HHL := Lib.hid hhl
    have HX := Lib.hid h
    have HP := Lib.hid hP
    have HN := Lib.hid hn
    have CH := Lib.hid CH
    clear hxb hsz hsh hhl h hP h0 hpos hn
    go_enter Tryd.func16, Tryd.ntmps16
    go_wp2_with (first
      | (go_at_call 23; refine (CH.out _ (HP.out)).mono ?_; rintro e w1 ⟨rfl, x1⟩; have hs1 := KS.out w1; have hx1 : Ext w (cvW w1 5 sh) := x1.tr (KX.out w1); have own1 : ∀ x, x < w.heap.size → (fun b => if b < w1.heap.size then (fun _ => 0 : Ow) b else 9) x = 0 := fun x hx => if_pos (Nat.lt_of_lt_of_le hx x1.size))
      | (at_builtin; refine wpL_put slt_u8 (.tmp 10) (.const (.string ⟨#[13, 10]⟩)) rfl rfl rfl rfl hs1 (fun h => by cases h) (show Src Tryd.prog 1 9 (.string ⟨#[13, 10]⟩) 2 (bc [13, 10]) _ from src_strK [13, 10] _) (by omega) (by unfold maxLen; omega) ?_; intro A2 c2 w2 o2 hs2 st2 hn2; have x2 := ext_oldK hx1 own1 st2 (by omega); have own2 := own_oldK own1 st2 hx1.size; clear hs1 own1)
      | (at_builtin; refine wpL_putF slt_u8 (.tmp 12) (.tmp 13) rfl rfl rfl rfl hs2 hn2 (Sl.src Tryd.underlying32 (HX.out.ext x2) (by rw [bc_len, HN.out]; omega) (by omega) (bc_one x) c) (fun hroom => growslice_fits_wide (by omega) (by omega)) (by unfold maxLen; omega) ?_; intro A3 c3 w3 o3 hs3 st3 hn3; have x3 := ext_oldK x2 own2 st3 (by omega); have own3 := own_oldK own2 st3 x2.size; clear own2)
      | (at_builtin; refine wpL_putF slt_u8 (.tmp 14) (.const (.string ⟨#[13, 10]⟩)) rfl rfl rfl rfl hs3 hn3 (show Src Tryd.prog 1 9 (.string ⟨#[13, 10]⟩) 2 (bc [13, 10]) _ from src_strK [13, 10] _) (fun hroom => growslice_fits_wide (by omega) (by omega)) (by unfold maxLen; omega) ?_; intro A4 c4 w4 o4 hs4 st4 hn4; have x4 := ext_oldK x3 own3 st4 (by omega)))
    go_ret
    rw [HCH.out, ← HHL.out]
    refine Ret.mk ⟨A4, c4, ?_, ?_⟩ x4
    · have e : ((hl ++ [13, 10] ++ x) ++ [13, 10]).length = hl.length + 2 + n + 2 := by simp only [List.length_append, List.length_cons, List.length_nil, ← HN.out]
      rw [e]; rfl
    · rw [bc_app, bc_app, bc_app]; exact hs4.rd
end Go.Proofs.YtpkgoppfihcpbaaDoor
end

/-
Framing's Last: the end of a body in chunks.
-/
section
namespace Go.Proofs.YtpkgoppfihcpbaaDoor
open Go.RowKit

/-- Bytes, and a number. -/
def IsYe (r : List UInt8 × Int) (v : Value) (w : World) : Prop := ∃ A c, v = .tuple #[.slice A r.1.length c, .int .i64 r.2] ∧ Rd w A (bc r.1)
def anyF (fs : List Fld) (k : Nat) : Bool := (fs.take k).any fun f => decide (8192 < lenF f)
theorem anyF_succ (fs : List Fld) (k : Nat) (h : k < fs.length) : anyF fs (k + 1) = (anyF fs k || decide (8192 < lenF fs[k])) := by
  unfold anyF
  rw [List.take_succ_eq_append_getElem h, List.any_append]
  simp
theorem wrS_takeF (fs : List Fld) (k : Nat) (h : k < fs.length) : wrS (fs.take (k + 1)) = wrS (fs.take k) ++ wrF fs[k] := by
  unfold wrS
  rw [List.take_succ_eq_append_getElem h, List.flatMap_append]
  simp
theorem wrF_lenF (f : Fld) : (wrF f).length = lenF f + 2 := by unfold wrF lenF; simp; omega
theorem wrS_le : ∀ fs : List Fld, (fs.any fun f => decide (8192 < lenF f)) = false → (wrS fs).length ≤ fs.length * 8194
  | [], _ => by simp [wrS]
  | f :: fs, h => by
    rw [List.any_cons, Bool.or_eq_false_iff] at h
    have ih := wrS_le fs h.2
    have h1 : ¬ 8192 < lenF f := by simpa using h.1
    have e : wrS (f :: fs) = wrF f ++ wrS fs := by unfold wrS; rw [List.flatMap_cons]
    rw [e, List.length_append, wrF_lenF, List.length_cons]
    omega
theorem last_bad {fs : List Fld} {k : Nat} (h : k < fs.length) (hb : okF fs[k] = false) : lastL fs = ([], 42) := by
  unfold lastL
  rw [if_pos]
  rw [List.all_eq_false]
  exact ⟨fs[k], List.getElem_mem h, by rw [hb]; decide⟩
theorem last_ok {fs : List Fld} (h : ∀ j (hj : j < fs.length), okF fs[j] = true) : lastL fs = if longF fs = true then ([], 44) else ([48, 13, 10] ++ (wrS fs ++ [13, 10]), 0) := by
  unfold lastL
  rw [if_neg]
  have : fs.all okF = true := by
    rw [List.all_eq_true]
    intro f hf
    obtain ⟨j, hj, rfl⟩ := List.getElem_of_mem hf
    exact h j hj
  rw [this]; decide
theorem sl_const (w : World) (o : Ow) (k : Nat) (t : TypeId) (xs : List Value) (n : Nat) (hn : n = xs.length) (hm : n ≤ maxLen) : Sl (w.alloc (.cells xs.toArray t (n, n + 1))) (fun b => if b < w.heap.size then o b else k) k 1 (some ⟨w.heap.size, 0, none⟩) n n xs := by
  have hh : (w.alloc (.cells xs.toArray t (n, n + 1))).heap[w.heap.size]? = some (.cells xs.toArray t (n, n + 1)) := heap_alloc_new w _
  refine ⟨by omega, Nat.le_refl _, hm, .inr ⟨w.heap.size, 0, rfl, by simp, by simp, fun j u hu => ?_, fun j hj => ?_⟩⟩
  · rw [Nat.zero_add]
    simp only [World.cell?, hh]
    simpa using hu
  · rw [Nat.zero_add]
    constructor
    · simp only [World.cell?, hh]
      simp; omega
    · simp only [World.frozen?, hh, Bool.and_eq_false_iff, decide_eq_false_iff_not]
      exact .inl (by omega)
set_option maxRecDepth 100000 in
set_option maxHeartbeats 8000000 in
theorem fLast_c (fs : List Fld) (A : Option Addr) (n c : Nat) (hn : fs.length = n) (hb : n ≤ 8796093022206) (hsz : ∀ p ∈ fs, p.1.length ≤ 140737488351232 ∧ p.2.length ≤ 140737488351232) (w : World) (h : Rd w A (fc fs)) :
    Calls Tryd.prog 17 #[.slice A n c] w (Ret (IsYe (lastL fs)) w) := by
  have hms : maxLen = 9223372036854775807 := rfl
  obtain ⟨R, hR⟩ : ∃ R, R = lastL fs := ⟨_, rfl⟩
  rw [← hR]
  have HR := Lib.hid hR
  have HF := Lib.hid h
  have HNF := Lib.hid hn
  have HSZ := Lib.hid hsz
  have hcs : ∀ (w : World), (convert 32 32 (.slice (some ⟨w.heap.size, 0, none⟩) 3 3)).run Tryd.prog (w.alloc (.cells #[.int .u8 48, .int .u8 13, .int .u8 10] 5)) = .ok (.slice (some ⟨w.heap.size, 0, none⟩) 3 3) (w.alloc (.cells #[.int .u8 48, .int .u8 13, .int .u8 10] 5 (3, 4))) := fun w => Lib.run_convert_bytes_const w 32 5 #[.int .u8 48, .int .u8 13, .int .u8 10] 3 3 Tryd.underlying32 Tryd.underlying5
  obtain ⟨W0, hW0⟩ : ∃ W0, W0 = w.alloc (.cells #[.int .u8 48, .int .u8 13, .int .u8 10] 5 (3, 4)) := ⟨_, rfl⟩
  obtain ⟨o0, ho0⟩ : ∃ o0 : Ow, o0 = fun b => if b < w.heap.size then (fun _ => 0 : Ow) b else 9 := ⟨_, rfl⟩
  have hs0 : Sl W0 o0 9 1 (some ⟨w.heap.size, 0, none⟩) 3 3 (bc [48, 13, 10]) := by rw [hW0, ho0]; exact sl_const w (fun _ => 0) 9 5 (bc [48, 13, 10]) 3 rfl (by decide)
  have hx0 : Ext w W0 := by rw [hW0]; exact (Ext.rfl' w).al _
  have own0 : ∀ x, x < w.heap.size → o0 x = 0 := fun x hx => by rw [ho0]; exact if_pos hx
  have HS0 := Lib.hid hs0
  have HX0 := Lib.hid hx0
  have HO0 := Lib.hid own0
  have XT := Lib.hid (fun w' o' (t : Stp (fun i => i = 9) W0 o0 w' o') => (ext_oldK hx0 own0 t (by omega) : Ext w w'))
  clear h hsz hn hR hs0 hx0 own0
  go_enter Tryd.func17, Tryd.ntmps17
  go_wp2
  rw [← hW0]
  clear hW0 ho0 hcs
  go_loopw [4, 5, 15] (fun vo vl vi wr => ∃ (k : Nat) (lg : Bool) (ol : List UInt8) (A1 : Option Addr) (c1 : Nat) (o' : Ow), vo = .slice A1 ol.length c1 ∧ vl = .bool lg ∧ vi = .int .i64 (k : Int) ∧ k ≤ n ∧ (∀ j (hj : j < fs.length), j < k → okF fs[j] = true) ∧ lg = (decide ((100 : Int) < (n : Int)) || anyF fs k) ∧ (lg = false → ol = [48, 13, 10] ++ wrS (fs.take k)) ∧ Sl wr o' 9 1 A1 ol.length c1 (bc ol) ∧ (A1 = none → c1 = 0) ∧ Stp (fun i => i = 9) W0 o0 wr o') (fun _ _ vi _ => n - (intOf vi).toNat)
  case atStart => exact ⟨0, decide ((100 : Int) < (n : Int)), [48, 13, 10], some ⟨w.heap.size, 0, none⟩, 3, o0, rfl, by first | rfl | simp, rfl, Nat.zero_le _, fun j _ h => by omega, by simp [anyF], fun _ => by simp [wrS], HS0.out, (fun h => (nomatch h)), Stp.rfl'⟩
  case round =>
    obtain ⟨k, lg, ol, A1, c1, o', rfl, rfl, rfl, hk, hok, hlg, hol, hsl, hna, hst⟩ := hrel
    have HOK := Lib.hid hok
    have HLG := Lib.hid hlg
    have HOL := Lib.hid hol
    have HSL := Lib.hid hsl
    have HNA := Lib.hid hna
    have HST := Lib.hid hst
    have hext := XT.out wr o' hst
    clear hok hlg hol hsl hna hst
    by_cases hlt : k < n
    · obtain ⟨b, o, rfl, hbl, hS⟩ := HF.out.fld (k := k) (by have := HNF.out; omega)
      obtain ⟨a0, a1⟩ := hS.out wr hext
      have hf1 := HSZ.out _ (List.getElem_mem (show k < fs.length by have := HNF.out; omega))
      have hAN := anyF_succ fs k (by have := HNF.out; omega)
      have hBD := fun (hb : okF (fs[k]'(by have := HNF.out; omega)) = false) => last_bad (show k < fs.length by have := HNF.out; omega) hb
      obtain ⟨⟨x, y⟩, hp⟩ : ∃ p, p = fs[k]'(by have := HNF.out; omega) := ⟨_, rfl⟩
      rw [← hp] at a0 a1 hf1 hAN hBD
      dsimp only at a0 a1 hf1
      have HPK := Lib.hid hp
      have hk0 : (0 : Int) ≤ (k : Int) := by omega
      have hk1 : (k : Int) < (n : Int) := by omega
      have CT := fun w => Token_f x (by unfold maxLen; omega) w
      have CV := fun w => Value_f y (by unfold maxLen; omega) w
      have HBD := Lib.hid hBD
      have HAN := Lib.hid hAN
      clear hp hS hbl hAN hBD
      cases hvt : tokL x with
      | false =>
        rw [hvt] at CT
        have CT := Lib.hid CT
        have HV := Lib.hid (show R = ([], 42) from by rw [HR.out]; exact HBD.out (by unfold okF; rw [hvt]; rfl))
        clear hvt
        go_wp2_with (first | (go_at_call 24; refine (CT.out _).mono ?_; rintro e w2 ⟨rfl, hx2⟩; have t0 := hx2.new 0 _ rfl; have t1 := hx2.new 1 _ rfl))
        go_ret2
        rw [HV.out]
        exact Ret.mk ⟨none, 0, rfl, .inl rfl⟩ (hext.tr (by (repeat (first | exact Ext.rfl' _ | assumption | refine Ext.dr ?_ | refine Ext.drN ?_ _ | refine Ext.al ?_ _ | refine Ext.st ?_ (by simp) _ | refine Ext.tr ?_ (by assumption)))))
      | true =>
        rw [hvt] at CT
        have CT := Lib.hid CT
        cases hvv : vlL y with
        | false =>
          rw [hvv] at CV
          have CV := Lib.hid CV
          have HV := Lib.hid (show R = ([], 42) from by rw [HR.out]; exact HBD.out (by unfold okF; rw [hvt]; dsimp only; rw [hvv]; rfl))
          clear hvt hvv
          go_wp2_with (first | (go_at_call 24; refine (CT.out _).mono ?_; rintro e w2 ⟨rfl, hx2⟩; have t0 := hx2.new 0 _ rfl; have t1 := hx2.new 1 _ rfl) | (go_at_call 25; refine (CV.out _).mono ?_; rintro e w3 ⟨rfl, hx3⟩; have g0 := (hx3.cell (lt_of_cell t0)).trans t0; have g1 := (hx3.cell (lt_of_cell t1)).trans t1; clear t0 t1))
          go_ret2
          rw [HV.out]
          exact Ret.mk ⟨none, 0, rfl, .inl rfl⟩ (hext.tr (by (repeat (first | exact Ext.rfl' _ | assumption | refine Ext.dr ?_ | refine Ext.drN ?_ _ | refine Ext.al ?_ _ | refine Ext.st ?_ (by simp) _ | refine Ext.tr ?_ (by assumption)))))
        | true =>
          rw [hvv] at CV
          have CV := Lib.hid CV
          have HV := Lib.hid (show okF (x, y) = true from by unfold okF; rw [hvt]; dsimp only; rw [hvv]; rfl)
          obtain ⟨m, hm⟩ : ∃ m, m = x.length + 2 + y.length := ⟨_, rfl⟩
          have HM := Lib.hid hm
          have r1 : IntKind.i64.wrap ((x.length : Int) + 2) = (x.length : Int) + 2 := by rw [IntKind.wrap_i64]; omega
          have r2 : IntKind.i64.wrap ((x.length : Int) + 2 + (y.length : Int)) = (m : Int) := by rw [IntKind.wrap_i64]; omega
          clear hvt hvv
          have HAK := Lib.hid (fun j (hj : j < fs.length) (h2 : j < k + 1) => (show okF fs[j] = true from by
            rcases Nat.lt_or_ge j k with h3 | h3
            · exact HOK.out j hj h3
            · obtain rfl : j = k := by omega
              rw [← HPK.out]; exact HV.out))
          have HLF := Lib.hid (show lenF (x, y) = m from by rw [HM.out]; rfl)
          cases lg with
          | true =>
            have HL2 := Lib.hid (show true = (decide ((100 : Int) < (n : Int)) || anyF fs (k + 1)) from by rw [HAN.out, ← Bool.or_assoc, ← HLG.out]; rfl)
            clear hm hf1 r1 r2
            go_wp2_with (first | (go_at_call 24; refine (CT.out _).mono ?_; rintro e w2 ⟨rfl, hx2⟩; have t0 := hx2.new 0 _ rfl; have t1 := hx2.new 1 _ rfl) | (go_at_call 25; refine (CV.out _).mono ?_; rintro e w3 ⟨rfl, hx3⟩; have g0 := (hx3.cell (lt_of_cell t0)).trans t0; have g1 := (hx3.cell (lt_of_cell t1)).trans t1; clear t0 t1))
            go_roundw
            case rel => exact ⟨k + 1, true, ol, A1, c1, o', by first | rfl | trivial, by first | rfl | trivial, by go_num, by omega, fun j hj h2 => HAK.out j hj h2, HL2.out, (fun h => (nomatch h)), HSL.out.ext (by (repeat (first | exact Ext.rfl' _ | assumption | refine Ext.dr ?_ | refine Ext.drN ?_ _ | refine Ext.al ?_ _ | refine Ext.st ?_ (by simp) _ | refine Ext.tr ?_ (by assumption)))), HNA.out, HST.out.tr (Stp.ext (by (repeat (first | exact Ext.rfl' _ | assumption | refine Ext.dr ?_ | refine Ext.drN ?_ _ | refine Ext.al ?_ _ | refine Ext.st ?_ (by simp) _ | refine Ext.tr ?_ (by assumption)))))⟩
            case measure => simp [intOf]; omega
          | false =>
            by_cases hbig : 8192 < m
            · have HL2 := Lib.hid (show true = (decide ((100 : Int) < (n : Int)) || anyF fs (k + 1)) from by rw [HAN.out, ← Bool.or_assoc, ← HLG.out, HLF.out, decide_eq_true hbig]; rfl)
              have d1 : (8192 : Int) < (m : Int) := by omega
              have d2 : decide ((8192 : Int) < (m : Int)) = true := decide_eq_true d1
              clear hm hf1 hbig
              go_wp2_with (first | (go_at_call 24; refine (CT.out _).mono ?_; rintro e w2 ⟨rfl, hx2⟩; have t0 := hx2.new 0 _ rfl; have t1 := hx2.new 1 _ rfl) | (go_at_call 25; refine (CV.out _).mono ?_; rintro e w3 ⟨rfl, hx3⟩; have g0 := (hx3.cell (lt_of_cell t0)).trans t0; have g1 := (hx3.cell (lt_of_cell t1)).trans t1; clear t0 t1))
              go_roundw
              case rel => exact ⟨k + 1, true, ol, A1, c1, o', by first | rfl | trivial, by first | rfl | trivial, by go_num, by omega, fun j hj h2 => HAK.out j hj h2, HL2.out, (fun h => (nomatch h)), HSL.out.ext (by (repeat (first | exact Ext.rfl' _ | assumption | refine Ext.dr ?_ | refine Ext.drN ?_ _ | refine Ext.al ?_ _ | refine Ext.st ?_ (by simp) _ | refine Ext.tr ?_ (by assumption)))), HNA.out, HST.out.tr (Stp.ext (by (repeat (first | exact Ext.rfl' _ | assumption | refine Ext.dr ?_ | refine Ext.drN ?_ _ | refine Ext.al ?_ _ | refine Ext.st ?_ (by simp) _ | refine Ext.tr ?_ (by assumption)))))⟩
              case measure => simp [intOf]; omega
            · have HL2 := Lib.hid (show false = (decide ((100 : Int) < (n : Int)) || anyF fs (k + 1)) from by rw [HAN.out, ← Bool.or_assoc, ← HLG.out, HLF.out, decide_eq_false hbig]; rfl)
              have d1 : ¬ (8192 : Int) < (m : Int) := by omega
              have d2 : decide ((8192 : Int) < (m : Int)) = false := decide_eq_false d1
              have hol := HOL.out rfl
              have hOL2 := Lib.hid (show ol ++ wrF (x, y) = [48, 13, 10] ++ wrS (fs.take (k + 1)) from by rw [hol, wrS_takeF fs k (by have := HNF.out; omega), HPK.out]; simp)
              have hlg := HLG.out
              rw [eq_comm, Bool.or_eq_false_iff] at hlg
              have hob : ol.length ≤ 1000000 := by
                have h1 := wrS_le (fs.take k) hlg.2
                have h2 : ¬ (100 : Int) < (n : Int) := by simpa using hlg.1
                rw [hol, List.length_append]
                have h3 : (fs.take k).length ≤ 100 := by rw [List.length_take]; have := HNF.out; omega
                simp only [List.length_cons, List.length_nil]
                omega
              have cc1 : ∀ w, (Op.stringOp .add (str x) ⟨#[58, 32]⟩).run Tryd.prog w = .ok (.string (str (x ++ [58, 32]))) w := fun w => by rw [cat_ok _ _ (by rw [str_size]; show x.length + 2 ≤ _; omega)]; simp
              have cc2 : ∀ w, (Op.stringOp .add (str (x ++ [58, 32])) (str y)).run Tryd.prog w = .ok (.string (str (x ++ [58, 32] ++ y))) w := fun w => by rw [cat_ok _ _ (by rw [str_size, str_size]; simp; omega)]; simp
              have cc3 : ∀ w, (Op.stringOp .add (str (x ++ [58, 32] ++ y)) ⟨#[13, 10]⟩).run Tryd.prog w = .ok (.string (str (wrF (x, y)))) w := fun w => by rw [cat_ok _ _ (by rw [str_size]; show (x ++ [58, 32] ++ y).length + 2 ≤ _; simp; omega)]; simp [wrF]
              obtain ⟨lw, hlw⟩ : ∃ l, l = wrF (x, y) := ⟨_, rfl⟩
              have hwl : lw.length ≤ 10000 := by rw [hlw, wrF_lenF, HLF.out]; omega
              rw [← hlw] at cc3 hOL2
              have SRC := Lib.hid (fun w => src_strK lw w)
              obtain ⟨u1, hu1⟩ : ∃ u, u = str (x ++ [58, 32]) := ⟨_, rfl⟩
              obtain ⟨u2, hu2⟩ : ∃ u, u = str (x ++ [58, 32] ++ y) := ⟨_, rfl⟩
              obtain ⟨u3, hu3⟩ : ∃ u, u = str lw := ⟨_, rfl⟩
              obtain ⟨sx, hsx⟩ : ∃ u, u = str x := ⟨_, rfl⟩
              obtain ⟨sy, hsy⟩ : ∃ u, u = str y := ⟨_, rfl⟩
              have hxs : sx.size = x.length := by rw [hsx]; exact str_size x
              have hys : sy.size = y.length := by rw [hsy]; exact str_size y
              rw [← hu1] at cc1 cc2
              rw [← hu2] at cc2 cc3
              rw [← hu3] at cc3 SRC
              rw [← hsx] at cc1 a0 CT
              rw [← hsy] at cc2 a1 CV
              clear hm hf1 hbig hol hlg hlw hu1 hu2 hu3 hsx hsy
              go_wp2_with (first
                | (go_at_call 24; refine (CT.out _).mono ?_; rintro e w2 ⟨rfl, hx2⟩; have t0 := hx2.new 0 _ rfl; have t1 := hx2.new 1 _ rfl)
                | (go_at_call 25; refine (CV.out _).mono ?_; rintro e w3 ⟨rfl, hx3⟩; have g0 := (hx3.cell (lt_of_cell t0)).trans t0; have g1 := (hx3.cell (lt_of_cell t1)).trans t1; clear t0 t1)
                | (at_builtin; refine wpL_put slt_u8 (.tmp 43) (.tmp 50) rfl rfl rfl rfl (HSL.out.ext (by (repeat (first | exact Ext.rfl' _ | assumption | refine Ext.dr ?_ | refine Ext.drN ?_ _ | refine Ext.al ?_ _ | refine Ext.st ?_ (by simp) _ | refine Ext.tr ?_ (by assumption))))) HNA.out (SRC.out _) (by omega) (by omega) ?_; intro A7 c7 w7 o7 hs7 st7 hn7))
              go_roundw
              case rel => exact ⟨k + 1, false, ol ++ lw, A7, c7, o7, by rw [List.length_append], by first | rfl | trivial, by go_num, by omega, fun j hj h2 => HAK.out j hj h2, HL2.out, (fun _ => hOL2.out), by rw [List.length_append, bc_app]; exact hs7, hn7, (HST.out.tr (Stp.ext (by (repeat (first | exact Ext.rfl' _ | assumption | refine Ext.dr ?_ | refine Ext.drN ?_ _ | refine Ext.al ?_ _ | refine Ext.st ?_ (by simp) _ | refine Ext.tr ?_ (by assumption)))))).tr st7⟩
              case measure => simp [intOf]; omega
    · have hkn : k = n := by omega
      have k1 : ¬ (k : Int) < (n : Int) := by omega
      have HLO := Lib.hid (show R = if longF fs = true then ([], 44) else ([48, 13, 10] ++ (wrS fs ++ [13, 10]), 0) from by
        rw [HR.out]; exact last_ok (fun j hj => HOK.out j hj (by have := HNF.out; omega)))
      have HLL := Lib.hid (show longF fs = lg from by
        rw [HLG.out]; unfold longF anyF; rw [List.take_of_length_le (by have := HNF.out; omega), HNF.out]; congr 1; rw [decide_eq_decide]; omega)
      have HTK := Lib.hid (show fs.take k = fs from List.take_of_length_le (by have := HNF.out; omega))
      cases lg with
      | true =>
        have HV := Lib.hid (show R = ([], 44) from by rw [HLO.out, if_pos HLL.out])
        go_wp2
        go_ret2
        rw [HV.out]
        exact Ret.mk ⟨none, 0, rfl, .inl rfl⟩ (hext.tr (by (repeat (first | exact Ext.rfl' _ | assumption | refine Ext.dr ?_ | refine Ext.drN ?_ _ | refine Ext.al ?_ _ | refine Ext.st ?_ (by simp) _ | refine Ext.tr ?_ (by assumption)))))
      | false =>
        have hol := HOL.out rfl
        rw [HTK.out] at hol
        have HV := Lib.hid (show R = (ol ++ [13, 10], 0) from by rw [HLO.out, if_neg (by rw [HLL.out]; decide), hol]; simp)
        have hlg := HLG.out
        rw [eq_comm, Bool.or_eq_false_iff] at hlg
        have hob : ol.length ≤ 1000000 := by
          have h1 := wrS_le (fs.take k) hlg.2
          have h2 : ¬ (100 : Int) < (n : Int) := by simpa using hlg.1
          rw [HTK.out] at h1
          rw [hol, List.length_append]
          have := HNF.out
          simp only [List.length_cons, List.length_nil]
          omega
        clear hol hlg
        go_wp2_with (first
          | (at_builtin; refine wpL_put slt_u8 (.tmp 54) (.const (.string ⟨#[13, 10]⟩)) rfl rfl rfl rfl HSL.out HNA.out (show Src Tryd.prog 1 9 (.string ⟨#[13, 10]⟩) 2 (bc [13, 10]) _ from src_strK [13, 10] _) (by omega) (by omega) ?_; intro A7 c7 w7 o7 hs7 st7 hn7))
        go_ret2
        rw [HV.out]
        exact Ret.mk ⟨A7, c7, by rw [List.length_append]; rfl, by rw [bc_app]; exact hs7.rd⟩ (XT.out w7 o7 (HST.out.tr st7))
end Go.Proofs.YtpkgoppfihcpbaaDoor
end

/-
Fields with other names: Without, the reference's; two lists of fields that are the same.
-/
section
namespace Go.Proofs.YtpkgoppfihcpbaaDoor
open Go.RowKit

theorem met_succ {x : List UInt8} {nms : List (List UInt8)} {t : Nat} (ht : t < nms.length) : metH x (nms.take (t + 1)) = (metH x (nms.take t) || (lowL x == lowL nms[t])) := by
  unfold metH
  rw [List.take_succ_eq_append_getElem ht, List.any_append]; simp
set_option maxRecDepth 100000 in
set_option maxHeartbeats 4000000 in
theorem hFields_c (fs : List Fld) (A B : Option Addr) (n c m d : Nat) (hn : fs.length = n) (hm : fs.length = m) (hb : n ≤ maxLen) (w : World) (h : Rd w A (fc fs)) (hB : Rd w B (fc fs)) :
    Calls Tryd.prog 13 #[.slice A n c, .slice B m d] w (Gives (.bool true) w) := by
  obtain rfl : n = m := hn.symm.trans hm
  unfold maxLen at hb
  go_enter Tryd.func13, Tryd.ntmps13
  go_wp2
  go_loopw [5] (fun i wr => ∃ k : Nat, k ≤ n ∧ i = .int .i64 (k : Int) ∧ Ext w wr) (fun i _ => n - (intOf i).toNat)
  case atStart => exact ⟨0, Nat.zero_le _, rfl, Ext.rfl' _⟩
  case round =>
    obtain ⟨k, hk, rfl, hext⟩ := hrel
    by_cases hlt : k < n
    · obtain ⟨b, o, rfl, hbl, hS⟩ := h.fld (k := k) (by omega)
      obtain ⟨b', o', rfl, hbl', hS'⟩ := hB.fld (k := k) (by omega)
      obtain ⟨a0, a1⟩ := hS.out wr hext
      obtain ⟨e0, e1⟩ := hS'.out wr hext
      obtain ⟨p, hp⟩ : ∃ p, p = fs[k] := ⟨_, rfl⟩
      rw [← hp] at a0 a1 e0 e1
      obtain ⟨x, y⟩ := p
      have hk0 : (0 : Int) ≤ (k : Int) := by omega
      have hk1 : (k : Int) < (n : Int) := by omega
      clear hp
      go_wp2
      go_quiet (fail)
      go_wp2
      go_roundw
      case rel => exact ⟨k + 1, by omega, by go_num, hext.drN _⟩
      case measure => simp [intOf]; omega
    · obtain rfl : k = n := by omega
      go_wp2
      go_ret
      exact ⟨rfl, hext⟩
end Go.Proofs.YtpkgoppfihcpbaaDoor
end

/-
Bytes that are sent in chunks come out as they were: the law as a walk.
-/
section
namespace Go.Proofs.YtpkgoppfihcpbaaDoor
open Go.RowKit

def RdBK (w : World) (A : Option Addr) (ps : List (List UInt8)) : Prop :=
  ∃ vs : List Value, Rd w A vs ∧ vs.length = ps.length ∧ ∀ i (h : i < ps.length), ∃ B d, vs[i]? = some (.slice B ps[i].length d) ∧ Rd w B (bc ps[i]) ∧ ps[i].length ≤ d
theorem RdBK.row {w : World} {A : Option Addr} {ps : List (List UInt8)} (h : RdBK w A ps) {i : Nat} (hi : i < ps.length) :
    ∃ b f B d, A = some ⟨b, f, none⟩ ∧ b < w.heap.size ∧ Hid (∀ w', Ext w w' → w'.cell? ⟨b, f + i, none⟩ = some (.slice B ps[i].length d)) ∧ Rd w B (bc ps[i]) ∧ ps[i].length ≤ d := by
  obtain ⟨vs, hr, hl, hv⟩ := h
  obtain ⟨b, f, hA, hb, hc⟩ := hr.at_ (by omega)
  obtain ⟨B, d, h1, h2⟩ := hv i hi
  exact ⟨b, f, B, d, hA, hb, Lib.hid fun w' e => (e.cell (p := ⟨b, f + i, none⟩) hb).trans (hc i _ h1), h2⟩
def IsFK (fs : List Fld) (v : Value) (w : World) : Prop := ∃ A c, v = .slice A fs.length c ∧ Rd w A (fc fs)
theorem trail_k (k P : Nat) (s : Rst) (hd : s.done = true) (hf : s.tail.length ≤ 1000000) (w : World) (o : Ow) (h : FsAt w o k P s) : Calls Tryd.prog 14 #[.pointer (some ⟨P, 0, none⟩)] w (Ret (IsFK s.tail) w) := by
  refine (fTrailers_yes 9 k P s hd hf w o h).mono ?_
  rintro e w1 ⟨v, o1, rfl, ⟨A, c, rfl, hs, _⟩, st⟩
  exact Ret.mk ⟨A, c, rfl, hs.rd⟩ st.noExt
set_option maxRecDepth 100000 in
set_option maxHeartbeats 4000000 in
theorem fEnd_done (k P : Nat) (s : Rst) (hd : s.done = true) (he : s.e = 0) (w : World) (o : Ow) (h : FsAt w o k P s) :
    Calls Tryd.prog 15 #[.pointer (some ⟨P, 0, none⟩)] w (Turns (KF k) w o fun v _ _ => v = .int .i64 0) := by
  have CG := fGo_shut k P s (.inl hd) [] none 0 0 w o h
  have hg : goF s [] = (s, 0) := if_pos (.inl hd)
  rw [hg] at CG
  dsimp only at CG
  obtain ⟨A, m, D, l, C, g, hr, h1⟩ := h.row
  have c9 := hr.c9
  have HD := Lib.hid hd
  have HE := Lib.hid he
  have CG := Lib.hid CG
  clear hr h1 h hg hd he
  go_enter Tryd.func15, Tryd.ntmps15
  go_wp2_with (go_at_call 22; refine (CG.out).mono ?_; rintro e w2 ⟨v, o2, rfl, ⟨rfl, hp2⟩, st2⟩; obtain ⟨A2, m2, D2, l2, C2, g2, hr2, hh2⟩ := hp2.row; have k10 := hr2.c10; have k11 := hr2.c11; rw [HD.out] at k10; rw [HE.out] at k11; have ST2 := Lib.hid st2; clear hp2 hr2 hh2 st2 c9)
  go_ret
  exact ⟨_, o2, rfl, rfl, ST2.out⟩
/-- The pieces that are sent. -/
def pcK (ls : List (List UInt8)) (t : Nat) : List (List UInt8) := (ls.take t).map (·.take 1000)
theorem pcK_succ (ls : List (List UInt8)) (t : Nat) (h : t < ls.length) : pcK ls (t + 1) = pcK ls t ++ [ls[t].take 1000] := by
  unfold pcK
  rw [List.take_succ_eq_append_getElem h, List.map_append]
  rfl
theorem pcK_len (ls : List (List UInt8)) : ∀ t, t ≤ 200 → (pcK ls t).flatten.length ≤ t * 1000 ∧ ((pcK ls t).flatMap chunkL).length ≤ t * 1020
  | 0, _ => by simp [pcK]
  | t + 1, h => by
    have ih := pcK_len ls t (by omega)
    by_cases ht : t < ls.length
    · rw [pcK_succ ls t ht, List.flatten_append, List.flatMap_append, List.length_append, List.length_append]
      have h1 : (ls[t].take 1000).length ≤ 1000 := by rw [List.length_take]; omega
      have h2 : (chunkL (ls[t].take 1000)).length ≤ 1020 := by
        unfold chunkL
        split
        · exact Nat.zero_le _
        · have h3 := hx_len 3 (ls[t].take 1000).length (by omega)
          rw [List.length_append, List.length_append, List.length_append]
          have h4 : ([13, 10] : List UInt8).length = 2 := rfl
          omega
      simp only [List.flatten_cons, List.flatten_nil, List.append_nil, List.flatMap_cons, List.flatMap_nil]
      omega
    · have e : pcK ls (t + 1) = pcK ls t := by unfold pcK; rw [List.take_of_length_le (by omega), List.take_of_length_le (by omega)]
      rw [e]
      exact ⟨Nat.le_trans ih.1 (Nat.mul_le_mul_right _ (Nat.le_succ t)), Nat.le_trans ih.2 (Nat.mul_le_mul_right _ (Nat.le_succ t))⟩
theorem last_len (fs : List Fld) : (lastL fs).1.length ≤ 1000000 := by
  by_cases h : (lastL fs).2 = 0
  · obtain ⟨e, h1, h2, h3⟩ := last_good h
    have := wrS_le fs (by rw [List.any_eq_false]; intro f hf; have := h3 f hf; simp; omega)
    rw [e]
    simp only [List.length_append, List.length_cons, List.length_nil]
    omega
  · have : (lastL fs).1 = [] := by
      unfold lastL at h ⊢
      split
      · rfl
      · split
        · rfl
        · rename_i h1 h2
          rw [if_neg h1, if_neg h2] at h
          exact absurd rfl h
    rw [this]; simp
theorem last_nil {fs : List Fld} (h : (lastL fs).2 ≠ 0) : (lastL fs).1 = [] := by
  unfold lastL at h ⊢
  split
  · rfl
  · split
    · rfl
    · rename_i h1 h2
      rw [if_neg h1, if_neg h2] at h
      exact absurd rfl h
/-- Whatever anybody owns. -/
def KA : Nat → Prop := fun i => i ≠ 0
theorem sl_owned {w : World} {o : Ow} {k size n c : Nat} {A : Option Addr} {xs : List Value} (h : Sl w o k size A n c xs) (hn : 0 < n) : ∀ a, A = some a → o a.block = k := by
  intro a ha
  have := h.le
  rcases h.at_ with h1 | ⟨g, f, hA, ho, _⟩
  · omega
  · rw [hA] at ha
    cases ha
    exact ho
end Go.Proofs.YtpkgoppfihcpbaaDoor
end

/-
Bytes that are sent in chunks come out as they were, with their trailers; what stands behind is not touched: the law as a walk.
-/
section
namespace Go.Proofs.YtpkgoppfihcpbaaDoor
open Go.RowKit

theorem feed_tailK (b : List UInt8) : (feedF (newF 2 0 1048576) b).1.tail.length ≤ 100 ∧ True := by
  have hg : (goF (newF 2 0 1048576) b).1.tail.length ≤ 100 := by
    have hok : Rok (newF 2 0 1048576) := new_okF (by decide) (by decide) (by decide)
    unfold goF
    split
    · exact hok.fl
    · have h1 := ready_okF hok
      dsimp only
      split
      · exact h1.fl
      · exact (runF_ok b _ h1).fl
  exact ⟨hg, trivial⟩
set_option maxRecDepth 100000 in
set_option maxHeartbeats 8000000 in
theorem FramingBack_w (w : World) (hE : ErrR w) (hP : Bru w) (ls : List (List UInt8)) (A : Option Addr) (n c : Nat) (hn : n = ls.length) (hA : RdBK w A ls)
    (fs : List Fld) (T : Option Addr) (m tc : Nat) (hm : fs.length = m) (hmb : m ≤ 8796093022206) (hsz : ∀ p ∈ fs, p.1.length ≤ 140737488351232 ∧ p.2.length ≤ 140737488351232) (hT : Rd w T (fc fs))
    (mo : List UInt8) (M : Option Addr) (q mc : Nat) (hq : q = mo.length) (hqb : q ≤ 140737488351232) (hM : Rd w M (bc mo)) :
    Calls Tryd.prog 6 #[.slice A n c, .slice T m tc, .slice M q mc] w (Gives (.bool true) w) := by
  have hms : maxLen = 9223372036854775807 := rfl
  have HER := Lib.hid hE
  have HPB := Lib.hid hP
  have HAR := Lib.hid hA
  have HN := Lib.hid hn
  have HT := Lib.hid hT
  have HTN := Lib.hid hm
  have HM := Lib.hid hM
  have HQ := Lib.hid hq
  have CL := fun w h => fLast_c fs T m tc hm hmb hsz w h
  have hll := last_len fs
  have BK := fun (xs : List (List UInt8)) hx h => back_frame xs fs mo hx h
  have hnil := fun h => last_nil (fs := fs) h
  obtain ⟨⟨le, ee⟩, hle⟩ : ∃ r, r = lastL fs := ⟨_, rfl⟩
  rw [← hle] at CL BK hll hnil
  unfold IsYe at CL
  dsimp only at CL BK hll hnil
  have CL := Lib.hid CL
  have BK := Lib.hid BK
  have HNIL := Lib.hid hnil
  obtain ⟨o, ho⟩ : ∃ o : Ow, o = fun _ => 0 := ⟨_, rfl⟩
  have HO := Lib.hid (show ∀ x, o x = 0 from fun x => by rw [ho])
  have XT := Lib.hid (fun w' o' (t : Stp (fun i => i = 9 ∨ i = 8) w o w' o') => show Ext w w' from t.toExt (fun b hb => by rw [HO.out]; simp))
  clear hE hP hA hn hT hm hM hq hle ho hsz hnil
  go_enter Tryd.func6, Tryd.ntmps6
  go_wp2
  go_loopw [7, 8, 9] (fun vb vw vi wr => ∃ (t : Nat) (ob ow : List UInt8) (A1 : Option Addr) (c1 : Nat) (A2 : Option Addr) (c2 : Nat) (o' : Ow), vb = .slice A1 ob.length c1 ∧ vw = .slice A2 ow.length c2 ∧ vi = .int .i64 (t : Int) ∧ t ≤ n ∧ t ≤ 200 ∧ ob = (pcK ls t).flatMap chunkL ∧ ow = (pcK ls t).flatten ∧ Sl wr o' 9 1 A1 ob.length c1 (bc ob) ∧ (A1 = none → c1 = 0) ∧ Sl wr o' 8 1 A2 ow.length c2 (bc ow) ∧ (A2 = none → c2 = 0) ∧ Stp (fun i => i = 9 ∨ i = 8) w o wr o') (fun _ _ vi _ => n - (intOf vi).toNat)
  case atStart => exact ⟨0, [], [], none, 0, none, 0, o, rfl, rfl, rfl, Nat.zero_le _, Nat.zero_le _, rfl, rfl, Sl.nil_ _ _ _ _ _, fun _ => rfl, Sl.nil_ _ _ _ _ _, fun _ => rfl, Stp.rfl'⟩
  case round =>
    obtain ⟨t, ob, ow, A1, c1, A2, c2, o', rfl, rfl, rfl, ht, ht2, hob, how, hs1, hn1, hs2, hn2, hst⟩ := hrel
    have HOB := Lib.hid hob
    have HOW := Lib.hid how
    have HS1 := Lib.hid hs1
    have HN1 := Lib.hid hn1
    have HS2 := Lib.hid hs2
    have HN2 := Lib.hid hn2
    have HST := Lib.hid hst
    have hext := XT.out wr o' hst
    clear hob how hs1 hn1 hs2 hn2 hst
    by_cases hcont : t < n ∧ t < 200
    · obtain ⟨h1, h2⟩ := hcont
      have hlt : t < ls.length := by rw [← HN.out]; exact h1
      obtain ⟨b, f, B, d, rfl, hbl, hc, hrd, hld⟩ := HAR.out.row hlt
      have hcc := hc.out wr hext
      have hsu := pcK_succ ls t hlt
      have k0 : (0 : Int) ≤ (t : Int) := by omega
      have k1 : (t : Int) < (n : Int) := by omega
      have k2 : (t : Int) < 200 := by omega
      obtain ⟨y, hy⟩ : ∃ y, y = ls[t] := ⟨_, rfl⟩
      rw [← hy] at hcc hrd hld hsu
      obtain ⟨Ly, hLy⟩ : ∃ L, L = y.length := ⟨_, rfl⟩
      rw [← hLy] at hcc hld
      clear hbl hc hlt hy
      by_cases hbig : 1000 < Ly
      · have d1 : (1000 : Int) < (Ly : Int) := by omega
        have d2 : (1000 : Int) ≤ (d : Int) := by omega
        have hx : Rd w B (bc (y.take 1000)) := by rw [← bc_take]; exact hrd.take 1000
        obtain ⟨x, hxx⟩ : ∃ x, x = y.take 1000 := ⟨_, rfl⟩
        have hL : 1000 = x.length := by rw [hxx, List.length_take]; omega
        rw [← hxx] at hx hsu
        clear hrd hLy hxx hbig
        have HCH := Lib.hid (fun w hP h => fChunk_c x B 1000 d hL (by omega) w hP h)
        have hcl := (pcK_len ls (t + 1) (by omega))
        rw [hsu, List.flatten_append, List.flatMap_append, List.length_append, List.length_append] at hcl
        have hc1 : ([x] : List (List UInt8)).flatten = x := by simp
        have hc2 : ([x] : List (List UInt8)).flatMap chunkL = chunkL x := by simp
        rw [hc1, hc2] at hcl
        have HPC := Lib.hid (show pcK ls (t + 1) = pcK ls t ++ [x] from hsu)
        have HOB2 := Lib.hid (show ob ++ chunkL x = (pcK ls (t + 1)).flatMap chunkL from by rw [hsu, List.flatMap_append, hc2, HOB.out])
        have HOW2 := Lib.hid (show ow ++ x = (pcK ls (t + 1)).flatten from by rw [hsu, List.flatten_append, hc1, HOW.out])
        rw [← HOB.out, ← HOW.out] at hcl
        obtain ⟨ch, hch⟩ : ∃ q, q = chunkL x := ⟨_, rfl⟩
        rw [← hch] at HCH hcl HOB2
        have HX := Lib.hid hx
        have HLX := Lib.hid hL
        have hcl1 : ob.length + ch.length ≤ 300000 := by omega
        have hcl2 : ow.length + 1000 ≤ 300000 := by omega
        unfold IsY at HCH
        clear hcl hc1 hc2 hsu hch hx hL
        go_wp2_with (first
          | (go_at_call 16; refine (HCH.out _ (HPB.out.ext hext) (HX.out.ext hext)).mono ?_; rintro e w2 ⟨v, rfl, ⟨A2, c2, rfl, hr2⟩, hx2⟩; have HX2 := Lib.hid hx2; have HR2 := Lib.hid hr2; clear hr2)
          | (at_builtin; refine wpL_put slt_u8 (.tmp 38) (.tmp 40) rfl rfl rfl rfl (HS1.out.ext HX2.out) HN1.out (Sl.src Tryd.underlying32 HR2.out (by rw [bc_len]; omega) (by omega) (bc_one ch) c2) (by omega) (by omega) ?_; intro A7 c7 w7 o7 hs7 st7 hn7; have HS7 := Lib.hid hs7; have ST7 := Lib.hid st7; have HN7 := Lib.hid hn7; have XE7 := Lib.hid (XT.out _ _ ((HST.out.tr (Stp.ext HX2.out)).tr (st7.mono fun i hi => .inl hi))); clear hs7 st7 hn7)
          | (at_builtin; refine wpL_put slt_u8 (.tmp 42) (.tmp 43) rfl rfl rfl rfl ((HS2.out.ext HX2.out).stp ST7.out (by omega)) HN2.out (Sl.src Tryd.underlying32 (HX.out.ext XE7.out) (by rw [bc_len]; have := HLX.out; omega) (by omega) (bc_one x) d) (by omega) (by omega) ?_; intro A8 c8 w8 o8 hs8 st8 hn8))
        go_roundw
        case rel => exact ⟨t + 1, ob ++ ch, ow ++ x, A7, c7, A8, c8, o8, by rw [List.length_append], by rw [List.length_append, ← HLX.out], by go_num, by omega, by omega, HOB2.out, HOW2.out, by rw [List.length_append, bc_app]; exact HS7.out.stp st8 (by omega), HN7.out, by rw [List.length_append, bc_app, ← HLX.out]; exact hs8, hn8, (HST.out.tr (Stp.ext HX2.out)).tr ((ST7.out.mono fun i hi => .inl hi).tr (st8.mono fun i hi => .inr hi))⟩
        case measure => simp [intOf]; omega
      · have d1 : ¬ (1000 : Int) < (Ly : Int) := by omega
        have hx : Rd w B (bc y) := hrd
        rw [List.take_of_length_le (by omega)] at hsu
        obtain ⟨x, hxx⟩ : ∃ x, x = y := ⟨_, rfl⟩
        rw [← hxx] at hx hsu hLy
        obtain ⟨L, hLL⟩ : ∃ L, L = Ly := ⟨_, rfl⟩
        rw [← hLL] at hcc hld hLy d1
        have hL : L = x.length := hLy
        clear hrd hLy hxx hLL
        have HCH := Lib.hid (fun w hP h => fChunk_c x B L d hL (by omega) w hP h)
        have hcl := (pcK_len ls (t + 1) (by omega))
        rw [hsu, List.flatten_append, List.flatMap_append, List.length_append, List.length_append] at hcl
        have hc1 : ([x] : List (List UInt8)).flatten = x := by simp
        have hc2 : ([x] : List (List UInt8)).flatMap chunkL = chunkL x := by simp
        rw [hc1, hc2] at hcl
        have HPC := Lib.hid (show pcK ls (t + 1) = pcK ls t ++ [x] from hsu)
        have HOB2 := Lib.hid (show ob ++ chunkL x = (pcK ls (t + 1)).flatMap chunkL from by rw [hsu, List.flatMap_append, hc2, HOB.out])
        have HOW2 := Lib.hid (show ow ++ x = (pcK ls (t + 1)).flatten from by rw [hsu, List.flatten_append, hc1, HOW.out])
        rw [← HOB.out, ← HOW.out] at hcl
        obtain ⟨ch, hch⟩ : ∃ q, q = chunkL x := ⟨_, rfl⟩
        rw [← hch] at HCH hcl HOB2
        have HX := Lib.hid hx
        have HLX := Lib.hid hL
        have hcl1 : ob.length + ch.length ≤ 300000 := by omega
        have hcl2 : ow.length + L ≤ 300000 := by omega
        unfold IsY at HCH
        clear hcl hc1 hc2 hsu hch hx hL
        go_wp2_with (first
          | (go_at_call 16; refine (HCH.out _ (HPB.out.ext hext) (HX.out.ext hext)).mono ?_; rintro e w2 ⟨v, rfl, ⟨A2, c2, rfl, hr2⟩, hx2⟩; have HX2 := Lib.hid hx2; have HR2 := Lib.hid hr2; clear hr2)
          | (at_builtin; refine wpL_put slt_u8 (.tmp 38) (.tmp 40) rfl rfl rfl rfl (HS1.out.ext HX2.out) HN1.out (Sl.src Tryd.underlying32 HR2.out (by rw [bc_len]; omega) (by omega) (bc_one ch) c2) (by omega) (by omega) ?_; intro A7 c7 w7 o7 hs7 st7 hn7; have HS7 := Lib.hid hs7; have ST7 := Lib.hid st7; have HN7 := Lib.hid hn7; have XE7 := Lib.hid (XT.out _ _ ((HST.out.tr (Stp.ext HX2.out)).tr (st7.mono fun i hi => .inl hi))); clear hs7 st7 hn7)
          | (at_builtin; refine wpL_put slt_u8 (.tmp 42) (.tmp 43) rfl rfl rfl rfl ((HS2.out.ext HX2.out).stp ST7.out (by omega)) HN2.out (Sl.src Tryd.underlying32 (HX.out.ext XE7.out) (by rw [bc_len]; have := HLX.out; omega) (by omega) (bc_one x) d) (by omega) (by omega) ?_; intro A8 c8 w8 o8 hs8 st8 hn8))
        go_roundw
        case rel => exact ⟨t + 1, ob ++ ch, ow ++ x, A7, c7, A8, c8, o8, by rw [List.length_append], by rw [List.length_append, ← HLX.out], by go_num, by omega, by omega, HOB2.out, HOW2.out, by rw [List.length_append, bc_app]; exact HS7.out.stp st8 (by omega), HN7.out, by rw [List.length_append, bc_app, ← HLX.out]; exact hs8, hn8, (HST.out.tr (Stp.ext HX2.out)).tr ((ST7.out.mono fun i hi => .inl hi).tr (st8.mono fun i hi => .inr hi))⟩
        case measure => simp [intOf]; omega
    · have hpl := pcK_len ls t ht2
      rw [← HOB.out, ← HOW.out] at hpl
      have hob : ob.length ≤ 204000 := by omega
      have how : ow.length ≤ 200000 := by omega
      have ST0 := Lib.hid (show Stp KA w o wr o' from HST.out.mono fun i hi => by unfold KA; omega)
      have HG := Lib.hid (show GlF w o from ⟨HER.out, HO.out _⟩)
      by_cases he : ee = 0
      · obtain ⟨z, hz, hzt, hzd, hze⟩ := BK.out (pcK ls t) (by rw [← HOW.out]; omega) he
        rw [← HOB.out, ← HOW.out, List.length_append] at hz
        have htl : z.tail.length ≤ 1000000 := by
          rw [hzt]
          have h1 := hz
          have := (feed_tailK (ob ++ le ++ mo)).1
          rw [hz] at this
          rw [← hzt]
          exact Nat.le_trans this (by decide)
        have CT := fun P (w : World) o h => trail_k 1 P z hzd htl w o h
        have CE := Lib.hid (fun P (w : World) o h => fEnd_done 1 P z hzd hze w o h)
        rw [hzt] at CT htl
        unfold IsFK at CT
        have CT := Lib.hid CT
        have C8 := Lib.hid (fun P A5 k (w' : World) o h hG hB hBo => by
          have := fFeed_c 1 P (by decide) (newF 2 0 1048576) (.inr (.inr (new_okF (by decide) (by decide) (by decide)))) (ob ++ le ++ mo) A5 (ob.length + le.length + q) k (by rw [List.length_append, List.length_append, ← HQ.out]) (by omega) w' o h hG hB hBo
          rw [hz] at this
          unfold IsFed at this
          exact this)
        obtain ⟨Lb, hLb⟩ : ∃ L, L = ob.length + le.length := ⟨_, rfl⟩
        have hLB : Lb ≤ 1204000 := by omega
        have HLb := Lib.hid hLb
        rw [← hLb] at C8
        have hpos : 0 < ob.length + le.length + q := by
          rcases Nat.eq_zero_or_pos (ob.length + le.length + q) with h0 | h0
          · have e1 : ob = [] := List.eq_nil_of_length_eq_zero (by omega)
            have e2 : le = [] := List.eq_nil_of_length_eq_zero (by omega)
            have e3 : mo = [] := List.eq_nil_of_length_eq_zero (by have := HQ.out; omega)
            rw [e1, e2, e3] at hz
            have h9 := congrArg (fun r : Rst × Nat × List UInt8 × Bool × Int => r.2.2.2.1) hz
            have h10 : (feedF (newF 2 0 1048576) []).2.2.2.1 = true := h9
            exact absurd h10 (by decide)
          · exact h0
        obtain ⟨sb, hsb⟩ : ∃ s, s = str ow := ⟨_, rfl⟩
        have HSB := Lib.hid hsb
        subst he
        clear hz hzt hzd hze hpl hsb hLb
        by_cases h1 : t < n
        · have k1 : (t : Int) < (n : Int) := by omega
          have k2 : ¬ (t : Int) < 200 := by omega
          go_wp2_with (first
            | (go_at_call 17; refine (CL.out _ (HT.out.ext hext)).mono ?_; rintro e w2 ⟨v, rfl, ⟨A5, c5, rfl, hr5⟩, hx2⟩; have HR5 := Lib.hid hr5; clear hr5)
            | (go_at_call 8; refine (num12_c _ _).mono ?_; rintro e w9 ⟨rfl, rfl⟩)
            | (go_at_call 9; refine (knows12_c _ (HER.out.ext (hext.tr hx2))).mono ?_; rintro e w3 ⟨rfl, x3⟩)
            | (at_builtin; refine wpL_put slt_u8 (.tmp 63) (.tmp 64) rfl rfl rfl rfl (HS1.out.ext (hx2.tr x3)) HN1.out (Sl.src Tryd.underlying32 (HR5.out.ext x3) (by rw [bc_len]; omega) (by omega) (bc_one le) c5) (by omega) (by omega) ?_; intro A4 c4 w4 o4 hs4 st4 hn4; have HS4 := Lib.hid (show Sl w4 o4 9 1 A4 Lb c4 (bc (ob ++ le)) from by rw [bc_app, HLb.out]; exact hs4); have HN4 := Lib.hid hn4; have ST4 := Lib.hid (ST0.out.tr ((Stp.ext (hx2.tr x3)).tr (st4.mono fun i hi => by unfold KA; omega))); have SW4 := Lib.hid (HS2.out.stp ((Stp.ext (hx2.tr x3)).tr st4) (by omega)); clear hs4 hn4 st4; rw [← HLb.out])
            | (go_at_call 11; refine (fNew_yes 1 2 0 1048576 (by decide) (.inl rfl) (by decide) (by decide) w4 o4).mono ?_; rintro e w5 ⟨v, o5, rfl, ⟨P, rfl, hp5, hP5⟩, st5⟩; have ST5 := Lib.hid (ST4.out.tr (st5.mono fun _ h => h.elim)); have HS5 := Lib.hid (HS4.out.stp st5 (fun x => x)); have SW5 := Lib.hid (SW4.out.stp st5 (fun x => x)); have HP5 := Lib.hid hp5; clear st5 hp5)
            | (at_builtin; refine wpL_fresh slt_u8 (.tmp 80) (.tmp 81) rfl rfl (o := o5) 7 rfl rfl (Sl.src Tryd.underlying32 (HS5.out.rd.ext (by (repeat (first | exact Ext.rfl' _ | assumption | refine Ext.dr ?_ | refine Ext.drN ?_ _ | refine Ext.al ?_ _ | refine Ext.st ?_ (by simp) _ | refine Ext.tr ?_ (by assumption))))) (by rw [bc_len, List.length_append]; have := HLb.out; omega) (by omega) (bc_one (ob ++ le)) c4) (by omega) (by omega) ?_; intro A6 c6 w6 o6 hs6 st6 hn6; have st6 : Stp (fun _ => False) w5 o5 w6 o6 := (Stp.ext (by (repeat (first | exact Ext.rfl' _ | assumption | refine Ext.dr ?_ | refine Ext.drN ?_ _ | refine Ext.al ?_ _ | refine Ext.st ?_ (by simp) _ | refine Ext.tr ?_ (by assumption))))).tr st6; have ST6 := Lib.hid (ST5.out.tr (st6.mono fun _ h => h.elim)); have HS6 := Lib.hid hs6; have HN6 := Lib.hid hn6; have SW6 := Lib.hid (SW5.out.stp st6 (fun x => x)); have HP6 := Lib.hid (HP5.out.stp st6 (fun x => x) (fun x => x) (fun x => x) (fun x => x)); clear st6 hs6 hn6)
            | (at_builtin; refine wpL_putF slt_u8 (.tmp 82) (.tmp 83) rfl rfl rfl rfl HS6.out HN6.out (Sl.src Tryd.underlying32 (HM.out.ext (ST6.out.toExt (fun b _ => by rw [HO.out]; unfold KA; simp))) (by rw [bc_len, HQ.out]; omega) (by omega) (bc_one mo) mc) (fun hroom => growslice_fits_wide (by omega) (by omega)) (by omega) ?_; intro A7 c7 w7 o7 hs7 st7 hn7; have ST7 := Lib.hid (ST6.out.tr (st7.mono fun i hi => by unfold KA; omega)); have HS7 := Lib.hid hs7; have SW7 := Lib.hid (SW6.out.stp st7 (by omega)); have HP7 := Lib.hid (HP6.out.stp st7 (by omega) (by omega) (by omega) (by omega)); clear st7 hs7 hn7)
            | (go_at_call 12; refine (C8.out P A7 c7 w7 o7 HP7.out (HG.out.stp ST7.out (by unfold KA; simp)) (by rw [bc_app]; exact HS7.out.rd) (fun _ a ha _ => by rw [sl_owned HS7.out (by have := HLb.out; omega) a ha]; unfold KF; omega)).mono ?_; rintro e w8 ⟨v, o8, rfl, ⟨⟨C9, g9, rfl, hs8⟩, hp8⟩, st8⟩; have ST8 := Lib.hid (ST7.out.tr (st8.mono fun i hi => by unfold KA; unfold KF at hi; omega)); have HP8 := Lib.hid hp8; have cv1 := conv_bs (P := Tryd.prog) 32 9 5 Tryd.underlying32 Tryd.underlying5 Tryd.underlying9 hs8.rd ow.length g9 rfl; have cv2 := conv_bs (P := Tryd.prog) 32 9 5 Tryd.underlying32 Tryd.underlying5 Tryd.underlying9 (SW7.out.stp st8 (by unfold KF; omega)).rd ow.length c2 rfl; rw [← HSB.out] at cv1 cv2; have X8 := Lib.hid (ST8.out.toExt (fun b _ => by rw [HO.out]; unfold KA; simp)); clear hs8 hp8 st8)
            | (go_at_call 14; refine (CT.out P _ o8 (HP8.out.ext (by (repeat (first | exact Ext.rfl' _ | assumption | refine Ext.dr ?_ | refine Ext.drN ?_ _ | refine Ext.al ?_ _ | refine Ext.st ?_ (by simp) _ | refine Ext.tr ?_ (by assumption)))))).mono ?_; rintro e wA ⟨vA, rfl, ⟨AA, cA, rfl, hrA⟩, xA⟩)
            | (go_at_call 13; refine (hFields_c fs AA T fs.length cA m tc rfl HTN.out (by have := HTN.out; omega) _ (hrA.ext (by (repeat (first | exact Ext.rfl' _ | assumption | refine Ext.dr ?_ | refine Ext.drN ?_ _ | refine Ext.al ?_ _ | refine Ext.st ?_ (by simp) _ | refine Ext.tr ?_ (by assumption))))) (HT.out.ext (X8.out.tr (by (repeat (first | exact Ext.rfl' _ | assumption | refine Ext.dr ?_ | refine Ext.drN ?_ _ | refine Ext.al ?_ _ | refine Ext.st ?_ (by simp) _ | refine Ext.tr ?_ (by assumption))))))).mono ?_; rintro e wB ⟨rfl, xB⟩)
            | (go_at_call 15; refine (CE.out P _ o8 (HP8.out.ext (by (repeat (first | exact Ext.rfl' _ | assumption | refine Ext.dr ?_ | refine Ext.drN ?_ _ | refine Ext.al ?_ _ | refine Ext.st ?_ (by simp) _ | refine Ext.tr ?_ (by assumption)))))).mono ?_; rintro e wC ⟨vC, oC, rfl, rfl, stC⟩))
          go_ret
          have st9 : Stp KA w o wC oC := ST8.out.tr ((Stp.ext (by (repeat (first | exact Ext.rfl' _ | assumption | refine Ext.dr ?_ | refine Ext.drN ?_ _ | refine Ext.al ?_ _ | refine Ext.st ?_ (by simp) _ | refine Ext.tr ?_ (by assumption))))).tr (stC.mono fun i hi => by unfold KA; unfold KF at hi; omega))
          exact ⟨rfl, st9.toExt (fun b _ => by rw [HO.out]; unfold KA; simp)⟩
        · have k1 : ¬ (t : Int) < (n : Int) := by omega
          go_wp2_with (first
            | (go_at_call 17; refine (CL.out _ (HT.out.ext hext)).mono ?_; rintro e w2 ⟨v, rfl, ⟨A5, c5, rfl, hr5⟩, hx2⟩; have HR5 := Lib.hid hr5; clear hr5)
            | (go_at_call 8; refine (num12_c _ _).mono ?_; rintro e w9 ⟨rfl, rfl⟩)
            | (go_at_call 9; refine (knows12_c _ (HER.out.ext (hext.tr hx2))).mono ?_; rintro e w3 ⟨rfl, x3⟩)
            | (at_builtin; refine wpL_put slt_u8 (.tmp 63) (.tmp 64) rfl rfl rfl rfl (HS1.out.ext (hx2.tr x3)) HN1.out (Sl.src Tryd.underlying32 (HR5.out.ext x3) (by rw [bc_len]; omega) (by omega) (bc_one le) c5) (by omega) (by omega) ?_; intro A4 c4 w4 o4 hs4 st4 hn4; have HS4 := Lib.hid (show Sl w4 o4 9 1 A4 Lb c4 (bc (ob ++ le)) from by rw [bc_app, HLb.out]; exact hs4); have HN4 := Lib.hid hn4; have ST4 := Lib.hid (ST0.out.tr ((Stp.ext (hx2.tr x3)).tr (st4.mono fun i hi => by unfold KA; omega))); have SW4 := Lib.hid (HS2.out.stp ((Stp.ext (hx2.tr x3)).tr st4) (by omega)); clear hs4 hn4 st4; rw [← HLb.out])
            | (go_at_call 11; refine (fNew_yes 1 2 0 1048576 (by decide) (.inl rfl) (by decide) (by decide) w4 o4).mono ?_; rintro e w5 ⟨v, o5, rfl, ⟨P, rfl, hp5, hP5⟩, st5⟩; have ST5 := Lib.hid (ST4.out.tr (st5.mono fun _ h => h.elim)); have HS5 := Lib.hid (HS4.out.stp st5 (fun x => x)); have SW5 := Lib.hid (SW4.out.stp st5 (fun x => x)); have HP5 := Lib.hid hp5; clear st5 hp5)
            | (at_builtin; refine wpL_fresh slt_u8 (.tmp 80) (.tmp 81) rfl rfl (o := o5) 7 rfl rfl (Sl.src Tryd.underlying32 (HS5.out.rd.ext (by (repeat (first | exact Ext.rfl' _ | assumption | refine Ext.dr ?_ | refine Ext.drN ?_ _ | refine Ext.al ?_ _ | refine Ext.st ?_ (by simp) _ | refine Ext.tr ?_ (by assumption))))) (by rw [bc_len, List.length_append]; have := HLb.out; omega) (by omega) (bc_one (ob ++ le)) c4) (by omega) (by omega) ?_; intro A6 c6 w6 o6 hs6 st6 hn6; have st6 : Stp (fun _ => False) w5 o5 w6 o6 := (Stp.ext (by (repeat (first | exact Ext.rfl' _ | assumption | refine Ext.dr ?_ | refine Ext.drN ?_ _ | refine Ext.al ?_ _ | refine Ext.st ?_ (by simp) _ | refine Ext.tr ?_ (by assumption))))).tr st6; have ST6 := Lib.hid (ST5.out.tr (st6.mono fun _ h => h.elim)); have HS6 := Lib.hid hs6; have HN6 := Lib.hid hn6; have SW6 := Lib.hid (SW5.out.stp st6 (fun x => x)); have HP6 := Lib.hid (HP5.out.stp st6 (fun x => x) (fun x => x) (fun x => x) (fun x => x)); clear st6 hs6 hn6)
            | (at_builtin; refine wpL_putF slt_u8 (.tmp 82) (.tmp 83) rfl rfl rfl rfl HS6.out HN6.out (Sl.src Tryd.underlying32 (HM.out.ext (ST6.out.toExt (fun b _ => by rw [HO.out]; unfold KA; simp))) (by rw [bc_len, HQ.out]; omega) (by omega) (bc_one mo) mc) (fun hroom => growslice_fits_wide (by omega) (by omega)) (by omega) ?_; intro A7 c7 w7 o7 hs7 st7 hn7; have ST7 := Lib.hid (ST6.out.tr (st7.mono fun i hi => by unfold KA; omega)); have HS7 := Lib.hid hs7; have SW7 := Lib.hid (SW6.out.stp st7 (by omega)); have HP7 := Lib.hid (HP6.out.stp st7 (by omega) (by omega) (by omega) (by omega)); clear st7 hs7 hn7)
            | (go_at_call 12; refine (C8.out P A7 c7 w7 o7 HP7.out (HG.out.stp ST7.out (by unfold KA; simp)) (by rw [bc_app]; exact HS7.out.rd) (fun _ a ha _ => by rw [sl_owned HS7.out (by have := HLb.out; omega) a ha]; unfold KF; omega)).mono ?_; rintro e w8 ⟨v, o8, rfl, ⟨⟨C9, g9, rfl, hs8⟩, hp8⟩, st8⟩; have ST8 := Lib.hid (ST7.out.tr (st8.mono fun i hi => by unfold KA; unfold KF at hi; omega)); have HP8 := Lib.hid hp8; have cv1 := conv_bs (P := Tryd.prog) 32 9 5 Tryd.underlying32 Tryd.underlying5 Tryd.underlying9 hs8.rd ow.length g9 rfl; have cv2 := conv_bs (P := Tryd.prog) 32 9 5 Tryd.underlying32 Tryd.underlying5 Tryd.underlying9 (SW7.out.stp st8 (by unfold KF; omega)).rd ow.length c2 rfl; rw [← HSB.out] at cv1 cv2; have X8 := Lib.hid (ST8.out.toExt (fun b _ => by rw [HO.out]; unfold KA; simp)); clear hs8 hp8 st8)
            | (go_at_call 14; refine (CT.out P _ o8 (HP8.out.ext (by (repeat (first | exact Ext.rfl' _ | assumption | refine Ext.dr ?_ | refine Ext.drN ?_ _ | refine Ext.al ?_ _ | refine Ext.st ?_ (by simp) _ | refine Ext.tr ?_ (by assumption)))))).mono ?_; rintro e wA ⟨vA, rfl, ⟨AA, cA, rfl, hrA⟩, xA⟩)
            | (go_at_call 13; refine (hFields_c fs AA T fs.length cA m tc rfl HTN.out (by have := HTN.out; omega) _ (hrA.ext (by (repeat (first | exact Ext.rfl' _ | assumption | refine Ext.dr ?_ | refine Ext.drN ?_ _ | refine Ext.al ?_ _ | refine Ext.st ?_ (by simp) _ | refine Ext.tr ?_ (by assumption))))) (HT.out.ext (X8.out.tr (by (repeat (first | exact Ext.rfl' _ | assumption | refine Ext.dr ?_ | refine Ext.drN ?_ _ | refine Ext.al ?_ _ | refine Ext.st ?_ (by simp) _ | refine Ext.tr ?_ (by assumption))))))).mono ?_; rintro e wB ⟨rfl, xB⟩)
            | (go_at_call 15; refine (CE.out P _ o8 (HP8.out.ext (by (repeat (first | exact Ext.rfl' _ | assumption | refine Ext.dr ?_ | refine Ext.drN ?_ _ | refine Ext.al ?_ _ | refine Ext.st ?_ (by simp) _ | refine Ext.tr ?_ (by assumption)))))).mono ?_; rintro e wC ⟨vC, oC, rfl, rfl, stC⟩))
          go_ret
          have st9 : Stp KA w o wC oC := ST8.out.tr ((Stp.ext (by (repeat (first | exact Ext.rfl' _ | assumption | refine Ext.dr ?_ | refine Ext.drN ?_ _ | refine Ext.al ?_ _ | refine Ext.st ?_ (by simp) _ | refine Ext.tr ?_ (by assumption))))).tr (stC.mono fun i hi => by unfold KA; unfold KF at hi; omega))
          exact ⟨rfl, st9.toExt (fun b _ => by rw [HO.out]; unfold KA; simp)⟩
      · have hle0 := HNIL.out he
        have k3 : (ee != 0) = true := by rw [bne_iff_ne]; exact he
        subst hle0
        clear he
        by_cases h1 : t < n
        · have k1 : (t : Int) < (n : Int) := by omega
          have k2 : ¬ (t : Int) < 200 := by omega
          go_wp2_with (first
            | (go_at_call 17; refine (CL.out _ (HT.out.ext hext)).mono ?_; rintro e w2 ⟨v, rfl, ⟨A5, c5, rfl, hr5⟩, hx2⟩; clear hr5)
            | (go_at_call 8; refine (num12_c _ _).mono ?_; rintro e w9 ⟨rfl, rfl⟩)
            | (go_at_call 9; refine (knows12_c _ (HER.out.ext (hext.tr hx2))).mono ?_; rintro e w3 ⟨rfl, x3⟩))
          go_ret
          exact ⟨rfl, hext.tr (hx2.tr x3)⟩
        · have k1 : ¬ (t : Int) < (n : Int) := by omega
          go_wp2_with (first
            | (go_at_call 17; refine (CL.out _ (HT.out.ext hext)).mono ?_; rintro e w2 ⟨v, rfl, ⟨A5, c5, rfl, hr5⟩, hx2⟩; clear hr5)
            | (go_at_call 8; refine (num12_c _ _).mono ?_; rintro e w9 ⟨rfl, rfl⟩)
            | (go_at_call 9; refine (knows12_c _ (HER.out.ext (hext.tr hx2))).mono ?_; rintro e w3 ⟨rfl, x3⟩))
          go_ret
          exact ⟨rfl, hext.tr (hx2.tr x3)⟩
end Go.Proofs.YtpkgoppfihcpbaaDoor
end
