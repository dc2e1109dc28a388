/-
Framing's reader as plain functions: chunks that are written are read as they were.
-/
import Derived.Test.YtnakeigpelcajaaGreatDoorFa2
import Derived.Test.YtnakeigpelcajaaGreatDoorHXa
set_option linter.unusedVariables false
set_option linter.unusedSimpArgs false
/-
Framing's reader as plain functions: chunks that are written are read as they were.
-/
section
namespace Go.Proofs.YtnakeigpelcajaaGreatDoor
open Go.RowKit

/-- The bytes l take a reader from s to t. -/
def Goes (s : Rst) (l : List UInt8) (t : Rst) : Prop := ∀ rest, runF s (l ++ rest) = ((runF t rest).1, l.length + (runF t rest).2.1, (runF t rest).2.2)
theorem Goes.nil_ (s : Rst) : Goes s [] s := fun rest => by simp
theorem Goes.app {s t u : Rst} {l m : List UInt8} (h : Goes s l t) (k : Goes t m u) : Goes s (l ++ m) u := fun rest => by
  rw [List.append_assoc, h, k, List.length_append, Nat.add_assoc]
theorem Goes.one {s t : Rst} {c : UInt8} (hd : s.done = false) (ht : takeF s c = (t, 0)) : Goes s [c] t := fun rest => by
  show runF s (c :: rest) = _
  rw [runF_cons, if_neg (by rw [hd]; decide), ht, if_neg (by simp)]
  simp [Nat.add_comm]
theorem Goes.cons {s t u : Rst} {c : UInt8} {l : List UInt8} (hd : s.done = false) (ht : takeF s c = (t, 0)) (k : Goes t l u) : Goes s (c :: l) u := Goes.app (Goes.one hd ht) k
def valsF (l : List UInt8) : Prop := ∀ b ∈ l, valB b.toNat = true
theorem textF_put {s : Rst} {c : UInt8} (hcr : s.cr = false) (hv : valB c.toNat = true) (hl : s.line.length < 8192) : textF s c = ({ s with line := s.line ++ [c] }, none, 0) := by
  have hc : c ≠ 13 := fun e => by rw [e] at hv; exact absurd hv (by decide)
  unfold textF
  rw [if_neg (by rw [hcr]; decide), if_neg hc, if_pos hv, if_pos hl]
theorem takeF_line {s t : Rst} {c : UInt8} (hs : s.state = 1 ∨ s.state = 4) (h : textF s c = (t, none, 0)) : takeF s c = (t, 0) := by
  unfold takeF
  rcases hs with hs | hs
  · rw [if_neg (by omega), if_pos hs]
    unfold sizeF
    rw [h]
  · rw [if_neg (by omega), if_neg (by omega), if_neg (by omega), if_neg (by omega)]
    unfold trailF
    rw [h]
theorem goes_text : ∀ (l : List UInt8) (s : Rst), (s.state = 1 ∨ s.state = 4) → s.cr = false → s.done = false → valsF l → s.line.length + l.length ≤ 8192 → Goes s l { s with line := s.line ++ l }
  | [], s, _, _, _, _, _ => by
    have e : { s with line := s.line ++ [] } = s := by rw [List.append_nil]
    rw [e]; exact Goes.nil_ s
  | c :: l, s, hs, hcr, hd, hv, hl => by
    simp only [List.length_cons] at hl
    have h1 := takeF_line hs (textF_put hcr (hv c List.mem_cons_self) (by omega))
    have ih := goes_text l { s with line := s.line ++ [c] } hs hcr hd (fun b hb => hv b (List.mem_cons_of_mem _ hb)) (by dsimp only; rw [List.length_append]; simp only [List.length_cons, List.length_nil]; omega)
    have e2 : s.line ++ [c] ++ l = s.line ++ c :: l := by simp
    dsimp only at ih
    rw [e2] at ih
    exact Goes.cons hd h1 ih
/-- A line's end. -/
theorem goes_crlf {s t : Rst} (hs : s.state = 1 ∨ s.state = 4) (hcr : s.cr = false) (hd : s.done = false) (hq : (if s.state = 1 then sizeL { s with cr := false, line := [] } s.line else tailL { s with cr := false, line := [] } s.line) = (t, 0)) : Goes s [13, 10] t := by
  have h1 : takeF s 13 = ({ s with cr := true }, 0) := takeF_line hs (by unfold textF; rw [if_neg (by rw [hcr]; decide), if_pos rfl])
  have h2 : takeF { s with cr := true } 10 = (t, 0) := by
    have ht : textF { s with cr := true } 10 = ({ s with cr := false, line := [] }, some s.line, 0) := by unfold textF; rw [if_pos rfl, if_pos rfl]
    unfold takeF
    dsimp only
    rcases hs with hs | hs
    · rw [if_pos hs] at hq
      rw [if_neg (by omega), if_pos hs]
      unfold sizeF
      rw [ht]
      exact hq
    · rw [if_neg (by omega)] at hq
      rw [if_neg (by omega), if_neg (by omega), if_neg (by omega), if_neg (by omega)]
      unfold trailF
      rw [ht]
      exact hq
  exact Goes.cons hd h1 (Goes.one hd h2)
/-- A whole line. -/
theorem goes_line {s t : Rst} (l : List UInt8) (hs : s.state = 1 ∨ s.state = 4) (hcr : s.cr = false) (hd : s.done = false) (hln : s.line = []) (hv : valsF l) (hl : l.length ≤ 8192)
    (hq : (if s.state = 1 then sizeL { s with cr := false, line := [] } l else tailL { s with cr := false, line := [] } l) = (t, 0)) : Goes s (l ++ [13, 10]) t := by
  have h1 := goes_text l s hs hcr hd hv (by rw [hln]; simpa using hl)
  rw [hln, List.nil_append] at h1
  exact Goes.app h1 (goes_crlf hs hcr hd hq)
/-- The digits of a size. -/
theorem hx_bytes (n : Nat) : ∀ b ∈ hxL n, valB b.toNat = true ∧ (!(b == 59 || b == 32 || b == 9)) = true := by
  have key : ∀ c : Fin 256, isDig 16 (UInt8.ofNat c.val) = true → valB c.val = true ∧ (!(UInt8.ofNat c.val == 59 || UInt8.ofNat c.val == 32 || UInt8.ofNat c.val == 9)) = true := by decide +kernel
  intro b hb
  have h1 := (hxL_all n).1
  rw [List.all_eq_true] at h1
  have h2 := key ⟨b.toNat, UInt8.toNat_lt b⟩
  simp only [UInt8.ofNat_toNat] at h2
  exact h2 (h1 b hb)
theorem tw_whole (p : UInt8 → Bool) : ∀ (l : List UInt8), (∀ b ∈ l, p b = true) → l.takeWhile p = l
  | [], _ => rfl
  | b :: l, h => by rw [List.takeWhile_cons, if_pos (h b List.mem_cons_self), tw_whole p l (fun c hc => h c (List.mem_cons_of_mem _ hc))]
theorem size_hx {n : Nat} (hn : n ≤ 1048576) : szN (hxL n) = (hxL n).length ∧ szV (hxL n) = (n : Int) ∧ szG (hxL n) = true := by
  have h1 : szN (hxL n) = (hxL n).length := by unfold szN; rw [tw_whole _ _ (fun b hb => (hx_bytes n b hb).2)]
  have h2 : hexV ((hxL n).take (szN (hxL n))) = ((n : Int), 0) := by rw [h1, List.take_length]; exact num_hex n (by omega)
  have h3 := hx_len 5 n (by omega)
  refine ⟨h1, by unfold szV; rw [h2], ?_⟩
  unfold szG
  rw [h2, h1, List.drop_length, trim_nil]
  simp only [decide_true, Bool.true_and, List.isEmpty_nil, Bool.true_or, Bool.and_true, decide_eq_true_eq]
  omega
/-- A chunk's bytes. -/
theorem goes_data : ∀ (x : List UInt8) (s : Rst), x ≠ [] → s.state = 2 → s.left = x.length → s.done = false → Goes s x { s with all := s.all + x.length, body := s.body ++ x, state := 3, left := 2 }
  | [], s, h, _, _, _ => absurd rfl h
  | [c], s, _, hs, hl, hd => by
    have ht : takeF s c = ({ s with all := s.all + 1, body := s.body ++ [c], state := 3, left := 2 }, 0) := by
      unfold takeF
      rw [if_neg (by omega), if_neg (by omega), if_pos hs]
      unfold dataF
      rw [if_pos (by rw [hl]; rfl)]
    exact Goes.one hd ht
  | c :: d :: x, s, _, hs, hl, hd => by
    simp only [List.length_cons] at hl
    have ht : takeF s c = ({ s with all := s.all + 1, body := s.body ++ [c], left := s.left - 1 }, 0) := by
      unfold takeF
      rw [if_neg (by omega), if_neg (by omega), if_pos hs]
      unfold dataF
      rw [if_neg (by omega)]
    have ih := goes_data (d :: x) { s with all := s.all + 1, body := s.body ++ [c], left := s.left - 1 } (by simp) hs (by simp only [List.length_cons]; omega) hd
    dsimp only at ih
    rw [show s.body ++ [c] ++ d :: x = s.body ++ c :: d :: x from by simp, show s.all + 1 + (d :: x).length = s.all + (c :: d :: x).length from by simp only [List.length_cons]; omega] at ih
    exact Goes.cons hd ht ih
/-- A piece as a chunk. -/
def chunkL (x : List UInt8) : List UInt8 := if x = [] then [] else hxL x.length ++ ([13, 10] ++ (x ++ [13, 10]))
/-- A reader between chunks. -/
structure Btw (s : Rst) : Prop where
  st : s.state = 1
  cr : s.cr = false
  dn : s.done = false
  ln : s.line = []
  lf : s.left = 0
theorem goes_chunk (x : List UInt8) (s : Rst) (h : Btw s) (hm : s.most ≤ 1048576) (ha : s.all + x.length ≤ s.most) : Goes s (chunkL x) { s with all := s.all + x.length, body := s.body ++ x } := by
  obtain ⟨h1, h2, h3, h4, h5⟩ := h
  unfold chunkL
  by_cases h0 : x = []
  · subst h0
    rw [if_pos rfl]
    have e : { s with all := s.all + ([] : List UInt8).length, body := s.body ++ [] } = s := by rw [List.append_nil]; rfl
    rw [e]; exact Goes.nil_ s
  · rw [if_neg h0]
    have hpos := List.length_pos_iff.2 h0
    obtain ⟨k1, k2, k3⟩ := size_hx (n := x.length) (by omega)
    have hlen := hx_len 5 x.length (by omega)
    have hq : (if s.state = 1 then sizeL { s with cr := false, line := [] } (hxL x.length) else tailL { s with cr := false, line := [] } (hxL x.length)) = ({ s with cr := false, line := [], state := 2, left := x.length }, 0) := by
      rw [if_pos h1]
      unfold sizeL
      rw [if_pos k3, k2, if_pos (by dsimp only; omega), if_neg (by omega)]
      rfl
    have g1 := goes_line (hxL x.length) (.inl h1) h2 h3 h4 (fun b hb => (hx_bytes _ b hb).1) (by omega) hq
    have g2 := goes_data x { s with cr := false, line := [], state := 2, left := x.length } h0 rfl rfl h3
    dsimp only at g2
    have t1 : takeF { s with cr := false, line := [], all := s.all + x.length, body := s.body ++ x, state := 3, left := 2 } 13 = ({ s with cr := false, line := [], all := s.all + x.length, body := s.body ++ x, state := 3, left := 1 }, 0) := by
      unfold takeF
      dsimp only
      rw [if_neg (by omega), if_neg (by omega), if_neg (by omega), if_pos rfl]
      unfold behindF
      dsimp only
      rw [if_pos (by rw [if_pos rfl]), if_neg (by omega)]
    have t2 : takeF { s with cr := false, line := [], all := s.all + x.length, body := s.body ++ x, state := 3, left := 1 } 10 = ({ s with cr := false, line := [], all := s.all + x.length, body := s.body ++ x, left := 0, state := 1 }, 0) := by
      unfold takeF
      dsimp only
      rw [if_neg (by omega), if_neg (by omega), if_neg (by omega), if_pos rfl]
      unfold behindF
      dsimp only
      rw [if_pos (by rw [if_neg (by decide)]), if_pos rfl]
    have g3 := Goes.cons (s := { s with cr := false, line := [], all := s.all + x.length, body := s.body ++ x, state := 3, left := 2 }) h3 t1 (Goes.one (s := { s with cr := false, line := [], all := s.all + x.length, body := s.body ++ x, state := 3, left := 1 }) h3 t2)
    have e : ({ s with cr := false, line := [], all := s.all + x.length, body := s.body ++ x, left := 0, state := 1 } : Rst) = { s with all := s.all + x.length, body := s.body ++ x } := by rw [← h1, ← h2, ← h4, ← h5]
    rw [e] at g3
    have g := g1.app (g2.app g3)
    rw [List.append_assoc] at g
    exact g
/-- Pieces, chunk by chunk. -/
theorem goes_chunks : ∀ (xs : List (List UInt8)) (s : Rst), Btw s → s.most ≤ 1048576 → s.all + xs.flatten.length ≤ s.most → Goes s (xs.flatMap chunkL) { s with all := s.all + xs.flatten.length, body := s.body ++ xs.flatten }
  | [], s, _, _, _ => by
    have e : { s with all := s.all + ([] : List (List UInt8)).flatten.length, body := s.body ++ ([] : List (List UInt8)).flatten } = s := by simp
    rw [e]; exact Goes.nil_ s
  | x :: xs, s, h, hm, ha => by
    rw [List.flatten_cons, List.length_append] at ha
    have g1 := goes_chunk x s h hm (by omega)
    have g2 := goes_chunks xs { s with all := s.all + x.length, body := s.body ++ x } ⟨h.st, h.cr, h.dn, h.ln, h.lf⟩ hm (by dsimp only; omega)
    dsimp only at g2
    rw [List.flatMap_cons, List.flatten_cons, List.length_append, ← Nat.add_assoc, ← List.append_assoc]
    exact g1.app g2
end Go.Proofs.YtnakeigpelcajaaGreatDoor
end

/-
Framing's reader as plain functions: the last chunk and the trailers are read as they were written.
-/
section
namespace Go.Proofs.YtnakeigpelcajaaGreatDoor
open Go.RowKit

/-- May a field be written? -/
def okF (f : Fld) : Bool := tokL f.1 && vlL f.2
def lenF (f : Fld) : Nat := f.1.length + 2 + f.2.length
/-- A field's line. -/
def wrF (f : Fld) : List UInt8 := f.1 ++ ([58, 32] ++ (f.2 ++ [13, 10]))
def wrS (fs : List Fld) : List UInt8 := fs.flatMap wrF
def longF (fs : List Fld) : Bool := decide (100 < fs.length) || fs.any fun f => decide (8192 < lenF f)
/-- The end of a chunked body, or why none. -/
def lastL (fs : List Fld) : List UInt8 × Int := if fs.all okF = false then ([], 42) else if longF fs = true then ([], 44) else ([48, 13, 10] ++ (wrS fs ++ [13, 10]), 0)
theorem tok_valF {l : List UInt8} (h : tokL l = true) : valsF l ∧ 58 ∉ l := by
  unfold tokL at h
  rw [Bool.and_eq_true, List.all_eq_true] at h
  have key : ∀ c : Fin 256, tokB c.val = true → valB c.val = true ∧ c.val ≠ 58 := by decide +kernel
  have k2 : ∀ b ∈ l, valB b.toNat = true ∧ b.toNat ≠ 58 := fun b hb => key ⟨b.toNat, UInt8.toNat_lt b⟩ (h.1 b hb)
  exact ⟨fun b hb => (k2 b hb).1, fun hm => (k2 _ hm).2 rfl⟩
theorem vl_valF {l : List UInt8} (h : vlL l = true) : valsF l := by
  unfold vlL at h
  rw [Bool.and_eq_true, List.all_eq_true] at h
  exact h.1
theorem trim_blankF {l : List UInt8} (h : vlL l = true) : trimL (32 :: l) = l := by
  unfold vlL at h
  rw [Bool.and_eq_true] at h
  have e := h.2
  rw [← trim_ends, beq_iff_eq] at e
  have e2 : trimL (32 :: l) = trimL l := by
    rw [trimL_eq, trimL_eq]
    rw [List.dropWhile_cons, if_pos (by decide)]
  rw [e2, e]
theorem fldV_wrF {f : Fld} (h : okF f = true) : fldV (f.1 ++ 58 :: 32 :: f.2) = some f := by
  unfold okF at h
  rw [Bool.and_eq_true] at h
  unfold fldV
  rw [cutW_at _ (tok_valF h.1).2]
  dsimp only
  rw [trim_blankF h.2, h.1, h.2]
  rfl
theorem goes_fields : ∀ (fs : List Fld) (s : Rst), s.state = 4 → s.cr = false → s.done = false → s.line = [] → fs.all okF = true → (∀ f ∈ fs, lenF f ≤ 8192) → s.tail.length + fs.length ≤ 100 → Goes s (wrS fs) { s with tail := s.tail ++ fs }
  | [], s, _, _, _, _, _, _, _ => by
    have e : { s with tail := s.tail ++ [] } = s := by rw [List.append_nil]
    rw [e]; exact Goes.nil_ s
  | f :: fs, s, hs, hcr, hd, hln, hok, hlen, hcnt => by
    rw [List.all_cons, Bool.and_eq_true] at hok
    simp only [List.length_cons] at hcnt
    have hlf := hlen f List.mem_cons_self
    have hok1 := hok.1
    unfold okF at hok1
    rw [Bool.and_eq_true] at hok1
    have hll : (f.1 ++ 58 :: 32 :: f.2).length = lenF f := by unfold lenF; simp; omega
    have hv : valsF (f.1 ++ 58 :: 32 :: f.2) := by
      intro b hb
      rcases List.mem_append.1 hb with h | h
      · exact (tok_valF hok1.1).1 b h
      · rcases List.mem_cons.1 h with rfl | h
        · decide
        · rcases List.mem_cons.1 h with rfl | h
          · decide
          · exact vl_valF hok1.2 b h
    have hq : (if s.state = 1 then sizeL { s with cr := false, line := [] } (f.1 ++ 58 :: 32 :: f.2) else tailL { s with cr := false, line := [] } (f.1 ++ 58 :: 32 :: f.2)) = ({ s with cr := false, line := [], tail := s.tail ++ [f] }, 0) := by
      rw [if_neg (by omega)]
      unfold tailL
      rw [if_neg (by simp), fldV_wrF hok.1]
      dsimp only
      rw [if_pos (by omega)]
    have g1 := goes_line (f.1 ++ 58 :: 32 :: f.2) (.inr hs) hcr hd hln hv (by rw [hll]; exact hlf) hq
    have g2 := goes_fields fs { s with cr := false, line := [], tail := s.tail ++ [f] } hs rfl hd rfl hok.2 (fun g hg => hlen g (List.mem_cons_of_mem _ hg)) (by dsimp only; rw [List.length_append]; simp only [List.length_cons, List.length_nil]; omega)
    dsimp only at g2
    have g := g1.app g2
    have e0 : (f.1 ++ 58 :: 32 :: f.2) ++ [13, 10] ++ wrS fs = wrS (f :: fs) := by
      unfold wrS wrF
      rw [List.flatMap_cons]
      simp
    rw [e0] at g
    have e : ({ s with cr := false, line := [], tail := s.tail ++ [f] ++ fs } : Rst) = { s with tail := s.tail ++ f :: fs } := by rw [← hcr, ← hln]; simp
    rw [e] at g
    exact g
theorem last_good {fs : List Fld} (h : (lastL fs).2 = 0) : lastL fs = ([48, 13, 10] ++ (wrS fs ++ [13, 10]), 0) ∧ fs.all okF = true ∧ fs.length ≤ 100 ∧ ∀ f ∈ fs, lenF f ≤ 8192 := by
  unfold lastL at h ⊢
  by_cases h1 : fs.all okF = false
  · rw [if_pos h1] at h; exact absurd h (by decide)
  · rw [if_neg h1] at h ⊢
    by_cases h2 : longF fs = true
    · rw [if_pos h2] at h; exact absurd h (by decide)
    · rw [if_neg h2]
      have h3 : longF fs = false := by simpa using h2
      unfold longF at h3
      rw [Bool.or_eq_false_iff, decide_eq_false_iff_not, List.any_eq_false] at h3
      exact ⟨rfl, by simpa using h1, by omega, fun f hf => by have := h3.2 f hf; simp at this; exact this⟩
theorem goes_last {fs : List Fld} (h : (lastL fs).2 = 0) (s : Rst) (hb : Btw s) (ht : s.tail = []) (ha : s.all ≤ s.most) : Goes s (lastL fs).1 { s with state := 4, tail := fs, done := true } := by
  obtain ⟨e0, h1, h2, h3⟩ := last_good h
  rw [e0]
  obtain ⟨b1, b2, b3, b4, b5⟩ := hb
  have hz : (48 :: [] : List UInt8) = hxL 0 := by rw [hxL_lt (by decide)]; rfl
  obtain ⟨k1, k2, k3⟩ := size_hx (n := 0) (by omega)
  have hq : (if s.state = 1 then sizeL { s with cr := false, line := [] } (hxL 0) else tailL { s with cr := false, line := [] } (hxL 0)) = ({ s with cr := false, line := [], state := 4, left := 0 }, 0) := by
    rw [if_pos b1]
    unfold sizeL
    rw [if_pos k3, k2, if_pos (by dsimp only; omega)]
    rfl
  have g1 := goes_line (hxL 0) (.inl b1) b2 b3 b4 (fun b hb => (hx_bytes _ b hb).1) (by rw [← hz]; decide) hq
  have g2 := goes_fields fs { s with cr := false, line := [], state := 4, left := 0 } rfl rfl b3 rfl h1 h3 (by dsimp only; rw [ht]; simpa using h2)
  dsimp only at g2
  have g3 := goes_crlf (s := { s with cr := false, line := [], state := 4, left := 0, tail := s.tail ++ fs }) (t := { s with cr := false, line := [], state := 4, left := 0, tail := s.tail ++ fs, done := true }) (.inr rfl) rfl b3 (by
    dsimp only
    rw [if_neg (by decide)]
    unfold tailL
    rw [if_pos rfl])
  have g := g1.app (g2.app g3)
  rw [← hz] at g
  have e : ({ s with cr := false, line := [], state := 4, left := 0, tail := s.tail ++ fs, done := true } : Rst) = { s with state := 4, tail := fs, done := true } := by rw [ht, List.nil_append, ← b2, ← b4, ← b5]
  rw [e] at g
  exact g
/-- A body in chunks, its end, and more behind it: what comes out. -/
theorem back_frame (xs : List (List UInt8)) (fs : List Fld) (more : List UInt8) (hx : xs.flatten.length ≤ 1048576) (h : (lastL fs).2 = 0) :
    ∃ z : Rst, feedF (newF 2 0 1048576) (xs.flatMap chunkL ++ (lastL fs).1 ++ more) = (z, (xs.flatMap chunkL ++ (lastL fs).1).length, xs.flatten, true, 0) ∧ z.tail = fs ∧ z.done = true ∧ z.e = 0 := by
  have hb : Btw (newF 2 0 1048576) := ⟨rfl, rfl, rfl, rfl, rfl⟩
  have g1 := goes_chunks xs (newF 2 0 1048576) hb (Nat.le_refl _) (by show 0 + _ ≤ 1048576; omega)
  have g2 := goes_last h { newF 2 0 1048576 with all := (newF 2 0 1048576).all + xs.flatten.length, body := (newF 2 0 1048576).body ++ xs.flatten } ⟨rfl, rfl, rfl, rfl, rfl⟩ rfl (by show 0 + xs.flatten.length ≤ 1048576; omega)
  obtain ⟨z, hz⟩ : ∃ z : Rst, z = { ({ newF 2 0 1048576 with all := (newF 2 0 1048576).all + xs.flatten.length, body := (newF 2 0 1048576).body ++ xs.flatten } : Rst) with state := 4, tail := fs, done := true } := ⟨_, rfl⟩
  have k1 : z.done = true := by rw [hz]
  have k2 : z.tail = fs := by rw [hz]
  have k3 : z.e = 0 := by rw [hz]; rfl
  have k4 : z.body = xs.flatten := by rw [hz]; rfl
  rw [← hz] at g2
  have g := g1.app g2 more
  rw [runF_done k1] at g
  have hr : readyF (newF 2 0 1048576) = (newF 2 0 1048576, 0) := rfl
  have hg : goF (newF 2 0 1048576) (xs.flatMap chunkL ++ (lastL fs).1 ++ more) = ({ z with e := 0 }, (xs.flatMap chunkL ++ (lastL fs).1).length) := by
    unfold goF
    rw [if_neg (by decide), hr]
    dsimp only
    rw [if_neg (by decide), g]
    rfl
  refine ⟨{ z with e := 0, body := [] }, ?_, k2, k1, rfl⟩
  unfold feedF
  rw [hg]
  dsimp only
  rw [k1, k4]
end Go.Proofs.YtnakeigpelcajaaGreatDoor
end
