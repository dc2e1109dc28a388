/-
What is written is whole at its last byte, and is read as it was: plain laws.
-/
import Derived.Test.YtppajpchibkneaaGreatDoorWRa
import Derived.Test.YtppajpchibkneaaGreatDoorWRb
import Derived.Test.YtppajpchibkneaaGreatDoorHWg
import Derived.Test.YtppajpchibkneaaGreatDoorWRc
import Derived.Test.YtppajpchibkneaaGreatDoorOwn
import Derived.Deep.DeepAppendWide
import Derived.Deep.DeepCutAuto
set_option linter.unusedVariables false
set_option linter.unusedSimpArgs false
/-
What is written is whole at its last byte, and is read as it was: plain laws.
-/
section
namespace Go.Proofs.YtppajpchibkneaaGreatDoor
open Go.RowKit

def vals (l : List UInt8) : Prop := ∀ b ∈ l, valB b.toNat = true
theorem take_text {s : Pst} {c : UInt8} (hcr : s.cr = false) (hv : valB c.toNat = true) (ha : s.all + 1 ≤ 32768) (hl : s.line.length + 1 ≤ 8192) : takeP s c = ({ s with all := s.all + 1, line := s.line ++ [c] }, 0) := by
  have hc : c ≠ 13 := fun e => by rw [e] at hv; exact absurd hv (by decide)
  unfold takeP
  rw [if_neg (by omega), if_neg (by rw [hcr]; decide), if_neg hc, if_pos hv, if_pos (by omega)]
theorem run_text : ∀ (l rest : List UInt8) (s : Pst), s.cr = false → s.done = false → vals l → s.all + l.length ≤ 32768 → s.line.length + l.length ≤ 8192 →
    runP s (l ++ rest) = ((runP { s with all := s.all + l.length, line := s.line ++ l } rest).1, l.length + (runP { s with all := s.all + l.length, line := s.line ++ l } rest).2.1, (runP { s with all := s.all + l.length, line := s.line ++ l } rest).2.2)
  | [], rest, s, _, _, _, _, _ => by simp
  | c :: l, rest, s, hcr, hd, hv, ha, hl => by
    simp only [List.length_cons] at ha hl
    have ht := take_text (s := s) (c := c) hcr (hv c List.mem_cons_self) (by omega) (by omega)
    show runP s (c :: (l ++ rest)) = _
    rw [run_cons, ht]
    dsimp only
    rw [if_neg (by simp), if_neg (by rw [hd]; decide)]
    have ih := run_text l rest { s with all := s.all + 1, line := s.line ++ [c] } hcr hd (fun b hb => hv b (List.mem_cons_of_mem _ hb)) (by dsimp only; omega) (by dsimp only; rw [List.length_append]; simp only [List.length_cons, List.length_nil]; omega)
    rw [ih]
    dsimp only
    have e1 : s.all + 1 + l.length = s.all + (c :: l).length := by simp only [List.length_cons]; omega
    have e2 : s.line ++ [c] ++ l = s.line ++ c :: l := by simp
    rw [e1, e2]
    simp only [Prod.mk.injEq, true_and, and_true, List.length_cons]
    omega
theorem run_crlf (rest : List UInt8) (s : Pst) (hcr : s.cr = false) (hd : s.done = false) (ha : s.all + 2 ≤ 32768) (q : Pst × Int) (hq : q = lineP { s with all := s.all + 2, cr := false, line := [] } s.line) :
    runP s (13 :: 10 :: rest) = if q.2 ≠ 0 then (q.1, 2, q.2) else if q.1.done = true then (q.1, 2, 0) else ((runP q.1 rest).1, 2 + (runP q.1 rest).2.1, (runP q.1 rest).2.2) := by
  have h1 : takeP s 13 = ({ s with all := s.all + 1, cr := true }, 0) := by
    unfold takeP
    rw [if_neg (by omega), if_neg (by rw [hcr]; decide), if_pos rfl]
  have h2 : takeP { s with all := s.all + 1, cr := true } 10 = q := by
    rw [hq]
    unfold takeP
    dsimp only
    rw [if_neg (by omega), if_pos rfl, if_pos rfl]
  rw [run_cons, h1]
  dsimp only
  rw [if_neg (by simp), if_neg (by rw [hd]; decide), run_cons, h2]
  by_cases k1 : q.2 ≠ 0
  · rw [if_pos k1, if_pos k1]
  · rw [if_neg k1, if_neg k1]
    by_cases k2 : q.1.done = true
    · rw [if_pos k2, if_pos k2]
    · rw [if_neg k2, if_neg k2]
      simp only [Prod.mk.injEq, true_and, and_true]
      omega
/-- A whole line. -/
theorem run_line (l rest : List UInt8) (s : Pst) (hcr : s.cr = false) (hd : s.done = false) (hv : vals l) (hln : s.line = []) (ha : s.all + l.length + 2 ≤ 32768) (hl : l.length ≤ 8192) (q : Pst × Int) (hq : q = lineP { s with all := s.all + l.length + 2, cr := false, line := [] } l) (h0 : q.2 = 0) :
    runP s (l ++ (13 :: 10 :: rest)) = if q.1.done = true then (q.1, l.length + 2, 0) else ((runP q.1 rest).1, l.length + 2 + (runP q.1 rest).2.1, (runP q.1 rest).2.2) := by
  rw [run_text l _ s hcr hd hv (by omega) (by rw [hln]; simpa using hl)]
  have hc := run_crlf rest { s with all := s.all + l.length, line := s.line ++ l } hcr hd (by dsimp only; omega) q (by rw [hq, hln]; rfl)
  rw [if_neg (by rw [h0]; simp)] at hc
  rw [hc]
  split <;> first | rfl | (simp only [Prod.mk.injEq, true_and, and_true]; omega)
theorem tok_val {l : List UInt8} (h : tokL l = true) : vals l ∧ 58 ∉ l ∧ 32 ∉ l := by
  unfold tokL at h
  rw [Bool.and_eq_true, List.all_eq_true] at h
  have key : ∀ c : Fin 256, tokB c.val = true → valB c.val = true ∧ c.val ≠ 58 ∧ c.val ≠ 32 := by decide +kernel
  have k2 : ∀ b ∈ l, valB b.toNat = true ∧ b.toNat ≠ 58 ∧ b.toNat ≠ 32 := fun b hb => key ⟨b.toNat, UInt8.toNat_lt b⟩ (h.1 b hb)
  exact ⟨fun b hb => (k2 b hb).1, fun hm => (k2 _ hm).2.1 rfl, fun hm => (k2 _ hm).2.2 rfl⟩
theorem tg_val {l : List UInt8} (h : tgH l = true) : vals l ∧ 32 ∉ l := by
  unfold tgH at h
  rw [Bool.and_eq_true, List.all_eq_true] at h
  have key : ∀ b ∈ l, 32 < b.toNat ∧ b.toNat < 127 := fun b hb => by
    have := h.1 b hb
    unfold tgB at this
    simpa using this
  refine ⟨fun b hb => ?_, fun hm => by have := (key _ hm).1; exact absurd this (by decide)⟩
  have := key b hb
  unfold valB
  simp
  omega
theorem vl_val {l : List UInt8} (h : vlL l = true) : vals l := by
  unfold vlL at h
  rw [Bool.and_eq_true, List.all_eq_true] at h
  exact h.1
theorem trim_blank {l : List UInt8} (h : vlL l = true) : trimL (32 :: l) = l := by
  unfold vlL at h
  rw [Bool.and_eq_true] at h
  have e := h.2
  rw [← trim_ends, beq_iff_eq] at e
  have e2 : trimL (32 :: l) = trimL l := by
    rw [trimL_eq, trimL_eq]
    rw [List.dropWhile_cons, if_pos (by decide)]
  rw [e2, e]
theorem fldV_wr {f : Fld} (h : okF f = true) : fldV (f.1 ++ 58 :: 32 :: f.2) = some f := by
  unfold okF at h
  rw [Bool.and_eq_true] at h
  unfold fldV
  rw [cutW_at _ (tok_val h.1).2.1]
  dsimp only
  rw [trim_blank h.2, h.1, h.2]
  rfl
/-- Fields' lines, and the empty one. -/
theorem run_fields : ∀ (fs : List Fld) (more : List UInt8) (s : Pst), s.nx = 44 → s.cr = false → s.done = false → s.line = [] → fs.all okF = true → (∀ f ∈ fs, lenF f ≤ 8192) → s.fields.length + fs.length ≤ 100 → s.all + lenS fs + 2 ≤ 32768 →
    runP s (wrS fs ++ 13 :: 10 :: more) = ({ s with all := s.all + lenS fs + 2, cr := false, line := [], fields := s.fields ++ fs, done := true }, lenS fs + 2, 0)
  | [], more, s, hnx, hcr, hd, hln, _, _, _, ha => by
    have ha2 : s.all + 2 ≤ 32768 := ha
    have hq : lineP { s with all := s.all + 2, cr := false, line := [] } s.line = ({ s with all := s.all + 2, cr := false, line := [], done := true }, 0) := by
      rw [hln]
      unfold lineP
      dsimp only
      rw [if_neg (by rw [hnx]; decide), if_neg (by rw [hnx]; decide)]
      rfl
    have hc := run_crlf more s hcr hd ha2 _ hq.symm
    rw [if_neg (by simp), if_pos rfl] at hc
    show runP s (13 :: 10 :: more) = _
    rw [hc]
    simp [lenS]
  | f :: fs, more, s, hnx, hcr, hd, hln, hok, hlen, hcnt, ha => by
    rw [List.all_cons, Bool.and_eq_true] at hok
    have hS : lenS (f :: fs) = lenF f + 2 + lenS fs := by unfold lenS; simp
    rw [hS] at ha
    simp only [List.length_cons] at hcnt
    have hlf := hlen f List.mem_cons_self
    have hok1 := hok.1
    unfold okF at hok1
    rw [Bool.and_eq_true] at hok1
    have hll : (f.1 ++ 58 :: 32 :: f.2).length = lenF f := by unfold lenF; simp; omega
    have hv : vals (f.1 ++ 58 :: 32 :: f.2) := by
      intro b hb
      rcases List.mem_append.1 hb with h | h
      · exact (tok_val hok1.1).1 b h
      · rcases List.mem_cons.1 h with rfl | h
        · decide
        · rcases List.mem_cons.1 h with rfl | h
          · decide
          · exact vl_val hok1.2 b h
    have hq : lineP { s with all := s.all + (f.1 ++ 58 :: 32 :: f.2).length + 2, cr := false, line := [] } (f.1 ++ 58 :: 32 :: f.2) = ({ s with all := s.all + (f.1 ++ 58 :: 32 :: f.2).length + 2, cr := false, line := [], fields := s.fields ++ [f] }, 0) := by
      unfold lineP
      dsimp only
      rw [if_neg (by rw [hnx]; decide), if_neg (by rw [hnx]; decide)]
      unfold fldP
      rw [if_neg (by simp), fldV_wr hok.1]
      dsimp only
      rw [if_pos (by omega)]
    have hr := run_line (f.1 ++ 58 :: 32 :: f.2) (wrS fs ++ 13 :: 10 :: more) s hcr hd hv hln (by rw [hll]; omega) (by rw [hll]; exact hlf) _ hq.symm rfl
    have e0 : wrS (f :: fs) ++ 13 :: 10 :: more = (f.1 ++ 58 :: 32 :: f.2) ++ (13 :: 10 :: (wrS fs ++ 13 :: 10 :: more)) := by
      unfold wrS wrF
      rw [List.flatMap_cons]
      simp
    rw [e0, hr, if_neg (by show ¬ s.done = true; rw [hd]; decide)]
    have ih := run_fields fs more { s with all := s.all + (f.1 ++ 58 :: 32 :: f.2).length + 2, cr := false, line := [], fields := s.fields ++ [f] } hnx rfl hd rfl hok.2 (fun g hg => hlen g (List.mem_cons_of_mem _ hg)) (by dsimp only; rw [List.length_append]; simp only [List.length_cons, List.length_nil]; omega) (by dsimp only; rw [hll]; omega)
    rw [ih]
    dsimp only
    rw [hll, hS]
    have e1 : s.all + lenF f + 2 + lenS fs + 2 = s.all + (lenF f + 2 + lenS fs) + 2 := by omega
    have e2 : s.fields ++ [f] ++ fs = s.fields ++ f :: fs := by simp
    rw [e1, e2]
    simp only [Prod.mk.injEq, true_and, and_true]
    omega
/-- A head that is written, read by a parser whose first line it is. -/
theorem run_head (first : List UInt8) (fs : List Fld) (more : List UInt8) (s : Pst) (hcr : s.cr = false) (hd : s.done = false) (hln : s.line = []) (h0 : s.all = 0) (hf0 : s.fields = []) (hv : vals first) (hok : fs.all okF = true) (hlong : longH first.length fs = false)
    (s1 : Pst) (hq : lineP { s with all := first.length + 2, cr := false, line := [] } first = (s1, 0)) (h1 : s1.nx = 44 ∧ s1.cr = false ∧ s1.done = false ∧ s1.line = [] ∧ s1.all = first.length + 2 ∧ s1.fields = []) :
    runP s (first ++ ([13, 10] ++ (wrS fs ++ [13, 10])) ++ more) = ({ s1 with all := first.length + 2 + lenS fs + 2, cr := false, line := [], fields := fs, done := true }, (first ++ ([13, 10] ++ (wrS fs ++ [13, 10]))).length, 0) := by
  unfold longH at hlong
  simp only [Bool.or_eq_false_iff, decide_eq_false_iff_not] at hlong
  obtain ⟨⟨⟨k1, k2⟩, k3⟩, k4⟩ := hlong
  rw [List.any_eq_false] at k3
  obtain ⟨n1, n2, n3, n4, n5, n6⟩ := h1
  have e0 : first ++ ([13, 10] ++ (wrS fs ++ [13, 10])) ++ more = first ++ (13 :: 10 :: (wrS fs ++ 13 :: 10 :: more)) := by simp
  have hr := run_line first (wrS fs ++ 13 :: 10 :: more) s hcr hd hv hln (by omega) (by omega) (s1, 0) (by rw [h0, Nat.zero_add]; exact hq.symm) rfl
  rw [e0, hr, if_neg (by show ¬ s1.done = true; rw [n3]; decide)]
  have hf := run_fields fs more s1 n1 n2 n3 n4 hok (fun f hf => by have := k3 f hf; simp at this; exact this) (by rw [n6]; simp; omega) (by rw [n5]; omega)
  rw [hf, n5, n6]
  simp only [List.nil_append, Prod.mk.injEq, true_and, and_true, List.length_append, List.length_cons, List.length_nil, wrS_len]
  omega
end Go.Proofs.YtppajpchibkneaaGreatDoor
end

/-
A head that is written is read as it was: plain laws.
-/
section
namespace Go.Proofs.YtppajpchibkneaaGreatDoor
open Go.RowKit

theorem wrH_zero {first : List UInt8} {fs : List Fld} (h : (wrH first fs).2 = 0) : fs.all okF = true ∧ longH first.length fs = false ∧ (wrH first fs).1 = first ++ ([13, 10] ++ (wrS fs ++ [13, 10])) := by
  by_cases h1 : fs.all okF = true
  · cases h2 : longH first.length fs with
    | true => rw [wrH_long h1 h2] at h; cases h
    | false => rw [wrH_good h1 h2]; exact ⟨h1, rfl, rfl⟩
  · have h1' : fs.all okF = false := by simpa using h1
    unfold wrH at h
    rw [if_pos h1'] at h
    cases h
theorem vals_app {a b : List UInt8} (ha : vals a) (hb : vals b) : vals (a ++ b) := fun x hx => (List.mem_append.1 hx).elim (ha x) (hb x)
theorem vals_cons {c : UInt8} {b : List UInt8} (hc : valB c.toNat = true) (hb : vals b) : vals (c :: b) := fun x hx => (List.mem_cons.1 hx).elim (fun e => by rw [e]; exact hc) (hb x)
theorem small_dig : ∀ (mi : Int), 0 ≤ mi → mi ≤ 9 → vals (httpL ++ Lib.itoa mi) ∧ verH (httpL ++ Lib.itoa mi) = (mi, true) := by
  intro mi h0 h1
  have key : ∀ k : Fin 10, ((httpL ++ Lib.itoa ((k.val : Nat) : Int)).all fun b => valB b.toNat) = true ∧ verH (httpL ++ Lib.itoa ((k.val : Nat) : Int)) = (((k.val : Nat) : Int), true) := by decide +kernel
  have h2 := key ⟨mi.toNat, by omega⟩
  have h3 : ((mi.toNat : Nat) : Int) = mi := by omega
  rw [h3] at h2
  exact ⟨fun b hb => by have := List.all_eq_true.1 h2.1 b hb; exact this, h2.2⟩
theorem line_req {s : Pst} {l m t v : List UInt8} (hnx : s.nx = 30) (hl : l = m ++ 32 :: (t ++ 32 :: v)) (hm : 32 ∉ m) (ht : 32 ∉ t) (hg : reqG (m, t, v) = true) :
    lineP s l = ({ s with nx := 44, meth := m, targ := t, minor := (verH v).1 }, 0) := by
  unfold lineP reqP
  rw [if_pos hnx, hl, w3_yes hm ht, if_neg (by simp)]
  dsimp only
  rw [if_pos hg]
theorem line_rsp {s : Pst} {l v c r : List UInt8} (hnx : s.nx = 31) (hl : l = v ++ 32 :: (c ++ 32 :: r)) (hv : 32 ∉ v) (hc : 32 ∉ c) (hg : rspG (v, c, r) = true) :
    lineP s l = ({ s with nx := 44, minor := (verH v).1, status := (stN c).1, reason := r }, 0) := by
  unfold lineP rspP
  rw [if_neg (by rw [hnx]; decide), if_pos hnx, hl, w3_yes hv hc]
  dsimp only
  rw [if_pos hg]
/-- A request that is written. -/
theorem back_req (m t : List UInt8) (mi : Int) (fs : List Fld) (more : List UInt8) (h : (rqW m t mi fs).2 = 0) :
    (feedP (newP false) ((rqW m t mi fs).1 ++ more)).2 = ((rqW m t mi fs).1.length, true, 0) ∧ askP (feedP (newP false) ((rqW m t mi fs).1 ++ more)).1 = (m, t, mi, fs) ∧ fs.length ≤ 100 ∧ (rqW m t mi fs).1.length ≤ 32768 := by
  unfold rqW at h ⊢
  split at h
  · rename_i hc
    rw [if_pos hc]
    simp only [Bool.and_eq_true, decide_eq_true_eq] at hc
    obtain ⟨⟨⟨⟨g1, g2⟩, g3⟩, g4⟩, g5⟩ := hc
    obtain ⟨k1, k2, k3⟩ := wrH_zero h
    obtain ⟨_, k5, k6⟩ := good_bd k2
    obtain ⟨v1, v2⟩ := small_dig mi g4 g5
    rw [k3]
    have hrq : rqF m t mi = m ++ 32 :: (t ++ 32 :: (httpL ++ Lib.itoa mi)) := by unfold rqF httpL; simp
    have hv : vals (rqF m t mi) := by
      rw [hrq]
      exact vals_app (tok_val g1).1 (vals_cons (by decide) (vals_app (tg_val g3).1 (vals_cons (by decide) v1)))
    have hG : reqG (m, t, httpL ++ Lib.itoa mi) = true := by
      unfold reqG
      dsimp only
      rw [g1, g3, v2, decide_eq_true g2]; rfl
    have hq := line_req (s := { newP false with all := (rqF m t mi).length + 2, cr := false, line := [] }) rfl hrq (tok_val g1).2.2 (tg_val g3).2 hG
    have hr := run_head (rqF m t mi) fs more (newP false) rfl rfl rfl rfl rfl hv k1 k2 _ hq ⟨rfl, rfl, rfl, rfl, rfl, rfl⟩
    have hf : feedP (newP false) (rqF m t mi ++ ([13, 10] ++ (wrS fs ++ [13, 10])) ++ more) = ({ (runP (newP false) (rqF m t mi ++ ([13, 10] ++ (wrS fs ++ [13, 10])) ++ more)).1 with e := (runP (newP false) (rqF m t mi ++ ([13, 10] ++ (wrS fs ++ [13, 10])) ++ more)).2.2 }, (runP (newP false) (rqF m t mi ++ ([13, 10] ++ (wrS fs ++ [13, 10])) ++ more)).2.1, decide ((runP (newP false) (rqF m t mi ++ ([13, 10] ++ (wrS fs ++ [13, 10])) ++ more)).2.2 = 0) && (runP (newP false) (rqF m t mi ++ ([13, 10] ++ (wrS fs ++ [13, 10])) ++ more)).1.done, (runP (newP false) (rqF m t mi ++ ([13, 10] ++ (wrS fs ++ [13, 10])) ++ more)).2.2) := if_neg (by decide)
    rw [hf, hr]
    refine ⟨rfl, ?_, k5, by simp [wrS_len]; omega⟩
    unfold askP
    dsimp only
    rw [if_pos (by rfl), v2]
  · cases h
theorem stat_dig : ∀ (st : Int), 100 ≤ st → st ≤ 599 → (Lib.itoa st).length = 3 ∧ vals (Lib.itoa st) ∧ 32 ∉ Lib.itoa st := by
  intro st h0 h1
  have key : ∀ k : Fin 500, (Lib.itoa (((100 + k.val : Nat)) : Int)).length = 3 ∧ ((Lib.itoa (((100 + k.val : Nat)) : Int)).all fun b => valB b.toNat && decide (b ≠ 32)) = true := by decide +kernel
  have h2 := key ⟨st.toNat - 100, by omega⟩
  have h3 : ((100 + (st.toNat - 100) : Nat) : Int) = st := by omega
  dsimp only at h2
  rw [h3] at h2
  have h4 : ∀ b ∈ Lib.itoa st, valB b.toNat = true ∧ b ≠ 32 := fun b hb => by
    have := List.all_eq_true.1 h2.2 b hb
    simpa using this
  exact ⟨h2.1, fun b hb => (h4 b hb).1, fun hm => (h4 32 hm).2 rfl⟩
theorem rea_vals (st : Int) : vals (reaL st) := by
  unfold reaL
  split
  · rename_i p hp
    have hm := List.mem_of_find?_eq_some hp
    have key : ∀ p ∈ rsT, (p.2.2.all fun b => valB b.toNat) = true := by decide +kernel
    exact fun b hb => List.all_eq_true.1 (key p hm) b hb
  · intro b hb; cases hb
/-- A response that is written. -/
theorem back_rsp (st : Int) (fs : List Fld) (more : List UInt8) (h : (rsW st fs).2 = 0) :
    (feedP (newP true) ((rsW st fs).1 ++ more)).2 = ((rsW st fs).1.length, true, 0) ∧ tellP (feedP (newP true) ((rsW st fs).1 ++ more)).1 = (st, 1, reaL st, fs) ∧ fs.length ≤ 100 ∧ (rsW st fs).1.length ≤ 32768 := by
  unfold rsW at h ⊢
  split at h
  · rename_i hc
    rw [if_pos hc]
    obtain ⟨k1, k2, k3⟩ := wrH_zero h
    obtain ⟨_, k5, k6⟩ := good_bd k2
    obtain ⟨d1, d2, d3⟩ := stat_dig st hc.1 hc.2
    rw [k3]
    have hrs : rsF st = [72, 84, 84, 80, 47, 49, 46, 49] ++ 32 :: (Lib.itoa st ++ 32 :: reaL st) := by unfold rsF; simp
    have hv : vals (rsF st) := by
      rw [hrs]
      exact vals_app (fun b hb => by revert b; decide) (vals_cons (by decide) (vals_app d2 (vals_cons (by decide) (rea_vals st))))
    have hst : stN (Lib.itoa st) = (st, 0) := by
      have := num_dec st.toNat (by omega)
      rw [show ((st.toNat : Nat) : Int) = st by omega] at this
      exact this
    have hG : rspG ([72, 84, 84, 80, 47, 49, 46, 49], Lib.itoa st, reaL st) = true := by
      unfold rspG
      dsimp only
      rw [hst, decide_eq_true d1]
      dsimp only
      rw [decide_eq_true hc.1, decide_eq_true hc.2]
      rfl
    have hq := line_rsp (s := { newP true with all := (rsF st).length + 2, cr := false, line := [] }) rfl hrs (by decide) d3 hG
    have hr := run_head (rsF st) fs more (newP true) rfl rfl rfl rfl rfl hv k1 k2 _ hq ⟨rfl, rfl, rfl, rfl, rfl, rfl⟩
    have hf : feedP (newP true) (rsF st ++ ([13, 10] ++ (wrS fs ++ [13, 10])) ++ more) = ({ (runP (newP true) (rsF st ++ ([13, 10] ++ (wrS fs ++ [13, 10])) ++ more)).1 with e := (runP (newP true) (rsF st ++ ([13, 10] ++ (wrS fs ++ [13, 10])) ++ more)).2.2 }, (runP (newP true) (rsF st ++ ([13, 10] ++ (wrS fs ++ [13, 10])) ++ more)).2.1, decide ((runP (newP true) (rsF st ++ ([13, 10] ++ (wrS fs ++ [13, 10])) ++ more)).2.2 = 0) && (runP (newP true) (rsF st ++ ([13, 10] ++ (wrS fs ++ [13, 10])) ++ more)).1.done, (runP (newP true) (rsF st ++ ([13, 10] ++ (wrS fs ++ [13, 10])) ++ more)).2.2) := if_neg (by decide)
    rw [hf, hr]
    refine ⟨rfl, ?_, k5, by simp [wrS_len]; omega⟩
    unfold tellP
    dsimp only
    rw [if_pos (by rfl), hst]
    rfl
  · cases h
end Go.Proofs.YtppajpchibkneaaGreatDoor
end

/-
append onto a slice whose room is its owner's: nearly all that the machine holds.
-/
section
namespace Go.Proofs.YtppajpchibkneaaGreatDoor
open Go.RowKit

section
variable {P : Program} {t e : TypeId} {z : Value} {size bytes : Nat}
/-- append onto a slice whose room is its owner's: the room, or a new block of the owner's. -/
theorem run_putF (hT : SlT P t e z size bytes) {w : World} {o : Ow} {k n c m : Nat} {A : Option Addr} {xs news : List Value} {x : Value} {tx : TypeId} (ty : TypeId)
    (hs : Sl w o k size A n c xs) (hna : A = none → c = 0) (src : Src P size tx x m news w) (hfit : ¬ n + m ≤ c → Builtin.nextslicecap (n + m) c * bytes ≤ 281474976710656) (h63 : n + m ≤ maxLen) :
    ∃ A' c' w' o', (Builtin.append_ #[t, tx] ty #[.slice A n c, x]).run P w = .ok (.slice A' (n + m) c') w' ∧ Sl w' o' k size A' (n + m) c' (xs ++ news) ∧ Stp (fun i => 0 < c ∧ i = k) w o w' o' ∧ (A' = none → c' = 0) := by
  obtain ⟨ht, hi0, hz, hsz⟩ := hT
  obtain ⟨i, hi, h2, h3, h4⟩ := info_parts hi0
  subst h3
  subst h4
  have hnl := src.newsLen
  have hsmall : n + m ≤ 9223372036854775807 := by simp only [maxLen] at h63; omega
  have hL : (xs ++ news).length = (n + m) * i.size := by rw [List.length_append, hs.len, hnl, Nat.add_mul]
  by_cases hroom : n + m ≤ c
  · rcases Nat.eq_zero_or_pos c with h0 | hcp
    · obtain rfl : m = 0 := by omega
      obtain rfl : n = 0 := by omega
      obtain rfl : news = [] := List.eq_nil_of_length_eq_zero (by simpa using hnl)
      refine ⟨A, c, w, o, run_append_nothing (P := P) w t tx ty e i ht hi A 0 c (by omega) x src, ?_, Stp.rfl', hna⟩
      simpa using hs
    rcases hs.at_ with h0 | ⟨g, f, rfl, ho, hg, hc, hr⟩
    · omega
    · have hbd : ∀ j, j < news.length → n * i.size + j < c * i.size := fun j hj => by
        have : (n + m) * i.size ≤ c * i.size := Nat.mul_le_mul_right _ hroom
        rw [Nat.add_mul] at this; omega
      have hsome : ∀ j, j < news.length → (w.cell? ⟨g, f + n * i.size + j, none⟩).isSome = true := fun j hj => by rw [Nat.add_assoc]; exact (hr _ (hbd j hj)).1
      have hfr : ∀ j, j < news.length → w.frozen? ⟨g, f + n * i.size + j, none⟩ = false := fun j hj => by rw [Nat.add_assoc]; exact (hr _ (hbd j hj)).2
      have hkb := World.keptBut_setCells g (may := fun p => p.block = g) news (f + n * i.size) w (fun _ _ => rfl)
      refine ⟨_, _, _, o, run_append_room_src (P := P) w t tx ty e i ht hi g f n c x m news src hroom hsome hfr, ⟨hL, hroom, hs.max, .inr ⟨g, f, rfl, ho, Nat.lt_of_lt_of_le hg hkb.size, fun j u hu => ?_, fun j hj => ⟨World.isSome_setCells _ _ _ _ _ (hr j hj).1, ?_⟩⟩⟩,
        ⟨hkb.1, tape_setCells _ _ _ _, hkb.2.1, hkb.size, fun _ _ => rfl, fun b hb hn => World.heap_setCells_other w g _ news hb (fun e => hn (by rw [e]; exact ⟨hcp, ho⟩))⟩, fun e => by cases e⟩
      · by_cases hj : j < xs.length
        · rw [World.cell?_setCells_out g _ _ _ _ (fun _ _ => Or.inl (by show f + j < f + n * i.size; rw [← hs.len]; omega))]
          exact hc j u (by rw [List.getElem?_append_left hj] at hu; exact hu)
        · rw [List.getElem?_append_right (by omega)] at hu
          obtain ⟨ht', hu'⟩ := List.getElem?_eq_some_iff.1 hu
          have := World.cell?_setCells_in g news (f + n * i.size) w hsome (j - xs.length) ht'
          rw [show f + n * i.size + (j - xs.length) = f + j by rw [← hs.len]; omega] at this
          rw [this, hu']
      · rw [World.frozen?_setCells]; exact (hr j hj).2
  · have hold : (Builtin.firstCells i.size n (.slice A n c)).run P w.drew = .ok xs.toArray w.drew := by
      rcases hs.at_ with h0 | ⟨g, f, rfl, ho, hg, hc, hr⟩
      · have := hs.le; have := hs.len
        obtain rfl : n = 0 := by omega
        obtain rfl : xs = [] := List.eq_nil_of_length_eq_zero (by omega)
        cases A with
        | none => exact run_firstCells_none w.drew i.size 0 0 c
        | some a' => exact run_firstCells_some w.drew i.size 0 a' 0 c [] (by simp) (by intro _ _ h'; simp at h')
      · exact run_firstCells_some w.drew i.size n ⟨g, f, none⟩ n c xs hs.len (fun j u hu => by rw [add_mk]; exact hc j u hu)
    have hrun := run_append_grow_src (P := P) w t tx ty e i z ht hi h2 A n c xs hold x m news src (by omega) (by omega) (hfit hroom)
    have hge := grownCap_ge w (n + m) c e
    have hcm := grownCap_le_maxLen w (n + m) c e h63
    refine ⟨_, _, _, fun b => if b < w.heap.size then o b else k, hrun, ⟨hL, hge, hcm, .inr ⟨w.heap.size, 0, rfl, by simp, by simp, fun j u hu => ?_, fun j hj => ⟨?_, ?_⟩⟩⟩, ⟨rfl, rfl, rfl, by simp, fun b hb => by simp [hb], fun b hb _ => Below.heap_alloc w.drew _ b hb⟩, fun e => by cases e⟩
    · have e1 : (w.drew.alloc (.cells ((xs ++ news).toArray ++ Builtin.zeroCells z.cells (grownCap w (n + m) c e - (n + m))) e)).cell? ⟨w.heap.size, 0 + j, none⟩ = _ := World.cell?_alloc_new w.drew _ _ (0 + j)
      rw [e1, Nat.zero_add, Array.getElem?_append_left (by simp only [List.size_toArray]; exact (List.getElem?_eq_some_iff.1 hu).1), List.getElem?_toArray, hu]
    · have e1 : (w.drew.alloc (.cells ((xs ++ news).toArray ++ Builtin.zeroCells z.cells (grownCap w (n + m) c e - (n + m))) e)).cell? ⟨w.heap.size, 0 + j, none⟩ = _ := World.cell?_alloc_new w.drew _ _ (0 + j)
      rw [e1]
      have hsz' : ((xs ++ news).toArray ++ Builtin.zeroCells z.cells (grownCap w (n + m) c e - (n + m))).size = grownCap w (n + m) c e * i.size := by
        rw [Array.size_append, List.size_toArray, hL, size_zeroCells, hz, ← Nat.add_mul]
        congr 1
        omega
      rw [Array.getElem?_eq_getElem (by rw [hsz', Nat.zero_add]; exact hj)]
      rfl
    · exact World.frozen?_alloc_new w.drew _ _ (0 + j)

/-- The same at a list of operations. -/
theorem wpL_putF (hT : SlT P t e z size bytes) {ops : Array Oper} {rest : List Oper} {op : Oper} {a : Act} {Q : Exit → Act → World → Prop} (s x : Operand) {tx : TypeId}
    (ho : op.op = .call { callee := .builtin .append, args := #[s, x], argTypes := #[t, tx] }) (hw : Region.wanted op (yielded ops a.tmps) = true)
    {w : World} {o : Ow} {k n c m : Nat} {A : Option Addr} {xs news : List Value} {xv : Value} (hs : a.eval s = .slice A n c) (hx : a.eval x = xv)
    (hsl : Sl w o k size A n c xs) (hna : A = none → c = 0) (src : Src P size tx xv m news w) (hfit : ¬ n + m ≤ c → Builtin.nextslicecap (n + m) c * bytes ≤ 281474976710656) (h63 : n + m ≤ maxLen)
    (h : ∀ A' c' w' o', Sl w' o' k size A' (n + m) c' (xs ++ news) → Stp (fun i => i = k) w o w' o' → (A' = none → c' = 0) → wpList P ops Q rest (a.put op.dst (.slice A' (n + m) c')) w') : wpList P ops Q (op :: rest) a w := by
  obtain ⟨A', c', w', o', hr, h1, h2, h3⟩ := run_putF hT op.type hsl hna src hfit h63
  refine wpList_step fun _ hK => ?_
  rw [if_pos hw]
  unfold Oper.wp execOp
  simp only [ho, resolve, invoke, builtin, Sem.run_bind, Sem.run_pure, Result.andThen_ok, List.map_toArray, List.map_cons, List.map_nil, hs, hx, hr]
  exact hK _ _ (h A' c' w' o' h1 (h2.mono fun _ hi => hi.2) h3)
end
end Go.Proofs.YtppajpchibkneaaGreatDoor
end

/-
What is written is whole at its last byte, and is read as it was: the law as a walk.
-/
section
namespace Go.Proofs.YtppajpchibkneaaGreatDoor
open Go.RowKit

theorem own_oldB {K : Nat → Prop} {w0 w w' : World} {o o' : Ow} (h : ∀ x, x < w0.heap.size → o x = 0) (s : Stp K w o w' o') (hz : w0.heap.size ≤ w.heap.size) : ∀ x, x < w0.heap.size → o' x = 0 := fun x hx => (s.own x (by omega)).trans (h x hx)
theorem ext_oldB {K : Nat → Prop} {w0 w w' : World} {o o' : Ow} (x : Ext w0 w) (h : ∀ x, x < w0.heap.size → o x = 0) (s : Stp K w o w' o') (hk : ¬ K 0) : Ext w0 w' :=
  ⟨s.os.trans x.os, s.tape.trans x.tape, s.output.trans x.output, Nat.le_trans x.size s.size, fun b hb => (s.keep b (by have := x.size; omega) (by rw [h b hb]; exact hk)).trans (x.block b hb)⟩
theorem sl_new {w0 w : World} {o : Ow} {size n c : Nat} {A : Option Addr} {xs : List Value} (h : Sl w o 9 size A n c xs) (hn : 0 < n) (h0 : ∀ x, x < w0.heap.size → o x = 0) : ∀ a, A = some a → w0.heap.size ≤ a.block := by
  intro a ha
  have := h.le
  rcases h.at_ with h1 | ⟨g, f, hA, ho, _⟩
  · omega
  · rw [hA] at ha
    cases ha
    show w0.heap.size ≤ g
    rcases Nat.lt_or_ge g w0.heap.size with h2 | h2
    · rw [h0 g h2] at ho; cases ho
    · exact h2
theorem bc_one8 (l : List UInt8) : ∀ u ∈ bc l, u.oneCell' = true := bc_one l
set_option maxRecDepth 100000 in
set_option maxHeartbeats 8000000 in
theorem HeadBack_w (w : World) (hM : Mx w) (hE : ErrR w) (hP : Pow w) (m t : List UInt8) (mi st : Int) (fs : List Fld) (A : Option Addr) (n c : Nat) (hn : fs.length = n) (hb : n ≤ 8796093022206) (hm : m.length ≤ 140737488351232) (ht : t.length ≤ 140737488351232) (hsz : ∀ p ∈ fs, p.1.length ≤ 140737488351232 ∧ p.2.length ≤ 140737488351232) (h0 : -9223372036854775808 ≤ st) (h1 : st ≤ 9223372036854775807) (h : Rd w A (fc fs))
    (mo : List UInt8) (M : Option Addr) (q d : Nat) (hq : q = mo.length) (hqb : q ≤ 140737488351232) (hmo : Rd w M (bc mo)) :
    Calls Tryz.prog 4 #[.agg #[.string (str m), .string (str t), .int .i64 mi, .slice A n c], .int .i64 st, .slice M q d] w (Gives (.bool true) w) := by
  have HM := Lib.hid hM
  have HER := Lib.hid hE
  have HP := Lib.hid hP
  have HA := Lib.hid h
  subst hq
  have HMO := Lib.hid hmo
  have HN := Lib.hid hn
  have C1 := Lib.hid (fun w h hP => hWriteReq_c m t mi fs A n c hn hb hm ht hsz w h hP)
  have C3 := Lib.hid (fun w h hP hM => hWriteRsp_c st fs A n c h0 h1 hn hb hsz w h hP hM)
  have C5 := Lib.hid (fun w hM hP => hReason_c st h0 h1 w hM hP)
  have B1 := back_req m t mi fs mo
  have B2 := back_rsp st fs mo
  obtain ⟨⟨l1, e1⟩, hr1⟩ : ∃ r, r = rqW m t mi fs := ⟨_, rfl⟩
  obtain ⟨⟨l2, e2⟩, hr2⟩ : ∃ r, r = rsW st fs := ⟨_, rfl⟩
  rw [← hr1] at C1 B1
  rw [← hr2] at C3 B2
  dsimp only at B1 B2
  have hz2 : e2 ≠ 0 → l2 = [] := fun hne => by
    have h9 := hr2
    unfold rsW at h9
    split at h9
    · unfold wrH at h9
      split at h9
      · exact (Prod.mk.inj h9).1
      · split at h9
        · exact (Prod.mk.inj h9).1
        · exact absurd (Prod.mk.inj h9).2 hne
    · exact (Prod.mk.inj h9).1
  obtain ⟨sr, hsr⟩ : ∃ s, s = str (reaL st) := ⟨_, rfl⟩
  rw [← hsr] at C5
  obtain ⟨sm, hsm⟩ : ∃ s, s = str m := ⟨_, rfl⟩
  obtain ⟨sx, hsx⟩ : ∃ s, s = str t := ⟨_, rfl⟩
  rw [← hsm, ← hsx] at C1 ⊢
  have HSM := Lib.hid hsm
  have HSX := Lib.hid hsx
  have HSR := Lib.hid hsr
  have HB1 := Lib.hid B1
  have HB2 := Lib.hid B2
  have HZ2 := Lib.hid hz2
  clear hM hE hP h hn hb hm ht hsz hr1 hr2 hsr hsm hsx hmo B1 B2 hz2
  obtain ⟨Wb, hWb⟩ : ∃ W, W = w.alloc (.cells #[.string sm, .string sx, .int .i64 mi, .slice A n c] 24) := ⟨_, rfl⟩
  have hks := Lib.hid (fun w' (e : Ext Wb w') => (show w'.cell? ⟨w.heap.size, 0, none⟩ = some (.string sm) ∧ w'.cell? ⟨w.heap.size, 1, none⟩ = some (.string sx) ∧ w'.cell? ⟨w.heap.size, 2, none⟩ = some (.int .i64 mi) ∧ w'.cell? ⟨w.heap.size, 3, none⟩ = some (.slice A n c) from by rw [hWb] at e; exact ⟨e.new 0 _ rfl, e.new 1 _ rfl, e.new 2 _ rfl, e.new 3 _ rfl⟩))
  have xa := Lib.hid (show Ext w Wb from by rw [hWb]; exact (Ext.rfl' w).al _)
  have HWb := Lib.hid hWb
  clear hWb
  go_enter Tryz.func4, Tryz.ntmps4
  by_cases k1 : e1 = 0
  · subst k1
    obtain ⟨b1, b2, b3, b4⟩ := HB1.out rfl
    have V1 := Lib.hid (show feedV (feedP (newP false) (l1 ++ mo)) = .tuple #[.int .i64 (l1.length : Int), .bool true, .int .i64 0] from by unfold feedV; rw [b1])
    have hpos : 0 < l1.length + mo.length := by
      rcases Nat.eq_zero_or_pos (l1.length + mo.length) with hz | hz
      · have e1 : l1 = [] := List.eq_nil_of_length_eq_zero (by omega)
        have e2 : mo = [] := List.eq_nil_of_length_eq_zero (by omega)
        rw [e1, e2] at b1
        exact absurd b1 (by decide)
      · exact hz
    obtain ⟨z1, hz1⟩ : ∃ z, z = (feedP (newP false) (l1 ++ mo)).1 := ⟨_, rfl⟩
    rw [← hz1] at b2
    have HZ1 := Lib.hid hz1
    have HB2A := Lib.hid b2
    have hzf : z1.fields.length ≤ 1000000 := by
      have := (feed_rf (l1 ++ mo) (newP false) (Nat.zero_le _)).2
      rw [← hz1] at this
      omega
    have CA := Lib.hid (fun P (w : World) (o : Ow) (h : PsAt w o 1 P z1) => (show Calls Tryz.prog 16 #[.pointer (some ⟨P, 0, none⟩)] w (fun e w' => ∃ A6 c6, e = .returned (.agg #[.string sm, .string sx, .int .i64 mi, .slice A6 fs.length c6]) ∧ Rd w' A6 (fc fs) ∧ Ext w w') from by
      have h9 := hAsk_c 1 P z1 hzf w o h
      rw [b2] at h9
      refine h9.mono ?_
      rintro e w' ⟨v, rfl, ⟨A6, c6, rfl, hr⟩, hx⟩
      exact ⟨A6, c6, by rw [HSM.out, HSX.out], hr, hx⟩))
    clear hz1 b1 b2
    go_upto_region 5 with (first
      | (go_at_call 5; rw [← HWb.out]; refine (C1.out _ (HA.out.ext xa.out) (HP.out.ext xa.out)).mono ?_; rintro e w1 ⟨v, rfl, ⟨A1, c1, rfl, hr1⟩, x1⟩; dsimp only at hr1)
      | (go_at_call 9; refine (num11_c _ _).mono ?_; rintro e w9 ⟨rfl, rfl⟩)
      | (go_at_call 13; refine (hNewParser_c 1 false _ (fun _ => 0)).mono ?_; rintro e w2 ⟨v, o2, rfl, ⟨P, rfl, hp2, hP2⟩, st2⟩; have x2 := st2.noExt; have XA1 := Lib.hid (xa.out.tr x1); have G2 := Lib.hid ((show Gl w1 (fun _ => 0) from ⟨HM.out.ext XA1.out, HER.out.ext XA1.out, rfl, rfl⟩).stp st2 (fun x => x)))
      | (at_builtin; refine wpL_fresh slt_u8 (.tmp 34) (.tmp 35) rfl rfl (o := fun _ => 0) 9 rfl rfl (Sl.src Tryz.underlying25 (hr1.ext (x2.tr (by (repeat (first | exact Ext.rfl' _ | assumption | refine Ext.dr ?_ | refine Ext.drN ?_ _ | refine Ext.al ?_ _ | refine Ext.st ?_ (by simp) _ | refine Ext.tr ?_ (by assumption)))))) (by rw [bc_len, Nat.mul_one]) (by omega) (bc_one l1) c1) (by omega) (by simp only [maxLen]; omega) ?_; intro A3 c3 w3 o3 hs3 st3 hn3; have x3 : Ext w2 w3 := Ext.tr (by (repeat (first | exact Ext.rfl' _ | assumption | refine Ext.dr ?_ | refine Ext.drN ?_ _ | refine Ext.al ?_ _ | refine Ext.st ?_ (by simp) _ | refine Ext.tr ?_ (by assumption)))) st3.noExt; have own3 := own_oldB (w0 := w2) (fun _ _ => rfl) st3 (by simp))
      | (at_builtin; refine wpL_putF slt_u8 (.tmp 36) (.tmp 37) rfl rfl rfl rfl hs3 hn3 (Sl.src Tryz.underlying25 (HMO.out.ext (XA1.out.tr (x2.tr x3))) (by rw [bc_len]; omega) (by omega) (bc_one mo) d) (fun hroom => growslice_fits_wide (by omega) (by omega)) (by simp only [maxLen]; omega) ?_; intro A4 c4 w4 o4 hs4 st4 hn4; have x4 := ext_oldB x3 own3 st4 (by omega); have own4 := own_oldB own3 st4 x3.size)
      | (go_at_call 14; have C := feed_new 1 P (by decide) (newP false) (.inr (.inr (newP_ok false))) (l1 ++ mo) A4 (l1.length + mo.length) c4 (by rw [List.length_append]) (by omega) w2 w4 o2 hp2 G2.out x4 (by rw [bc_app]; exact hs4.rd) (sl_new hs4 hpos own4); rw [V1.out] at C; refine C.mono ?_; clear C; rintro e w5 ⟨rfl, o5, hp5, st5⟩; have x5 := ext_oldB x2 (fun x hx => st2.own x hx) st5 (by unfold KP; omega); have HP5 := Lib.hid (by rw [HZ1.out]; exact hp5 : PsAt w5 o5 1 P z1); have X5 := Lib.hid (x1.tr x5)))
    have HKS5 := Lib.hid (fun w' (x : Ext w5 w') => hks.out w' (X5.out.tr x))
    obtain ⟨f0, f1, f2, f3⟩ := HKS5.out w5 (Ext.rfl' _)
    clear hp2 hP2 st2 x2 hs3 st3 hn3 x3 own3 hs4 st4 hn4 x4 own4 hp5 st5 x5
    go_cut [62] (fun v wx => v = .bool false ∧ Ext w5 wx)
    case first =>
      go_region_held3 (fun w' => w'.cell? ⟨w.heap.size, 0, none⟩ = some (.string sm) ∧ w'.cell? ⟨w.heap.size, 1, none⟩ = some (.string sx) ∧ w'.cell? ⟨w.heap.size, 2, none⟩ = some (.int .i64 mi) ∧ w'.cell? ⟨w.heap.size, 3, none⟩ = some (.slice A n c)) (exact HKS5.out _ (by (repeat (first | exact Ext.rfl' _ | assumption | refine Ext.dr ?_ | refine Ext.drN ?_ _ | refine Ext.al ?_ _ | refine Ext.st ?_ (by simp) _ | refine Ext.tr ?_ (by assumption))))) (first
        | (go_at_call 9; refine (num11_c _ _).mono ?_; rintro e w9 ⟨rfl, rfl⟩)
        | (go_at_call 16; refine (CA.out P _ o5 (HP5.out.ext (by (repeat (first | exact Ext.rfl' _ | assumption | refine Ext.dr ?_ | refine Ext.drN ?_ _ | refine Ext.al ?_ _ | refine Ext.st ?_ (by simp) _ | refine Ext.tr ?_ (by assumption)))))).mono ?_; rintro e w6 ⟨A6, c6, rfl, hr6, x6⟩)
        | (go_at_call 15; refine (hSame_c sm sx mi fs A6 A fs.length n c6 c rfl HN.out (by unfold maxLen; omega) _ (hr6.ext (by (repeat (first | exact Ext.rfl' _ | assumption | refine Ext.dr ?_ | refine Ext.drN ?_ _ | refine Ext.al ?_ _ | refine Ext.st ?_ (by simp) _ | refine Ext.tr ?_ (by assumption))))) (HA.out.ext (xa.out.tr (X5.out.tr (by (repeat (first | exact Ext.rfl' _ | assumption | refine Ext.dr ?_ | refine Ext.drN ?_ _ | refine Ext.al ?_ _ | refine Ext.st ?_ (by simp) _ | refine Ext.tr ?_ (by assumption)))))))).mono ?_; rintro e w7 ⟨rfl, x7⟩))
      all_goals go_wp2
      all_goals go_meet
      all_goals exact ⟨rfl, by (repeat (first | exact Ext.rfl' _ | assumption | refine Ext.dr ?_ | refine Ext.drN ?_ _ | refine Ext.al ?_ _ | refine Ext.st ?_ (by simp) _ | refine Ext.tr ?_ (by assumption)))⟩
    case rest =>
      obtain ⟨rfl, x6⟩ := hcut
      have XA := Lib.hid (X5.out.tr x6)
      clear f0 f1 f2 f3 x6
      obtain ⟨f0, f1, f2, f3⟩ := hks.out wc XA.out
      have XB := Lib.hid (xa.out.tr XA.out)
      by_cases k2 : e2 = 0
      · subst k2
        obtain ⟨b1, b2, b3, b4⟩ := HB2.out rfl
        have V2 := Lib.hid (show feedV (feedP (newP true) (l2 ++ mo)) = .tuple #[.int .i64 (l2.length : Int), .bool true, .int .i64 0] from by unfold feedV; rw [b1])
        have hpos : 0 < l2.length + mo.length := by
          rcases Nat.eq_zero_or_pos (l2.length + mo.length) with hz | hz
          · have e1 : l2 = [] := List.eq_nil_of_length_eq_zero (by omega)
            have e2 : mo = [] := List.eq_nil_of_length_eq_zero (by omega)
            rw [e1, e2] at b1
            exact absurd b1 (by decide)
          · exact hz
        obtain ⟨z2, hz2⟩ : ∃ z, z = (feedP (newP true) (l2 ++ mo)).1 := ⟨_, rfl⟩
        rw [← hz2] at b2
        have HZ2B := Lib.hid hz2
        have hzf : z2.fields.length ≤ 1000000 := by
          have := (feed_rf (l2 ++ mo) (newP true) (Nat.zero_le _)).2
          rw [← hz2] at this
          omega
        have CT := Lib.hid (fun P (w : World) (o : Ow) (h : PsAt w o 1 P z2) => (show Calls Tryz.prog 17 #[.pointer (some ⟨P, 0, none⟩)] w (fun e w' => ∃ A6 c6, e = .returned (.tuple #[.int .i64 st, .int .i64 1, .string sr, .slice A6 fs.length c6]) ∧ Rd w' A6 (fc fs) ∧ Ext w w') from by
          have h9 := hTell_c 1 P z2 hzf w o h
          rw [b2] at h9
          refine h9.mono ?_
          rintro e w' ⟨v, rfl, ⟨A6, c6, rfl, hr⟩, hx⟩
          exact ⟨A6, c6, by rw [HSR.out], hr, hx⟩))
        clear hz2 b1 b2
        go_wp2_with (first
          | (go_at_call 7; refine (C3.out _ (HA.out.ext XB.out) (HP.out.ext XB.out) (HM.out.ext XB.out)).mono ?_; rintro e w11 ⟨v, rfl, ⟨A11, c11, rfl, hr11⟩, x11⟩; dsimp only at hr11)
          | (go_at_call 9; refine (num11_c _ _).mono ?_; rintro e w9 ⟨rfl, rfl⟩)
          | (go_at_call 13; refine (hNewParser_c 1 true _ (fun _ => 0)).mono ?_; rintro e w12 ⟨v, o12, rfl, ⟨Q, rfl, hp12, hP12⟩, st12⟩; have x12 := st12.noExt; have XB1 := Lib.hid (XB.out.tr x11); have G12 := Lib.hid ((show Gl w11 (fun _ => 0) from ⟨HM.out.ext XB1.out, HER.out.ext XB1.out, rfl, rfl⟩).stp st12 (fun x => x)))
          | (at_builtin; refine wpL_fresh slt_u8 (.tmp 82) (.tmp 83) rfl rfl (o := fun _ => 0) 9 rfl rfl (Sl.src Tryz.underlying25 (hr11.ext (x12.tr (by (repeat (first | exact Ext.rfl' _ | assumption | refine Ext.dr ?_ | refine Ext.drN ?_ _ | refine Ext.al ?_ _ | refine Ext.st ?_ (by simp) _ | refine Ext.tr ?_ (by assumption)))))) (by rw [bc_len, Nat.mul_one]) (by omega) (bc_one l2) c11) (by omega) (by simp only [maxLen]; omega) ?_; intro A13 c13 w13 o13 hs13 st13 hn13; have x13 : Ext w12 w13 := Ext.tr (by (repeat (first | exact Ext.rfl' _ | assumption | refine Ext.dr ?_ | refine Ext.drN ?_ _ | refine Ext.al ?_ _ | refine Ext.st ?_ (by simp) _ | refine Ext.tr ?_ (by assumption)))) st13.noExt; have own13 := own_oldB (w0 := w12) (fun _ _ => rfl) st13 (by simp))
          | (at_builtin; refine wpL_putF slt_u8 (.tmp 84) (.tmp 85) rfl rfl rfl rfl hs13 hn13 (Sl.src Tryz.underlying25 (HMO.out.ext (XB1.out.tr (x12.tr x13))) (by rw [bc_len]; omega) (by omega) (bc_one mo) d) (fun hroom => growslice_fits_wide (by omega) (by omega)) (by simp only [maxLen]; omega) ?_; intro A14 c14 w14 o14 hs14 st14 hn14; have x14 := ext_oldB x13 own13 st14 (by omega); have own14 := own_oldB own13 st14 x13.size)
          | (go_at_call 14; have C := feed_new 1 Q (by decide) (newP true) (.inr (.inr (newP_ok true))) (l2 ++ mo) A14 (l2.length + mo.length) c14 (by rw [List.length_append]) (by omega) w12 w14 o12 hp12 G12.out x14 (by rw [bc_app]; exact hs14.rd) (sl_new hs14 hpos own14); rw [V2.out] at C; refine C.mono ?_; clear C; rintro e w15 ⟨rfl, o15, hp15, st15⟩; have x15 := ext_oldB x12 (fun x hx => st12.own x hx) st15 (by unfold KP; omega); have HP15 := Lib.hid (by rw [HZ2B.out]; exact hp15 : PsAt w15 o15 1 Q z2))
          | (go_at_call 17; refine (CT.out Q _ o15 HP15.out).mono ?_; rintro e w16 ⟨A16, c16, rfl, hr16, x16⟩; have XB6 := Lib.hid (XB1.out.tr (x15.tr x16)))
          | (go_at_call 10; refine (C5.out _ (HM.out.ext XB6.out) (HP.out.ext XB6.out)).mono ?_; rintro e w17 ⟨rfl, x17⟩; have q3 := (hks.out w17 (XA.out.tr (x11.tr (x15.tr (x16.tr x17))))).2.2.2)
          | (go_at_call 18; refine (hFields_c fs A16 A fs.length c16 n c rfl HN.out (by unfold maxLen; omega) _ (hr16.ext x17) (HA.out.ext (XB6.out.tr x17))).mono ?_; rintro e w18 ⟨rfl, x18⟩)
          | (go_at_call 12; refine (knows11_c _ (HM.out.ext (XB6.out.tr (x17.tr x18))) (HER.out.ext (XB6.out.tr (x17.tr x18)))).mono ?_; rintro e w19 ⟨rfl, x19⟩))
        go_ret
        exact ⟨rfl, XB6.out.tr (x17.tr (x18.tr x19))⟩
      · have hl2 := HZ2.out k2
        have k3 : (e2 != 0) = true := by rw [bne_iff_ne]; exact k2
        subst hl2
        clear k2
        go_wp2_with (first
          | (go_at_call 7; refine (C3.out _ (HA.out.ext XB.out) (HP.out.ext XB.out) (HM.out.ext XB.out)).mono ?_; rintro e w11 ⟨v, rfl, ⟨A11, c11, rfl, hr11⟩, x11⟩; dsimp only at hr11)
          | (go_at_call 9; refine (num11_c _ _).mono ?_; rintro e w9 ⟨rfl, rfl⟩)
          | (go_at_call 12; refine (knows11_c _ (HM.out.ext (XB.out.tr x11)) (HER.out.ext (XB.out.tr x11))).mono ?_; rintro e w19 ⟨rfl, x19⟩))
        go_ret
        exact ⟨rfl, XB.out.tr (x11.tr x19)⟩
  · have k3 : (e1 == 0) = false := by rw [beq_eq_false_iff_ne]; exact k1
    clear k1
    go_upto_region 7 with (first
      | (go_at_call 5; rw [← HWb.out]; refine (C1.out _ (HA.out.ext xa.out) (HP.out.ext xa.out)).mono ?_; rintro e w1 ⟨v, rfl, ⟨A1, c1, rfl, hr1⟩, x1⟩; dsimp only at hr1)
      | (go_at_call 9; refine (num11_c _ _).mono ?_; rintro e w9 ⟨rfl, rfl⟩))
    have XA := Lib.hid x1
    obtain ⟨f0, f1, f2, f3⟩ := hks.out w1 XA.out
    have XB := Lib.hid (xa.out.tr XA.out)
    by_cases k2 : e2 = 0
    · subst k2
      obtain ⟨b1, b2, b3, b4⟩ := HB2.out rfl
      have V2 := Lib.hid (show feedV (feedP (newP true) (l2 ++ mo)) = .tuple #[.int .i64 (l2.length : Int), .bool true, .int .i64 0] from by unfold feedV; rw [b1])
      have hpos : 0 < l2.length + mo.length := by
        rcases Nat.eq_zero_or_pos (l2.length + mo.length) with hz | hz
        · have e1 : l2 = [] := List.eq_nil_of_length_eq_zero (by omega)
          have e2 : mo = [] := List.eq_nil_of_length_eq_zero (by omega)
          rw [e1, e2] at b1
          exact absurd b1 (by decide)
        · exact hz
      obtain ⟨z2, hz2⟩ : ∃ z, z = (feedP (newP true) (l2 ++ mo)).1 := ⟨_, rfl⟩
      rw [← hz2] at b2
      have HZ2B := Lib.hid hz2
      have hzf : z2.fields.length ≤ 1000000 := by
        have := (feed_rf (l2 ++ mo) (newP true) (Nat.zero_le _)).2
        rw [← hz2] at this
        omega
      have CT := Lib.hid (fun P (w : World) (o : Ow) (h : PsAt w o 1 P z2) => (show Calls Tryz.prog 17 #[.pointer (some ⟨P, 0, none⟩)] w (fun e w' => ∃ A6 c6, e = .returned (.tuple #[.int .i64 st, .int .i64 1, .string sr, .slice A6 fs.length c6]) ∧ Rd w' A6 (fc fs) ∧ Ext w w') from by
        have h9 := hTell_c 1 P z2 hzf w o h
        rw [b2] at h9
        refine h9.mono ?_
        rintro e w' ⟨v, rfl, ⟨A6, c6, rfl, hr⟩, hx⟩
        exact ⟨A6, c6, by rw [HSR.out], hr, hx⟩))
      clear hz2 b1 b2
      go_wp2_with (first
        | (go_at_call 7; refine (C3.out _ (HA.out.ext XB.out) (HP.out.ext XB.out) (HM.out.ext XB.out)).mono ?_; rintro e w11 ⟨v, rfl, ⟨A11, c11, rfl, hr11⟩, x11⟩; dsimp only at hr11)
        | (go_at_call 9; refine (num11_c _ _).mono ?_; rintro e w9 ⟨rfl, rfl⟩)
        | (go_at_call 13; refine (hNewParser_c 1 true _ (fun _ => 0)).mono ?_; rintro e w12 ⟨v, o12, rfl, ⟨Q, rfl, hp12, hP12⟩, st12⟩; have x12 := st12.noExt; have XB1 := Lib.hid (XB.out.tr x11); have G12 := Lib.hid ((show Gl w11 (fun _ => 0) from ⟨HM.out.ext XB1.out, HER.out.ext XB1.out, rfl, rfl⟩).stp st12 (fun x => x)))
        | (at_builtin; refine wpL_fresh slt_u8 (.tmp 82) (.tmp 83) rfl rfl (o := fun _ => 0) 9 rfl rfl (Sl.src Tryz.underlying25 (hr11.ext (x12.tr (by (repeat (first | exact Ext.rfl' _ | assumption | refine Ext.dr ?_ | refine Ext.drN ?_ _ | refine Ext.al ?_ _ | refine Ext.st ?_ (by simp) _ | refine Ext.tr ?_ (by assumption)))))) (by rw [bc_len, Nat.mul_one]) (by omega) (bc_one l2) c11) (by omega) (by simp only [maxLen]; omega) ?_; intro A13 c13 w13 o13 hs13 st13 hn13; have x13 : Ext w12 w13 := Ext.tr (by (repeat (first | exact Ext.rfl' _ | assumption | refine Ext.dr ?_ | refine Ext.drN ?_ _ | refine Ext.al ?_ _ | refine Ext.st ?_ (by simp) _ | refine Ext.tr ?_ (by assumption)))) st13.noExt; have own13 := own_oldB (w0 := w12) (fun _ _ => rfl) st13 (by simp))
        | (at_builtin; refine wpL_putF slt_u8 (.tmp 84) (.tmp 85) rfl rfl rfl rfl hs13 hn13 (Sl.src Tryz.underlying25 (HMO.out.ext (XB1.out.tr (x12.tr x13))) (by rw [bc_len]; omega) (by omega) (bc_one mo) d) (fun hroom => growslice_fits_wide (by omega) (by omega)) (by simp only [maxLen]; omega) ?_; intro A14 c14 w14 o14 hs14 st14 hn14; have x14 := ext_oldB x13 own13 st14 (by omega); have own14 := own_oldB own13 st14 x13.size)
        | (go_at_call 14; have C := feed_new 1 Q (by decide) (newP true) (.inr (.inr (newP_ok true))) (l2 ++ mo) A14 (l2.length + mo.length) c14 (by rw [List.length_append]) (by omega) w12 w14 o12 hp12 G12.out x14 (by rw [bc_app]; exact hs14.rd) (sl_new hs14 hpos own14); rw [V2.out] at C; refine C.mono ?_; clear C; rintro e w15 ⟨rfl, o15, hp15, st15⟩; have x15 := ext_oldB x12 (fun x hx => st12.own x hx) st15 (by unfold KP; omega); have HP15 := Lib.hid (by rw [HZ2B.out]; exact hp15 : PsAt w15 o15 1 Q z2))
        | (go_at_call 17; refine (CT.out Q _ o15 HP15.out).mono ?_; rintro e w16 ⟨A16, c16, rfl, hr16, x16⟩; have XB6 := Lib.hid (XB1.out.tr (x15.tr x16)))
        | (go_at_call 10; refine (C5.out _ (HM.out.ext XB6.out) (HP.out.ext XB6.out)).mono ?_; rintro e w17 ⟨rfl, x17⟩; have q3 := (hks.out w17 (XA.out.tr (x11.tr (x15.tr (x16.tr x17))))).2.2.2)
        | (go_at_call 18; refine (hFields_c fs A16 A fs.length c16 n c rfl HN.out (by unfold maxLen; omega) _ (hr16.ext x17) (HA.out.ext (XB6.out.tr x17))).mono ?_; rintro e w18 ⟨rfl, x18⟩)
        | (go_at_call 12; refine (knows11_c _ (HM.out.ext (XB6.out.tr (x17.tr x18))) (HER.out.ext (XB6.out.tr (x17.tr x18)))).mono ?_; rintro e w19 ⟨rfl, x19⟩))
      go_ret
      exact ⟨rfl, XB6.out.tr (x17.tr (x18.tr x19))⟩
    · have hl2 := HZ2.out k2
      have k3 : (e2 != 0) = true := by rw [bne_iff_ne]; exact k2
      subst hl2
      clear k2
      go_wp2_with (first
        | (go_at_call 7; refine (C3.out _ (HA.out.ext XB.out) (HP.out.ext XB.out) (HM.out.ext XB.out)).mono ?_; rintro e w11 ⟨v, rfl, ⟨A11, c11, rfl, hr11⟩, x11⟩; dsimp only at hr11)
        | (go_at_call 9; refine (num11_c _ _).mono ?_; rintro e w9 ⟨rfl, rfl⟩)
        | (go_at_call 12; refine (knows11_c _ (HM.out.ext (XB.out.tr x11)) (HER.out.ext (XB.out.tr x11))).mono ?_; rintro e w19 ⟨rfl, x19⟩))
      go_ret
      exact ⟨rfl, XB.out.tr (x11.tr x19)⟩
end Go.Proofs.YtppajpchibkneaaGreatDoor
end
