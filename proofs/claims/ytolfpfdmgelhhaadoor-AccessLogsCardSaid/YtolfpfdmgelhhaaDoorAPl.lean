/-
The parts of a text between blanks; strings.Split at a blank.
-/
import Derived.Test.YtolfpfdmgelhhaaDoorAcc9
import Derived.Lib.CountLaws
import Derived.Lib.SplitLaws
set_option linter.unusedVariables false
set_option linter.unusedSimpArgs false
/-
The parts of a text between blanks; strings.Split at a blank.
-/
section
namespace Go.Proofs.YtolfpfdmgelhhaaDoor
open Go.RowKit

def wdsL : List UInt8 → List (List UInt8)
  | [] => [[]]
  | b :: l => if b = 32 then [] :: wdsL l else
      match wdsL l with
      | [] => [[b]]
      | s :: ss => (b :: s) :: ss
theorem wds_ne (l : List UInt8) : wdsL l ≠ [] := by
  cases l with
  | nil => simp [wdsL]
  | cons b l =>
    unfold wdsL
    split
    · simp
    · split <;> simp
theorem wds_none : ∀ (l : List UInt8), 32 ∉ l → wdsL l = [l]
  | [], _ => rfl
  | b :: l, h => by
    have h1 : ¬ b = 32 := fun e => h (by rw [e]; simp)
    have h2 := wds_none l (fun e => h (by simp [e]))
    unfold wdsL
    rw [if_neg h1, h2]
theorem wds_some : ∀ (a r : List UInt8), 32 ∉ a → wdsL (a ++ 32 :: r) = a :: wdsL r
  | [], r, _ => by show wdsL (32 :: r) = _; simp [wdsL]
  | b :: a, r, h => by
    have h1 : ¬ b = 32 := fun e => h (by rw [e]; simp)
    have h2 := wds_some a r (fun e => h (by simp [e]))
    show wdsL (b :: (a ++ 32 :: r)) = _
    simp only [wdsL, if_neg h1, h2]
theorem wds_no : ∀ (l s : List UInt8), s ∈ wdsL l → 32 ∉ s
  | [], s, h => by simp [wdsL] at h; subst h; simp
  | b :: l, s, h => by
    have ih := wds_no l
    by_cases hb : b = 32
    · simp only [wdsL, if_pos hb, List.mem_cons] at h
      rcases h with rfl | h
      · simp
      · exact ih s h
    · simp only [wdsL, if_neg hb] at h
      cases hs : wdsL l with
      | nil => exact absurd hs (wds_ne l)
      | cons x ss =>
        rw [hs] at h ih
        rcases List.mem_cons.1 h with rfl | h
        · intro hm
          rcases List.mem_cons.1 hm with e | e
          · exact hb e.symm
          · exact ih x (by simp) e
        · exact ih s (by simp [h])
/-- A text is its parts with blanks between. -/
theorem wds_join : ∀ (l : List UInt8), joinW (wdsL l) = l
  | [] => rfl
  | b :: l => by
    have ih := wds_join l
    cases hs : wdsL l with
    | nil => exact absurd hs (wds_ne l)
    | cons s ss =>
      rw [hs] at ih
      by_cases hb : b = 32
      · subst hb
        simp only [wdsL, if_pos, hs]
        simp [joinW] at ih ⊢
        exact ih
      · simp only [wdsL, if_neg hb, hs]
        simp [joinW] at ih ⊢
        exact ih
/-- Parts without blanks are found again. -/
theorem join_wds : ∀ (ps : List (List UInt8)), ps ≠ [] → (∀ p ∈ ps, 32 ∉ p) → wdsL (joinW ps) = ps
  | [], h, _ => absurd rfl h
  | [p], _, h => by
    have e : joinW [p] = p := by simp [joinW]
    rw [e, wds_none p (h p (by simp))]
  | p :: q :: ps, _, h => by
    have ih := join_wds (q :: ps) (by simp) (fun x hx => h x (by simp [hx]))
    have e : joinW (p :: q :: ps) = p ++ 32 :: joinW (q :: ps) := by simp [joinW]
    rw [e, wds_some p _ (h p (by simp)), ih]
theorem split_wds : ∀ (n : Nat) (l : List UInt8), l.length ≤ n → Lib.countB (str l) ⟨#[32]⟩ + 1 = (wdsL l).length ∧ Lib.splitB ⟨#[32]⟩ 0 (Lib.countB (str l) ⟨#[32]⟩) (str l) = (wdsL l).map str := by
  intro n
  induction n with
  | zero =>
    intro l hl
    obtain rfl : l = [] := List.eq_nil_of_length_eq_zero (by omega)
    have hx : Lib.indexB (str []) ⟨#[32]⟩ = -1 := rfl
    rw [Lib.countB_miss _ _ hx, wds_none [] (by simp)]
    exact ⟨rfl, rfl⟩
  | succ n ih =>
    intro l hl
    rcases cut_cases l 32 with hno | ⟨a, r, rfl, hno⟩
    · have hx : Lib.indexB (str l) ⟨#[32]⟩ = -1 := (Lib.index_one l 32).trans (idx_no hno)
      rw [Lib.countB_miss _ _ hx, wds_none l hno]
      exact ⟨rfl, rfl⟩
    · have hx : Lib.indexB (str (a ++ 32 :: r)) ⟨#[32]⟩ = (a.length : Int) := (Lib.index_one _ 32).trans (idx_at hno)
      have hc := Lib.countB_hit (str (a ++ 32 :: r)) ⟨#[32]⟩ a.length (by decide) hx
      have he : (str (a ++ 32 :: r)).extract (a.length + (⟨#[32]⟩ : ByteArray).size) (str (a ++ 32 :: r)).size = str r := by
        rw [show (⟨#[32]⟩ : ByteArray).size = 1 from rfl]
        apply ByteArray.ext
        apply Array.ext'
        simp [str]
        exact List.take_of_length_le (by simp [ByteArray.size]; omega)
      have he2 : (str (a ++ 32 :: r)).extract 0 (a.length + 0) = str a := by
        apply ByteArray.ext
        apply Array.ext'
        simp [str]
      rw [he] at hc
      obtain ⟨i1, i2⟩ := ih r (by simp at hl; omega)
      have hsp := Lib.splitB_hit ⟨#[32]⟩ 0 (Lib.countB (str r) ⟨#[32]⟩) (str (a ++ 32 :: r)) a.length hx
      rw [he, he2] at hsp
      rw [hc, wds_some a r hno, Nat.add_comm 1, hsp, i2]
      refine ⟨by simp only [List.length_cons]; omega, rfl⟩
theorem Split_wds (l : List UInt8) (hl : l.length ≤ 4000000000) (w : World) (hM : Mx w) :
    Calls Tryd.prog 68 #[.string (str l), .string ⟨#[32]⟩] w fun e w' => e = .returned (.slice (some ⟨w.heap.size, 0, none⟩) (wdsL l).length (wdsL l).length) ∧ w' = w.alloc (.cells (sc (wdsL l)).toArray 9) := by
  obtain ⟨m, hm⟩ := hM
  have K := Tryd.strings_Split (str l) ⟨#[32]⟩ m w (by simp; omega) hm (by decide)
  obtain ⟨h1, h2⟩ := split_wds l.length l (Nat.le_refl _)
  rw [h1, h2] at K
  refine K.mono fun e w' ⟨h3, h4⟩ => ⟨h3, ?_⟩
  rw [h4]
  simp [sc, Function.comp_def]
end Go.Proofs.YtolfpfdmgelhhaaDoor
end

/-
What a text says as an entry: plain laws. No program in sight.
-/
section
namespace Go.Proofs.YtolfpfdmgelhhaaDoor
open Go.RowKit

theorem dec_ge : ∀ (k : Nat), ∀ b ∈ Lib.decDigits k, 48 ≤ b.toNat := by
  intro k
  induction k using Nat.strongRecOn with
  | ind k ih =>
    intro b hb
    rw [Lib.decDigits] at hb
    split at hb
    · simp only [List.mem_singleton] at hb
      rw [hb, UInt8.toNat_ofNat']; omega
    · rcases List.mem_append.1 hb with h | h
      · exact ih (k / 10) (by omega) b h
      · simp only [List.mem_singleton] at h
        rw [h, UInt8.toNat_ofNat']; omega
theorem dig_no {n : Int} (h : 0 ≤ n) : 32 ∉ digL n := by
  obtain ⟨k, rfl⟩ : ∃ k : Nat, n = (k : Int) := ⟨n.toNat, by omega⟩
  unfold digL
  rw [dec_natA, str_data]
  intro hm
  exact absurd (dec_ge k 32 hm) (by decide)
theorem hexl_ge : ∀ n : Fin 16, 48 ≤ (hexl n.val).toNat := by decide
theorem esc_no (l : List UInt8) : 32 ∉ escL l := by
  unfold escL
  split
  · decide
  · intro hm
    obtain ⟨b, _, hb⟩ := List.mem_flatMap.1 hm
    unfold escB at hb
    split at hb
    · rename_i hc
      simp only [List.mem_singleton] at hb
      subst hb
      rw [show okB 32 = false from by decide] at hc
      simp at hc
    · have h1 := hexl_ge ⟨b.toNat / 16, by have := UInt8.toNat_lt b; omega⟩
      have h2 := hexl_ge ⟨b.toNat % 16, by omega⟩
      simp only [List.mem_cons, List.mem_nil_iff, or_false] at hb
      rcases hb with h | h | h
      · exact absurd h (by decide)
      · rw [← h] at h1; exact absurd h1 (by decide)
      · rw [← h] at h2; exact absurd h2 (by decide)
theorem esc_ne (l : List UInt8) : escL l ≠ [] := by
  unfold escL
  split
  · simp
  · rename_i h
    cases l with
    | nil => exact absurd rfl h
    | cons b t =>
      intro e
      simp only [List.flatMap_cons, List.append_eq_nil_iff] at e
      unfold escB at e
      split at e <;> simp at e
/-- A number of at most eighteen noughts. -/
def numW (s : List UInt8) : Int × Int := numL 10 1000000000000000000 s
def entW (p0 p1 p2 p3 p4 p5 p6 p7 : List UInt8) : Ent := ⟨(numW p0).1, unL p1, unL p2, unL p3, unL p4, (numW p5).1, (numW p6).1, unL p7⟩
theorem line_ok {x : Ent} (h : (lineL x).2 = 0) : x.nums ∧ x.small ∧ (lineL x).1 = joinW x.parts := by
  unfold lineL at h ⊢
  split at h
  · rename_i hn
    split at h
    · rename_i hs
      exact ⟨hn, hs, by first | rw [if_pos hn, if_pos hs] | (rw [if_pos hs]; rw [if_pos hn]) | simp [hn, hs]⟩
    · cases h
  · cases h
theorem parts_no {x : Ent} (hn : x.nums) : ∀ p ∈ x.parts, 32 ∉ p := by
  intro p hp
  simp only [Ent.parts, List.mem_cons, List.mem_nil_iff, or_false] at hp
  rcases hp with rfl | rfl | rfl | rfl | rfl | rfl | rfl | rfl
  · exact dig_no hn.1.1
  · exact esc_no _
  · exact esc_no _
  · exact esc_no _
  · exact esc_no _
  · exact dig_no hn.2.1.1
  · exact dig_no hn.2.2.1
  · exact esc_no _
/-- Its line is the text just if its parts are the text's. -/
theorem line_iff {x : Ent} {l : List UInt8} (h : (lineL x).2 = 0) : (lineL x).1 = l ↔ x.parts = wdsL l := by
  obtain ⟨hn, hs, he⟩ := line_ok h
  rw [he]
  constructor
  · intro e
    rw [← e, join_wds _ (by simp [Ent.parts]) (parts_no hn)]
  · intro e
    rw [e, wds_join]
def zeroEnt : Ent := ⟨0, [], [], [], [], 0, 0, []⟩
/-- What a text says. -/
def parsL (l : List UInt8) : Ent × Int :=
  match wdsL l with
  | [p0, p1, p2, p3, p4, p5, p6, p7] =>
    if (numW p0).2 = 0 ∧ (numW p5).2 = 0 ∧ (numW p6).2 = 0 ∧ (lineL (entW p0 p1 p2 p3 p4 p5 p6 p7)).2 = 0 ∧ (lineL (entW p0 p1 p2 p3 p4 p5 p6 p7)).1 = l then (entW p0 p1 p2 p3 p4 p5 p6 p7, 0) else (zeroEnt, 42)
  | _ => (zeroEnt, 42)
/-- .. as the program asks it. -/
def OkP (p0 p1 p2 p3 p4 p5 p6 p7 : List UInt8) : Prop :=
  ((numW p0).2 = 0 ∧ digL (numW p0).1 = p0) ∧ (escL (unL p1) = p1) ∧ (escL (unL p2) = p2) ∧ (escL (unL p3) = p3) ∧ (escL (unL p4) = p4) ∧ ((numW p5).2 = 0 ∧ digL (numW p5).1 = p5) ∧ ((numW p6).2 = 0 ∧ digL (numW p6).1 = p6) ∧ (escL (unL p7) = p7)
theorem pars_eight {l p0 p1 p2 p3 p4 p5 p6 p7 : List UInt8} (h : wdsL l = [p0, p1, p2, p3, p4, p5, p6, p7]) :
    ((numW p0).2 = 0 ∧ (numW p5).2 = 0 ∧ (numW p6).2 = 0 ∧ (lineL (entW p0 p1 p2 p3 p4 p5 p6 p7)).2 = 0 ∧ (lineL (entW p0 p1 p2 p3 p4 p5 p6 p7)).1 = l) ↔ (OkP p0 p1 p2 p3 p4 p5 p6 p7 ∧ (lineL (entW p0 p1 p2 p3 p4 p5 p6 p7)).2 = 0) := by
  constructor
  · rintro ⟨a, b, c, d, e⟩
    have hp := (line_iff d).1 e
    rw [h] at hp
    simp only [Ent.parts, entW, List.cons.injEq, and_true] at hp
    obtain ⟨h0, h1, h2, h3, h4, h5, h6, h7⟩ := hp
    exact ⟨⟨⟨a, h0⟩, h1, h2, h3, h4, ⟨b, h5⟩, ⟨c, h6⟩, h7⟩, d⟩
  · rintro ⟨⟨⟨a, h0⟩, h1, h2, h3, h4, ⟨b, h5⟩, ⟨c, h6⟩, h7⟩, d⟩
    refine ⟨a, b, c, d, (line_iff d).2 ?_⟩
    rw [h]
    simp only [Ent.parts, entW, List.cons.injEq, and_true]
    exact ⟨h0, h1, h2, h3, h4, h5, h6, h7⟩
end Go.Proofs.YtolfpfdmgelhhaaDoor
end

/-
What a text says as an entry: more plain laws.
-/
section
namespace Go.Proofs.YtolfpfdmgelhhaaDoor
open Go.RowKit

theorem num_bd (s : List UInt8) : 0 ≤ (numW s).1 ∧ (numW s).1 ≤ 1000000000000000000 := by
  unfold numW numL
  split
  · exact ⟨by decide, by decide⟩
  · split
    · rename_i h
      exact ⟨by dsimp only; omega, by dsimp only; omega⟩
    · exact ⟨by decide, by decide⟩
theorem entW_wf (p0 p1 p2 p3 p4 p5 p6 p7 : List UInt8) : (entW p0 p1 p2 p3 p4 p5 p6 p7).wf := by
  have h0 := num_bd p0
  have h5 := num_bd p5
  have h6 := num_bd p6
  refine ⟨⟨?_, ?_⟩, ⟨?_, ?_⟩, ?_, ?_⟩ <;> (dsimp only [entW]; omega)
theorem wds_at {l : List UInt8} {f k : Nat} (hf : f ≤ k) (hk : k < l.length) (hb : l[k] = 32) (hn : ∀ j (hj : j < l.length), f ≤ j → j < k → l[j] ≠ 32) :
    wdsL (l.drop f) = (l.take k).drop f :: wdsL (l.drop (k + 1)) := by
  have e : l.drop f = (l.take k).drop f ++ 32 :: l.drop (k + 1) := by
    have h1 : l.drop k = 32 :: l.drop (k + 1) := by rw [List.drop_eq_getElem_cons hk, hb]
    rw [← h1, List.drop_take]
    have h2 : l.drop k = (l.drop f).drop (k - f) := by rw [List.drop_drop]; congr 1; omega
    rw [h2, List.take_append_drop]
  rw [e]
  refine wds_some _ _ (fun hm => ?_)
  obtain ⟨j, hj, hj2⟩ := List.getElem_of_mem hm
  rw [List.length_drop, List.length_take] at hj
  rw [List.getElem_drop, List.getElem_take] at hj2
  exact hn (f + j) (by omega) (by omega) (by omega) hj2
theorem wds_end {l : List UInt8} {f : Nat} (hf : f ≤ l.length) (hn : ∀ j (hj : j < l.length), f ≤ j → l[j] ≠ 32) : wdsL (l.drop f) = [l.drop f] := by
  refine wds_none _ (fun hm => ?_)
  obtain ⟨j, hj, hj2⟩ := List.getElem_of_mem hm
  rw [List.length_drop] at hj
  rw [List.getElem_drop] at hj2
  exact hn (f + j) (by omega) (by omega) hj2
theorem wds_len : ∀ l : List UInt8, (wdsL l).length ≤ l.length + 1
  | [] => by simp [wdsL]
  | b :: l => by
    have ih := wds_len l
    by_cases hb : b = 32
    · simp only [wdsL, if_pos hb, List.length_cons]; omega
    · simp only [wdsL, if_neg hb]
      cases hs : wdsL l with
      | nil => exact absurd hs (wds_ne l)
      | cons s ss => rw [hs] at ih; simp only [List.length_cons] at *; omega
theorem wds_mem : ∀ (l s : List UInt8), s ∈ wdsL l → s.length ≤ l.length := by
  intro l
  induction l with
  | nil => intro s h; simp [wdsL] at h; subst h; simp
  | cons b l ih =>
    intro s h
    by_cases hb : b = 32
    · simp only [wdsL, if_pos hb, List.mem_cons] at h
      rcases h with rfl | h
      · simp
      · have := ih s h; simp; omega
    · simp only [wdsL, if_neg hb] at h
      cases hs : wdsL l with
      | nil => exact absurd hs (wds_ne l)
      | cons x ss =>
        rw [hs] at h ih
        rcases List.mem_cons.1 h with rfl | h
        · have := ih x (by simp); simp; omega
        · have := ih s (by simp [h]); simp; omega
/-- Where the loop stands. -/
def WdAt (l : List UInt8) (acc : List (List UInt8)) (f k : Nat) : Prop :=
  (k ≤ l.length ∧ f ≤ k ∧ (∀ j (hj : j < l.length), f ≤ j → j < k → l[j] ≠ 32) ∧ wdsL l = acc ++ wdsL (l.drop f)) ∨ (k = l.length + 1 ∧ wdsL l = acc)
/-- A parsed entry as a value. -/
def parsV (x : Ent × Int) : Value := .tuple #[x.1.val, .int .i64 x.2]
theorem pars_not8 {l : List UInt8} (h : (wdsL l).length ≠ 8) : parsL l = (zeroEnt, 42) := by
  unfold parsL
  split
  · rename_i hw; rw [hw] at h; simp at h
  · rfl
theorem list8 {α : Type} {l : List α} (h : l.length = 8) : ∃ a b c d e f g i, l = [a, b, c, d, e, f, g, i] := by
  match l, h with
  | [a, b, c, d, e, f, g, i], _ => exact ⟨a, b, c, d, e, f, g, i, rfl⟩
theorem put8x {w W : World} {b : Nat} {x0 x1 x2 x3 x4 x5 x6 x7 : Value} {t : TypeId} (h : W.heap[b]? = some (.cells #[x0, x1, x2, x3, x4, x5, x6, x7] t (0, 0))) (hb : w.heap.size ≤ b) (x : Ext w W) (v0 v1 v2 v3 v4 v5 v6 v7 : Value) :
    ∃ W9, W9 = ((((((((W.setCell ⟨b, 0, none⟩ v0).setCell ⟨b, 1, none⟩ v1).setCell ⟨b, 2, none⟩ v2).setCell ⟨b, 3, none⟩ v3).setCell ⟨b, 4, none⟩ v4).setCell ⟨b, 5, none⟩ v5).setCell ⟨b, 6, none⟩ v6).setCell ⟨b, 7, none⟩ v7) ∧ W9.heap[b]? = some (.cells #[v0, v1, v2, v3, v4, v5, v6, v7] t (0, 0)) ∧ Ext w W9 := ⟨_, rfl, put8 h v0 v1 v2 v3 v4 v5 v6 v7, ext8 hb x v0 v1 v2 v3 v4 v5 v6 v7⟩
end Go.Proofs.YtolfpfdmgelhhaaDoor
end
