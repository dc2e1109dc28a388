/-
Letters and digits: plain words and laws. No program in sight.
-/
import Derived.Test.YtmnohicojefhfaaGreatDoorBytes
set_option linter.unusedVariables false
set_option linter.unusedSimpArgs false
/-
Letters and digits: plain words and laws. No program in sight.
-/
section
namespace Go.Proofs.YtmnohicojefhfaaGreatDoor
open Go.RowKit

def alB (c : Nat) : Bool := (decide (97 ≤ c) && decide (c ≤ 122)) || (decide (65 ≤ c) && decide (c ≤ 90)) || (decide (48 ≤ c) && decide (c ≤ 57))
def alL (l : List UInt8) : Bool := l.all fun b => alB b.toNat
def plainL (l : List UInt8) : Bool := alL l && (decide (1 ≤ l.length) && decide (l.length ≤ 60))
/-- The seven ranges that the tests part. -/
def AlC (c : Int) (b : Bool) : Prop :=
  (b = false ∧ (decide ((97 : Int) ≤ c) = false ∧ decide ((65 : Int) ≤ c) = false ∧ decide ((48 : Int) ≤ c) = false)) ∨
  (b = true ∧ (decide ((97 : Int) ≤ c) = false ∧ decide ((65 : Int) ≤ c) = false ∧ decide ((48 : Int) ≤ c) = true ∧ decide (c ≤ 57) = true)) ∨
  (b = false ∧ (decide ((97 : Int) ≤ c) = false ∧ decide ((65 : Int) ≤ c) = false ∧ decide ((48 : Int) ≤ c) = true ∧ decide (c ≤ 57) = false)) ∨
  (b = true ∧ (decide ((97 : Int) ≤ c) = false ∧ decide ((65 : Int) ≤ c) = true ∧ decide (c ≤ 90) = true)) ∨
  (b = false ∧ (decide ((97 : Int) ≤ c) = false ∧ decide ((65 : Int) ≤ c) = true ∧ decide (c ≤ 90) = false ∧ decide ((48 : Int) ≤ c) = true ∧ decide (c ≤ 57) = false)) ∨
  (b = true ∧ (decide ((97 : Int) ≤ c) = true ∧ decide (c ≤ 122) = true)) ∨
  (b = false ∧ (decide ((97 : Int) ≤ c) = true ∧ decide (c ≤ 122) = false ∧ decide ((65 : Int) ≤ c) = true ∧ decide (c ≤ 90) = false ∧ decide ((48 : Int) ≤ c) = true ∧ decide (c ≤ 57) = false))
theorem al_cases (c : Nat) : AlC (c : Int) (alB c) := by
  unfold AlC alB
  simp only [decide_eq_true_eq, decide_eq_false_iff_not, Bool.or_eq_true, Bool.and_eq_true, Bool.or_eq_false_iff, Bool.and_eq_false_iff]
  omega
theorem al_small {c : Nat} (h : alB c = true) : c < 128 := by
  simp only [alB, Bool.or_eq_true, Bool.and_eq_true, decide_eq_true_eq] at h; omega
theorem al_take (l : List UInt8) (k : Nat) (h : k < l.length) : alL (l.take (k + 1)) = (alL (l.take k) && alB l[k].toNat) := by
  unfold alL
  rw [List.take_succ_eq_append_getElem h, List.all_append]; simp
theorem al_false (l : List UInt8) (k : Nat) (h : k < l.length) (hb : alB l[k].toNat = false) : alL l = false := by
  unfold alL
  rw [List.all_eq_false]
  exact ⟨l[k], List.getElem_mem h, by simp [hb]⟩

theorem alB_rune (s : ByteArray) (i : Nat) (h : 128 ≤ (s.get! i).toNat) : alB (Utf8.decode s i).1 = false := by
  have key : 123 ≤ (Utf8.decode s i).1 := by
    unfold Utf8.decode
    simp only [Nat.add_zero, Utf8.runeError]
    have h2 : ¬ (s.get! i).toNat < 128 := by omega
    rw [if_neg h2]
    repeat' split
    all_goals first | (simp only [Bool.and_eq_true, decide_eq_true_eq] at *; omega) | (simp at *; omega) | (simp)
  unfold alB
  simp only [Bool.or_eq_false_iff, Bool.and_eq_false_iff, decide_eq_false_iff_not]
  omega
end Go.Proofs.YtmnohicojefhfaaGreatDoor
end

/-
Paths: their parts, and what is left without what leads around: plain words and laws. No program in sight.
-/
section
namespace Go.Proofs.YtmnohicojefhfaaGreatDoor
open Go.RowKit

/-- The parts of a text between bytes 47: at least one. -/
def segsL : List UInt8 → List (List UInt8)
  | [] => [[]]
  | b :: l => if b = 47 then [] :: segsL l else
      match segsL l with
      | [] => [[b]]
      | s :: ss => (b :: s) :: ss
theorem segs_ne (l : List UInt8) : segsL l ≠ [] := by
  cases l with
  | nil => simp [segsL]
  | cons b l =>
    unfold segsL
    split
    · simp
    · split <;> simp
theorem segs_none : ∀ (l : List UInt8), 47 ∉ l → segsL l = [l]
  | [], _ => rfl
  | b :: l, h => by
    have h1 : ¬ b = 47 := fun e => h (by rw [e]; simp)
    have h2 := segs_none l (fun e => h (by simp [e]))
    unfold segsL
    rw [if_neg h1, h2]
theorem segs_some : ∀ (a r : List UInt8), 47 ∉ a → segsL (a ++ 47 :: r) = a :: segsL r
  | [], r, _ => by show segsL (47 :: r) = _; simp [segsL]
  | b :: a, r, h => by
    have h1 : ¬ b = 47 := fun e => h (by rw [e]; simp)
    have h2 := segs_some a r (fun e => h (by simp [e]))
    show segsL (b :: (a ++ 47 :: r)) = _
    simp only [segsL, if_neg h1, h2]
theorem segs_app : ∀ (l r : List UInt8), segsL (l ++ 47 :: r) = segsL l ++ segsL r
  | [], r => by show segsL (47 :: r) = _; simp [segsL]
  | b :: l, r => by
    have ih := segs_app l r
    show segsL (b :: (l ++ 47 :: r)) = segsL (b :: l) ++ segsL r
    by_cases h : b = 47
    · simp only [segsL, if_pos h, ih]; rfl
    · simp only [segsL, if_neg h, ih]
      cases hs : segsL l with
      | nil => exact absurd hs (segs_ne l)
      | cons s ss => rfl
theorem segs_no : ∀ (l s : List UInt8), s ∈ segsL l → 47 ∉ s
  | [], s, h => by simp [segsL] at h; subst h; simp
  | b :: l, s, h => by
    have ih := segs_no l
    by_cases hb : b = 47
    · simp only [segsL, if_pos hb, List.mem_cons] at h
      rcases h with rfl | h
      · simp
      · exact ih s h
    · simp only [segsL, if_neg hb] at h
      cases hs : segsL l with
      | nil => exact absurd hs (segs_ne l)
      | cons x ss =>
        rw [hs] at h ih
        simp only [List.mem_cons] at h
        rcases h with rfl | h
        · have := ih x (by simp)
          simp only [List.mem_cons, not_or]
          exact ⟨fun e => hb e.symm, this⟩
        · exact ih s (by simp [h])
theorem segs_sub : ∀ (l s : List UInt8), s ∈ segsL l → ∀ b ∈ s, b ∈ l
  | [], s, h, b, hb => by simp [segsL] at h; subst h; cases hb
  | c :: l, s, h, b, hb => by
    have ih := segs_sub l
    by_cases hc : c = 47
    · simp only [segsL, if_pos hc, List.mem_cons] at h
      rcases h with rfl | h
      · cases hb
      · simp [ih s h b hb]
    · simp only [segsL, if_neg hc] at h
      cases hs : segsL l with
      | nil => exact absurd hs (segs_ne l)
      | cons x ss =>
        rw [hs] at h ih
        simp only [List.mem_cons] at h
        rcases h with rfl | h
        · simp only [List.mem_cons] at hb
          rcases hb with rfl | hb
          · simp
          · simp [ih x (by simp) b hb]
        · simp [ih s (by simp [h]) b hb]
/-- How long parts are, each with a byte 47. -/
def totS (ss : List (List UInt8)) : Nat := (ss.map fun s => s.length + 1).sum
theorem tot_app (a b : List (List UInt8)) : totS (a ++ b) = totS a + totS b := by simp [totS]
theorem tot_one (a : List UInt8) : totS [a] = a.length + 1 := by simp [totS]
theorem tot_cons (a : List UInt8) (b : List (List UInt8)) : totS (a :: b) = a.length + 1 + totS b := by simp [totS]
theorem segs_len : ∀ (l : List UInt8), totS (segsL l) = l.length + 1
  | [] => rfl
  | b :: l => by
    have ih := segs_len l
    by_cases hb : b = 47
    · simp only [segsL, if_pos hb, tot_cons, ih]; simp; omega
    · simp only [segsL, if_neg hb]
      cases hs : segsL l with
      | nil => exact absurd hs (segs_ne l)
      | cons x ss =>
        rw [hs] at ih
        rw [tot_cons] at ih ⊢
        simp only [List.length_cons]; omega

/-- A part that is no name. -/
def dotS (s : List UInt8) : Bool := s == [] || s == [46] || s == [46, 46]
/-- What is left behind parts; none: it leads out. -/
def walkS : List (List UInt8) → List (List UInt8) → Option (List (List UInt8))
  | left, [] => some left
  | left, s :: ss => if s = [46, 46] then (if left = [] then none else walkS left.dropLast ss) else if s = [] ∨ s = [46] then walkS left ss else walkS (left ++ [s]) ss
theorem walk_app : ∀ (a b left : List (List UInt8)), walkS left (a ++ b) = (walkS left a).bind fun x => walkS x b
  | [], b, left => rfl
  | s :: a, b, left => by
    have ih := walk_app a b
    show walkS left (s :: (a ++ b)) = (walkS left (s :: a)).bind fun x => walkS x b
    by_cases h1 : s = [46, 46]
    · by_cases h2 : left = []
      · simp only [walkS, if_pos h1, if_pos h2]; rfl
      · simp only [walkS, if_pos h1, if_neg h2]; exact ih _
    · by_cases h2 : s = [] ∨ s = [46]
      · simp only [walkS, if_neg h1, if_pos h2]; exact ih _
      · simp only [walkS, if_neg h1, if_neg h2]; exact ih _
/-- The text of what is left. -/
def outS (left : List (List UInt8)) (d : Bool) : List UInt8 := if left = [] then [47] else left.flatMap (fun s => 47 :: s) ++ if d then [47] else []
/-- A path below its root. -/
def cleanL (l : List UInt8) : List UInt8 × Int :=
  if l.head? = some 47 ∧ l.length ≤ 4096 ∧ 0 ∉ l then
    match walkS [] (segsL l.tail) with
    | none => ([], 40)
    | some left => (outS left (dotS ((segsL l.tail).getLastD [])), 0)
  else ([], 40)

/-- A name. -/
def OkS (s : List UInt8) : Prop := dotS s = false ∧ 47 ∉ s ∧ 0 ∉ s
theorem ok_ne {s : List UInt8} (h : OkS s) : s ≠ [] ∧ s ≠ [46] ∧ s ≠ [46, 46] := by
  have := h.1
  simp only [dotS, Bool.or_eq_false_iff, beq_eq_false_iff_ne] at this
  exact ⟨this.1.1, this.1.2, this.2⟩
theorem walk_ok : ∀ (ss left x : List (List UInt8)), (∀ s ∈ ss, 47 ∉ s ∧ 0 ∉ s) → (∀ s ∈ left, OkS s) → walkS left ss = some x → (∀ s ∈ x, OkS s) ∧ totS x ≤ totS left + totS ss
  | [], left, x, _, hl, h => by
    simp only [walkS, Option.some.injEq] at h
    subst h
    exact ⟨hl, by simp [totS]⟩
  | s :: ss, left, x, hs, hl, h => by
    have hs' : ∀ t ∈ ss, 47 ∉ t ∧ 0 ∉ t := fun t ht => hs t (by simp [ht])
    unfold walkS at h
    rw [tot_cons]
    split at h
    · split at h
      · cases h
      · rename_i h0
        obtain ⟨h1, h2⟩ := walk_ok ss _ x hs' (fun t ht => hl t ((List.dropLast_sublist _).subset ht)) h
        refine ⟨h1, ?_⟩
        have e := List.dropLast_concat_getLast h0
        have e2 : totS left = totS left.dropLast + totS [left.getLast h0] := by rw [← tot_app, e]
        omega
    · split at h
      · obtain ⟨h1, h2⟩ := walk_ok ss _ x hs' hl h
        exact ⟨h1, by omega⟩
      · rename_i h1 h2
        have hok : OkS s := ⟨by
          simp only [dotS, Bool.or_eq_false_iff, beq_eq_false_iff_ne]
          exact ⟨⟨fun e => h2 (.inl e), fun e => h2 (.inr e)⟩, h1⟩, hs s (by simp)⟩
        obtain ⟨h1, h2⟩ := walk_ok ss _ x hs' (fun t ht => by
          simp only [List.mem_append, List.mem_singleton] at ht
          rcases ht with ht | rfl
          · exact hl t ht
          · exact hok) h
        refine ⟨h1, ?_⟩
        rw [tot_app, tot_one] at h2
        omega
theorem walk_names : ∀ (ss left : List (List UInt8)), (∀ s ∈ ss, OkS s) → walkS left ss = some (left ++ ss)
  | [], left, _ => by simp [walkS]
  | s :: ss, left, h => by
    have h1 := ok_ne (h s (by simp))
    unfold walkS
    rw [if_neg h1.2.2, if_neg (by rintro (e | e); exact h1.1 e; exact h1.2.1 e), walk_names ss _ (fun t ht => h t (by simp [ht]))]
    simp
theorem segs_out : ∀ (ss : List (List UInt8)), ss ≠ [] → (∀ s ∈ ss, 47 ∉ s) → ∃ r, ss.flatMap (fun s => 47 :: s) = 47 :: r ∧ segsL r = ss
  | [], h, _ => absurd rfl h
  | [s], _, h => ⟨s, by simp, segs_none s (h s (by simp))⟩
  | s :: t :: ss, _, h => by
    obtain ⟨r, h1, h2⟩ := segs_out (t :: ss) (by simp) (fun x hx => h x (by simp [hx]))
    refine ⟨s ++ 47 :: r, by rw [List.flatMap_cons, h1]; simp, ?_⟩
    rw [segs_some s r (h s (by simp)), h2]
theorem tot_flat (ss : List (List UInt8)) : (ss.flatMap (fun s => 47 :: s)).length = totS ss := by
  induction ss with
  | nil => rfl
  | cons s ss ih => rw [List.flatMap_cons, List.length_append, ih, tot_cons]; simp
/-- The parts of what comes out. -/
theorem segs_outS (left : List (List UInt8)) (d : Bool) (h : ∀ s ∈ left, OkS s) :
    ∃ r, outS left d = 47 :: r ∧ segsL r = (if left = [] then [[]] else left ++ if d then [[]] else []) := by
  unfold outS
  by_cases h0 : left = []
  · rw [if_pos h0, if_pos h0]; exact ⟨[], rfl, rfl⟩
  · rw [if_neg h0, if_neg h0]
    obtain ⟨r, h1, h2⟩ := segs_out left h0 (fun s hs => (h s hs).2.1)
    rw [h1]
    cases d with
    | false => exact ⟨r, by simp, by simp [h2]⟩
    | true =>
      refine ⟨r ++ [47], by simp, ?_⟩
      have := segs_app r []
      rw [this, h2]; rfl
theorem clean_some {l : List UInt8} {x : List UInt8} (h : cleanL l = (x, 0)) : l.head? = some 47 ∧ l.length ≤ 4096 ∧ 0 ∉ l ∧
    ∃ left, walkS [] (segsL l.tail) = some left ∧ (∀ s ∈ left, OkS s) ∧ x = outS left (dotS ((segsL l.tail).getLastD [])) ∧ x.length ≤ l.length := by
  unfold cleanL at h
  split at h
  · rename_i hc
    obtain ⟨h1, h2, h3⟩ := hc
    refine ⟨h1, h2, h3, ?_⟩
    split at h
    · cases h
    · rename_i left hw
      have hx := (Prod.mk.inj h).1.symm
      have ht : l.length = l.tail.length + 1 := by cases l with | nil => simp at h1 | cons _ _ => simp
      have hmem : ∀ s ∈ segsL l.tail, 47 ∉ s ∧ 0 ∉ s := fun s hs => ⟨segs_no _ s hs, fun h0 => h3 (List.mem_of_mem_tail (segs_sub _ s hs 0 h0))⟩
      obtain ⟨k1, k2⟩ := walk_ok _ [] left hmem (fun s hs => by cases hs) hw
      refine ⟨left, hw, k1, hx, ?_⟩
      have hl := segs_len l.tail
      have e0 : totS [] = 0 := rfl
      rw [hx]
      unfold outS
      by_cases h0 : left = []
      · rw [if_pos h0]; simp; omega
      · rw [if_neg h0, List.length_append, tot_flat]
        cases hd : dotS ((segsL l.tail).getLastD []) with
        | false => simp; omega
        | true =>
          -- the last part is no name, so it is not among what is left
          have hne := segs_ne l.tail
          have e := List.dropLast_concat_getLast hne
          have hgl : (segsL l.tail).getLastD [] = (segsL l.tail).getLast hne := by rw [List.getLastD_eq_getLast?, List.getLast?_eq_some_getLast hne]; rfl
          rw [hgl] at hd
          obtain ⟨z, hz⟩ : ∃ z, z = (segsL l.tail).getLast hne := ⟨_, rfl⟩
          obtain ⟨y, hy⟩ : ∃ y, y = (segsL l.tail).dropLast := ⟨_, rfl⟩
          rw [← hz] at hd e
          rw [← hy] at e
          rw [← e, walk_app] at hw
          have hmem' : ∀ s ∈ y, 47 ∉ s ∧ 0 ∉ s := fun s hs => hmem s (by rw [← e]; simp [hs])
          cases hq : walkS [] y with
          | none => rw [hq] at hw; cases hw
          | some q =>
            rw [hq] at hw
            obtain ⟨k3, k4⟩ := walk_ok y [] q hmem' (fun s hs => by cases hs) hq
            have hs1 : totS (segsL l.tail) = totS y + totS [z] := by rw [← e, tot_app]
            rw [tot_one] at hs1
            have hle : totS left ≤ totS q := by
              simp only [Option.bind_some, walkS] at hw
              split at hw
              · split at hw
                · cases hw
                · rename_i h5
                  have := Option.some.inj hw
                  rw [← this]
                  have e3 := List.dropLast_concat_getLast h5
                  have e4 : totS q = totS q.dropLast + totS [q.getLast h5] := by rw [← tot_app, e3]
                  omega
              · split at hw
                · rw [Option.some.inj hw]; exact Nat.le_refl _
                · rename_i h5 h6
                  simp only [dotS, Bool.or_eq_true, beq_iff_eq] at hd
                  rcases hd with (hd | hd) | hd
                  · exact absurd (Or.inl hd) h6
                  · exact absurd (Or.inr hd) h6
                  · exact absurd hd h5
            simp; omega
  · cases h
theorem clean_bad {l : List UInt8} (h : (cleanL l).2 ≠ 0) : cleanL l = ([], 40) := by
  unfold cleanL at *
  split at h
  · rename_i h1
    rw [if_pos h1]
    split at h
    · rfl
    · exact absurd rfl h
  · rename_i h1
    rw [if_neg h1]
theorem clean_two (l : List UInt8) : (cleanL l).2 = 0 ∨ cleanL l = ([], 40) := by
  by_cases h : (cleanL l).2 = 0
  · exact .inl h
  · exact .inr (clean_bad h)
theorem dot_nil : dotS [] = true := rfl
theorem getLastD_app (a : List (List UInt8)) (b : List UInt8) : (a ++ [b]).getLastD [] = b := by
  rw [List.getLastD_eq_getLast?]; simp
/-- What comes out stays as it is. -/
theorem clean_clean {l x : List UInt8} (h : cleanL l = (x, 0)) : cleanL x = (x, 0) := by
  obtain ⟨h1, h2, h3, left, hw, hok, hx, hlen⟩ := clean_some h
  obtain ⟨r, e1, e2⟩ := segs_outS left (dotS ((segsL l.tail).getLastD [])) hok
  rw [← hx] at e1
  have h0x : 0 ∉ x := by
    rw [hx]; unfold outS
    intro h0
    split at h0
    · simp at h0
    · simp only [List.mem_append, List.mem_flatMap] at h0
      rcases h0 with ⟨s, hs, h0⟩ | h0
      · simp only [List.mem_cons] at h0
        rcases h0 with h0 | h0
        · cases h0
        · exact (hok s hs).2.2 h0
      · split at h0
        · simp at h0
        · cases h0
  unfold cleanL
  rw [if_pos ⟨by rw [e1]; rfl, by omega, h0x⟩, e1]
  show (match walkS [] (segsL r) with | none => ([], 40) | some left => (outS left (dotS ((segsL r).getLastD [])), (0 : Int))) = _
  rw [e2]
  by_cases h0 : left = []
  · rw [if_pos h0]
    have : walkS [] [[]] = some [] := by simp [walkS]
    rw [this]
    show (outS [] _, (0 : Int)) = _
    rw [← e1, hx, h0]; rfl
  · rw [if_neg h0]
    cases hd : dotS ((segsL l.tail).getLastD []) with
    | true =>
      rw [if_pos rfl, walk_app, walk_names left [] hok]
      have : walkS ([] ++ left) [[]] = some left := by simp [walkS]
      rw [Option.bind_some, this]
      show (outS left (dotS ((left ++ [[]]).getLastD [])), (0 : Int)) = _
      rw [getLastD_app, ← e1, hx, hd]; rfl
    | false =>
      rw [if_neg (by simp), List.append_nil, walk_names left [] hok]
      show (outS left (dotS (left.getLastD [])), (0 : Int)) = _
      have hl := List.dropLast_concat_getLast h0
      have : dotS (left.getLastD []) = false := by
        rw [← hl, getLastD_app]
        exact (hok _ (List.getLast_mem h0)).1
      rw [this, ← e1, hx, hd]
/-- No part of what comes out leads up or around. -/
theorem clean_part {l x : List UInt8} (h : cleanL l = (x, 0)) (p w q : List UInt8) (hx : x = p ++ 47 :: (w ++ q)) (hw : 47 ∉ w) (hq : q = [] ∨ ∃ q', q = 47 :: q') :
    w ≠ [46] ∧ w ≠ [46, 46] ∧ (w = [] → q = []) := by
  obtain ⟨h1, h2, h3, left, hwk, hok, hx2, hlen⟩ := clean_some h
  obtain ⟨r, e1, e2⟩ := segs_outS left (dotS ((segsL l.tail).getLastD [])) hok
  rw [← hx2] at e1
  -- the parts of r: w is one of them, and not the last one where q goes on
  have hin : ∃ X Y, segsL r = X ++ w :: Y ∧ (q ≠ [] → Y ≠ []) := by
    have hwq : ∃ Y, segsL (w ++ q) = w :: Y ∧ (q ≠ [] → Y ≠ []) := by
      rcases hq with rfl | ⟨q', rfl⟩
      · exact ⟨[], by rw [List.append_nil]; exact segs_none w hw, fun h => absurd rfl h⟩
      · exact ⟨segsL q', segs_some w q' hw, fun _ => segs_ne q'⟩
    obtain ⟨Y, hY, hY2⟩ := hwq
    rw [hx] at e1
    cases p with
    | nil =>
      have : r = w ++ q := by injection e1 with _ e; exact e.symm
      exact ⟨[], Y, by rw [this, hY]; rfl, hY2⟩
    | cons a p =>
      have : r = p ++ 47 :: (w ++ q) := by
        have e : a :: (p ++ 47 :: (w ++ q)) = 47 :: r := e1
        injection e with _ e; exact e.symm
      exact ⟨segsL p, Y, by rw [this, segs_app, hY], hY2⟩
  obtain ⟨X, Y, e3, hY⟩ := hin
  rw [e2] at e3
  have hmem : OkS w ∨ (w = [] ∧ Y = []) := by
    by_cases h0 : left = []
    · rw [if_pos h0] at e3
      cases X with
      | nil =>
        injection e3 with a b
        exact .inr ⟨a.symm, b.symm⟩
      | cons c X =>
        injection e3 with _ b
        have := congrArg List.length b
        simp at this
    · rw [if_neg h0] at e3
      cases hd : dotS ((segsL l.tail).getLastD []) with
      | false =>
        rw [hd, if_neg (by simp), List.append_nil] at e3
        exact .inl (hok w (by rw [e3]; simp))
      | true =>
        rw [hd, if_pos rfl] at e3
        rcases List.eq_nil_or_concat Y with rfl | ⟨Y', y, rfl⟩
        · refine .inr ⟨?_, rfl⟩
          have := congrArg (fun z => z.getLastD []) e3
          simp only [getLastD_app] at this
          exact this.symm
        · refine .inl (hok w ?_)
          have e4 : left ++ [[]] = (X ++ w :: Y') ++ [y] := by rw [e3]; simp
          have := List.append_inj_left' e4 rfl
          rw [this]; simp
  rcases hmem with hm | ⟨rfl, rfl⟩
  · have := ok_ne hm
    exact ⟨this.2.1, this.2.2, fun e => absurd e this.1⟩
  · refine ⟨by simp, by simp, fun _ => ?_⟩
    exact Classical.byContradiction fun hq' => hY hq' rfl
/-- Into a folder and out of it again. -/
theorem clean_up (s w : List UInt8) (hw : 47 ∉ w) (h0 : 0 ∉ w) (hn : w ≠ []) (h1 : w ≠ [46]) (h2 : w ≠ [46, 46]) (hl : s.length + w.length ≤ 4000) :
    cleanL (s ++ 47 :: (w ++ [47, 46, 46])) = cleanL (s ++ [47]) := by
  have hcond : ((s ++ 47 :: (w ++ [47, 46, 46])).head? = some 47 ∧ (s ++ 47 :: (w ++ [47, 46, 46])).length ≤ 4096 ∧ 0 ∉ (s ++ 47 :: (w ++ [47, 46, 46]))) ↔ ((s ++ [47]).head? = some 47 ∧ (s ++ [47]).length ≤ 4096 ∧ 0 ∉ (s ++ [47])) := by
    have e1 : (s ++ 47 :: (w ++ [47, 46, 46])).head? = (s ++ [47]).head? := by cases s <;> rfl
    rw [e1]
    simp only [List.length_append, List.length_cons, List.length_nil, List.mem_append, List.mem_cons, List.mem_nil_iff, or_false, not_or]
    constructor
    · rintro ⟨a, b, c, d⟩; exact ⟨a, by omega, c, by decide⟩
    · rintro ⟨a, b, c, d⟩; exact ⟨a, by omega, c, by decide, h0, by decide, by decide, by decide⟩
  have hws : walkS [] (segsL (s ++ 47 :: (w ++ [47, 46, 46])).tail) = walkS [] (segsL (s ++ [47]).tail) ∧ dotS ((segsL (s ++ 47 :: (w ++ [47, 46, 46])).tail).getLastD []) = true ∧ dotS ((segsL (s ++ [47]).tail).getLastD []) = true := by
    have hsw : segsL (w ++ [47, 46, 46]) = [w, [46, 46]] := by
      rw [segs_some w [46, 46] hw]; rfl
    have hwalk : ∀ q : List (List UInt8), walkS q [w, [46, 46]] = some q := fun q => by
      simp [walkS, hn, h1, h2]
    cases s with
    | nil =>
      refine ⟨?_, ?_, rfl⟩
      · show walkS [] (segsL (w ++ [47, 46, 46])) = walkS [] (segsL [])
        rw [hsw, hwalk]; simp [segsL, walkS]
      · show dotS ((segsL (w ++ [47, 46, 46])).getLastD []) = true
        rw [hsw]; rfl
    | cons a s =>
      have e1 : segsL ((a :: s) ++ 47 :: (w ++ [47, 46, 46])).tail = segsL s ++ [w, [46, 46]] := by
        show segsL (s ++ 47 :: (w ++ [47, 46, 46])) = _
        rw [segs_app, hsw]
      have e2 : segsL ((a :: s) ++ [47]).tail = segsL s ++ [[]] := by
        show segsL (s ++ 47 :: []) = _
        rw [segs_app]; rfl
      rw [e1, e2]
      refine ⟨?_, ?_, ?_⟩
      · rw [walk_app, walk_app]
        congr 1
        funext q
        rw [hwalk]; simp [walkS]
      · rw [show segsL s ++ [w, [46, 46]] = (segsL s ++ [w]) ++ [[46, 46]] by simp, getLastD_app]; rfl
      · rw [getLastD_app]; rfl
  obtain ⟨k1, k2, k3⟩ := hws
  unfold cleanL
  by_cases hc : ((s ++ [47]).head? = some 47 ∧ (s ++ [47]).length ≤ 4096 ∧ 0 ∉ (s ++ [47]))
  · rw [if_pos hc, if_pos (hcond.2 hc), k1, k2, k3]
  · rw [if_neg hc, if_neg (fun h => hc (hcond.1 h))]
end Go.Proofs.YtmnohicojefhfaaGreatDoor
end
