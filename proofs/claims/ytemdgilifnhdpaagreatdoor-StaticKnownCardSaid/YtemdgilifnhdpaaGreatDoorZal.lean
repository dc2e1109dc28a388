/-
strings.Cut at one byte: texts of whatever length.
-/
import Derived.Test.YtemdgilifnhdpaaGreatDoorProg
import Derived.Test.YtemdgilifnhdpaaGreatDoorZac
import Derived.Test.YtemdgilifnhdpaaGreatDoorShelf
import Derived.Test.YtemdgilifnhdpaaGreatDoorZae
import Derived.RangeFuncNested
import Derived.RangeFuncBound
import Derived.RangeFuncCalls
import Derived.RangeFuncLeaves
import Derived.RangeFuncBox
import Derived.Shelf.Abstract
import Derived.Shelf.RegionOpen
import Derived.OwnWalkIn
import Derived.TacticsInMore
import Derived.LoopNIn
import Derived.LoopIn
set_option linter.unusedVariables false
set_option linter.unusedSimpArgs false
section
namespace Go.Proofs.YtemdgilifnhdpaaGreatDoor
open Go.RowKit

theorem idx_no {l : List UInt8} {c : UInt8} (h : c ∉ l) : Lib.indexByte l c = -1 := by
  have h1 := Lib.indexByte_ge l c
  refine Classical.byContradiction fun h0 => ?_
  obtain ⟨k, hk⟩ : ∃ k : Nat, Lib.indexByte l c = (k : Int) := ⟨(Lib.indexByte l c).toNat, by omega⟩
  exact h (List.mem_of_getElem? (Lib.indexByte_some hk).1)
theorem idx_at {a r : List UInt8} {c : UInt8} (h : c ∉ a) : Lib.indexByte (a ++ c :: r) c = (a.length : Int) := by
  have h1 := Lib.indexByte_ge (a ++ c :: r) c
  by_cases h0 : Lib.indexByte (a ++ c :: r) c = -1
  · exact absurd (Lib.indexByte_none h0 a.length) (by simp)
  · obtain ⟨k, hk⟩ : ∃ k : Nat, Lib.indexByte (a ++ c :: r) c = (k : Int) := ⟨(Lib.indexByte (a ++ c :: r) c).toNat, by omega⟩
    obtain ⟨k1, k2⟩ := Lib.indexByte_some hk
    rw [hk]
    have : k = a.length := by
      rcases Nat.lt_trichotomy k a.length with h3 | h3 | h3
      · rw [List.getElem?_append_left h3] at k1
        exact absurd (List.mem_of_getElem? k1) h
      · exact h3
      · exact absurd (by simp) (k2 a.length h3)
    rw [this]
theorem cut_cases (l : List UInt8) (c : UInt8) : c ∉ l ∨ ∃ a r, l = a ++ c :: r ∧ c ∉ a := by
  induction l with
  | nil => exact .inl (by simp)
  | cons b l ih =>
    by_cases hb : b = c
    · exact .inr ⟨[], l, by rw [hb]; rfl, by simp⟩
    · rcases ih with h | ⟨a, r, h1, h2⟩
      · exact .inl (by simp only [List.mem_cons, not_or]; exact ⟨fun e => hb e.symm, h⟩)
      · exact .inr ⟨b :: a, r, by rw [h1]; rfl, by simp only [List.mem_cons, not_or]; exact ⟨fun e => hb e.symm, h2⟩⟩

set_option maxRecDepth 100000 in
set_option maxHeartbeats 1000000 in
theorem iCut_no (l : List UInt8) (c : UInt8) (h : c ∉ l) (w : World) :
    Calls Tryz.prog 130 #[.string (str l), .string ⟨#[c]⟩] w fun e w' => e = .returned (.tuple #[.string (str l), .string ⟨#[]⟩, .bool false]) ∧ w = w' := by
  have HX := Lib.hid (idx_no h)
  clear h
  go_enter Tryz.func130, Tryz.ntmps130
  go_wp2_with (go_at_call 173; refine (Tryz.stringslite_Index_one _ _ _).mono ?_; rintro e w1 ⟨rfl, rfl⟩; rw [str_data, HX.out])
  go_ret3
  exact ⟨rfl, rfl⟩
set_option maxRecDepth 100000 in
set_option maxHeartbeats 1000000 in
theorem iCut_at (a r : List UInt8) (c : UInt8) (h : c ∉ a) (hs : a.length + r.length + 1 ≤ maxLen) (w : World) :
    Calls Tryz.prog 130 #[.string (str (a ++ c :: r)), .string ⟨#[c]⟩] w fun e w' => e = .returned (.tuple #[.string (str a), .string (str r), .bool true]) ∧ ∃ q, w' = w.drewN q := by
  unfold maxLen at hs
  obtain ⟨l, hl⟩ : ∃ l, l = a ++ c :: r := ⟨_, rfl⟩
  have HX := Lib.hid (show Lib.indexByte l c = (a.length : Int) from by rw [hl]; exact idx_at h)
  have hll : l.length = a.length + r.length + 1 := by rw [hl]; simp; omega
  have e1 : l.take a.length = a := by rw [hl, List.take_left]
  have e2 : l.drop (a.length + 1) = r := by rw [hl, List.drop_append]; simp [List.drop_eq_nil_of_le]
  rw [← hl]
  have E1 := Lib.hid e1
  have E2 := Lib.hid e2
  clear h hl e1 e2
  have j1 : (0 : Int) ≤ (a.length : Int) := by omega
  have j2 : (a.length : Int) ≤ (l.length : Int) := by omega
  have j3 : IntKind.i64.wrap ((a.length : Int) + 1) = (a.length : Int) + 1 := by rw [IntKind.wrap_i64]; omega
  have j4 : (a.length : Int) + 1 ≤ (l.length : Int) := by omega
  have j5 : ((a.length : Int) + 1).toNat = a.length + 1 := by omega
  have j6 : (0 : Int) ≤ (a.length : Int) + 1 := by omega
  clear hll hs
  go_enter Tryz.func130, Tryz.ntmps130
  go_wp2_with (go_at_call 173; refine (Tryz.stringslite_Index_one _ _ _).mono ?_; rintro e w1 ⟨rfl, rfl⟩; rw [str_data, HX.out])
  go_quiet (fail)
  go_wp2
  go_ret3
  refine ⟨ret_val ?_, _, rfl⟩
  show Value.tuple #[.string (str (l.take a.length)), .string (str (l.drop (a.length + 1))), .bool true] = _
  rw [E1.out, E2.out]
set_option maxRecDepth 100000 in
theorem Cut_no (l : List UInt8) (c : UInt8) (h : c ∉ l) (w : World) :
    Calls Tryz.prog 94 #[.string (str l), .string ⟨#[c]⟩] w fun e w' => e = .returned (.tuple #[.string (str l), .string ⟨#[]⟩, .bool false]) ∧ w = w' := by
  have HX := Lib.hid h
  clear h
  go_enter Tryz.func94, Tryz.ntmps94
  go_wp2_with (go_at_call 130; refine (iCut_no _ _ HX.out _).mono ?_; rintro e w1 ⟨rfl, rfl⟩)
  go_ret3
  exact ⟨rfl, rfl⟩
set_option maxRecDepth 100000 in
theorem Cut_at (a r : List UInt8) (c : UInt8) (h : c ∉ a) (hs : a.length + r.length + 1 ≤ maxLen) (w : World) :
    Calls Tryz.prog 94 #[.string (str (a ++ c :: r)), .string ⟨#[c]⟩] w fun e w' => e = .returned (.tuple #[.string (str a), .string (str r), .bool true]) ∧ ∃ q, w' = w.drewN q := by
  have HX := Lib.hid h
  have HS := Lib.hid hs
  obtain ⟨s, hs2⟩ : ∃ s, s = str (a ++ c :: r) := ⟨_, rfl⟩
  have CC := fun w => iCut_at a r c HX.out HS.out w
  rw [← hs2] at CC ⊢
  have CC := Lib.hid CC
  clear h hs hs2
  go_enter Tryz.func94, Tryz.ntmps94
  go_wp2_with (go_at_call 130; refine (CC.out _).mono ?_; rintro e w1 ⟨rfl, q, rfl⟩)
  go_ret3
  exact ⟨rfl, q, rfl⟩
theorem HasPrefix_c (l p : List UInt8) (b : Bool) (hb : Lib.hasPrefix l p = b) (w : World) :
    Calls Tryz.prog 60 #[.string (str l), .string ⟨p.toArray⟩] w fun e w' => e = .returned (.bool b) ∧ w = w' :=
  (Tryz.strings_HasPrefix _ _ w).mono fun e w' ⟨he, hw⟩ => ⟨by rw [he, ← hb]; rfl, hw.symm⟩
theorem IndexByteS_c (l : List UInt8) (k z : Int) (h : Lib.indexByte l k.toNat.toUInt8 = z) (w : World) :
    Calls Tryz.prog 88 #[.string (str l), .int .u8 k] w fun e w' => e = .returned (.int .i64 z) ∧ w = w' :=
  (Tryz.strings_IndexByte _ _ w).mono fun e w' ⟨he, hw⟩ => ⟨by rw [he, ← h]; rfl, hw.symm⟩
theorem pre_one (l : List UInt8) (c : UInt8) : Lib.hasPrefix l [c] = decide (l.head? = some c) := by
  cases l with
  | nil => simp [Lib.hasPrefix, List.isPrefixOf]
  | cons b l =>
    by_cases h : b = c
    · subst h; simp [Lib.hasPrefix, List.isPrefixOf]
    · have h2 : (c == b) = false := by rw [beq_eq_false_iff_ne]; exact fun e => h e.symm
      simp [Lib.hasPrefix, List.isPrefixOf, h, h2]
theorem pre_yes {l : List UInt8} {c : UInt8} (h : l.head? = some c) : Lib.hasPrefix l [c] = true := by rw [pre_one]; simp [h]
theorem pre_no {l : List UInt8} {c : UInt8} (h : ¬ l.head? = some c) : Lib.hasPrefix l [c] = false := by rw [pre_one]; simp [h]
theorem idx_yes {l : List UInt8} {c : UInt8} (h : c ∈ l) : ∃ z : Int, Lib.indexByte l c = z ∧ 0 ≤ z := by
  refine ⟨_, rfl, ?_⟩
  have g1 := Lib.indexByte_ge l c
  refine Classical.byContradiction fun h0 => ?_
  have e : Lib.indexByte l c = -1 := by omega
  obtain ⟨j, hj, hj2⟩ := List.getElem_of_mem h
  exact Lib.indexByte_none e j (by rw [List.getElem?_eq_getElem hj, hj2])
end Go.Proofs.YtemdgilifnhdpaaGreatDoor
end

section
namespace Go.Proofs.YtemdgilifnhdpaaGreatDoor
open Go.RowKit

end Go.Proofs.YtemdgilifnhdpaaGreatDoor
end

section
namespace Go.Proofs.YtemdgilifnhdpaaGreatDoor
open Go.RowKit

def segsL : List UInt8 → List (List UInt8)
  | [] => [[]]
  | b :: l => if b = 47 then [] :: segsL l else
      match segsL l with
      | [] => [[b]]
      | s :: ss => (b :: s) :: ss
theorem segs_ne (l : List UInt8) : segsL l ≠ [] := by
  cases l with
  | nil => simp [segsL]
  | cons b l =>
    unfold segsL
    split
    · simp
    · split <;> simp
theorem segs_none : ∀ (l : List UInt8), 47 ∉ l → segsL l = [l]
  | [], _ => rfl
  | b :: l, h => by
    have h1 : ¬ b = 47 := fun e => h (by rw [e]; simp)
    have h2 := segs_none l (fun e => h (by simp [e]))
    unfold segsL
    rw [if_neg h1, h2]
theorem segs_some : ∀ (a r : List UInt8), 47 ∉ a → segsL (a ++ 47 :: r) = a :: segsL r
  | [], r, _ => by show segsL (47 :: r) = _; simp [segsL]
  | b :: a, r, h => by
    have h1 : ¬ b = 47 := fun e => h (by rw [e]; simp)
    have h2 := segs_some a r (fun e => h (by simp [e]))
    show segsL (b :: (a ++ 47 :: r)) = _
    simp only [segsL, if_neg h1, h2]
theorem segs_no : ∀ (l s : List UInt8), s ∈ segsL l → 47 ∉ s
  | [], s, h => by simp [segsL] at h; subst h; simp
  | b :: l, s, h => by
    have ih := segs_no l
    by_cases hb : b = 47
    · simp only [segsL, if_pos hb, List.mem_cons] at h
      rcases h with rfl | h
      · simp
      · exact ih s h
    · simp only [segsL, if_neg hb] at h
      cases hs : segsL l with
      | nil => exact absurd hs (segs_ne l)
      | cons x ss =>
        rw [hs] at h ih
        simp only [List.mem_cons] at h
        rcases h with rfl | h
        · have := ih x (by simp)
          simp only [List.mem_cons, not_or]
          exact ⟨fun e => hb e.symm, this⟩
        · exact ih s (by simp [h])
theorem segs_sub : ∀ (l s : List UInt8), s ∈ segsL l → ∀ b ∈ s, b ∈ l
  | [], s, h, b, hb => by simp [segsL] at h; subst h; cases hb
  | c :: l, s, h, b, hb => by
    have ih := segs_sub l
    by_cases hc : c = 47
    · simp only [segsL, if_pos hc, List.mem_cons] at h
      rcases h with rfl | h
      · cases hb
      · simp [ih s h b hb]
    · simp only [segsL, if_neg hc] at h
      cases hs : segsL l with
      | nil => exact absurd hs (segs_ne l)
      | cons x ss =>
        rw [hs] at h ih
        simp only [List.mem_cons] at h
        rcases h with rfl | h
        · simp only [List.mem_cons] at hb
          rcases hb with rfl | hb
          · simp
          · simp [ih x (by simp) b hb]
        · simp [ih s (by simp [h]) b hb]
def totS (ss : List (List UInt8)) : Nat := (ss.map fun s => s.length + 1).sum
theorem tot_app (a b : List (List UInt8)) : totS (a ++ b) = totS a + totS b := by simp [totS]
theorem tot_one (a : List UInt8) : totS [a] = a.length + 1 := by simp [totS]
theorem tot_cons (a : List UInt8) (b : List (List UInt8)) : totS (a :: b) = a.length + 1 + totS b := by simp [totS]
theorem segs_len : ∀ (l : List UInt8), totS (segsL l) = l.length + 1
  | [] => rfl
  | b :: l => by
    have ih := segs_len l
    by_cases hb : b = 47
    · simp only [segsL, if_pos hb, tot_cons, ih]; simp; omega
    · simp only [segsL, if_neg hb]
      cases hs : segsL l with
      | nil => exact absurd hs (segs_ne l)
      | cons x ss =>
        rw [hs] at ih
        rw [tot_cons] at ih ⊢
        simp only [List.length_cons]; omega

def dotS (s : List UInt8) : Bool := s == [] || s == [46] || s == [46, 46]
def walkS : List (List UInt8) → List (List UInt8) → Option (List (List UInt8))
  | left, [] => some left
  | left, s :: ss => if s = [46, 46] then (if left = [] then none else walkS left.dropLast ss) else if s = [] ∨ s = [46] then walkS left ss else walkS (left ++ [s]) ss
theorem walk_app : ∀ (a b left : List (List UInt8)), walkS left (a ++ b) = (walkS left a).bind fun x => walkS x b
  | [], b, left => rfl
  | s :: a, b, left => by
    have ih := walk_app a b
    show walkS left (s :: (a ++ b)) = (walkS left (s :: a)).bind fun x => walkS x b
    by_cases h1 : s = [46, 46]
    · by_cases h2 : left = []
      · simp only [walkS, if_pos h1, if_pos h2]; rfl
      · simp only [walkS, if_pos h1, if_neg h2]; exact ih _
    · by_cases h2 : s = [] ∨ s = [46]
      · simp only [walkS, if_neg h1, if_pos h2]; exact ih _
      · simp only [walkS, if_neg h1, if_neg h2]; exact ih _
def outS (left : List (List UInt8)) (d : Bool) : List UInt8 := if left = [] then [47] else left.flatMap (fun s => 47 :: s) ++ if d then [47] else []
def cleanL (l : List UInt8) : List UInt8 × Int :=
  if l.head? = some 47 ∧ l.length ≤ 4096 ∧ 0 ∉ l then
    match walkS [] (segsL l.tail) with
    | none => ([], 40)
    | some left => (outS left (dotS ((segsL l.tail).getLastD [])), 0)
  else ([], 40)

def OkS (s : List UInt8) : Prop := dotS s = false ∧ 47 ∉ s ∧ 0 ∉ s
theorem walk_ok : ∀ (ss left x : List (List UInt8)), (∀ s ∈ ss, 47 ∉ s ∧ 0 ∉ s) → (∀ s ∈ left, OkS s) → walkS left ss = some x → (∀ s ∈ x, OkS s) ∧ totS x ≤ totS left + totS ss
  | [], left, x, _, hl, h => by
    simp only [walkS, Option.some.injEq] at h
    subst h
    exact ⟨hl, by simp [totS]⟩
  | s :: ss, left, x, hs, hl, h => by
    have hs' : ∀ t ∈ ss, 47 ∉ t ∧ 0 ∉ t := fun t ht => hs t (by simp [ht])
    unfold walkS at h
    rw [tot_cons]
    split at h
    · split at h
      · cases h
      · rename_i h0
        obtain ⟨h1, h2⟩ := walk_ok ss _ x hs' (fun t ht => hl t ((List.dropLast_sublist _).subset ht)) h
        refine ⟨h1, ?_⟩
        have e := List.dropLast_concat_getLast h0
        have e2 : totS left = totS left.dropLast + totS [left.getLast h0] := by rw [← tot_app, e]
        omega
    · split at h
      · obtain ⟨h1, h2⟩ := walk_ok ss _ x hs' hl h
        exact ⟨h1, by omega⟩
      · rename_i h1 h2
        have hok : OkS s := ⟨by
          simp only [dotS, Bool.or_eq_false_iff, beq_eq_false_iff_ne]
          exact ⟨⟨fun e => h2 (.inl e), fun e => h2 (.inr e)⟩, h1⟩, hs s (by simp)⟩
        obtain ⟨h1, h2⟩ := walk_ok ss _ x hs' (fun t ht => by
          simp only [List.mem_append, List.mem_singleton] at ht
          rcases ht with ht | rfl
          · exact hl t ht
          · exact hok) h
        refine ⟨h1, ?_⟩
        rw [tot_app, tot_one] at h2
        omega
theorem tot_flat (ss : List (List UInt8)) : (ss.flatMap (fun s => 47 :: s)).length = totS ss := by
  induction ss with
  | nil => rfl
  | cons s ss ih => rw [List.flatMap_cons, List.length_append, ih, tot_cons]; simp
theorem clean_some {l : List UInt8} {x : List UInt8} (h : cleanL l = (x, 0)) : l.head? = some 47 ∧ l.length ≤ 4096 ∧ 0 ∉ l ∧
    ∃ left, walkS [] (segsL l.tail) = some left ∧ (∀ s ∈ left, OkS s) ∧ x = outS left (dotS ((segsL l.tail).getLastD [])) ∧ x.length ≤ l.length := by
  unfold cleanL at h
  split at h
  · rename_i hc
    obtain ⟨h1, h2, h3⟩ := hc
    refine ⟨h1, h2, h3, ?_⟩
    split at h
    · cases h
    · rename_i left hw
      have hx := (Prod.mk.inj h).1.symm
      have ht : l.length = l.tail.length + 1 := by cases l with | nil => simp at h1 | cons _ _ => simp
      have hmem : ∀ s ∈ segsL l.tail, 47 ∉ s ∧ 0 ∉ s := fun s hs => ⟨segs_no _ s hs, fun h0 => h3 (List.mem_of_mem_tail (segs_sub _ s hs 0 h0))⟩
      obtain ⟨k1, k2⟩ := walk_ok _ [] left hmem (fun s hs => by cases hs) hw
      refine ⟨left, hw, k1, hx, ?_⟩
      have hl := segs_len l.tail
      have e0 : totS [] = 0 := rfl
      rw [hx]
      unfold outS
      by_cases h0 : left = []
      · rw [if_pos h0]; simp; omega
      · rw [if_neg h0, List.length_append, tot_flat]
        cases hd : dotS ((segsL l.tail).getLastD []) with
        | false => simp; omega
        | true =>
          have hne := segs_ne l.tail
          have e := List.dropLast_concat_getLast hne
          have hgl : (segsL l.tail).getLastD [] = (segsL l.tail).getLast hne := by rw [List.getLastD_eq_getLast?, List.getLast?_eq_some_getLast hne]; rfl
          rw [hgl] at hd
          obtain ⟨z, hz⟩ : ∃ z, z = (segsL l.tail).getLast hne := ⟨_, rfl⟩
          obtain ⟨y, hy⟩ : ∃ y, y = (segsL l.tail).dropLast := ⟨_, rfl⟩
          rw [← hz] at hd e
          rw [← hy] at e
          rw [← e, walk_app] at hw
          have hmem' : ∀ s ∈ y, 47 ∉ s ∧ 0 ∉ s := fun s hs => hmem s (by rw [← e]; simp [hs])
          cases hq : walkS [] y with
          | none => rw [hq] at hw; cases hw
          | some q =>
            rw [hq] at hw
            obtain ⟨k3, k4⟩ := walk_ok y [] q hmem' (fun s hs => by cases hs) hq
            have hs1 : totS (segsL l.tail) = totS y + totS [z] := by rw [← e, tot_app]
            rw [tot_one] at hs1
            have hle : totS left ≤ totS q := by
              simp only [Option.bind_some, walkS] at hw
              split at hw
              · split at hw
                · cases hw
                · rename_i h5
                  have := Option.some.inj hw
                  rw [← this]
                  have e3 := List.dropLast_concat_getLast h5
                  have e4 : totS q = totS q.dropLast + totS [q.getLast h5] := by rw [← tot_app, e3]
                  omega
              · split at hw
                · rw [Option.some.inj hw]; exact Nat.le_refl _
                · rename_i h5 h6
                  simp only [dotS, Bool.or_eq_true, beq_iff_eq] at hd
                  rcases hd with (hd | hd) | hd
                  · exact absurd (Or.inl hd) h6
                  · exact absurd (Or.inr hd) h6
                  · exact absurd hd h5
            simp; omega
  · cases h
theorem clean_bad {l : List UInt8} (h : (cleanL l).2 ≠ 0) : cleanL l = ([], 40) := by
  unfold cleanL at *
  split at h
  · rename_i h1
    rw [if_pos h1]
    split at h
    · rfl
    · exact absurd rfl h
  · rename_i h1
    rw [if_neg h1]
theorem clean_two (l : List UInt8) : (cleanL l).2 = 0 ∨ cleanL l = ([], 40) := by
  by_cases h : (cleanL l).2 = 0
  · exact .inl h
  · exact .inr (clean_bad h)
end Go.Proofs.YtemdgilifnhdpaaGreatDoor
end

section
namespace Go.Proofs.YtemdgilifnhdpaaGreatDoor
open Go.RowKit Go.Shelf

attribute [local go_sem] Oper.semAt_some

def markS : List (List UInt8) → List (List UInt8 × Bool)
  | [] => []
  | [s] => [(s, true)]
  | s :: t :: ss => (s, false) :: markS (t :: ss)
theorem mark_more (s : List UInt8) (ss : List (List UInt8)) (h : ss ≠ []) : markS (s :: ss) = (s, false) :: markS ss := by
  cases ss with
  | nil => exact absurd rfl h
  | cons t ss => rfl
theorem mark_len (ss : List (List UInt8)) : (markS ss).length = ss.length := by
  induction ss with
  | nil => rfl
  | cons s ss ih =>
    cases ss with
    | nil => rfl
    | cons t ss => rw [mark_more s _ (by simp)]; simp only [List.length_cons] at *; omega
def txtLen : Value → Nat | .string s => s.size | _ => 0
def encS (x : List UInt8 × Bool) : Array Value := #[.string (str x.1), .bool x.2]
theorem grown_ext {a b : World} (h : Ext a b) : a.grownBy b none := ⟨h.os, h.tape, h.output, h.size, fun k hk _ => h.block k hk⟩

set_option maxRecDepth 100000 in
set_option maxHeartbeats 2000000 in
theorem seg1_in (l Bn n₀ : Nat) (s : List UInt8) (hs : s.length ≤ 1099511627776) (J Jx : List (List UInt8 × Bool) → World → Prop)
    (hJ : ∀ pre W W', J pre W → Ext W W' → J pre W')
    (hY : ∀ pre x W, J pre W → pre.length < (segsL s).length → YieldAt Fence.wide 6 Tryz.prog l (encS x) W fun e W' =>
      (e = .returned (.bool true) ∧ J (pre ++ [x]) W' ∧ Below n₀ W W') ∨ (e = .returned (.bool false) ∧ Jx (pre ++ [x]) W'))
    (W : World) (hBn : W.cell? ⟨Bn, 0, none⟩ = some (.string (str (47 :: s)))) (h0 : J [] W) :
    CallsIn Fence.wide 7 Tryz.prog 121 #[.func (.yield l) #[] #[], .pointer (some ⟨Bn, 0, none⟩)] W fun e W' => (∃ v, e = .returned v) ∧
      ((∃ ys, ys = markS (segsL s) ∧ J ys W') ∨ (∃ pre, pre <+: markS (segsL s) ∧ Jx pre W')) := by
  refine callsIn_of_wp Tryz.func121 rfl trivial ?_ rfl
  simp only [Tryz.ntmps121, List.size_toArray, List.length_cons, List.length_nil, Nat.reduceAdd, Nat.reduceSub, Array.replicate_succ, Array.replicate_zero, List.push_toArray, List.append_toArray, List.nil_append, List.cons_append]
  gi_wp2
  gi_loopw [3] (fun sv wr => ∃ pre l', sv = .string (str l') ∧ l'.length ≤ s.length ∧ markS (segsL s) = pre ++ markS (segsL l') ∧ pre.length < (segsL s).length ∧ J pre wr)
    (fun sv _ => txtLen sv)
  case atStart => exact ⟨[], s, by simp, Nat.le_refl _, by simp, List.length_pos_iff.2 (segs_ne s), h0⟩
  case round =>
    obtain ⟨pre, l', rfl, hll, hm, hlt, hJs⟩ := hrel
    rcases cut_cases l' 47 with hno | ⟨a, r, rfl, hno⟩
    · have e1 : markS (segsL s) = pre ++ [(l', true)] := by rw [hm, segs_none l' hno]; rfl
      have HE := Lib.hid e1
      have HN := Lib.hid hno
      clear e1 hm hno
      gi_wp2_with (refine ⟨trivial, ?_⟩; gi_at_call 94; refine (callsIn_wide.2 (Cut_no _ _ HN.out _)).mono ?_; rintro e w1 ⟨rfl, rfl⟩; have hx1 := Ext.rfl' wr; obtain ⟨fn, tmps, assign, body, hy, hR⟩ := hY pre (l', true) wr (hJ _ _ _ hJs hx1) hlt; dsimp only [encS] at hy)
      refine hR.mono ?_
      rintro e W3 (⟨rfl, hJ3, hk3⟩ | ⟨rfl, hJx3⟩)
      · gi_wp2
        refine bodyPost_ret (results_none rfl _ _ _) rfl ?_
        exact ⟨⟨_, rfl⟩, .inl ⟨_, rfl, by rw [HE.out]; exact hJ3⟩⟩
      · gi_wp2
        refine bodyPost_ret (results_none rfl _ _ _) rfl ?_
        exact ⟨⟨_, rfl⟩, .inr ⟨_, by rw [HE.out]; exact List.prefix_rfl, hJx3⟩⟩
    · have e1 : markS (segsL s) = pre ++ (a, false) :: markS (segsL r) := by rw [hm, segs_some a r hno, mark_more _ _ (segs_ne r)]
      have hl2 : pre.length + 1 < (segsL s).length := by
        have := congrArg List.length e1
        rw [mark_len, List.length_append, List.length_cons, mark_len] at this
        have := List.length_pos_iff.2 (segs_ne r)
        omega
      have hsz : a.length + r.length + 1 ≤ s.length := by simp only [List.length_append, List.length_cons] at hll; omega
      have hmx : a.length + r.length + 1 ≤ maxLen := by unfold maxLen; omega
      have HE := Lib.hid e1
      have HN := Lib.hid hno
      clear e1 hm hno
      obtain ⟨sv, hsv⟩ : ∃ sv, sv = str (a ++ 47 :: r) := ⟨_, rfl⟩
      have CC := fun w => Cut_at a r 47 HN.out hmx w
      rw [← hsv] at CC ⊢
      have hsvl : sv.size = a.length + r.length + 1 := by rw [hsv]; simp; omega
      have CC := Lib.hid CC
      have HSV := Lib.hid hsvl
      clear hsv hsvl
      gi_wp2_with (refine ⟨trivial, ?_⟩; gi_at_call 94; refine (callsIn_wide.2 (CC.out _)).mono ?_; rintro e w1 ⟨rfl, q, rfl⟩; have hx1 := (Ext.rfl' wr).drN q; obtain ⟨fn, tmps, assign, body, hy, hR⟩ := hY pre (a, false) (wr.drewN q) (hJ _ _ _ hJs hx1) hlt; dsimp only [encS] at hy)
      refine hR.mono ?_
      rintro e W3 (⟨rfl, hJ3, hk3⟩ | ⟨rfl, hJx3⟩)
      · gi_wp2
        go_roundw
        case rel => exact ⟨pre ++ [(a, false)], r, rfl, by omega, by rw [HE.out]; simp, by simp; omega, hJ3⟩
        case measure => simp only [txtLen, str_size]; rw [HSV.out]; omega
      · gi_wp2
        refine bodyPost_ret (results_none rfl _ _ _) rfl ?_
        exact ⟨⟨_, rfl⟩, .inr ⟨_, ⟨markS (segsL r), by rw [HE.out]; simp⟩, hJx3⟩⟩
theorem seg_stops (Bn n₀ : Nat) (s : List UInt8) (hs : s.length ≤ 1099511627776) (w : World) (hBn : Bn < w.heap.size) (hc : w.cell? ⟨Bn, 0, none⟩ = some (.string (str (47 :: s)))) :
    SeqStopsK Fence.wide 7 Tryz.prog 121 #[.pointer (some ⟨Bn, 0, none⟩)] encS (Below n₀) (fun ys => ys = markS (segsL s)) (fun pre => pre <+: markS (segsL s)) (segsL s).length w := fun l J Jx W hW hJ _ hY h0 =>
  seg1_in l Bn n₀ s hs J Jx (fun pre A B hj hx => hJ pre A B none hj (grown_ext hx) (fun r e => by cases e)) hY W ((hW.cell (p := ⟨Bn, 0, none⟩) hBn).trans hc) h0
theorem segments_c (s : List UInt8) (w : World) :
    Calls Tryz.prog 89 #[.string (str s)] w fun e w' => e = .returned (.func (.func 121) #[] #[.pointer (some ⟨w.heap.size, 0, none⟩)]) ∧ w' = w.alloc (.cells #[.string (str s)] 9) := by
  go_enter Tryz.func89, Tryz.ntmps89
  go_wp2
  go_ret
  exact ⟨rfl, rfl⟩
end Go.Proofs.YtemdgilifnhdpaaGreatDoor
end
