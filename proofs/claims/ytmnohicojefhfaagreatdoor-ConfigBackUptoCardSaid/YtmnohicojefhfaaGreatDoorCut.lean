/-
strings.Cut at one byte: texts of whatever length.
-/
import Derived.Test.YtmnohicojefhfaaGreatDoorProg
import Derived.Test.YtmnohicojefhfaaGreatDoorBytes
import Derived.Test.YtmnohicojefhfaaGreatDoorShelf
import Derived.Test.YtmnohicojefhfaaGreatDoorAsc3
set_option linter.unusedVariables false
set_option linter.unusedSimpArgs false
namespace Go.Proofs.YtmnohicojefhfaaGreatDoor
open Go.RowKit

theorem idx_no {l : List UInt8} {c : UInt8} (h : c ∉ l) : Lib.indexByte l c = -1 := by
  have h1 := Lib.indexByte_ge l c
  refine Classical.byContradiction fun h0 => ?_
  obtain ⟨k, hk⟩ : ∃ k : Nat, Lib.indexByte l c = (k : Int) := ⟨(Lib.indexByte l c).toNat, by omega⟩
  exact h (List.mem_of_getElem? (Lib.indexByte_some hk).1)
theorem idx_at {a r : List UInt8} {c : UInt8} (h : c ∉ a) : Lib.indexByte (a ++ c :: r) c = (a.length : Int) := by
  have h1 := Lib.indexByte_ge (a ++ c :: r) c
  by_cases h0 : Lib.indexByte (a ++ c :: r) c = -1
  · exact absurd (Lib.indexByte_none h0 a.length) (by simp)
  · obtain ⟨k, hk⟩ : ∃ k : Nat, Lib.indexByte (a ++ c :: r) c = (k : Int) := ⟨(Lib.indexByte (a ++ c :: r) c).toNat, by omega⟩
    obtain ⟨k1, k2⟩ := Lib.indexByte_some hk
    rw [hk]
    have : k = a.length := by
      rcases Nat.lt_trichotomy k a.length with h3 | h3 | h3
      · rw [List.getElem?_append_left h3] at k1
        exact absurd (List.mem_of_getElem? k1) h
      · exact h3
      · exact absurd (by simp) (k2 a.length h3)
    rw [this]
/-- A list is cut at the first of a byte, or has none. -/
theorem cut_cases (l : List UInt8) (c : UInt8) : c ∉ l ∨ ∃ a r, l = a ++ c :: r ∧ c ∉ a := by
  induction l with
  | nil => exact .inl (by simp)
  | cons b l ih =>
    by_cases hb : b = c
    · exact .inr ⟨[], l, by rw [hb]; rfl, by simp⟩
    · rcases ih with h | ⟨a, r, h1, h2⟩
      · exact .inl (by simp only [List.mem_cons, not_or]; exact ⟨fun e => hb e.symm, h⟩)
      · exact .inr ⟨b :: a, r, by rw [h1]; rfl, by simp only [List.mem_cons, not_or]; exact ⟨fun e => hb e.symm, h2⟩⟩

set_option maxRecDepth 100000 in
set_option maxHeartbeats 1000000 in
theorem iCut_no (l : List UInt8) (c : UInt8) (h : c ∉ l) (w : World) :
    Calls Tryz.prog 173 #[.string (str l), .string ⟨#[c]⟩] w fun e w' => e = .returned (.tuple #[.string (str l), .string ⟨#[]⟩, .bool false]) ∧ w = w' := by
  have HX := Lib.hid (idx_no h)
  clear h
  go_enter Tryz.func173, Tryz.ntmps173
  go_wp2_with (go_at_call 177; refine (Tryz.stringslite_Index_one _ _ _).mono ?_; rintro e w1 ⟨rfl, rfl⟩; rw [str_data, HX.out])
  go_ret3
  exact ⟨rfl, rfl⟩
set_option maxRecDepth 100000 in
set_option maxHeartbeats 1000000 in
theorem iCut_at (a r : List UInt8) (c : UInt8) (h : c ∉ a) (hs : a.length + r.length + 1 ≤ maxLen) (w : World) :
    Calls Tryz.prog 173 #[.string (str (a ++ c :: r)), .string ⟨#[c]⟩] w fun e w' => e = .returned (.tuple #[.string (str a), .string (str r), .bool true]) ∧ ∃ q, w' = w.drewN q := by
  unfold maxLen at hs
  obtain ⟨l, hl⟩ : ∃ l, l = a ++ c :: r := ⟨_, rfl⟩
  have HX := Lib.hid (show Lib.indexByte l c = (a.length : Int) from by rw [hl]; exact idx_at h)
  have hll : l.length = a.length + r.length + 1 := by rw [hl]; simp; omega
  have e1 : l.take a.length = a := by rw [hl, List.take_left]
  have e2 : l.drop (a.length + 1) = r := by rw [hl, List.drop_append]; simp [List.drop_eq_nil_of_le]
  rw [← hl]
  have E1 := Lib.hid e1
  have E2 := Lib.hid e2
  clear h hl e1 e2
  have j1 : (0 : Int) ≤ (a.length : Int) := by omega
  have j2 : (a.length : Int) ≤ (l.length : Int) := by omega
  have j3 : IntKind.i64.wrap ((a.length : Int) + 1) = (a.length : Int) + 1 := by rw [IntKind.wrap_i64]; omega
  have j4 : (a.length : Int) + 1 ≤ (l.length : Int) := by omega
  have j5 : ((a.length : Int) + 1).toNat = a.length + 1 := by omega
  have j6 : (0 : Int) ≤ (a.length : Int) + 1 := by omega
  clear hll hs
  go_enter Tryz.func173, Tryz.ntmps173
  go_wp2_with (go_at_call 177; refine (Tryz.stringslite_Index_one _ _ _).mono ?_; rintro e w1 ⟨rfl, rfl⟩; rw [str_data, HX.out])
  go_quiet (fail)
  go_wp2
  go_ret3
  refine ⟨ret_val ?_, _, rfl⟩
  show Value.tuple #[.string (str (l.take a.length)), .string (str (l.drop (a.length + 1))), .bool true] = _
  rw [E1.out, E2.out]
set_option maxRecDepth 100000 in
theorem Cut_no (l : List UInt8) (c : UInt8) (h : c ∉ l) (w : World) :
    Calls Tryz.prog 149 #[.string (str l), .string ⟨#[c]⟩] w fun e w' => e = .returned (.tuple #[.string (str l), .string ⟨#[]⟩, .bool false]) ∧ w = w' := by
  have HX := Lib.hid h
  clear h
  go_enter Tryz.func149, Tryz.ntmps149
  go_wp2_with (go_at_call 173; refine (iCut_no _ _ HX.out _).mono ?_; rintro e w1 ⟨rfl, rfl⟩)
  go_ret3
  exact ⟨rfl, rfl⟩
set_option maxRecDepth 100000 in
theorem Cut_at (a r : List UInt8) (c : UInt8) (h : c ∉ a) (hs : a.length + r.length + 1 ≤ maxLen) (w : World) :
    Calls Tryz.prog 149 #[.string (str (a ++ c :: r)), .string ⟨#[c]⟩] w fun e w' => e = .returned (.tuple #[.string (str a), .string (str r), .bool true]) ∧ ∃ q, w' = w.drewN q := by
  have HX := Lib.hid h
  have HS := Lib.hid hs
  obtain ⟨s, hs2⟩ : ∃ s, s = str (a ++ c :: r) := ⟨_, rfl⟩
  have CC := fun w => iCut_at a r c HX.out HS.out w
  rw [← hs2] at CC ⊢
  have CC := Lib.hid CC
  clear h hs hs2
  go_enter Tryz.func149, Tryz.ntmps149
  go_wp2_with (go_at_call 173; refine (CC.out _).mono ?_; rintro e w1 ⟨rfl, q, rfl⟩)
  go_ret3
  exact ⟨rfl, q, rfl⟩
theorem HasPrefix_c (l p : List UInt8) (b : Bool) (hb : Lib.hasPrefix l p = b) (w : World) :
    Calls Tryz.prog 148 #[.string (str l), .string ⟨p.toArray⟩] w fun e w' => e = .returned (.bool b) ∧ w = w' :=
  (Tryz.strings_HasPrefix _ _ w).mono fun e w' ⟨he, hw⟩ => ⟨by rw [he, ← hb]; rfl, hw.symm⟩
theorem IndexByteS_c (l : List UInt8) (k z : Int) (h : Lib.indexByte l k.toNat.toUInt8 = z) (w : World) :
    Calls Tryz.prog 104 #[.string (str l), .int .u8 k] w fun e w' => e = .returned (.int .i64 z) ∧ w = w' :=
  (Tryz.strings_IndexByte _ _ w).mono fun e w' ⟨he, hw⟩ => ⟨by rw [he, ← h]; rfl, hw.symm⟩
theorem pre_one (l : List UInt8) (c : UInt8) : Lib.hasPrefix l [c] = decide (l.head? = some c) := by
  cases l with
  | nil => simp [Lib.hasPrefix, List.isPrefixOf]
  | cons b l =>
    by_cases h : b = c
    · subst h; simp [Lib.hasPrefix, List.isPrefixOf]
    · have h2 : (c == b) = false := by rw [beq_eq_false_iff_ne]; exact fun e => h e.symm
      simp [Lib.hasPrefix, List.isPrefixOf, h, h2]
theorem pre_yes {l : List UInt8} {c : UInt8} (h : l.head? = some c) : Lib.hasPrefix l [c] = true := by rw [pre_one]; simp [h]
theorem pre_no {l : List UInt8} {c : UInt8} (h : ¬ l.head? = some c) : Lib.hasPrefix l [c] = false := by rw [pre_one]; simp [h]
theorem idx_yes {l : List UInt8} {c : UInt8} (h : c ∈ l) : ∃ z : Int, Lib.indexByte l c = z ∧ 0 ≤ z := by
  refine ⟨_, rfl, ?_⟩
  have g1 := Lib.indexByte_ge l c
  refine Classical.byContradiction fun h0 => ?_
  have e : Lib.indexByte l c = -1 := by omega
  obtain ⟨j, hj, hj2⟩ := List.getElem_of_mem h
  exact Lib.indexByte_none e j (by rw [List.getElem?_eq_getElem hj, hj2])
end Go.Proofs.YtmnohicojefhfaaGreatDoor
