/-
Values of fields: the program's and the reference's.
-/
import Derived.Test.YtemdgilifnhdpaaGreatDoorAsc5
set_option linter.unusedVariables false
set_option linter.unusedSimpArgs false
namespace Go.Proofs.YtemdgilifnhdpaaGreatDoor
open Go.RowKit

@[simp] theorem str_tl (l : List UInt8) : (str l).toList = l := by rw [ByteArray.toList_eq]; rfl
/-- No blank at the ends. -/
def endsB (l : List UInt8) : Bool := match l with
  | [] => true
  | b :: t => !blk b && !blk ((b :: t).getLast (List.cons_ne_nil _ _))
theorem last_snoc (b : UInt8) (m : List UInt8) (b2 : UInt8) : ∀ h, (b :: (m ++ [b2])).getLast h = b2 := by
  intro h
  rw [List.getLast_eq_getElem]
  simp
theorem trim_ends (l : List UInt8) : (trimL l == l) = endsB l := by
  rw [trimL_eq, Bool.eq_iff_iff, beq_iff_eq]
  rcases nil_or_snoc l with rfl | ⟨t, b2, rfl⟩
  · simp [endsB]
  · cases t with
    | nil =>
      simp only [List.nil_append, endsB, List.getLast_singleton]
      by_cases h : blk b2 = true <;> simp [List.dropWhile, h]
    | cons b m =>
      simp only [List.cons_append, endsB]
      have hl := last_snoc b m b2 (List.cons_ne_nil _ _)
      rw [hl]
      by_cases h : blk b = true
      · rw [List.dropWhile_cons_of_pos h]
        simp only [h, Bool.not_true, Bool.false_and, Bool.false_eq_true, iff_false]
        intro he
        have h1 := congrArg List.length he
        have h2 : ∀ (p : UInt8 → Bool) (x : List UInt8), (x.dropWhile p).length ≤ x.length := fun p x => (List.dropWhile_suffix p).length_le
        have h3 := h2 blk (List.dropWhile blk (m ++ [b2])).reverse
        have h4 := h2 blk (m ++ [b2])
        simp only [List.length_reverse, List.length_cons] at h1 h3
        omega
      · rw [List.dropWhile_cons_of_neg h]
        have e : (b :: (m ++ [b2])).reverse = b2 :: (m.reverse ++ [b]) := by simp
        rw [e]
        by_cases h' : blk b2 = true
        · rw [List.dropWhile_cons_of_pos h']
          simp only [h', Bool.not_true, Bool.and_false, Bool.false_eq_true, iff_false]
          intro he
          have h1 := congrArg List.length he
          have h3 := (List.dropWhile_suffix (l := m.reverse ++ [b]) blk).length_le
          simp only [List.length_reverse, List.length_cons, List.length_append, List.length_nil] at h1 h3
          omega
        · rw [List.dropWhile_cons_of_neg h']
          simp [h, h']

set_option maxRecDepth 100000 in
theorem Value_c (l : List UInt8) (hs : l.length ≤ maxLen) (w : World) :
    Calls Tryz.prog 113 #[.string (str l)] w (Gives (.bool ((l.all fun b => valB b.toNat) && endsB l)) w) := by
  have e : (l.all fun b => valB b.toNat) = ((str l).data.toList.all fun b => hasB 2 b.toNat) := by rfl
  rw [e, ← trim_ends]
  generalize hA : ((str l).data.toList.all fun b => hasB 2 b.toNat) = A
  have HA := Lib.hid hA
  clear hA e
  cases A with
  | true =>
    go_enter Tryz.func113, Tryz.ntmps113
    go_wp2_with (first
      | (go_at_call 149; refine (all_c (str l) 2 (.inr (.inl rfl)) (by rw [str_size]; exact hs) _).mono ?_; rintro e w1 ⟨rfl, hx⟩; rw [HA.out])
      | (go_at_call 132; refine (Trim_c l hs _).mono ?_; rintro e w1 ⟨rfl, hx2⟩))
    go_ret
    exact ⟨ret_bool (by simp), by (repeat (first | exact Ext.rfl' _ | assumption | refine Ext.dr ?_ | refine Ext.al ?_ _ | refine Ext.st ?_ (by simp) _ | refine Ext.tr ?_ (by assumption)))⟩
  | false =>
    go_enter Tryz.func113, Tryz.ntmps113
    go_wp2_with (first
      | (go_at_call 149; refine (all_c (str l) 2 (.inr (.inl rfl)) (by rw [str_size]; exact hs) _).mono ?_; rintro e w1 ⟨rfl, hx⟩; rw [HA.out])
      | (go_at_call 132; refine (Trim_c l hs _).mono ?_; rintro e w1 ⟨rfl, hx2⟩))
    go_ret
    exact ⟨rfl, by (repeat (first | exact Ext.rfl' _ | assumption | refine Ext.dr ?_ | refine Ext.al ?_ _ | refine Ext.st ?_ (by simp) _ | refine Ext.tr ?_ (by assumption)))⟩

theorem shape3 (l : List UInt8) : l = [] ∨ (∃ b, l = [b]) ∨ ∃ b m b2, l = b :: (m ++ [b2]) := by
  cases l with
  | nil => exact .inl rfl
  | cons b t =>
    rcases nil_or_snoc t with rfl | ⟨m, b2, rfl⟩
    · exact .inr (.inl ⟨b, rfl⟩)
    · exact .inr (.inr ⟨b, m, b2, rfl⟩)
theorem val_cases : ∀ c, c < 256 → (valB c = true ∧ (c = 9 ∨ (32 ≤ c ∧ c ≠ 127 ∧ c ≠ 9))) ∨ (valB c = false ∧ ((c < 32 ∧ c ≠ 9) ∨ c = 127)) := by decide +kernel
end Go.Proofs.YtemdgilifnhdpaaGreatDoor
