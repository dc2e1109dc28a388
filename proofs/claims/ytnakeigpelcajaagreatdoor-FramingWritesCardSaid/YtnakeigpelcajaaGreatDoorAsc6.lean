/-
Values of fields: the program's and the reference's.
-/
import Derived.Test.YtnakeigpelcajaaGreatDoorAsc5
set_option linter.unusedVariables false
set_option linter.unusedSimpArgs false
namespace Go.Proofs.YtnakeigpelcajaaGreatDoor
open Go.RowKit

@[simp] theorem str_tl (l : List UInt8) : (str l).toList = l := by rw [ByteArray.toList_eq]; rfl
/-- No blank at the ends. -/
def endsB (l : List UInt8) : Bool := match l with
  | [] => true
  | b :: t => !blk b && !blk ((b :: t).getLast (List.cons_ne_nil _ _))
theorem last_snoc (b : UInt8) (m : List UInt8) (b2 : UInt8) : ∀ h, (b :: (m ++ [b2])).getLast h = b2 := by
  intro h
  rw [List.getLast_eq_getElem]
  simp
theorem trim_ends (l : List UInt8) : (trimL l == l) = endsB l := by
  rw [trimL_eq, Bool.eq_iff_iff, beq_iff_eq]
  rcases nil_or_snoc l with rfl | ⟨t, b2, rfl⟩
  · simp [endsB]
  · cases t with
    | nil =>
      simp only [List.nil_append, endsB, List.getLast_singleton]
      by_cases h : blk b2 = true <;> simp [List.dropWhile, h]
    | cons b m =>
      simp only [List.cons_append, endsB]
      have hl := last_snoc b m b2 (List.cons_ne_nil _ _)
      rw [hl]
      by_cases h : blk b = true
      · rw [List.dropWhile_cons_of_pos h]
        simp only [h, Bool.not_true, Bool.false_and, Bool.false_eq_true, iff_false]
        intro he
        have h1 := congrArg List.length he
        have h2 : ∀ (p : UInt8 → Bool) (x : List UInt8), (x.dropWhile p).length ≤ x.length := fun p x => (List.dropWhile_suffix p).length_le
        have h3 := h2 blk (List.dropWhile blk (m ++ [b2])).reverse
        have h4 := h2 blk (m ++ [b2])
        simp only [List.length_reverse, List.length_cons] at h1 h3
        omega
      · rw [List.dropWhile_cons_of_neg h]
        have e : (b :: (m ++ [b2])).reverse = b2 :: (m.reverse ++ [b]) := by simp
        rw [e]
        by_cases h' : blk b2 = true
        · rw [List.dropWhile_cons_of_pos h']
          simp only [h', Bool.not_true, Bool.and_false, Bool.false_eq_true, iff_false]
          intro he
          have h1 := congrArg List.length he
          have h3 := (List.dropWhile_suffix (l := m.reverse ++ [b]) blk).length_le
          simp only [List.length_reverse, List.length_cons, List.length_append, List.length_nil] at h1 h3
          omega
        · rw [List.dropWhile_cons_of_neg h']
          simp [h, h']

set_option maxRecDepth 100000 in
theorem Value_c (l : List UInt8) (hs : l.length ≤ maxLen) (w : World) :
    Calls Tryz.prog 13 #[.string (str l)] w (Gives (.bool ((l.all fun b => valB b.toNat) && endsB l)) w) := by
  have e : (l.all fun b => valB b.toNat) = ((str l).data.toList.all fun b => hasB 2 b.toNat) := by rfl
  rw [e, ← trim_ends]
  generalize hA : ((str l).data.toList.all fun b => hasB 2 b.toNat) = A
  have HA := Lib.hid hA
  clear hA e
  cases A with
  | true =>
    go_enter Tryz.func13, Tryz.ntmps13
    go_wp2_with (first
      | (go_at_call 21; refine (all_c (str l) 2 (.inr (.inl rfl)) (by rw [str_size]; exact hs) _).mono ?_; rintro e w1 ⟨rfl, hx⟩; rw [HA.out])
      | (go_at_call 22; refine (Trim_c l hs _).mono ?_; rintro e w1 ⟨rfl, hx2⟩))
    go_ret
    exact ⟨ret_bool (by simp), by (repeat (first | exact Ext.rfl' _ | assumption | refine Ext.dr ?_ | refine Ext.al ?_ _ | refine Ext.st ?_ (by simp) _ | refine Ext.tr ?_ (by assumption)))⟩
  | false =>
    go_enter Tryz.func13, Tryz.ntmps13
    go_wp2_with (first
      | (go_at_call 21; refine (all_c (str l) 2 (.inr (.inl rfl)) (by rw [str_size]; exact hs) _).mono ?_; rintro e w1 ⟨rfl, hx⟩; rw [HA.out])
      | (go_at_call 22; refine (Trim_c l hs _).mono ?_; rintro e w1 ⟨rfl, hx2⟩))
    go_ret
    exact ⟨rfl, by (repeat (first | exact Ext.rfl' _ | assumption | refine Ext.dr ?_ | refine Ext.al ?_ _ | refine Ext.st ?_ (by simp) _ | refine Ext.tr ?_ (by assumption)))⟩

theorem shape3 (l : List UInt8) : l = [] ∨ (∃ b, l = [b]) ∨ ∃ b m b2, l = b :: (m ++ [b2]) := by
  cases l with
  | nil => exact .inl rfl
  | cons b t =>
    rcases nil_or_snoc t with rfl | ⟨m, b2, rfl⟩
    · exact .inr (.inl ⟨b, rfl⟩)
    · exact .inr (.inr ⟨b, m, b2, rfl⟩)
theorem val_cases : ∀ c, c < 256 → (valB c = true ∧ (c = 9 ∨ (32 ≤ c ∧ c ≠ 127 ∧ c ≠ 9))) ∨ (valB c = false ∧ ((c < 32 ∧ c ≠ 9) ∨ c = 127)) := by decide +kernel
set_option maxRecDepth 100000 in
set_option maxHeartbeats 2000000 in
theorem rValue_c (l : List UInt8) (hs : l.length ≤ maxLen) (w : World) :
    Calls Tryz.prog 15 #[.string (str l)] w (Gives (.bool ((l.all fun b => valB b.toNat) && endsB l)) w) := by
  unfold maxLen at hs
  go_enter Tryz.func15, Tryz.ntmps15
  go_wp2
  go_loopw [3] (fun i wr => ∃ k : Nat, k ≤ l.length ∧ i = .int .i64 k ∧ ((l.take k).all fun b => valB b.toNat) = true ∧ w = wr) (fun i _ => l.length - (intOf i).toNat)
  case atStart => exact ⟨0, Nat.zero_le _, rfl, rfl, rfl⟩
  case round =>
    obtain ⟨k, hk, rfl, hall, rfl⟩ := hrel
    have HA := Lib.hid hall
    clear hall
    by_cases hlt : k < l.length
    · have hsucc := all_take (str l) valB k (by simpa using hlt)
      rw [str_data, HA.out] at hsucc
      have hbt : l[k].toNat = bt (str l) k := by unfold bt; rw [str_data, gd _ _ _ hlt]
      rw [← hbt] at hsucc
      have HS := Lib.hid hsucc
      clear hsucc hbt
      have h256 := UInt8.toNat_lt l[k]
      rcases val_cases l[k].toNat h256 with ⟨hv, hp⟩ | ⟨hv, hp⟩
      · have HV := Lib.hid hv
        clear hv
        have b3 : ((l[k].toNat : Int) == 127) = false := by rw [beq_eq_false_iff_ne]; omega
        rcases hp with hp | ⟨hp1, hp2, hp3⟩
        · have b1 : ((l[k].toNat : Int) != 9) = false := by rw [hp]; rfl
          clear hp
          go_wp2
          go_roundw
          case rel => exact ⟨k + 1, by omega, by go_num, by rw [HS.out, HV.out]; rfl, by trivial⟩
          case measure => simp [intOf]; omega
        · have b1 : ((l[k].toNat : Int) != 9) = true := by rw [bne_iff_ne]; omega
          have b2 : ¬ ((l[k].toNat : Int) < 32) := by omega
          clear hp2 hp3
          go_wp2
          go_roundw
          case rel => exact ⟨k + 1, by omega, by go_num, by rw [HS.out, HV.out]; rfl, by trivial⟩
          case measure => simp [intOf]; omega
      · have hfin := all_false (str l) valB k (by simpa using hlt) (by unfold bt; rw [str_data, gd _ _ _ hlt]; exact hv)
        rw [str_data] at hfin
        have HF := Lib.hid hfin
        clear hfin hv
        have b1 : ((l[k].toNat : Int) != 9) = true := by rw [bne_iff_ne]; omega
        rcases hp with ⟨hp1, hp2⟩ | hp
        · have b2 : ((l[k].toNat : Int) < 32) := by omega
          clear hp2
          go_wp2
          go_ret
          exact ⟨ret_bool (by rw [HF.out]; rfl), Ext.rfl' _⟩
        · have b3 : ((l[k].toNat : Int) == 127) = true := by rw [hp]; rfl
          have b2 : ¬ ((l[k].toNat : Int) < 32) := by omega
          clear hp
          go_wp2
          go_ret
          exact ⟨ret_bool (by rw [HF.out]; rfl), Ext.rfl' _⟩
    · obtain rfl : k = l.length := by omega
      rw [List.take_of_length_le (Nat.le_refl _)] at HA
      rcases shape3 l with rfl | ⟨b, rfl⟩ | ⟨b, m, b2, rfl⟩
      · go_wp2
        go_ret
        exact ⟨ret_bool (by rw [HA.out]; rfl), Ext.rfl' _⟩
      · have e : endsB [b] = !blkB b.toNat := by simp [endsB, blk]
        rw [← Bool.true_and (endsB _)] at e
        rw [← HA.out] at e
        have HE := Lib.hid e
        clear e
        cases hv : blkB b.toNat with
        | true =>
          go_wp2_with (go_at_call 24; refine (blank_c _ _).mono ?_; rintro e w1 ⟨rfl, rfl⟩)
          go_ret
          exact ⟨ret_bool (by rw [HE.out, hv]; try simp; try omega), Ext.rfl' _⟩
        | false =>
          go_wp2_with (go_at_call 24; refine (blank_c _ _).mono ?_; rintro e w1 ⟨rfl, rfl⟩)
          go_ret
          exact ⟨ret_bool (by rw [HE.out, hv]; try simp; try omega), Ext.rfl' _⟩
      · have e : endsB (b :: (m ++ [b2])) = (!blkB b.toNat && !blkB b2.toNat) := by simp only [endsB, last_snoc, blk]
        rw [← Bool.true_and (endsB _)] at e
        rw [← HA.out] at e
        have HE := Lib.hid e
        clear e
        simp only [List.length_cons, List.length_append, List.length_nil] at hs ⊢
        cases hv : blkB b.toNat with
        | true =>
          go_wp2_with (go_at_call 24; refine (blank_c _ _).mono ?_; rintro e w1 ⟨rfl, rfl⟩)
          go_ret
          exact ⟨ret_bool (by rw [HE.out, hv]; try simp; try omega), Ext.rfl' _⟩
        | false =>
          go_wp2_with (go_at_call 24; refine (blank_c _ _).mono ?_; rintro e w1 ⟨rfl, rfl⟩)
          go_ret
          exact ⟨ret_bool (by rw [HE.out, hv]; try simp; try omega), Ext.rfl' _⟩
end Go.Proofs.YtnakeigpelcajaaGreatDoor
