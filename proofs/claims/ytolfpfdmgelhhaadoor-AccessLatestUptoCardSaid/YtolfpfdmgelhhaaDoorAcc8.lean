/-
The reference's Line.
-/
import Derived.Test.YtolfpfdmgelhhaaDoorAcc7
set_option linter.unusedVariables false
set_option linter.unusedSimpArgs false
namespace Go.Proofs.YtolfpfdmgelhhaaDoor
open Go.RowKit

set_option maxRecDepth 100000 in
theorem arIn_c (n : Int) (w : World) : Calls Tryd.prog 114 #[.int .i64 n] w fun e w' => e = .returned (.bool (decide (inN n))) ∧ w = w' := by
  by_cases c1 : 0 ≤ n
  · by_cases c2 : n ≤ 1000000000000000000
    · rw [decide_eq_true (show inN n from ⟨c1, c2⟩)]
      go_enter Tryd.func114, Tryd.ntmps114
      go_wp2
      go_ret
      exact ⟨rfl, rfl⟩
    · rw [decide_eq_false (show ¬ inN n from fun h => c2 h.2)]
      go_enter Tryd.func114, Tryd.ntmps114
      go_wp2
      go_ret
      exact ⟨rfl, rfl⟩
  · rw [decide_eq_false (show ¬ inN n from fun h => c1 h.1)]
    go_enter Tryd.func114, Tryd.ntmps114
    go_wp2
    go_ret
    exact ⟨rfl, rfl⟩
set_option maxRecDepth 100000 in
set_option maxHeartbeats 4000000 in
theorem arLine_bad (x : Ent) (hn : ¬ x.nums) (w : World) :
    Calls Tryd.prog 72 #[x.val] w (Gives (.tuple #[.string ⟨#[]⟩, .int .i64 1]) w) := by
  unfold Ent.val
  unfold Ent.cells
  obtain ⟨vt, ht⟩ : ∃ v, decide (inN x.t) = v := ⟨_, rfl⟩
  obtain ⟨vs, hs⟩ : ∃ v, decide (inN x.s) = v := ⟨_, rfl⟩
  obtain ⟨vb, hb⟩ : ∃ v, decide (inN x.b) = v := ⟨_, rfl⟩
  have hv : (vt && vs && vb) = false := by
    rw [← ht, ← hs, ← hb, Bool.eq_false_iff]
    intro h
    simp only [Bool.and_eq_true, decide_eq_true_eq] at h
    exact hn ⟨h.1.1, h.1.2, h.2⟩
  have HT := Lib.hid ht
  have HS := Lib.hid hs
  have HB := Lib.hid hb
  clear ht hs hb hn
  cases vt
  · clear hv
    go_enter Tryd.func72, Tryd.ntmps72
    go_wp2_with ((go_at_call 114; refine (arIn_c _ _).mono ?_; rintro e w1 ⟨rfl, rfl⟩; first | rw [HT.out] | rw [HS.out] | rw [HB.out]))
    go_ret2
    exact ⟨rfl, by (repeat (first | exact Ext.rfl' _ | assumption | refine Ext.dr ?_ | refine Ext.drN ?_ _ | refine Ext.al ?_ _ | refine Ext.st ?_ (by simp) _ | refine Ext.tr ?_ (by assumption)))⟩
  · cases vs
    · clear hv
      go_enter Tryd.func72, Tryd.ntmps72
      go_wp2_with ((go_at_call 114; refine (arIn_c _ _).mono ?_; rintro e w1 ⟨rfl, rfl⟩; first | rw [HT.out] | rw [HS.out] | rw [HB.out]))
      go_ret2
      exact ⟨rfl, by (repeat (first | exact Ext.rfl' _ | assumption | refine Ext.dr ?_ | refine Ext.drN ?_ _ | refine Ext.al ?_ _ | refine Ext.st ?_ (by simp) _ | refine Ext.tr ?_ (by assumption)))⟩
    · cases vb
      · clear hv
        go_enter Tryd.func72, Tryd.ntmps72
        go_wp2_with ((go_at_call 114; refine (arIn_c _ _).mono ?_; rintro e w1 ⟨rfl, rfl⟩; first | rw [HT.out] | rw [HS.out] | rw [HB.out]))
        go_ret2
        exact ⟨rfl, by (repeat (first | exact Ext.rfl' _ | assumption | refine Ext.dr ?_ | refine Ext.drN ?_ _ | refine Ext.al ?_ _ | refine Ext.st ?_ (by simp) _ | refine Ext.tr ?_ (by assumption)))⟩
      · cases hv
/-- What is written of the texts ahead. -/
def Ent.pre (x : Ent) : Nat → List UInt8
  | 0 => digL x.t
  | k + 1 => x.pre k ++ 32 :: (match k with | 0 => escL x.c | 1 => escL x.m | 2 => escL x.h | _ => escL x.g)
theorem line_eq (x : Ent) : joinW x.parts = x.pre 4 ++ 32 :: (digL x.s ++ 32 :: (digL x.b ++ 32 :: escL x.a)) := by
  simp [joinW, Ent.parts, Ent.pre]
theorem pre_len {x : Ent} (h : x.small) (hn : x.nums) : ∀ k, k ≤ 4 → (x.pre k).length ≤ 20 + k * 24578 := by
  intro k hk
  have h1 := esc_small h.1
  have h2 := esc_small h.2.1
  have h3 := esc_small h.2.2.1
  have h4 := esc_small h.2.2.2.1
  have n1 := dig_small _ hn.1
  have : k = 0 ∨ k = 1 ∨ k = 2 ∨ k = 3 ∨ k = 4 := by omega
  rcases this with rfl | rfl | rfl | rfl | rfl
  all_goals (simp only [Ent.pre, List.length_append, List.length_cons]; omega)
set_option maxRecDepth 100000 in
set_option maxHeartbeats 8000000 in
theorem arLine_good (x : Ent) (hwf : x.wf) (hn : x.nums) (w : World) :
    Calls Tryd.prog 72 #[x.val] w (Gives (.tuple #[.string (str (lineL x).1), .int .i64 (lineL x).2]) w) := by
  have HT := Lib.hid (decide_eq_true hn.1)
  have HS := Lib.hid (decide_eq_true hn.2.1)
  have HB := Lib.hid (decide_eq_true hn.2.2)
  have HN := Lib.hid hn
  have HW := Lib.hid hwf
  obtain ⟨RR, hRR⟩ : ∃ RR, RR = lineL x := ⟨_, rfl⟩
  rw [← hRR]
  have HRR := Lib.hid hRR
  clear hn hwf hRR
  unfold Ent.val
  unfold Ent.cells
  go_enter Tryd.func72, Tryd.ntmps72
  go_wp2_with ((go_at_call 114; refine (arIn_c _ _).mono ?_; rintro e w1 ⟨rfl, rfl⟩; first | rw [HT.out] | rw [HS.out] | rw [HB.out]))
  obtain ⟨W1, hW1⟩ : ∃ W1, W1 = (w.alloc (.cells #[.int .i64 x.t, .string (str x.c), .string (str x.m), .string (str x.h), .string (str x.g), .int .i64 x.s, .int .i64 x.b, .string (str x.a)] 41)).alloc (.cells #[.string (str x.c), .string (str x.m), .string (str x.h), .string (str x.g), .string (str x.a)] 9) := ⟨_, rfl⟩
  rw [← hW1]
  have HE1 := Lib.hid (show W1.heap[w.heap.size]? = some (.cells x.cells 41 (0, 0)) by rw [hW1]; exact hp_al (heap_alloc_new w _))
  have HS5 := Lib.hid (show W1.heap[w.heap.size + 1]? = some (.cells #[.string (str x.c), .string (str x.m), .string (str x.h), .string (str x.g), .string (str x.a)] 9 (0, 0)) by rw [hW1]; exact hp_new (by simp) _)
  have hx1 : Ext w W1 := by rw [hW1]; (repeat (first | exact Ext.rfl' _ | assumption | refine Ext.dr ?_ | refine Ext.drN ?_ _ | refine Ext.al ?_ _ | refine Ext.st ?_ (by simp) _ | refine Ext.tr ?_ (by assumption)))
  clear hW1
  go_loopw [5] (fun sv wr => ∃ (k : Nat) (z : Int), sv = .int .i64 z ∧ z = (k : Int) ∧ k ≤ 5 ∧ W1 = wr ∧ ((0 < k → x.c.length ≤ 8192) ∧ (1 < k → x.m.length ≤ 8192) ∧ (2 < k → x.h.length ≤ 8192) ∧ (3 < k → x.g.length ≤ 8192) ∧ (4 < k → x.a.length ≤ 8192))) (fun sv _ => 5 - (intOf sv).toNat)
  case atStart => exact ⟨0, 0, rfl, rfl, by omega, rfl, by omega, by omega, by omega, by omega, by omega⟩
  case round =>
    obtain ⟨k, z, rfl, hz, hk, rfl, hok⟩ := hrel
    have hk6 : k = 0 ∨ k = 1 ∨ k = 2 ∨ k = 3 ∨ k = 4 ∨ k = 5 := by omega
    clear hk
    rcases hk6 with rfl | rfl | rfl | rfl | rfl | rfl
    · obtain rfl : z = 0 := hz
      have hc : W1.cell? ⟨w.heap.size + 1, 0, none⟩ = some (.string (str x.c)) := cell_hp HS5.out rfl
      by_cases hs : (x.c).length ≤ 8192
      · have d1 : ¬ (8192 : Int) < ((x.c).length : Int) := by omega
        go_wp2
        go_roundw
        case rel => exact ⟨0 + 1, 0 + 1, rfl, by omega, by omega, by trivial, ⟨fun _ => hs, by omega, by omega, by omega, by omega⟩⟩
        case measure => simp [intOf]
      · have d1 : (8192 : Int) < ((x.c).length : Int) := by omega
        have HV := Lib.hid (show RR = ([], 6) by rw [HRR.out]; unfold lineL; rw [if_pos HN.out, if_neg (fun h => hs (h.1))])
        go_wp2
        go_ret2
        exact ⟨ret_val (by rw [HV.out]; rfl), by (repeat (first | exact Ext.rfl' _ | assumption | refine Ext.dr ?_ | refine Ext.drN ?_ _ | refine Ext.al ?_ _ | refine Ext.st ?_ (by simp) _ | refine Ext.tr ?_ (by assumption)))⟩
    · obtain rfl : z = 1 := hz
      have hc : W1.cell? ⟨w.heap.size + 1, 1, none⟩ = some (.string (str x.m)) := cell_hp HS5.out rfl
      by_cases hs : (x.m).length ≤ 8192
      · have d1 : ¬ (8192 : Int) < ((x.m).length : Int) := by omega
        go_wp2
        go_roundw
        case rel => exact ⟨1 + 1, 1 + 1, rfl, by omega, by omega, by trivial, ⟨fun _ => hok.1 (by omega), fun _ => hs, by omega, by omega, by omega⟩⟩
        case measure => simp [intOf]
      · have d1 : (8192 : Int) < ((x.m).length : Int) := by omega
        have HV := Lib.hid (show RR = ([], 6) by rw [HRR.out]; unfold lineL; rw [if_pos HN.out, if_neg (fun h => hs (h.2.1))])
        go_wp2
        go_ret2
        exact ⟨ret_val (by rw [HV.out]; rfl), by (repeat (first | exact Ext.rfl' _ | assumption | refine Ext.dr ?_ | refine Ext.drN ?_ _ | refine Ext.al ?_ _ | refine Ext.st ?_ (by simp) _ | refine Ext.tr ?_ (by assumption)))⟩
    · obtain rfl : z = 2 := hz
      have hc : W1.cell? ⟨w.heap.size + 1, 2, none⟩ = some (.string (str x.h)) := cell_hp HS5.out rfl
      by_cases hs : (x.h).length ≤ 8192
      · have d1 : ¬ (8192 : Int) < ((x.h).length : Int) := by omega
        go_wp2
        go_roundw
        case rel => exact ⟨2 + 1, 2 + 1, rfl, by omega, by omega, by trivial, ⟨fun _ => hok.1 (by omega), fun _ => hok.2.1 (by omega), fun _ => hs, by omega, by omega⟩⟩
        case measure => simp [intOf]
      · have d1 : (8192 : Int) < ((x.h).length : Int) := by omega
        have HV := Lib.hid (show RR = ([], 6) by rw [HRR.out]; unfold lineL; rw [if_pos HN.out, if_neg (fun h => hs (h.2.2.1))])
        go_wp2
        go_ret2
        exact ⟨ret_val (by rw [HV.out]; rfl), by (repeat (first | exact Ext.rfl' _ | assumption | refine Ext.dr ?_ | refine Ext.drN ?_ _ | refine Ext.al ?_ _ | refine Ext.st ?_ (by simp) _ | refine Ext.tr ?_ (by assumption)))⟩
    · obtain rfl : z = 3 := hz
      have hc : W1.cell? ⟨w.heap.size + 1, 3, none⟩ = some (.string (str x.g)) := cell_hp HS5.out rfl
      by_cases hs : (x.g).length ≤ 8192
      · have d1 : ¬ (8192 : Int) < ((x.g).length : Int) := by omega
        go_wp2
        go_roundw
        case rel => exact ⟨3 + 1, 3 + 1, rfl, by omega, by omega, by trivial, ⟨fun _ => hok.1 (by omega), fun _ => hok.2.1 (by omega), fun _ => hok.2.2.1 (by omega), fun _ => hs, by omega⟩⟩
        case measure => simp [intOf]
      · have d1 : (8192 : Int) < ((x.g).length : Int) := by omega
        have HV := Lib.hid (show RR = ([], 6) by rw [HRR.out]; unfold lineL; rw [if_pos HN.out, if_neg (fun h => hs (h.2.2.2.1))])
        go_wp2
        go_ret2
        exact ⟨ret_val (by rw [HV.out]; rfl), by (repeat (first | exact Ext.rfl' _ | assumption | refine Ext.dr ?_ | refine Ext.drN ?_ _ | refine Ext.al ?_ _ | refine Ext.st ?_ (by simp) _ | refine Ext.tr ?_ (by assumption)))⟩
    · obtain rfl : z = 4 := hz
      have hc : W1.cell? ⟨w.heap.size + 1, 4, none⟩ = some (.string (str x.a)) := cell_hp HS5.out rfl
      by_cases hs : (x.a).length ≤ 8192
      · have d1 : ¬ (8192 : Int) < ((x.a).length : Int) := by omega
        go_wp2
        go_roundw
        case rel => exact ⟨4 + 1, 4 + 1, rfl, by omega, by omega, by trivial, ⟨fun _ => hok.1 (by omega), fun _ => hok.2.1 (by omega), fun _ => hok.2.2.1 (by omega), fun _ => hok.2.2.2.1 (by omega), fun _ => hs⟩⟩
        case measure => simp [intOf]
      · have d1 : (8192 : Int) < ((x.a).length : Int) := by omega
        have HV := Lib.hid (show RR = ([], 6) by rw [HRR.out]; unfold lineL; rw [if_pos HN.out, if_neg (fun h => hs (h.2.2.2.2))])
        go_wp2
        go_ret2
        exact ⟨ret_val (by rw [HV.out]; rfl), by (repeat (first | exact Ext.rfl' _ | assumption | refine Ext.dr ?_ | refine Ext.drN ?_ _ | refine Ext.al ?_ _ | refine Ext.st ?_ (by simp) _ | refine Ext.tr ?_ (by assumption)))⟩
    · obtain rfl : z = 5 := hz
      have HSM := Lib.hid (show x.small from ⟨hok.1 (by omega), hok.2.1 (by omega), hok.2.2.1 (by omega), hok.2.2.2.1 (by omega), hok.2.2.2.2 (by omega)⟩)
      clear hok
      have k0 := cell_hp (j := 0) HE1.out rfl
      have DT := Lib.hid (fun w' => rDigits_c x.t w' HW.out.1.1 HW.out.1.2)
      rw [← digL_str] at DT
      go_wp2_with (go_at_call 65; refine (DT.out _).mono ?_; rintro e w2 ⟨rfl, hx2⟩)
      go_loopw [6, 7] (fun s sv wr => ∃ (k : Nat) (z : Int), sv = .int .i64 z ∧ z = (k : Int) ∧ k ≤ 4 ∧ s = .string (str (x.pre k)) ∧ Ext W1 wr) (fun _ sv _ => 4 - (intOf sv).toNat)
      case atStart => exact ⟨0, 0, rfl, rfl, by omega, rfl, hx2⟩
      case round =>
        obtain ⟨k, z, rfl, hz, hk, rfl, hxr⟩ := hrel
        have hk5 : k = 0 ∨ k = 1 ∨ k = 2 ∨ k = 3 ∨ k = 4 := by omega
        clear hk
        rcases hk5 with rfl | rfl | rfl | rfl | rfl
        · obtain rfl : z = 0 := hz
          have hc : wr.cell? ⟨w.heap.size + 1, 0, none⟩ = some (.string (str x.c)) := cell_hp (hp_ext hxr HS5.out) rfl
          have CE := Lib.hid (fun w' => arEscaped_c x.c (by have := HSM.out; unfold Ent.small at this; omega) w')
          have hl1 := pre_len HSM.out HN.out 0 (by omega)
          have hl2 := escL_len x.c
          have hl3 : (x.c).length ≤ 8192 := by have := HSM.out; unfold Ent.small at this; omega
          obtain ⟨s0, hs0⟩ : ∃ s, s = str (x.pre 0) := ⟨_, rfl⟩
          obtain ⟨s1, hs1⟩ : ∃ s, s = str (x.pre 0 ++ [32]) := ⟨_, rfl⟩
          obtain ⟨s2, hs2⟩ : ∃ s, s = str (escL x.c) := ⟨_, rfl⟩
          obtain ⟨s3, hs3⟩ : ∃ s, s = str (x.pre (0 + 1)) := ⟨_, rfl⟩
          have cc1 : ∀ w, (Op.stringOp .add s0 ⟨#[32]⟩).run Tryd.prog w = .ok (.string s1) w := fun w => by
            rw [hs0, hs1, cat_ok _ _ (by rw [str_size]; show _ + 1 ≤ _; omega)]; simp
          have cc2 : ∀ w, (Op.stringOp .add s1 s2).run Tryd.prog w = .ok (.string s3) w := fun w => by
            rw [hs1, hs2, hs3, cat_ok _ _ (by rw [str_size, str_size, List.length_append]; show _ + 1 + _ ≤ _; omega)]; simp [Ent.pre]
          rw [← hs2] at CE
          rw [← hs0]
          have HS3 := Lib.hid hs3
          clear hs0 hs1 hs2 hs3 hl1 hl2 hl3
          go_wp2_with (go_at_call 115; refine (CE.out _).mono ?_; rintro e w4 ⟨rfl, hx4⟩)
          go_roundw
          case rel => exact ⟨0 + 1, 0 + 1, rfl, by omega, by omega, by rw [HS3.out], by (repeat (first | exact Ext.rfl' _ | assumption | refine Ext.dr ?_ | refine Ext.drN ?_ _ | refine Ext.al ?_ _ | refine Ext.st ?_ (by simp) _ | refine Ext.tr ?_ (by assumption)))⟩
          case measure => simp [intOf]
        · obtain rfl : z = 1 := hz
          have hc : wr.cell? ⟨w.heap.size + 1, 1, none⟩ = some (.string (str x.m)) := cell_hp (hp_ext hxr HS5.out) rfl
          have CE := Lib.hid (fun w' => arEscaped_c x.m (by have := HSM.out; unfold Ent.small at this; omega) w')
          have hl1 := pre_len HSM.out HN.out 1 (by omega)
          have hl2 := escL_len x.m
          have hl3 : (x.m).length ≤ 8192 := by have := HSM.out; unfold Ent.small at this; omega
          obtain ⟨s0, hs0⟩ : ∃ s, s = str (x.pre 1) := ⟨_, rfl⟩
          obtain ⟨s1, hs1⟩ : ∃ s, s = str (x.pre 1 ++ [32]) := ⟨_, rfl⟩
          obtain ⟨s2, hs2⟩ : ∃ s, s = str (escL x.m) := ⟨_, rfl⟩
          obtain ⟨s3, hs3⟩ : ∃ s, s = str (x.pre (1 + 1)) := ⟨_, rfl⟩
          have cc1 : ∀ w, (Op.stringOp .add s0 ⟨#[32]⟩).run Tryd.prog w = .ok (.string s1) w := fun w => by
            rw [hs0, hs1, cat_ok _ _ (by rw [str_size]; show _ + 1 ≤ _; omega)]; simp
          have cc2 : ∀ w, (Op.stringOp .add s1 s2).run Tryd.prog w = .ok (.string s3) w := fun w => by
            rw [hs1, hs2, hs3, cat_ok _ _ (by rw [str_size, str_size, List.length_append]; show _ + 1 + _ ≤ _; omega)]; simp [Ent.pre]
          rw [← hs2] at CE
          rw [← hs0]
          have HS3 := Lib.hid hs3
          clear hs0 hs1 hs2 hs3 hl1 hl2 hl3
          go_wp2_with (go_at_call 115; refine (CE.out _).mono ?_; rintro e w4 ⟨rfl, hx4⟩)
          go_roundw
          case rel => exact ⟨1 + 1, 1 + 1, rfl, by omega, by omega, by rw [HS3.out], by (repeat (first | exact Ext.rfl' _ | assumption | refine Ext.dr ?_ | refine Ext.drN ?_ _ | refine Ext.al ?_ _ | refine Ext.st ?_ (by simp) _ | refine Ext.tr ?_ (by assumption)))⟩
          case measure => simp [intOf]
        · obtain rfl : z = 2 := hz
          have hc : wr.cell? ⟨w.heap.size + 1, 2, none⟩ = some (.string (str x.h)) := cell_hp (hp_ext hxr HS5.out) rfl
          have CE := Lib.hid (fun w' => arEscaped_c x.h (by have := HSM.out; unfold Ent.small at this; omega) w')
          have hl1 := pre_len HSM.out HN.out 2 (by omega)
          have hl2 := escL_len x.h
          have hl3 : (x.h).length ≤ 8192 := by have := HSM.out; unfold Ent.small at this; omega
          obtain ⟨s0, hs0⟩ : ∃ s, s = str (x.pre 2) := ⟨_, rfl⟩
          obtain ⟨s1, hs1⟩ : ∃ s, s = str (x.pre 2 ++ [32]) := ⟨_, rfl⟩
          obtain ⟨s2, hs2⟩ : ∃ s, s = str (escL x.h) := ⟨_, rfl⟩
          obtain ⟨s3, hs3⟩ : ∃ s, s = str (x.pre (2 + 1)) := ⟨_, rfl⟩
          have cc1 : ∀ w, (Op.stringOp .add s0 ⟨#[32]⟩).run Tryd.prog w = .ok (.string s1) w := fun w => by
            rw [hs0, hs1, cat_ok _ _ (by rw [str_size]; show _ + 1 ≤ _; omega)]; simp
          have cc2 : ∀ w, (Op.stringOp .add s1 s2).run Tryd.prog w = .ok (.string s3) w := fun w => by
            rw [hs1, hs2, hs3, cat_ok _ _ (by rw [str_size, str_size, List.length_append]; show _ + 1 + _ ≤ _; omega)]; simp [Ent.pre]
          rw [← hs2] at CE
          rw [← hs0]
          have HS3 := Lib.hid hs3
          clear hs0 hs1 hs2 hs3 hl1 hl2 hl3
          go_wp2_with (go_at_call 115; refine (CE.out _).mono ?_; rintro e w4 ⟨rfl, hx4⟩)
          go_roundw
          case rel => exact ⟨2 + 1, 2 + 1, rfl, by omega, by omega, by rw [HS3.out], by (repeat (first | exact Ext.rfl' _ | assumption | refine Ext.dr ?_ | refine Ext.drN ?_ _ | refine Ext.al ?_ _ | refine Ext.st ?_ (by simp) _ | refine Ext.tr ?_ (by assumption)))⟩
          case measure => simp [intOf]
        · obtain rfl : z = 3 := hz
          have hc : wr.cell? ⟨w.heap.size + 1, 3, none⟩ = some (.string (str x.g)) := cell_hp (hp_ext hxr HS5.out) rfl
          have CE := Lib.hid (fun w' => arEscaped_c x.g (by have := HSM.out; unfold Ent.small at this; omega) w')
          have hl1 := pre_len HSM.out HN.out 3 (by omega)
          have hl2 := escL_len x.g
          have hl3 : (x.g).length ≤ 8192 := by have := HSM.out; unfold Ent.small at this; omega
          obtain ⟨s0, hs0⟩ : ∃ s, s = str (x.pre 3) := ⟨_, rfl⟩
          obtain ⟨s1, hs1⟩ : ∃ s, s = str (x.pre 3 ++ [32]) := ⟨_, rfl⟩
          obtain ⟨s2, hs2⟩ : ∃ s, s = str (escL x.g) := ⟨_, rfl⟩
          obtain ⟨s3, hs3⟩ : ∃ s, s = str (x.pre (3 + 1)) := ⟨_, rfl⟩
          have cc1 : ∀ w, (Op.stringOp .add s0 ⟨#[32]⟩).run Tryd.prog w = .ok (.string s1) w := fun w => by
            rw [hs0, hs1, cat_ok _ _ (by rw [str_size]; show _ + 1 ≤ _; omega)]; simp
          have cc2 : ∀ w, (Op.stringOp .add s1 s2).run Tryd.prog w = .ok (.string s3) w := fun w => by
            rw [hs1, hs2, hs3, cat_ok _ _ (by rw [str_size, str_size, List.length_append]; show _ + 1 + _ ≤ _; omega)]; simp [Ent.pre]
          rw [← hs2] at CE
          rw [← hs0]
          have HS3 := Lib.hid hs3
          clear hs0 hs1 hs2 hs3 hl1 hl2 hl3
          go_wp2_with (go_at_call 115; refine (CE.out _).mono ?_; rintro e w4 ⟨rfl, hx4⟩)
          go_roundw
          case rel => exact ⟨3 + 1, 3 + 1, rfl, by omega, by omega, by rw [HS3.out], by (repeat (first | exact Ext.rfl' _ | assumption | refine Ext.dr ?_ | refine Ext.drN ?_ _ | refine Ext.al ?_ _ | refine Ext.st ?_ (by simp) _ | refine Ext.tr ?_ (by assumption)))⟩
          case measure => simp [intOf]
        · obtain rfl : z = 4 := hz
          have hE2 := hp_ext hxr HE1.out
          have hks := Lib.hid (fun w' (e : Ext wr w') => (show w'.cell? ⟨w.heap.size, 5, none⟩ = some (.int .i64 x.s) ∧ w'.cell? ⟨w.heap.size, 6, none⟩ = some (.int .i64 x.b) ∧ w'.cell? ⟨w.heap.size, 7, none⟩ = some (.string (str x.a)) from ⟨cell_hp (hp_ext e hE2) rfl, cell_hp (hp_ext e hE2) rfl, cell_hp (hp_ext e hE2) rfl⟩))
          have s0 := HW.out.2.1.1
          have s1 := HW.out.2.1.2
          have b0 := HW.out.2.2.1
          have b1 := HW.out.2.2.2
          have hl1 := pre_len HSM.out HN.out 4 (by omega)
          have hl2 := esc_small HSM.out.2.2.2.2
          have hl3 := dig_small _ HN.out.2.1
          have hl4 := dig_small _ HN.out.2.2
          have CE := Lib.hid (fun w' => arEscaped_c x.a (by have := HSM.out.2.2.2.2; omega) w')
          obtain ⟨ds, hds⟩ : ∃ d, d = digL x.s := ⟨_, rfl⟩
          obtain ⟨db, hdb⟩ : ∃ d, d = digL x.b := ⟨_, rfl⟩
          obtain ⟨ea, hea⟩ : ∃ d, d = escL x.a := ⟨_, rfl⟩
          obtain ⟨p, hp⟩ : ∃ p, p = x.pre 4 := ⟨_, rfl⟩
          have hle := line_eq x
          have es : decB x.s = str ds := by rw [hds, digL_str]
          have eb : decB x.b = str db := by rw [hdb, digL_str]
          rw [← hds, ← hdb, ← hea, ← hp] at hle
          rw [← hds] at hl3
          rw [← hdb] at hl4
          rw [← hea] at hl2 CE
          rw [← hp] at hl1 ⊢
          obtain ⟨sa, hsa⟩ : ∃ s, s = str ds := ⟨_, rfl⟩
          obtain ⟨sb, hsb⟩ : ∃ s, s = str db := ⟨_, rfl⟩
          obtain ⟨se, hse⟩ : ∃ s, s = str ea := ⟨_, rfl⟩
          obtain ⟨u0, hu0⟩ : ∃ s, s = str p := ⟨_, rfl⟩
          obtain ⟨u1, hu1⟩ : ∃ s, s = str (p ++ [32]) := ⟨_, rfl⟩
          obtain ⟨u2, hu2⟩ : ∃ s, s = str (p ++ 32 :: ds) := ⟨_, rfl⟩
          obtain ⟨u3, hu3⟩ : ∃ s, s = str (p ++ 32 :: (ds ++ [32])) := ⟨_, rfl⟩
          obtain ⟨u4, hu4⟩ : ∃ s, s = str (p ++ 32 :: (ds ++ 32 :: db)) := ⟨_, rfl⟩
          obtain ⟨u5, hu5⟩ : ∃ s, s = str (p ++ 32 :: (ds ++ 32 :: (db ++ [32]))) := ⟨_, rfl⟩
          obtain ⟨u6, hu6⟩ : ∃ s, s = str (p ++ 32 :: (ds ++ 32 :: (db ++ 32 :: ea))) := ⟨_, rfl⟩
          have cc1 : ∀ w, (Op.stringOp .add u0 ⟨#[32]⟩).run Tryd.prog w = .ok (.string u1) w := fun w => by
            rw [hu0, hu1, cat_ok _ _ (by rw [str_size]; show _ + 1 ≤ _; omega)]; simp
          have cc2 : ∀ w, (Op.stringOp .add u1 sa).run Tryd.prog w = .ok (.string u2) w := fun w => by
            rw [hu1, hu2, hsa, cat_ok _ _ (by simp only [str_size, List.length_append, List.length_cons, List.length_nil]; omega)]; simp
          have cc3 : ∀ w, (Op.stringOp .add u2 ⟨#[32]⟩).run Tryd.prog w = .ok (.string u3) w := fun w => by
            rw [hu2, hu3, cat_ok _ _ (by simp only [str_size, List.length_append, List.length_cons, List.length_nil]; show _ + 1 ≤ _; omega)]; simp
          have cc4 : ∀ w, (Op.stringOp .add u3 sb).run Tryd.prog w = .ok (.string u4) w := fun w => by
            rw [hu3, hu4, hsb, cat_ok _ _ (by simp only [str_size, List.length_append, List.length_cons, List.length_nil]; omega)]; simp
          have cc5 : ∀ w, (Op.stringOp .add u4 ⟨#[32]⟩).run Tryd.prog w = .ok (.string u5) w := fun w => by
            rw [hu4, hu5, cat_ok _ _ (by simp only [str_size, List.length_append, List.length_cons, List.length_nil]; show _ + 1 ≤ _; omega)]; simp
          have cc6 : ∀ w, (Op.stringOp .add u5 se).run Tryd.prog w = .ok (.string u6) w := fun w => by
            rw [hu5, hu6, hse, cat_ok _ _ (by simp only [str_size, List.length_append, List.length_cons, List.length_nil]; omega)]; simp
          have HV := Lib.hid (show RR = (joinW x.parts, 0) by rw [HRR.out]; unfold lineL; rw [if_pos HN.out, if_pos HSM.out])
          have HU := Lib.hid (show u6 = str (joinW x.parts) by rw [hu6, hle])
          rw [← hsa] at es
          rw [← hsb] at eb
          have ES := Lib.hid es
          have EB := Lib.hid eb
          rw [← hse] at CE
          rw [← hu0]
          clear hsa hsb hse hu0 hu1 hu2 hu3 hu4 hu5 hu6 es eb hds hdb hea hp hle hl1 hl2 hl3 hl4 hE2
          go_wp2
          go_region_held3 (fun w' => w'.cell? ⟨w.heap.size, 5, none⟩ = some (.int .i64 x.s) ∧ w'.cell? ⟨w.heap.size, 6, none⟩ = some (.int .i64 x.b) ∧ w'.cell? ⟨w.heap.size, 7, none⟩ = some (.string (str x.a))) (exact hks.out _ (by (repeat (first | exact Ext.rfl' _ | assumption | refine Ext.dr ?_ | refine Ext.drN ?_ _ | refine Ext.al ?_ _ | refine Ext.st ?_ (by simp) _ | refine Ext.tr ?_ (by assumption))))) (first
            | (go_at_call 65; refine (rDigits_c _ _ (by assumption) (by assumption)).mono ?_; rintro e w4 ⟨rfl, hx4⟩; first | rw [ES.out] | rw [EB.out])
            | (go_at_call 115; refine (CE.out _).mono ?_; rintro e w5 ⟨rfl, hx5⟩))
          all_goals (
            go_wp2
            go_ret2
            exact ⟨ret_val (by rw [HV.out]; show Value.tuple #[.string u6, .int .i64 0] = _; rw [HU.out]), by (repeat (first | exact Ext.rfl' _ | assumption | refine Ext.dr ?_ | refine Ext.drN ?_ _ | refine Ext.al ?_ _ | refine Ext.st ?_ (by simp) _ | refine Ext.tr ?_ (by assumption)))⟩)
theorem arLine_c (x : Ent) (hwf : x.wf) (w : World) :
    Calls Tryd.prog 72 #[x.val] w (Gives (.tuple #[.string (str (lineL x).1), .int .i64 (lineL x).2]) w) := by
  by_cases hn : x.nums
  · exact arLine_good x hwf hn w
  · rw [show lineL x = ([], 1) by unfold lineL; rw [if_neg hn]]
    exact arLine_bad x hn w
end Go.Proofs.YtolfpfdmgelhhaaDoor
