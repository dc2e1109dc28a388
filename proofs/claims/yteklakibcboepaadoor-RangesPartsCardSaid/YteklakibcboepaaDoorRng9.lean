/-
The statement RangesParts: its walk.
-/
import Derived.Test.YteklakibcboepaaDoorRng7
namespace Go.Proofs.YteklakibcboepaaDoor
open Go.RowKit

theorem parts_cases (f l n : Int) (R : List (Int × Int) × Int) (hR : R = resolveL [(f, l)] n) :
    (∃ E, R = ([], E) ∧ ¬ E = 0) ∨ (0 ≤ n ∧ n ≤ 1048576 ∧ ∃ q1 q2, R = ([(q1, q2)], 0) ∧ 0 ≤ q1 ∧ q1 < q2 ∧ q2 ≤ n ∧
      ((f < 0 ∧ l ≤ n ∧ q1 = n - l ∧ q2 = n) ∨ (f < 0 ∧ n < l ∧ q1 = 0 ∧ q2 = n) ∨ (0 ≤ f ∧ l < 0 ∧ q1 = f ∧ q2 = n) ∨ (0 ≤ f ∧ 0 ≤ l ∧ l + 1 ≤ n ∧ q1 = f ∧ q2 = l + 1) ∨ (0 ≤ f ∧ 0 ≤ l ∧ n ≤ l ∧ q1 = f ∧ q2 = n))) := by
  subst hR
  unfold resolveL
  split
  · exact .inl ⟨_, rfl, by omega⟩
  · rename_i hb
    split
    · exact .inl ⟨_, rfl, by omega⟩
    · rename_i hall
      have hok : okS (f, l) = true := by simpa using hall
      have hk : keepP n [(f, l)] = if (partOf n (f, l)).1 < (partOf n (f, l)).2 then [partOf n (f, l)] else [] := by
        unfold keepP
        by_cases hc : (partOf n (f, l)).1 < (partOf n (f, l)).2 <;> simp [List.filter, hc]
      by_cases hc : (partOf n (f, l)).1 < (partOf n (f, l)).2
      · rw [if_pos hc] at hk
        have hbd := part_bd n (f, l) (by omega) hok hc
        rw [hk, if_neg (by simp), if_neg (by simp only [sumP, List.map_cons, List.map_nil, List.sum_cons, List.sum_nil]; omega)]
        refine .inr ⟨by omega, by omega, (partOf n (f, l)).1, (partOf n (f, l)).2, rfl, hbd.1, hc, hbd.2, ?_⟩
        rcases okS_of hok with hh | hh | hh
        · have e : partOf n (f, l) = (f, min n (l + 1)) := by unfold partOf; rw [if_neg (by omega), if_neg (by omega)]
          rw [e] at hc ⊢
          simp only at hc ⊢
          by_cases hln : l + 1 ≤ n
          · exact .inr (.inr (.inr (.inl ⟨by omega, by omega, by omega, trivial, by omega⟩)))
          · exact .inr (.inr (.inr (.inr ⟨by omega, by omega, by omega, trivial, by omega⟩)))
        · have e : partOf n (f, l) = (f, n) := by unfold partOf; rw [if_neg (by omega), if_pos (by omega)]
          rw [e] at hc ⊢
          exact .inr (.inr (.inl ⟨by omega, by omega, rfl, rfl⟩))
        · have e : partOf n (f, l) = (n - min n l, n) := by unfold partOf; rw [if_pos (by omega)]
          rw [e] at hc ⊢
          simp only at hc ⊢
          by_cases hln : l ≤ n
          · exact .inl ⟨by omega, by omega, by omega, trivial⟩
          · exact .inr (.inl ⟨by omega, by omega, by omega, trivial⟩)
      · rw [if_neg hc] at hk
        rw [hk, if_pos rfl]
        exact .inl ⟨_, rfl, by omega⟩

set_option maxRecDepth 100000 in
set_option maxHeartbeats 2000000 in
theorem RangesParts_w (w : World) (hp : Pow w) (f l n : Int) (f0 : -9223372036854775808 ≤ f) (f1 : f ≤ 9223372036854775807) (l0 : -9223372036854775808 ≤ l) (l1 : l ≤ 9223372036854775807) (n0 : -9223372036854775808 ≤ n) (n1 : n ≤ 9223372036854775807) :
    Calls Tryd.prog 4 #[.int .i64 f, .int .i64 l, .int .i64 n] w (Gives (.bool true) w) := by
  have HP := Lib.hid hp
  clear hp
  obtain ⟨R, hR⟩ : ∃ R, R = resolveL [(f, l)] n := ⟨_, rfl⟩
  have hc := parts_cases f l n R hR
  have HR := Lib.hid hR
  clear hR
  go_enter Tryd.func4, Tryd.ntmps4
  go_wp2_with fail
  refine (Resolve_c _ _ 1 1 [(f, l)] n rfl (by simp [maxLen]) (.inr ⟨_, _, rfl, fun j u hj => by rw [Nat.zero_add]; exact new_at _ _ _ j u (by simpa [pc] using hj)⟩) n0 n1).mono ?_
  rintro e w1 h1
  rw [← HR.out] at h1
  obtain ⟨v, rfl, ⟨A1, c1, rfl, hr1, hc1⟩, hx1⟩ := h1.out
  clear h1
  rcases hc with ⟨E, rfl, hE⟩ | ⟨hn0, hn1, q1, q2, rfl, hq0, hq1, hq2, hq⟩
  · simp only [List.length_nil]
    have hE' : (E != 0) = true := by simp [hE]
    clear hE
    go_wp2_with (first
      | (go_at_call 15; refine (num17_c _ _).mono ?_; rintro e w4 ⟨rfl, rfl⟩)
      | (go_at_call 18; refine (knows17_c _ (HP.out.ext (by (repeat (first | exact Ext.rfl' _ | assumption | refine Ext.dr ?_ | refine Ext.al ?_ _ | refine Ext.st ?_ (by simp) _ | refine Ext.tr ?_ (by assumption)))))).mono ?_; rintro e w4 ⟨rfl, hx7⟩))
    go_ret
    exact ⟨rfl, by (repeat (first | exact Ext.rfl' _ | assumption | refine Ext.dr ?_ | refine Ext.al ?_ _ | refine Ext.st ?_ (by simp) _ | refine Ext.tr ?_ (by assumption)))⟩
  · simp only [List.length_cons, List.length_nil]
    obtain ⟨b, o, rfl, hbl, hS⟩ := hr1.pair (k := 0) (by simp)
    simp only [Nat.zero_mul, Nat.add_zero, List.getElem_cons_zero] at hS
    go_wp2_with fail
    refine (num17_c _ _).mono ?_
    rintro e w4 ⟨rfl, rfl⟩
    go_wp2_with fail
    refine (knows17_c _ (HP.out.ext (by (repeat (first | exact Ext.rfl' _ | assumption | refine Ext.dr ?_ | refine Ext.al ?_ _ | refine Ext.st ?_ (by simp) _ | refine Ext.tr ?_ (by assumption)))))).mono ?_
    rintro e w5 ⟨rfl, hx5⟩
    obtain ⟨c0, d0⟩ := hS.out w5 (by (repeat (first | exact Ext.rfl' _ | assumption | refine Ext.dr ?_ | refine Ext.al ?_ _ | refine Ext.st ?_ (by simp) _ | refine Ext.tr ?_ (by assumption))))
    rcases hq with ⟨ha, hb, rfl, rfl⟩ | ⟨ha, hb, rfl, rfl⟩ | ⟨ha, hb, rfl, rfl⟩ | ⟨ha, hb, hc, rfl, rfl⟩ | ⟨ha, hb, hc, rfl, rfl⟩
    all_goals go_wp2
    all_goals go_ret
    all_goals exact ⟨rfl, by (repeat (first | exact Ext.rfl' _ | assumption | refine Ext.dr ?_ | refine Ext.al ?_ _ | refine Ext.st ?_ (by simp) _ | refine Ext.tr ?_ (by assumption)))⟩
end Go.Proofs.YteklakibcboepaaDoor
