/-
The reference's Host.
-/
import Derived.Test.YtjapkhhdpppmdaaDoorUhr
set_option linter.unusedVariables false
set_option linter.unusedSimpArgs false
namespace Go.Proofs.YtjapkhhdpppmdaaDoor
open Go.RowKit

theorem port_hd (h : List UInt8) (c : UInt8) (q : List UInt8) : portL h (c :: q) = if c = 58 ∧ (numL 10 1000000000000000000 q).2 = 0 ∧ q.length ≤ 5 ∧ (numL 10 1000000000000000000 q).1 ≤ 65535 then (lowL h, (numL 10 1000000000000000000 q).1, 0) else ([], 0, 40) := by
  unfold portL
  rw [if_neg (by simp)]
  simp only [List.head?_cons, Option.some.injEq, List.tail_cons]
theorem port_nil (h : List UInt8) : portL h [] = (lowL h, -1, 0) := by unfold portL; rw [if_pos rfl]
/-- A host's three values. -/
def hostV (x : List UInt8 × Int × Int) : Value := .tuple #[.string (str x.1), .int .i64 x.2.1, .int .i64 x.2.2]
set_option maxRecDepth 100000 in
set_option maxHeartbeats 2000000 in
theorem urHost_c (l : List UInt8) (hs : l.length ≤ 140737488355328) (w : World) :
    Calls Tryd.prog 35 #[.string (str l)] w (Gives (hostV (hostL l)) w) := by
  have CN := Lib.hid (urname_c l hs)
  have hle := name_le l
  have hh : hostL l = if nameL l = 0 then ([], 0, 40) else portL (l.take (nameL l)) (l.drop (nameL l)) := rfl
  rw [hh]
  clear hh
  obtain ⟨n, hn⟩ : ∃ n, n = nameL l := ⟨_, rfl⟩
  rw [← hn] at CN hle ⊢
  clear hn
  by_cases h0 : n = 0
  · subst h0
    rw [if_pos rfl]
    go_enter Tryd.func35, Tryd.ntmps35
    go_wp2_with (go_at_call 69; refine (CN.out _).mono ?_; rintro e w1 ⟨rfl, hx1⟩)
    go_ret3
    exact ⟨rfl, by (repeat (first | exact Ext.rfl' _ | assumption | refine Ext.dr ?_ | refine Ext.drN ?_ _ | refine Ext.al ?_ _ | refine Ext.st ?_ (by simp) _ | refine Ext.tr ?_ (by assumption)))⟩
  · rw [if_neg h0]
    have hnp : 0 < n := by omega
    have d0 : ((n : Int) == 0) = false := by rw [beq_eq_false_iff_ne]; omega
    have CL := fun w => rLower_c (l.take n) (by unfold maxLen; rw [List.length_take]; omega) w
    by_cases hlt : n = l.length
    · subst hlt
      rw [List.drop_length, port_nil]
      simp only [List.take_length] at CL ⊢
      have CL := Lib.hid CL
      go_enter Tryd.func35, Tryd.ntmps35
      go_wp2_with (first
        | (go_at_call 69; refine (CN.out _).mono ?_; rintro e w1 ⟨rfl, hx1⟩)
        | (go_at_call 60; refine (CL.out _).mono ?_; rintro e w2 ⟨rfl, hx2⟩))
      go_ret3
      exact ⟨rfl, by (repeat (first | exact Ext.rfl' _ | assumption | refine Ext.dr ?_ | refine Ext.drN ?_ _ | refine Ext.al ?_ _ | refine Ext.st ?_ (by simp) _ | refine Ext.tr ?_ (by assumption)))⟩
    · have hlt2 : n < l.length := by omega
      rw [List.drop_eq_getElem_cons hlt2, port_hd]
      obtain ⟨q, hq⟩ : ∃ q, q = l.drop (n + 1) := ⟨_, rfl⟩
      have hql : q.length = l.length - (n + 1) := by rw [hq, List.length_drop]
      have hqe : str (l.drop (n + 1)) = str q := by rw [hq]
      rw [← hq]
      clear hq
      have CL := Lib.hid CL
      have CD := fun w => rDecimal_c q (by unfold maxLen; omega) w
      obtain ⟨v, hv⟩ : ∃ v, v = (numL 10 1000000000000000000 q).1 := ⟨_, rfl⟩
      obtain ⟨e, he⟩ : ∃ e, e = (numL 10 1000000000000000000 q).2 := ⟨_, rfl⟩
      rw [← hv, ← he] at CD ⊢
      have CD := Lib.hid CD
      clear hv he
      have i1 : IntKind.i64.wrap ((n : Int) + 1) = (n : Int) + 1 := by rw [IntKind.wrap_i64]; omega
      have i2 : ((n : Int) + 1).toNat = n + 1 := by omega
      have i3 : (0 : Int) ≤ (n : Int) + 1 := by omega
      have i4 : (n : Int) + 1 ≤ (l.length : Int) := by omega
      have i5 : ((n : Int) == (l.length : Int)) = false := by rw [beq_eq_false_iff_ne]; omega
      obtain ⟨b, hb⟩ : ∃ b, b = l[n] := ⟨_, rfl⟩
      rw [← hb]
      have HC : ∀ (c : Bool), ((l[n].toNat : Int) != 58) = c ↔ (decide (b ≠ 58)) = c := by
        intro c
        subst hb
        by_cases h : l[n] = 58
        · rw [h]; simp
        · have : ((l[n].toNat : Int) != 58) = true := by
            rw [bne_iff_ne]; intro h'; exact h (UInt8.toNat_inj.1 (by show l[n].toNat = 58; omega))
          rw [this, decide_eq_true h]
      have HC := Lib.hid HC
      clear hb hql
      by_cases c1 : b = 58
      · have d1 := (HC.out false).2 (by simp [c1])
        by_cases c2 : e = 0
        · subst c2
          by_cases c3 : q.length ≤ 5
          · have d3 : decide ((5 : Int) < (q.length : Int)) = false := by rw [decide_eq_false_iff_not]; omega
            by_cases c4 : v ≤ 65535
            · have d4 : decide ((65535 : Int) < v) = false := by rw [decide_eq_false_iff_not]; omega
              rw [if_pos ⟨c1, rfl, c3, c4⟩]
              clear c1
              go_enter Tryd.func35, Tryd.ntmps35
              go_wp2_with (first
                | (go_at_call 69; refine (CN.out _).mono ?_; rintro e w1 ⟨rfl, hx1⟩)
                | (go_at_call 60; refine (CL.out _).mono ?_; rintro e w2 ⟨rfl, hx2⟩)
                | (go_at_call 52; refine (CD.out _).mono ?_; rintro e w2 ⟨rfl, hx3⟩))
              go_ret3
              exact ⟨rfl, by (repeat (first | exact Ext.rfl' _ | assumption | refine Ext.dr ?_ | refine Ext.drN ?_ _ | refine Ext.al ?_ _ | refine Ext.st ?_ (by simp) _ | refine Ext.tr ?_ (by assumption)))⟩
            · have d4 : decide ((65535 : Int) < v) = true := by rw [decide_eq_true_eq]; omega
              rw [if_neg (fun h => c4 h.2.2.2)]
              clear c1
              go_enter Tryd.func35, Tryd.ntmps35
              go_wp2_with (first
                | (go_at_call 69; refine (CN.out _).mono ?_; rintro e w1 ⟨rfl, hx1⟩)
                | (go_at_call 60; refine (CL.out _).mono ?_; rintro e w2 ⟨rfl, hx2⟩)
                | (go_at_call 52; refine (CD.out _).mono ?_; rintro e w2 ⟨rfl, hx3⟩))
              go_ret3
              exact ⟨rfl, by (repeat (first | exact Ext.rfl' _ | assumption | refine Ext.dr ?_ | refine Ext.drN ?_ _ | refine Ext.al ?_ _ | refine Ext.st ?_ (by simp) _ | refine Ext.tr ?_ (by assumption)))⟩
          · have d3 : decide ((5 : Int) < (q.length : Int)) = true := by rw [decide_eq_true_eq]; omega
            rw [if_neg (fun h => c3 h.2.2.1)]
            clear c1
            go_enter Tryd.func35, Tryd.ntmps35
            go_wp2_with (first
              | (go_at_call 69; refine (CN.out _).mono ?_; rintro e w1 ⟨rfl, hx1⟩)
              | (go_at_call 60; refine (CL.out _).mono ?_; rintro e w2 ⟨rfl, hx2⟩)
              | (go_at_call 52; refine (CD.out _).mono ?_; rintro e w2 ⟨rfl, hx3⟩))
            go_ret3
            exact ⟨rfl, by (repeat (first | exact Ext.rfl' _ | assumption | refine Ext.dr ?_ | refine Ext.drN ?_ _ | refine Ext.al ?_ _ | refine Ext.st ?_ (by simp) _ | refine Ext.tr ?_ (by assumption)))⟩
        · have d2 : (e != 0) = true := by rw [bne_iff_ne]; exact c2
          rw [if_neg (fun h => c2 h.2.1)]
          clear c1 c2
          go_enter Tryd.func35, Tryd.ntmps35
          go_wp2_with (first
            | (go_at_call 69; refine (CN.out _).mono ?_; rintro e w1 ⟨rfl, hx1⟩)
            | (go_at_call 60; refine (CL.out _).mono ?_; rintro e w2 ⟨rfl, hx2⟩)
            | (go_at_call 52; refine (CD.out _).mono ?_; rintro e w2 ⟨rfl, hx3⟩))
          go_ret3
          exact ⟨rfl, by (repeat (first | exact Ext.rfl' _ | assumption | refine Ext.dr ?_ | refine Ext.drN ?_ _ | refine Ext.al ?_ _ | refine Ext.st ?_ (by simp) _ | refine Ext.tr ?_ (by assumption)))⟩
      · have d1 := (HC.out true).2 (by simp [c1])
        rw [if_neg (fun h => c1 h.1)]
        clear c1
        go_enter Tryd.func35, Tryd.ntmps35
        go_wp2_with (first
          | (go_at_call 69; refine (CN.out _).mono ?_; rintro e w1 ⟨rfl, hx1⟩)
          | (go_at_call 60; refine (CL.out _).mono ?_; rintro e w2 ⟨rfl, hx2⟩)
          | (go_at_call 52; refine (CD.out _).mono ?_; rintro e w2 ⟨rfl, hx3⟩))
        go_ret3
        exact ⟨rfl, by (repeat (first | exact Ext.rfl' _ | assumption | refine Ext.dr ?_ | refine Ext.drN ?_ _ | refine Ext.al ?_ _ | refine Ext.st ?_ (by simp) _ | refine Ext.tr ?_ (by assumption)))⟩
end Go.Proofs.YtjapkhhdpppmdaaDoor
