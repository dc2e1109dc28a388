/-
The program's Host: a colon; brackets.
-/
import Derived.Test.YtjapkhhdpppmdaaDoorUht
set_option linter.unusedVariables false
set_option linter.unusedSimpArgs false
namespace Go.Proofs.YtjapkhhdpppmdaaDoor
open Go.RowKit

set_option maxRecDepth 100000 in
set_option maxHeartbeats 4000000 in
theorem uHost_at (l : List UInt8) (hs : l.length ≤ 140737488355328) (h91 : l.head? ≠ some 91) (n : Nat) (hz : Lib.indexByte l 58 = (n : Int)) (hlt : n < l.length) (hk : l[n]? = some 58) (hno : ∀ j, j < n → l[j]? ≠ some 58) (w : World) (hE : ErrR w) :
    Calls Tryd.prog 34 #[.string (str l)] w (Gives (hostV (hostL l)) w) := by
  have HE := Lib.hid hE
  clear hE
  have P1 := Lib.hid (fun w => HasPrefix_c l [91] false (pre_no h91) w)
  have P2 := Lib.hid (fun w => IndexByteS_c l 58 (n : Int) hz w)
  have hg : l[n] = 58 := (List.getElem?_eq_some_iff.1 hk).2
  have hh := host_pl h91 n (by omega) (fun _ => hg) (fun hm => by
    obtain ⟨j, hj, hj2⟩ := List.getElem_of_mem hm
    have hj3 : j < n := by rw [List.length_take] at hj; omega
    refine hno j hj3 ?_
    rw [List.getElem_take] at hj2
    rw [List.getElem?_eq_getElem (by omega), hj2])
  rw [List.drop_eq_getElem_cons hlt, hg, port_hd] at hh
  rw [hh]
  obtain ⟨q, hq⟩ : ∃ q, q = l.drop (n + 1) := ⟨_, rfl⟩
  have hql : q.length = l.length - (n + 1) := by rw [hq, List.length_drop]
  have P5 := fun w hE => Decimal_c q (by omega) w hE
  obtain ⟨v, hv⟩ : ∃ v, v = (numL 10 1000000000000000000 q).1 := ⟨_, rfl⟩
  obtain ⟨e, he⟩ : ∃ e, e = (numL 10 1000000000000000000 q).2 := ⟨_, rfl⟩
  rw [← hq, ← hv, ← he]
  rw [← hv, ← he] at P5
  have P5 := Lib.hid P5
  clear hv he
  have P4 := fun w => CutPrefix_y q w
  obtain ⟨R, hR⟩ : ∃ R, R = 58 :: q := ⟨_, rfl⟩
  have hre : str (l.drop n) = str R := by rw [List.drop_eq_getElem_cons hlt, hg, hR, hq]
  have r1 : (str R).toList.isEmpty = false := by rw [Lib.toList_data, hR]; rfl
  have r2 : R.isEmpty = false := by rw [hR]; rfl
  have r3 : ¬ R = [] := by rw [hR]; simp
  rw [← hR] at P4
  have P4 := Lib.hid P4
  have P3 := fun w => all_plain (l.take n) (by rw [List.length_take]; omega) w
  have P6 := fun w => Lower_c (l.take n) (by unfold maxLen; rw [List.length_take]; omega) w
  obtain ⟨A, hA⟩ : ∃ A, A = l.take n := ⟨_, rfl⟩
  have hae : str (l.take n) = str A := by rw [hA]
  rw [← hA]
  rw [← hA] at P3 P6
  have P6 := Lib.hid P6
  have n1 : (n : Int) ≤ (l.length : Int) := by omega
  have n2 : (0 : Int) ≤ (n : Int) := by omega
  have n3 : decide ((n : Int) < 0) = false := by rw [decide_eq_false_iff_not]; omega
  clear h91 hh hno hk hg hz hq hR hA
  by_cases g1 : 1 ≤ n
  · have d1 : decide ((n : Int) < 1) = false := by rw [decide_eq_false_iff_not]; omega
    by_cases g2 : n ≤ 255
    · have d2 : decide ((255 : Int) < (n : Int)) = false := by rw [decide_eq_false_iff_not]; omega
      by_cases g3 : A.all plnB = true
      · rw [g3] at P3
        rw [if_pos ⟨⟨g1, g2⟩, g3⟩]
        have P3 := Lib.hid P3
        clear g3
        by_cases c2 : e = 0
        · subst c2
          by_cases c3 : q.length ≤ 5
          · have t3 : decide ((5 : Int) < (q.length : Int)) = false := by rw [decide_eq_false_iff_not]; omega
            by_cases c4 : v ≤ 65535
            · have t4 : decide ((65535 : Int) < v) = false := by rw [decide_eq_false_iff_not]; omega
              rw [if_pos ⟨rfl, rfl, c3, c4⟩]
              go_enter Tryd.func34, Tryd.ntmps34
              go_wp2_with (first
                | (go_at_call 62; refine (P1.out _).mono ?_; rintro e w1 ⟨rfl, rfl⟩)
                | (go_at_call 64; refine (P2.out _).mono ?_; rintro e w1 ⟨rfl, rfl⟩))
              go_quiet (fail)
              go_wp2_with (first
                | (go_at_call 58; refine (P3.out _).mono ?_; rintro e w1 ⟨rfl, rfl⟩)
                | (go_at_call 66; refine (P4.out _).mono ?_; rintro e w1 ⟨rfl, rfl⟩)
                | (go_at_call 67; refine (P5.out _ (HE.out.ext (by (repeat (first | exact Ext.rfl' _ | assumption | refine Ext.dr ?_ | refine Ext.drN ?_ _ | refine Ext.al ?_ _ | refine Ext.st ?_ (by simp) _ | refine Ext.tr ?_ (by assumption)))))).mono ?_; rintro e w1 ⟨rfl, hx1⟩)
                | (go_at_call 68; refine (P6.out _).mono ?_; rintro e w2 ⟨rfl, hx2⟩))
              go_ret3
              exact ⟨rfl, by (repeat (first | exact Ext.rfl' _ | assumption | refine Ext.dr ?_ | refine Ext.drN ?_ _ | refine Ext.al ?_ _ | refine Ext.st ?_ (by simp) _ | refine Ext.tr ?_ (by assumption)))⟩
            · have t4 : decide ((65535 : Int) < v) = true := by rw [decide_eq_true_eq]; omega
              rw [if_neg (fun h => c4 h.2.2.2)]
              go_enter Tryd.func34, Tryd.ntmps34
              go_wp2_with (first
                | (go_at_call 62; refine (P1.out _).mono ?_; rintro e w1 ⟨rfl, rfl⟩)
                | (go_at_call 64; refine (P2.out _).mono ?_; rintro e w1 ⟨rfl, rfl⟩))
              go_quiet (fail)
              go_wp2_with (first
                | (go_at_call 58; refine (P3.out _).mono ?_; rintro e w1 ⟨rfl, rfl⟩)
                | (go_at_call 66; refine (P4.out _).mono ?_; rintro e w1 ⟨rfl, rfl⟩)
                | (go_at_call 67; refine (P5.out _ (HE.out.ext (by (repeat (first | exact Ext.rfl' _ | assumption | refine Ext.dr ?_ | refine Ext.drN ?_ _ | refine Ext.al ?_ _ | refine Ext.st ?_ (by simp) _ | refine Ext.tr ?_ (by assumption)))))).mono ?_; rintro e w1 ⟨rfl, hx1⟩)
                | (go_at_call 68; refine (P6.out _).mono ?_; rintro e w2 ⟨rfl, hx2⟩))
              go_ret3
              exact ⟨rfl, by (repeat (first | exact Ext.rfl' _ | assumption | refine Ext.dr ?_ | refine Ext.drN ?_ _ | refine Ext.al ?_ _ | refine Ext.st ?_ (by simp) _ | refine Ext.tr ?_ (by assumption)))⟩
          · have t3 : decide ((5 : Int) < (q.length : Int)) = true := by rw [decide_eq_true_eq]; omega
            rw [if_neg (fun h => c3 h.2.2.1)]
            go_enter Tryd.func34, Tryd.ntmps34
            go_wp2_with (first
              | (go_at_call 62; refine (P1.out _).mono ?_; rintro e w1 ⟨rfl, rfl⟩)
              | (go_at_call 64; refine (P2.out _).mono ?_; rintro e w1 ⟨rfl, rfl⟩))
            go_quiet (fail)
            go_wp2_with (first
              | (go_at_call 58; refine (P3.out _).mono ?_; rintro e w1 ⟨rfl, rfl⟩)
              | (go_at_call 66; refine (P4.out _).mono ?_; rintro e w1 ⟨rfl, rfl⟩)
              | (go_at_call 67; refine (P5.out _ (HE.out.ext (by (repeat (first | exact Ext.rfl' _ | assumption | refine Ext.dr ?_ | refine Ext.drN ?_ _ | refine Ext.al ?_ _ | refine Ext.st ?_ (by simp) _ | refine Ext.tr ?_ (by assumption)))))).mono ?_; rintro e w1 ⟨rfl, hx1⟩)
              | (go_at_call 68; refine (P6.out _).mono ?_; rintro e w2 ⟨rfl, hx2⟩))
            go_ret3
            exact ⟨rfl, by (repeat (first | exact Ext.rfl' _ | assumption | refine Ext.dr ?_ | refine Ext.drN ?_ _ | refine Ext.al ?_ _ | refine Ext.st ?_ (by simp) _ | refine Ext.tr ?_ (by assumption)))⟩
        · have t2 : (e != 0) = true := by rw [bne_iff_ne]; exact c2
          rw [if_neg (fun h => c2 h.2.1)]
          clear c2
          go_enter Tryd.func34, Tryd.ntmps34
          go_wp2_with (first
            | (go_at_call 62; refine (P1.out _).mono ?_; rintro e w1 ⟨rfl, rfl⟩)
            | (go_at_call 64; refine (P2.out _).mono ?_; rintro e w1 ⟨rfl, rfl⟩))
          go_quiet (fail)
          go_wp2_with (first
            | (go_at_call 58; refine (P3.out _).mono ?_; rintro e w1 ⟨rfl, rfl⟩)
            | (go_at_call 66; refine (P4.out _).mono ?_; rintro e w1 ⟨rfl, rfl⟩)
            | (go_at_call 67; refine (P5.out _ (HE.out.ext (by (repeat (first | exact Ext.rfl' _ | assumption | refine Ext.dr ?_ | refine Ext.drN ?_ _ | refine Ext.al ?_ _ | refine Ext.st ?_ (by simp) _ | refine Ext.tr ?_ (by assumption)))))).mono ?_; rintro e w1 ⟨rfl, hx1⟩)
            | (go_at_call 68; refine (P6.out _).mono ?_; rintro e w2 ⟨rfl, hx2⟩))
          go_ret3
          exact ⟨rfl, by (repeat (first | exact Ext.rfl' _ | assumption | refine Ext.dr ?_ | refine Ext.drN ?_ _ | refine Ext.al ?_ _ | refine Ext.st ?_ (by simp) _ | refine Ext.tr ?_ (by assumption)))⟩
      · rw [show A.all plnB = false by simpa using g3] at P3
        rw [if_neg (fun h => g3 h.2)]
        have P3 := Lib.hid P3
        clear g3
        go_enter Tryd.func34, Tryd.ntmps34
        go_wp2_with (first
          | (go_at_call 62; refine (P1.out _).mono ?_; rintro e w1 ⟨rfl, rfl⟩)
          | (go_at_call 64; refine (P2.out _).mono ?_; rintro e w1 ⟨rfl, rfl⟩))
        go_quiet (fail)
        go_wp2_with (first
          | (go_at_call 58; refine (P3.out _).mono ?_; rintro e w1 ⟨rfl, rfl⟩)
          | (go_at_call 66; refine (P4.out _).mono ?_; rintro e w1 ⟨rfl, rfl⟩)
          | (go_at_call 67; refine (P5.out _ (HE.out.ext (by (repeat (first | exact Ext.rfl' _ | assumption | refine Ext.dr ?_ | refine Ext.drN ?_ _ | refine Ext.al ?_ _ | refine Ext.st ?_ (by simp) _ | refine Ext.tr ?_ (by assumption)))))).mono ?_; rintro e w1 ⟨rfl, hx1⟩)
          | (go_at_call 68; refine (P6.out _).mono ?_; rintro e w2 ⟨rfl, hx2⟩))
        go_ret3
        exact ⟨rfl, by (repeat (first | exact Ext.rfl' _ | assumption | refine Ext.dr ?_ | refine Ext.drN ?_ _ | refine Ext.al ?_ _ | refine Ext.st ?_ (by simp) _ | refine Ext.tr ?_ (by assumption)))⟩
    · have d2 : decide ((255 : Int) < (n : Int)) = true := by rw [decide_eq_true_eq]; omega
      rw [if_neg (fun h => g2 h.1.2)]
      go_enter Tryd.func34, Tryd.ntmps34
      go_wp2_with (first
        | (go_at_call 62; refine (P1.out _).mono ?_; rintro e w1 ⟨rfl, rfl⟩)
        | (go_at_call 64; refine (P2.out _).mono ?_; rintro e w1 ⟨rfl, rfl⟩))
      go_quiet (fail)
      go_wp2_with (first
        | (go_at_call 58; refine (P3.out _).mono ?_; rintro e w1 ⟨rfl, rfl⟩)
        | (go_at_call 66; refine (P4.out _).mono ?_; rintro e w1 ⟨rfl, rfl⟩)
        | (go_at_call 67; refine (P5.out _ (HE.out.ext (by (repeat (first | exact Ext.rfl' _ | assumption | refine Ext.dr ?_ | refine Ext.drN ?_ _ | refine Ext.al ?_ _ | refine Ext.st ?_ (by simp) _ | refine Ext.tr ?_ (by assumption)))))).mono ?_; rintro e w1 ⟨rfl, hx1⟩)
        | (go_at_call 68; refine (P6.out _).mono ?_; rintro e w2 ⟨rfl, hx2⟩))
      go_ret3
      exact ⟨rfl, by (repeat (first | exact Ext.rfl' _ | assumption | refine Ext.dr ?_ | refine Ext.drN ?_ _ | refine Ext.al ?_ _ | refine Ext.st ?_ (by simp) _ | refine Ext.tr ?_ (by assumption)))⟩
  · have d1 : decide ((n : Int) < 1) = true := by rw [decide_eq_true_eq]; omega
    rw [if_neg (fun h => g1 h.1.1)]
    go_enter Tryd.func34, Tryd.ntmps34
    go_wp2_with (first
      | (go_at_call 62; refine (P1.out _).mono ?_; rintro e w1 ⟨rfl, rfl⟩)
      | (go_at_call 64; refine (P2.out _).mono ?_; rintro e w1 ⟨rfl, rfl⟩))
    go_quiet (fail)
    go_wp2_with (first
      | (go_at_call 58; refine (P3.out _).mono ?_; rintro e w1 ⟨rfl, rfl⟩)
      | (go_at_call 66; refine (P4.out _).mono ?_; rintro e w1 ⟨rfl, rfl⟩)
      | (go_at_call 67; refine (P5.out _ (HE.out.ext (by (repeat (first | exact Ext.rfl' _ | assumption | refine Ext.dr ?_ | refine Ext.drN ?_ _ | refine Ext.al ?_ _ | refine Ext.st ?_ (by simp) _ | refine Ext.tr ?_ (by assumption)))))).mono ?_; rintro e w1 ⟨rfl, hx1⟩)
      | (go_at_call 68; refine (P6.out _).mono ?_; rintro e w2 ⟨rfl, hx2⟩))
    go_ret3
    exact ⟨rfl, by (repeat (first | exact Ext.rfl' _ | assumption | refine Ext.dr ?_ | refine Ext.drN ?_ _ | refine Ext.al ?_ _ | refine Ext.st ?_ (by simp) _ | refine Ext.tr ?_ (by assumption)))⟩
end Go.Proofs.YtjapkhhdpppmdaaDoor
