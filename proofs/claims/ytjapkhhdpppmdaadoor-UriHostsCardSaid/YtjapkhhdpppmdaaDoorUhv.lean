/-
The program's Host: brackets.
-/
import Derived.Test.YtjapkhhdpppmdaaDoorUhu
set_option linter.unusedVariables false
set_option linter.unusedSimpArgs false
namespace Go.Proofs.YtjapkhhdpppmdaaDoor
open Go.RowKit

theorem host_br (a r : List UInt8) (h91 : (a ++ 93 :: r).head? = some 91) (hna : 93 ∉ a) :
    1 ≤ a.length ∧ hostL (a ++ 93 :: r) = if (3 ≤ a.length ∧ a.length ≤ 61) ∧ a.tail.all adrB = true then portL (a ++ [93]) r else ([], 0, 40) := by
  have h1 : 1 ≤ a.length := by
    cases a with
    | nil => exact absurd (Option.some.inj h91) (by decide)
    | cons b a => simp
  refine ⟨h1, ?_⟩
  have hn := name_br h91 a.length (by simp) h1 (by simp) (fun j hj e => hna (by rw [List.getElem_append_left hj] at e; rw [← e]; exact List.getElem_mem hj))
  rw [List.take_left] at hn
  unfold hostL
  rw [hn]
  by_cases hc : (3 ≤ a.length ∧ a.length ≤ 61) ∧ a.tail.all adrB = true
  · rw [if_pos hc, if_pos hc, if_neg (by omega)]
    congr 1
    · rw [List.take_append]; simp [List.take_of_length_le]
    · rw [List.drop_append]; simp [List.drop_eq_nil_of_le]
  · rw [if_neg hc, if_neg hc, if_pos rfl]
theorem port_no (h r : List UInt8) (h1 : ¬ r = []) (h2 : ¬ r.head? = some 58) : portL h r = ([], 0, 40) := by
  unfold portL
  rw [if_neg h1, if_neg (fun h => h2 h.1)]
set_option maxRecDepth 100000 in
set_option maxHeartbeats 4000000 in
theorem uHost_bn (l : List UInt8) (h91 : l.head? = some 91) (h93 : 93 ∉ l) (w : World) :
    Calls Tryd.prog 34 #[.string (str l)] w (Gives (hostV (hostL l)) w) := by
  have P1 := Lib.hid (fun w => HasPrefix_c l [91] true (pre_yes h91) w)
  have P2 := Lib.hid (fun w => Cut_no l 93 h93 w)
  have hh : hostL l = ([], 0, 40) := by unfold hostL; rw [name_br0 h91 h93, if_pos rfl]
  rw [hh]
  clear h91 h93 hh
  go_enter Tryd.func34, Tryd.ntmps34
  go_wp2_with (first
    | (go_at_call 62; refine (P1.out _).mono ?_; rintro e w1 ⟨rfl, rfl⟩)
    | (go_at_call 57; refine (P2.out _).mono ?_; rintro e w1 ⟨rfl, rfl⟩))
  go_ret3
  exact ⟨rfl, by (repeat (first | exact Ext.rfl' _ | assumption | refine Ext.dr ?_ | refine Ext.drN ?_ _ | refine Ext.al ?_ _ | refine Ext.st ?_ (by simp) _ | refine Ext.tr ?_ (by assumption)))⟩
set_option maxRecDepth 100000 in
set_option maxHeartbeats 8000000 in
theorem uHost_br (a r : List UInt8) (hs : (a ++ 93 :: r).length ≤ 140737488355328) (h91 : (a ++ 93 :: r).head? = some 91) (hna : 93 ∉ a) (w : World) (hE : ErrR w) :
    Calls Tryd.prog 34 #[.string (str (a ++ 93 :: r))] w (Gives (hostV (hostL (a ++ 93 :: r))) w) := by
  have HE := Lib.hid hE
  clear hE
  rw [List.length_append, List.length_cons] at hs
  have P1 := fun w => HasPrefix_c (a ++ 93 :: r) [91] true (pre_yes h91) w
  have P2 := fun w => Cut_at a r 93 hna (by unfold maxLen; omega) w
  obtain ⟨h1, hh⟩ := host_br a r h91 hna
  rw [hh]
  clear hh h91 hna
  obtain ⟨s, hs2⟩ : ∃ s, s = str (a ++ 93 :: r) := ⟨_, rfl⟩
  rw [← hs2] at P1 P2 ⊢
  have P1 := Lib.hid P1
  clear hs2
  have P3 := fun w => all_addr a.tail (by rw [List.length_tail]; omega) w
  obtain ⟨T, hT⟩ : ∃ T, T = a.tail := ⟨_, rfl⟩
  have f1 : str a.tail = str T := by rw [hT]
  have f2 : str (a.drop 1) = str T := by rw [hT, List.drop_one]
  rw [← hT] at P3 ⊢
  clear hT
  have P6 := fun w => Lower_c (a ++ [93]) (by unfold maxLen; rw [List.length_append]; show _ + 1 ≤ _; omega) w
  obtain ⟨s1, hs1⟩ : ∃ s1, s1 = str (a ++ [93]) := ⟨_, rfl⟩
  have cc1 : ∀ w, (Op.stringOp .add (str a) ⟨#[93]⟩).run Tryd.prog w = .ok (.string s1) w := fun w => by
    rw [hs1, cat_ok _ _ (by rw [str_size]; show _ + 1 ≤ _; omega)]; simp
  rw [← hs1] at P6
  clear hs1
  obtain ⟨A, hA⟩ : ∃ A, A = a ++ [93] := ⟨_, rfl⟩
  rw [← hA] at P6 ⊢
  clear hA
  have P6 := Lib.hid P6
  have n1 : (1 : Int) ≤ (a.length : Int) := by omega
  by_cases g1 : 3 ≤ a.length
  · have d1 : decide ((a.length : Int) < 3) = false := by rw [decide_eq_false_iff_not]; omega
    by_cases g2 : a.length ≤ 61
    · have d2 : decide ((61 : Int) < (a.length : Int)) = false := by rw [decide_eq_false_iff_not]; omega
      by_cases g3 : T.all adrB = true
      · rw [g3] at P3
        rw [if_pos ⟨⟨g1, g2⟩, g3⟩]
        have P3 := Lib.hid P3
        clear g3
        by_cases r0 : r = []
        · subst r0
          rw [show str ([] : List UInt8) = ⟨#[]⟩ from rfl] at P2
          have P2 := Lib.hid P2
          rw [port_nil]
          go_enter Tryd.func34, Tryd.ntmps34
          go_wp2_with (first
            | (go_at_call 62; refine (P1.out _).mono ?_; rintro e w1 ⟨rfl, rfl⟩)
            | (go_at_call 57; refine (P2.out _).mono ?_; rintro e w1 ⟨rfl, nq1, rfl⟩)
            | (go_at_call 58; refine (P3.out _).mono ?_; rintro e w1 ⟨rfl, rfl⟩)
            | (go_at_call 66; refine (P4.out _).mono ?_; rintro e w1 ⟨rfl, rfl⟩)
            | (go_at_call 67; refine (P5.out _ (HE.out.ext (by (repeat (first | exact Ext.rfl' _ | assumption | refine Ext.dr ?_ | refine Ext.drN ?_ _ | refine Ext.al ?_ _ | refine Ext.st ?_ (by simp) _ | refine Ext.tr ?_ (by assumption)))))).mono ?_; rintro e w1 ⟨rfl, hx1⟩)
            | (go_at_call 68; refine (P6.out _).mono ?_; rintro e w2 ⟨rfl, hx2⟩))
          go_ret3
          exact ⟨rfl, by (repeat (first | exact Ext.rfl' _ | assumption | refine Ext.dr ?_ | refine Ext.drN ?_ _ | refine Ext.al ?_ _ | refine Ext.st ?_ (by simp) _ | refine Ext.tr ?_ (by assumption)))⟩
        · have r2 : r.isEmpty = false := by rw [List.isEmpty_eq_false_iff]; exact r0
          have r1 : (str r).toList.isEmpty = false := by rw [Lib.toList_data]; exact r2
          have P2 := Lib.hid P2
          by_cases hc : r.head? = some 58
          · obtain ⟨q, hq⟩ : ∃ q, r = 58 :: q := by
              cases r with
              | nil => cases hc
              | cons b q => exact ⟨q, by rw [Option.some.inj hc]⟩
            have hql : q.length + 1 = r.length := by rw [hq]; rfl
            have P5 := fun w hE => Decimal_c q (by omega) w hE
            have hp := port_hd A 58 q
            rw [← hq] at hp
            rw [hp]
            clear hp
            obtain ⟨v, hv⟩ : ∃ v, v = (numL 10 1000000000000000000 q).1 := ⟨_, rfl⟩
            obtain ⟨e, he⟩ : ∃ e, e = (numL 10 1000000000000000000 q).2 := ⟨_, rfl⟩
            rw [← hv, ← he]
            rw [← hv, ← he] at P5
            have P5 := Lib.hid P5
            clear hv he
            have P4 := fun w => CutPrefix_y q w
            rw [← hq] at P4
            have P4 := Lib.hid P4
            clear hq hc
            by_cases c2 : e = 0
            · subst c2
              by_cases c3 : q.length ≤ 5
              · have t3 : decide ((5 : Int) < (q.length : Int)) = false := by rw [decide_eq_false_iff_not]; omega
                by_cases c4 : v ≤ 65535
                · have t4 : decide ((65535 : Int) < v) = false := by rw [decide_eq_false_iff_not]; omega
                  rw [if_pos ⟨rfl, rfl, c3, c4⟩]
                  go_enter Tryd.func34, Tryd.ntmps34
                  go_wp2_with (first
                    | (go_at_call 62; refine (P1.out _).mono ?_; rintro e w1 ⟨rfl, rfl⟩)
                    | (go_at_call 57; refine (P2.out _).mono ?_; rintro e w1 ⟨rfl, nq1, rfl⟩)
                    | (go_at_call 58; refine (P3.out _).mono ?_; rintro e w1 ⟨rfl, rfl⟩)
                    | (go_at_call 66; refine (P4.out _).mono ?_; rintro e w1 ⟨rfl, rfl⟩)
                    | (go_at_call 67; refine (P5.out _ (HE.out.ext (by (repeat (first | exact Ext.rfl' _ | assumption | refine Ext.dr ?_ | refine Ext.drN ?_ _ | refine Ext.al ?_ _ | refine Ext.st ?_ (by simp) _ | refine Ext.tr ?_ (by assumption)))))).mono ?_; rintro e w1 ⟨rfl, hx1⟩)
                    | (go_at_call 68; refine (P6.out _).mono ?_; rintro e w2 ⟨rfl, hx2⟩))
                  go_ret3
                  exact ⟨rfl, by (repeat (first | exact Ext.rfl' _ | assumption | refine Ext.dr ?_ | refine Ext.drN ?_ _ | refine Ext.al ?_ _ | refine Ext.st ?_ (by simp) _ | refine Ext.tr ?_ (by assumption)))⟩
                · have t4 : decide ((65535 : Int) < v) = true := by rw [decide_eq_true_eq]; omega
                  rw [if_neg (fun h => c4 h.2.2.2)]
                  go_enter Tryd.func34, Tryd.ntmps34
                  go_wp2_with (first
                    | (go_at_call 62; refine (P1.out _).mono ?_; rintro e w1 ⟨rfl, rfl⟩)
                    | (go_at_call 57; refine (P2.out _).mono ?_; rintro e w1 ⟨rfl, nq1, rfl⟩)
                    | (go_at_call 58; refine (P3.out _).mono ?_; rintro e w1 ⟨rfl, rfl⟩)
                    | (go_at_call 66; refine (P4.out _).mono ?_; rintro e w1 ⟨rfl, rfl⟩)
                    | (go_at_call 67; refine (P5.out _ (HE.out.ext (by (repeat (first | exact Ext.rfl' _ | assumption | refine Ext.dr ?_ | refine Ext.drN ?_ _ | refine Ext.al ?_ _ | refine Ext.st ?_ (by simp) _ | refine Ext.tr ?_ (by assumption)))))).mono ?_; rintro e w1 ⟨rfl, hx1⟩)
                    | (go_at_call 68; refine (P6.out _).mono ?_; rintro e w2 ⟨rfl, hx2⟩))
                  go_ret3
                  exact ⟨rfl, by (repeat (first | exact Ext.rfl' _ | assumption | refine Ext.dr ?_ | refine Ext.drN ?_ _ | refine Ext.al ?_ _ | refine Ext.st ?_ (by simp) _ | refine Ext.tr ?_ (by assumption)))⟩
              · have t3 : decide ((5 : Int) < (q.length : Int)) = true := by rw [decide_eq_true_eq]; omega
                rw [if_neg (fun h => c3 h.2.2.1)]
                go_enter Tryd.func34, Tryd.ntmps34
                go_wp2_with (first
                  | (go_at_call 62; refine (P1.out _).mono ?_; rintro e w1 ⟨rfl, rfl⟩)
                  | (go_at_call 57; refine (P2.out _).mono ?_; rintro e w1 ⟨rfl, nq1, rfl⟩)
                  | (go_at_call 58; refine (P3.out _).mono ?_; rintro e w1 ⟨rfl, rfl⟩)
                  | (go_at_call 66; refine (P4.out _).mono ?_; rintro e w1 ⟨rfl, rfl⟩)
                  | (go_at_call 67; refine (P5.out _ (HE.out.ext (by (repeat (first | exact Ext.rfl' _ | assumption | refine Ext.dr ?_ | refine Ext.drN ?_ _ | refine Ext.al ?_ _ | refine Ext.st ?_ (by simp) _ | refine Ext.tr ?_ (by assumption)))))).mono ?_; rintro e w1 ⟨rfl, hx1⟩)
                  | (go_at_call 68; refine (P6.out _).mono ?_; rintro e w2 ⟨rfl, hx2⟩))
                go_ret3
                exact ⟨rfl, by (repeat (first | exact Ext.rfl' _ | assumption | refine Ext.dr ?_ | refine Ext.drN ?_ _ | refine Ext.al ?_ _ | refine Ext.st ?_ (by simp) _ | refine Ext.tr ?_ (by assumption)))⟩
            · have t2 : (e != 0) = true := by rw [bne_iff_ne]; exact c2
              rw [if_neg (fun h => c2 h.2.1)]
              clear c2
              go_enter Tryd.func34, Tryd.ntmps34
              go_wp2_with (first
                | (go_at_call 62; refine (P1.out _).mono ?_; rintro e w1 ⟨rfl, rfl⟩)
                | (go_at_call 57; refine (P2.out _).mono ?_; rintro e w1 ⟨rfl, nq1, rfl⟩)
                | (go_at_call 58; refine (P3.out _).mono ?_; rintro e w1 ⟨rfl, rfl⟩)
                | (go_at_call 66; refine (P4.out _).mono ?_; rintro e w1 ⟨rfl, rfl⟩)
                | (go_at_call 67; refine (P5.out _ (HE.out.ext (by (repeat (first | exact Ext.rfl' _ | assumption | refine Ext.dr ?_ | refine Ext.drN ?_ _ | refine Ext.al ?_ _ | refine Ext.st ?_ (by simp) _ | refine Ext.tr ?_ (by assumption)))))).mono ?_; rintro e w1 ⟨rfl, hx1⟩)
                | (go_at_call 68; refine (P6.out _).mono ?_; rintro e w2 ⟨rfl, hx2⟩))
              go_ret3
              exact ⟨rfl, by (repeat (first | exact Ext.rfl' _ | assumption | refine Ext.dr ?_ | refine Ext.drN ?_ _ | refine Ext.al ?_ _ | refine Ext.st ?_ (by simp) _ | refine Ext.tr ?_ (by assumption)))⟩
          · rw [port_no A r r0 hc]
            have P4 := Lib.hid (fun w => CutPrefix_n r hc w)
            have P5 := Lib.hid (fun w hE => Decimal_c r (by omega) w hE)
            clear hc
            go_enter Tryd.func34, Tryd.ntmps34
            go_wp2_with (first
              | (go_at_call 62; refine (P1.out _).mono ?_; rintro e w1 ⟨rfl, rfl⟩)
              | (go_at_call 57; refine (P2.out _).mono ?_; rintro e w1 ⟨rfl, nq1, rfl⟩)
              | (go_at_call 58; refine (P3.out _).mono ?_; rintro e w1 ⟨rfl, rfl⟩)
              | (go_at_call 66; refine (P4.out _).mono ?_; rintro e w1 ⟨rfl, rfl⟩)
              | (go_at_call 67; refine (P5.out _ (HE.out.ext (by (repeat (first | exact Ext.rfl' _ | assumption | refine Ext.dr ?_ | refine Ext.drN ?_ _ | refine Ext.al ?_ _ | refine Ext.st ?_ (by simp) _ | refine Ext.tr ?_ (by assumption)))))).mono ?_; rintro e w1 ⟨rfl, hx1⟩)
              | (go_at_call 68; refine (P6.out _).mono ?_; rintro e w2 ⟨rfl, hx2⟩))
            go_ret3
            exact ⟨rfl, by (repeat (first | exact Ext.rfl' _ | assumption | refine Ext.dr ?_ | refine Ext.drN ?_ _ | refine Ext.al ?_ _ | refine Ext.st ?_ (by simp) _ | refine Ext.tr ?_ (by assumption)))⟩
      · have P2 := Lib.hid P2
        rw [show T.all adrB = false by simpa using g3] at P3
        rw [if_neg (fun h => g3 h.2)]
        have P3 := Lib.hid P3
        clear g3
        go_enter Tryd.func34, Tryd.ntmps34
        go_wp2_with (first
          | (go_at_call 62; refine (P1.out _).mono ?_; rintro e w1 ⟨rfl, rfl⟩)
          | (go_at_call 57; refine (P2.out _).mono ?_; rintro e w1 ⟨rfl, nq1, rfl⟩)
          | (go_at_call 58; refine (P3.out _).mono ?_; rintro e w1 ⟨rfl, rfl⟩)
          | (go_at_call 66; refine (P4.out _).mono ?_; rintro e w1 ⟨rfl, rfl⟩)
          | (go_at_call 67; refine (P5.out _ (HE.out.ext (by (repeat (first | exact Ext.rfl' _ | assumption | refine Ext.dr ?_ | refine Ext.drN ?_ _ | refine Ext.al ?_ _ | refine Ext.st ?_ (by simp) _ | refine Ext.tr ?_ (by assumption)))))).mono ?_; rintro e w1 ⟨rfl, hx1⟩)
          | (go_at_call 68; refine (P6.out _).mono ?_; rintro e w2 ⟨rfl, hx2⟩))
        go_ret3
        exact ⟨rfl, by (repeat (first | exact Ext.rfl' _ | assumption | refine Ext.dr ?_ | refine Ext.drN ?_ _ | refine Ext.al ?_ _ | refine Ext.st ?_ (by simp) _ | refine Ext.tr ?_ (by assumption)))⟩
    · have d2 : decide ((61 : Int) < (a.length : Int)) = true := by rw [decide_eq_true_eq]; omega
      have P2 := Lib.hid P2
      rw [if_neg (fun h => g2 h.1.2)]
      go_enter Tryd.func34, Tryd.ntmps34
      go_wp2_with (first
        | (go_at_call 62; refine (P1.out _).mono ?_; rintro e w1 ⟨rfl, rfl⟩)
        | (go_at_call 57; refine (P2.out _).mono ?_; rintro e w1 ⟨rfl, nq1, rfl⟩)
        | (go_at_call 58; refine (P3.out _).mono ?_; rintro e w1 ⟨rfl, rfl⟩)
        | (go_at_call 66; refine (P4.out _).mono ?_; rintro e w1 ⟨rfl, rfl⟩)
        | (go_at_call 67; refine (P5.out _ (HE.out.ext (by (repeat (first | exact Ext.rfl' _ | assumption | refine Ext.dr ?_ | refine Ext.drN ?_ _ | refine Ext.al ?_ _ | refine Ext.st ?_ (by simp) _ | refine Ext.tr ?_ (by assumption)))))).mono ?_; rintro e w1 ⟨rfl, hx1⟩)
        | (go_at_call 68; refine (P6.out _).mono ?_; rintro e w2 ⟨rfl, hx2⟩))
      go_ret3
      exact ⟨rfl, by (repeat (first | exact Ext.rfl' _ | assumption | refine Ext.dr ?_ | refine Ext.drN ?_ _ | refine Ext.al ?_ _ | refine Ext.st ?_ (by simp) _ | refine Ext.tr ?_ (by assumption)))⟩
  · have d1 : decide ((a.length : Int) < 3) = true := by rw [decide_eq_true_eq]; omega
    have P2 := Lib.hid P2
    rw [if_neg (fun h => g1 h.1.1)]
    go_enter Tryd.func34, Tryd.ntmps34
    go_wp2_with (first
      | (go_at_call 62; refine (P1.out _).mono ?_; rintro e w1 ⟨rfl, rfl⟩)
      | (go_at_call 57; refine (P2.out _).mono ?_; rintro e w1 ⟨rfl, nq1, rfl⟩)
      | (go_at_call 58; refine (P3.out _).mono ?_; rintro e w1 ⟨rfl, rfl⟩)
      | (go_at_call 66; refine (P4.out _).mono ?_; rintro e w1 ⟨rfl, rfl⟩)
      | (go_at_call 67; refine (P5.out _ (HE.out.ext (by (repeat (first | exact Ext.rfl' _ | assumption | refine Ext.dr ?_ | refine Ext.drN ?_ _ | refine Ext.al ?_ _ | refine Ext.st ?_ (by simp) _ | refine Ext.tr ?_ (by assumption)))))).mono ?_; rintro e w1 ⟨rfl, hx1⟩)
      | (go_at_call 68; refine (P6.out _).mono ?_; rintro e w2 ⟨rfl, hx2⟩))
    go_ret3
    exact ⟨rfl, by (repeat (first | exact Ext.rfl' _ | assumption | refine Ext.dr ?_ | refine Ext.drN ?_ _ | refine Ext.al ?_ _ | refine Ext.st ?_ (by simp) _ | refine Ext.tr ?_ (by assumption)))⟩
theorem uHost_c (l : List UInt8) (hs : l.length ≤ 140737488355328) (w : World) (hE : ErrR w) :
    Calls Tryd.prog 34 #[.string (str l)] w (Gives (hostV (hostL l)) w) := by
  by_cases h91 : l.head? = some 91
  · rcases cut_cases l 93 with hno | ⟨a, r, rfl, hna⟩
    · exact uHost_bn l h91 hno w
    · exact uHost_br a r hs h91 hna w hE
  · rcases idx_cases l 58 with ⟨_, h⟩ | ⟨n, h1, h2, h3, h4⟩
    · exact uHost_no l hs h91 h w hE
    · exact uHost_at l hs h91 n h1 h2 h3 h4 w hE
end Go.Proofs.YtjapkhhdpppmdaaDoor
