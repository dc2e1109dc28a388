/-
The reference's Resolve: the same function of a list of spans and a size.
-/
import Derived.Test.YteklakibcboepaaDoorRng3
namespace Go.Proofs.YteklakibcboepaaDoor
open Go.RowKit

theorem okS_of {x y : Int} (h : okS (x, y) = true) : (0 ≤ x ∧ x ≤ y ∧ y ≤ 1000000000000000000) ∨ (0 ≤ x ∧ y < 0 ∧ -1 ≤ y ∧ x ≤ 1000000000000000000) ∨ (x < 0 ∧ 0 ≤ y ∧ y ≤ 1000000000000000000 ∧ -1 ≤ x) := by
  simp only [okS, kindOf, decide_eq_true_eq] at h
  split at h
  · simp at h
  · omega
theorem sum16 {n : Int} (hb0 : 0 ≤ n) (hb1 : n ≤ 1048576) {ps : List (Int × Int)} {k : Nat} (h : sumP (keepP n (ps.take k)) ≤ ((ps.take k).length : Int) * n) (hk : k ≤ 16) : sumP (keepP n (ps.take k)) ≤ 16 * 1048576 := by
  have h5 : ((ps.take k).length : Int) ≤ 16 := by simp only [List.length_take]; omega
  have := Int.mul_le_mul_of_nonneg_right h5 hb0
  omega


set_option maxRecDepth 100000 in
set_option maxHeartbeats 1000000 in
theorem rResolve_c (w : World) (A : Option Addr) (m c : Nat) (ps : List (Int × Int)) (n : Int) (hm : ps.length = m) (hmm : m ≤ maxLen) (h : Rd w A (pc ps)) (hn0 : -9223372036854775808 ≤ n) (hn1 : n ≤ 9223372036854775807) :
    Calls Tryd.prog 13 #[.slice A m c, .int .i64 n] w (Ret (IsSlPN (resolveL ps n)) w) := by
  unfold maxLen at hmm
  by_cases hbad : n < 0 ∨ 1048576 < n ∨ 16 < m
  · have e : resolveL ps n = ([], 1) := by unfold resolveL; rw [if_pos (by omega)]
    rw [e]
    rcases hbad with hb | hb | hb
    · go_enter Tryd.func13, Tryd.ntmps13
      go_wp2
      go_ret2
      exact Ret.is rfl (IsSlPN.none_ _ _) (Ext.rfl' _)
    · go_enter Tryd.func13, Tryd.ntmps13
      go_wp2
      go_ret2
      exact Ret.is rfl (IsSlPN.none_ _ _) (Ext.rfl' _)
    · go_enter Tryd.func13, Tryd.ntmps13
      go_wp2
      all_goals go_ret2
      all_goals exact Ret.is rfl (IsSlPN.none_ _ _) (Ext.rfl' _)
  · have hb0 : 0 ≤ n := by omega
    have hb1 : n ≤ 1048576 := by omega
    have hb2 : m ≤ 16 := by omega
    have hnb : ¬ (n < 0 ∨ 1048576 < n ∨ 16 < ps.length) := by omega
    have HNB := Lib.hid hnb
    clear hbad hnb
    go_enter Tryd.func13, Tryd.ntmps13
    go_wp2
    go_loopw [6] (fun i wr => ∃ k : Nat, k ≤ m ∧ i = .int .i64 k ∧ (ps.take k).all okS = true ∧ Ext w wr) (fun i _ => m - (intOf i).toNat)
    case atStart => exact ⟨0, Nat.zero_le _, rfl, rfl, Ext.rfl' _⟩
    case round =>
      obtain ⟨k, hk, rfl, hall, hext⟩ := hrel
      by_cases hlt : k < m
      · obtain ⟨b, o, rfl, hbl, hS⟩ := h.pair (k := k) (by omega)
        have h01 := hS.out wr hext
        have c0 := h01.1
        have c1 := h01.2
        clear h01
        have hasucc := Lib.hid (all_succ ps k (by omega))
        obtain ⟨p, hp⟩ : ∃ p, p = ps[k] := ⟨_, rfl⟩
        rw [← hp] at c0 c1 hS hasucc
        have HP := Lib.hid hp
        have HA := Lib.hid hall
        obtain ⟨x, y⟩ := p
        clear hp hall
        by_cases hok : kindOf x y = -1
        · have hd : decide (kindOf x y ≠ -1) = false := by simp [hok]
          have HD := Lib.hid hok
          clear hok
          go_wp2_with (go_at_call 58; refine (right_c _ _ _).mono ?_; rintro e w1 ⟨rfl, hx1⟩; rw [hd])
          go_ret2
          have e : resolveL ps n = ([], 1) := by
            unfold resolveL
            rw [if_neg HNB.out, if_pos]
            rw [Bool.eq_false_iff]
            intro ha
            have := List.all_eq_true.1 ha (x, y) (by rw [HP.out]; exact List.getElem_mem _)
            simp [okS, HD.out] at this
          rw [e]
          exact Ret.is rfl (IsSlPN.none_ _ _) (hext.tr hx1)
        · have hd : decide (kindOf x y ≠ -1) = true := by simp [hok]
          have HD := Lib.hid hok
          clear hok
          go_wp2_with (go_at_call 58; refine (right_c _ _ _).mono ?_; rintro e w1 ⟨rfl, hx1⟩; rw [hd])
          go_roundw
          case rel => exact ⟨k + 1, by omega, by go_num, by rw [hasucc.out, HA.out]; simp [okS, HD.out], hext.tr hx1⟩
          case measure => simp [intOf]; omega
      · obtain rfl : k = m := by omega
        rw [List.take_of_length_le (by omega)] at hall
        have HA := Lib.hid hall
        clear hall
        go_wp2
        go_loopw [7, 8, 9] (fun v s i wr => ∃ j : Nat, j ≤ k ∧ i = .int .i64 j ∧ s = .int .i64 (sumP (keepP n (ps.take j))) ∧ wr.ownsRow w.heap.size 24 2 v (keepP n (ps.take j)).length (pc (keepP n (ps.take j))) ∧ Ext w wr) (fun _ _ i _ => k - (intOf i).toNat)
        case atStart => exact ⟨0, Nat.zero_le _, rfl, rfl, World.ownsRow_nil _ _ _ _, hext⟩
        case round =>
          clear hext
          obtain ⟨j, hj, rfl, rfl, hown, hext⟩ := hrel
          have hallj : (ps.take j).all okS = true := List.all_eq_true.2 fun q hq => List.all_eq_true.1 HA.out q (List.mem_of_mem_take hq)
          have hsb := sum_bd n hb0 (ps.take j) hallj
          by_cases hlt : j < k
          · obtain ⟨b, o, rfl, hbl, hS⟩ := h.pair (k := j) (by omega)
            have h01 := hS.out wr hext
            have c0 := h01.1
            have c1 := h01.2
            clear h01
            have d0 : ∀ O, (wr.alloc O).cell? ⟨b, o + j * 2, none⟩ = some (.int .i64 ps[j].1) := fun O => (World.cell?_alloc_lt _ _ _ (lt_of_cell c0)).trans c0
            have d1 : ∀ O, (wr.alloc O).cell? ⟨b, o + j * 2 + 1, none⟩ = some (.int .i64 ps[j].2) := fun O => (World.cell?_alloc_lt _ _ _ (lt_of_cell c1)).trans c1
            have hsucc := Lib.hid (keepP_succ n ps j (by omega))
            obtain ⟨p, hp⟩ : ∃ p, p = ps[j] := ⟨_, rfl⟩
            rw [← hp] at c0 c1 d0 d1 hS hsucc
            obtain ⟨x, y⟩ := p
            have hok : okS (x, y) = true := by rw [hp]; exact List.all_eq_true.1 HA.out _ (List.getElem_mem _)
            have HOK := Lib.hid hok
            have hbds := okS_of hok
            have hll : (keepP n (ps.take j)).length ≤ j := by have := hsb.2.2; simp only [List.length_take] at this; omega
            have hs1 := sum16 hb0 hb1 hsb.2.1 (by omega)
            have hs0 := hsb.1
            have HL := Lib.hid hown.lt
            clear hp hok hsb hallj hmm hn0 hn1
            by_cases hx : x < 0
            · by_cases hy : y < n
              · have e1 : partOf n (x, y) = (n - y, n) := by unfold partOf; rw [if_pos (by omega)]; exact Prod.ext (by simp only; omega) rfl
                have hk0 := hsucc.out
                rw [e1] at hk0
                by_cases hql : (n - y : Int) < n
                · have hbd := part_bd n (x, y) hb0 HOK.out (by rw [e1]; exact hql)
                  rw [e1] at hbd
                  obtain ⟨hbd0, hbd1⟩ := hbd
                  simp only at hbd0 hbd1
                  have hk1 : keepP n (ps.take (j + 1)) = keepP n (ps.take j) ++ [(n - y, n)] := by rw [hk0, if_pos hql]
                  have HK := Lib.hid hk1
                  have HE := Lib.hid e1
                  clear hk0 hk1 e1
                  go_wp2_with (at_builtin; refine wpL_app slt_rpart (.tmp 85) (.tmp 87) rfl rfl rfl rfl ((hext.al _).al _) ((hown.alloc _).alloc _) (by rfl) (new_cells_g (w := wr.alloc (.cells #[.int .i64 (n - y), .int .i64 (n)] 24)) (g := wr.heap.size + 1) (by simp) #[.int .i64 (n - y), .int .i64 (n)] 24) (by simp [Value.oneCell']) (by omega) (by simp only [maxLen]; omega) ?_; intro v' w' hown' hext' hgg; have e0 := gr_cell (a := ⟨wr.heap.size, 0, none⟩) hgg (fun k hk => by have := (HL.out k hk).2; simp only; omega) ((World.cell?_alloc_lt _ _ _ (by simp)).trans (new_at _ _ _ 0 _ rfl)); have e1 := gr_cell (a := ⟨wr.heap.size, 1, none⟩) hgg (fun k hk => by have := (HL.out k hk).2; simp only; omega) ((World.cell?_alloc_lt _ _ _ (by simp)).trans (new_at _ _ _ 1 _ rfl)); clear hgg)
                  go_roundw
                  case rel =>
                    refine ⟨j + 1, by omega, by go_num, ?_, ?_, hext'⟩
                    · rw [HK.out, sumP_app]; simp [sumP]; try omega
                    · rw [HK.out, pc_app, List.length_append]; exact hown'
                  case measure => simp [intOf]; omega
                · have hk1 : keepP n (ps.take (j + 1)) = keepP n (ps.take j) := by rw [hk0, if_neg hql, List.append_nil]
                  have HK := Lib.hid hk1
                  have HB := Lib.hid hown
                  clear hk0 hk1 e1 hown
                  go_wp2
                  go_roundw
                  case rel =>
                    refine ⟨j + 1, by omega, by go_num, ?_, ?_, by (repeat (first | exact Ext.rfl' _ | assumption | refine Ext.dr ?_ | refine Ext.al ?_ _ | refine Ext.st ?_ (by simp) _ | refine Ext.tr ?_ (by assumption)))⟩
                    · rw [HK.out]
                    · rw [HK.out]; exact HB.out.alloc _
                  case measure => simp [intOf]; omega
              · have e1 : partOf n (x, y) = (0, n) := by unfold partOf; rw [if_pos (by omega)]; exact Prod.ext (by simp only; omega) rfl
                have hk0 := hsucc.out
                rw [e1] at hk0
                by_cases hql : (0 : Int) < n
                · have hbd := part_bd n (x, y) hb0 HOK.out (by rw [e1]; exact hql)
                  rw [e1] at hbd
                  obtain ⟨hbd0, hbd1⟩ := hbd
                  simp only at hbd0 hbd1
                  have hk1 : keepP n (ps.take (j + 1)) = keepP n (ps.take j) ++ [(0, n)] := by rw [hk0, if_pos hql]
                  have HK := Lib.hid hk1
                  have HE := Lib.hid e1
                  clear hk0 hk1 e1
                  go_wp2_with (at_builtin; refine wpL_app slt_rpart (.tmp 85) (.tmp 87) rfl rfl rfl rfl ((hext.al _).al _) ((hown.alloc _).alloc _) (by rfl) (new_cells_g (w := wr.alloc (.cells #[.int .i64 (0), .int .i64 (n)] 24)) (g := wr.heap.size + 1) (by simp) #[.int .i64 (0), .int .i64 (n)] 24) (by simp [Value.oneCell']) (by omega) (by simp only [maxLen]; omega) ?_; intro v' w' hown' hext' hgg; have e0 := gr_cell (a := ⟨wr.heap.size, 0, none⟩) hgg (fun k hk => by have := (HL.out k hk).2; simp only; omega) ((World.cell?_alloc_lt _ _ _ (by simp)).trans (new_at _ _ _ 0 _ rfl)); have e1 := gr_cell (a := ⟨wr.heap.size, 1, none⟩) hgg (fun k hk => by have := (HL.out k hk).2; simp only; omega) ((World.cell?_alloc_lt _ _ _ (by simp)).trans (new_at _ _ _ 1 _ rfl)); clear hgg)
                  go_roundw
                  case rel =>
                    refine ⟨j + 1, by omega, by go_num, ?_, ?_, hext'⟩
                    · rw [HK.out, sumP_app]; simp [sumP]; try omega
                    · rw [HK.out, pc_app, List.length_append]; exact hown'
                  case measure => simp [intOf]; omega
                · have hk1 : keepP n (ps.take (j + 1)) = keepP n (ps.take j) := by rw [hk0, if_neg hql, List.append_nil]
                  have HK := Lib.hid hk1
                  have HB := Lib.hid hown
                  clear hk0 hk1 e1 hown
                  go_wp2
                  go_roundw
                  case rel =>
                    refine ⟨j + 1, by omega, by go_num, ?_, ?_, by (repeat (first | exact Ext.rfl' _ | assumption | refine Ext.dr ?_ | refine Ext.al ?_ _ | refine Ext.st ?_ (by simp) _ | refine Ext.tr ?_ (by assumption)))⟩
                    · rw [HK.out]
                    · rw [HK.out]; exact HB.out.alloc _
                  case measure => simp [intOf]; omega
            · by_cases hy : y < 0
              · have e1 : partOf n (x, y) = (x, n) := by unfold partOf; rw [if_neg (by omega), if_pos (by omega)]
                have hk0 := hsucc.out
                rw [e1] at hk0
                by_cases hql : (x : Int) < n
                · have hbd := part_bd n (x, y) hb0 HOK.out (by rw [e1]; exact hql)
                  rw [e1] at hbd
                  obtain ⟨hbd0, hbd1⟩ := hbd
                  simp only at hbd0 hbd1
                  have hk1 : keepP n (ps.take (j + 1)) = keepP n (ps.take j) ++ [(x, n)] := by rw [hk0, if_pos hql]
                  have HK := Lib.hid hk1
                  have HE := Lib.hid e1
                  clear hk0 hk1 e1
                  go_wp2_with (at_builtin; refine wpL_app slt_rpart (.tmp 85) (.tmp 87) rfl rfl rfl rfl ((hext.al _).al _) ((hown.alloc _).alloc _) (by rfl) (new_cells_g (w := wr.alloc (.cells #[.int .i64 (x), .int .i64 (n)] 24)) (g := wr.heap.size + 1) (by simp) #[.int .i64 (x), .int .i64 (n)] 24) (by simp [Value.oneCell']) (by omega) (by simp only [maxLen]; omega) ?_; intro v' w' hown' hext' hgg; have e0 := gr_cell (a := ⟨wr.heap.size, 0, none⟩) hgg (fun k hk => by have := (HL.out k hk).2; simp only; omega) ((World.cell?_alloc_lt _ _ _ (by simp)).trans (new_at _ _ _ 0 _ rfl)); have e1 := gr_cell (a := ⟨wr.heap.size, 1, none⟩) hgg (fun k hk => by have := (HL.out k hk).2; simp only; omega) ((World.cell?_alloc_lt _ _ _ (by simp)).trans (new_at _ _ _ 1 _ rfl)); clear hgg)
                  go_roundw
                  case rel =>
                    refine ⟨j + 1, by omega, by go_num, ?_, ?_, hext'⟩
                    · rw [HK.out, sumP_app]; simp [sumP]; try omega
                    · rw [HK.out, pc_app, List.length_append]; exact hown'
                  case measure => simp [intOf]; omega
                · have hk1 : keepP n (ps.take (j + 1)) = keepP n (ps.take j) := by rw [hk0, if_neg hql, List.append_nil]
                  have HK := Lib.hid hk1
                  have HB := Lib.hid hown
                  clear hk0 hk1 e1 hown
                  go_wp2
                  go_roundw
                  case rel =>
                    refine ⟨j + 1, by omega, by go_num, ?_, ?_, by (repeat (first | exact Ext.rfl' _ | assumption | refine Ext.dr ?_ | refine Ext.al ?_ _ | refine Ext.st ?_ (by simp) _ | refine Ext.tr ?_ (by assumption)))⟩
                    · rw [HK.out]
                    · rw [HK.out]; exact HB.out.alloc _
                  case measure => simp [intOf]; omega
              · by_cases hz : y + 1 < n
                · have e1 : partOf n (x, y) = (x, y + 1) := by unfold partOf; rw [if_neg (by omega), if_neg (by omega)]; exact Prod.ext rfl (by simp only; omega)
                  have hk0 := hsucc.out
                  rw [e1] at hk0
                  by_cases hql : (x : Int) < y + 1
                  · have hbd := part_bd n (x, y) hb0 HOK.out (by rw [e1]; exact hql)
                    rw [e1] at hbd
                    obtain ⟨hbd0, hbd1⟩ := hbd
                    simp only at hbd0 hbd1
                    have hk1 : keepP n (ps.take (j + 1)) = keepP n (ps.take j) ++ [(x, y + 1)] := by rw [hk0, if_pos hql]
                    have HK := Lib.hid hk1
                    have HE := Lib.hid e1
                    clear hk0 hk1 e1
                    go_wp2_with (at_builtin; refine wpL_app slt_rpart (.tmp 85) (.tmp 87) rfl rfl rfl rfl ((hext.al _).al _) ((hown.alloc _).alloc _) (by rfl) (new_cells_g (w := wr.alloc (.cells #[.int .i64 (x), .int .i64 (y + 1)] 24)) (g := wr.heap.size + 1) (by simp) #[.int .i64 (x), .int .i64 (y + 1)] 24) (by simp [Value.oneCell']) (by omega) (by simp only [maxLen]; omega) ?_; intro v' w' hown' hext' hgg; have e0 := gr_cell (a := ⟨wr.heap.size, 0, none⟩) hgg (fun k hk => by have := (HL.out k hk).2; simp only; omega) ((World.cell?_alloc_lt _ _ _ (by simp)).trans (new_at _ _ _ 0 _ rfl)); have e1 := gr_cell (a := ⟨wr.heap.size, 1, none⟩) hgg (fun k hk => by have := (HL.out k hk).2; simp only; omega) ((World.cell?_alloc_lt _ _ _ (by simp)).trans (new_at _ _ _ 1 _ rfl)); clear hgg)
                    go_roundw
                    case rel =>
                      refine ⟨j + 1, by omega, by go_num, ?_, ?_, hext'⟩
                      · rw [HK.out, sumP_app]; simp [sumP]; try omega
                      · rw [HK.out, pc_app, List.length_append]; exact hown'
                    case measure => simp [intOf]; omega
                  · exfalso; omega
                · have e1 : partOf n (x, y) = (x, n) := by unfold partOf; rw [if_neg (by omega), if_neg (by omega)]; exact Prod.ext rfl (by simp only; omega)
                  have hk0 := hsucc.out
                  rw [e1] at hk0
                  by_cases hql : (x : Int) < n
                  · have hbd := part_bd n (x, y) hb0 HOK.out (by rw [e1]; exact hql)
                    rw [e1] at hbd
                    obtain ⟨hbd0, hbd1⟩ := hbd
                    simp only at hbd0 hbd1
                    have hk1 : keepP n (ps.take (j + 1)) = keepP n (ps.take j) ++ [(x, n)] := by rw [hk0, if_pos hql]
                    have HK := Lib.hid hk1
                    have HE := Lib.hid e1
                    clear hk0 hk1 e1
                    go_wp2_with (at_builtin; refine wpL_app slt_rpart (.tmp 85) (.tmp 87) rfl rfl rfl rfl ((hext.al _).al _) ((hown.alloc _).alloc _) (by rfl) (new_cells_g (w := wr.alloc (.cells #[.int .i64 (x), .int .i64 (n)] 24)) (g := wr.heap.size + 1) (by simp) #[.int .i64 (x), .int .i64 (n)] 24) (by simp [Value.oneCell']) (by omega) (by simp only [maxLen]; omega) ?_; intro v' w' hown' hext' hgg; have e0 := gr_cell (a := ⟨wr.heap.size, 0, none⟩) hgg (fun k hk => by have := (HL.out k hk).2; simp only; omega) ((World.cell?_alloc_lt _ _ _ (by simp)).trans (new_at _ _ _ 0 _ rfl)); have e1 := gr_cell (a := ⟨wr.heap.size, 1, none⟩) hgg (fun k hk => by have := (HL.out k hk).2; simp only; omega) ((World.cell?_alloc_lt _ _ _ (by simp)).trans (new_at _ _ _ 1 _ rfl)); clear hgg)
                    go_roundw
                    case rel =>
                      refine ⟨j + 1, by omega, by go_num, ?_, ?_, hext'⟩
                      · rw [HK.out, sumP_app]; simp [sumP]; try omega
                      · rw [HK.out, pc_app, List.length_append]; exact hown'
                    case measure => simp [intOf]; omega
                  · have hk1 : keepP n (ps.take (j + 1)) = keepP n (ps.take j) := by rw [hk0, if_neg hql, List.append_nil]
                    have HK := Lib.hid hk1
                    have HB := Lib.hid hown
                    clear hk0 hk1 e1 hown
                    go_wp2
                    go_roundw
                    case rel =>
                      refine ⟨j + 1, by omega, by go_num, ?_, ?_, by (repeat (first | exact Ext.rfl' _ | assumption | refine Ext.dr ?_ | refine Ext.al ?_ _ | refine Ext.st ?_ (by simp) _ | refine Ext.tr ?_ (by assumption)))⟩
                      · rw [HK.out]
                      · rw [HK.out]; exact HB.out.alloc _
                    case measure => simp [intOf]; omega
          · obtain rfl : j = k := by omega
            rw [List.take_of_length_le (by omega)] at hown hsb ⊢
            have hres : resolveL ps n = if keepP n ps = [] then ([], 62) else if n < sumP (keepP n ps) then ([], 0) else (keepP n ps, 0) := by
              unfold resolveL
              rw [if_neg HNB.out, if_neg (by rw [HA.out]; simp)]
            have HR := Lib.hid hres
            clear hres
            obtain ⟨A', c', rfl, hcc, hcm, hr, _⟩ := Rd.of_own hown
            clear hown hallj
            have hxx := hext
            by_cases hemp : keepP n ps = []
            · have hl0 : (keepP n ps).length = 0 := by rw [hemp]; rfl
              rw [if_pos hemp] at HR
              clear hemp
              generalize sumP (keepP n ps) = S at *
              rw [hl0]
              go_wp2
              go_ret2
              rw [HR.out]
              exact Ret.is rfl (IsSlPN.none_ _ _) hxx
            · have hl0 : 0 < (keepP n ps).length := List.length_pos_iff.2 hemp
              rw [if_neg hemp] at HR
              have hlk : (keepP n ps).length ≤ j := by have := hsb.2.2; omega
              by_cases hbig : n < sumP (keepP n ps)
              · rw [if_pos hbig] at HR
                clear hemp hsb
                generalize sumP (keepP n ps) = S at *
                generalize (keepP n ps).length = LL at *
                have hl1 : ((LL : Int) == 0) = false := by rw [beq_eq_false_iff_ne]; omega
                have hl2 : (LL == 0) = false := by rw [beq_eq_false_iff_ne]; omega
                have hl3 : ¬ LL = 0 := by omega
                go_wp2
                go_ret2
                rw [HR.out]
                exact Ret.is rfl (IsSlPN.none_ _ _) hxx
              · rw [if_neg hbig] at HR
                clear hemp hsb
                generalize sumP (keepP n ps) = S at *
                generalize hLL : (keepP n ps).length = LL at *
                have HLL := Lib.hid hLL
                clear hLL
                have hl1 : ((LL : Int) == 0) = false := by rw [beq_eq_false_iff_ne]; omega
                have hl2 : (LL == 0) = false := by rw [beq_eq_false_iff_ne]; omega
                have hl3 : ¬ LL = 0 := by omega
                go_wp2
                go_ret2
                rw [HR.out]
                exact Ret.is rfl (IsSlPN.mk HLL.out.symm rfl hr hcm) hxx
end Go.Proofs.YteklakibcboepaaDoor
