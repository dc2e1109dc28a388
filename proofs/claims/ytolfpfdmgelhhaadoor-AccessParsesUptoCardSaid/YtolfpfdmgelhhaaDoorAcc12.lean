/-
The reference's Parse of a line.
-/
import Derived.Test.YtolfpfdmgelhhaaDoorAPl
set_option linter.unusedVariables false
set_option linter.unusedSimpArgs false
namespace Go.Proofs.YtolfpfdmgelhhaaDoor
open Go.RowKit

set_option maxRecDepth 100000 in
set_option maxHeartbeats 8000000 in
theorem arParse_c (l : List UInt8) (hs : l.length ≤ 4000000000) (w : World) :
    Calls Tryd.prog 23 #[.string (str l)] w (Gives (parsV (parsL l)) w) := by
  have hms : maxLen = 9223372036854775807 := rfl
  obtain ⟨RR, hRR⟩ : ∃ R, R = parsL l := ⟨_, rfl⟩
  rw [← hRR]
  have HRR := Lib.hid hRR
  clear hRR
  have hwl := wds_len l
  go_enter Tryd.func23, Tryd.ntmps23
  go_wp2
  obtain ⟨W0, hW0⟩ : ∃ W0, W0 = w.alloc (.cells #[.int .i64 0, .string ⟨#[]⟩, .string ⟨#[]⟩, .string ⟨#[]⟩, .string ⟨#[]⟩, .int .i64 0, .int .i64 0, .string ⟨#[]⟩] 41) := ⟨_, rfl⟩
  rw [← hW0]
  have HB0 := Lib.hid (show W0.heap[w.heap.size]? = some (.cells #[.int .i64 0, .string ⟨#[]⟩, .string ⟨#[]⟩, .string ⟨#[]⟩, .string ⟨#[]⟩, .int .i64 0, .int .i64 0, .string ⟨#[]⟩] 41 (0, 0)) by rw [hW0]; exact heap_alloc_new w _)
  have hx0 : Ext w W0 := by rw [hW0]; (repeat (first | exact Ext.rfl' _ | assumption | refine Ext.dr ?_ | refine Ext.drN ?_ _ | refine Ext.al ?_ _ | refine Ext.st ?_ (by simp) _ | refine Ext.tr ?_ (by assumption)))
  clear hW0
  go_loopw [4, 5, 6] (fun v f i wr => ∃ acc fn k, f = .int .i64 (fn : Nat) ∧ i = .int .i64 (k : Nat) ∧ WdAt l acc fn k ∧ wr.ownsRow W0.heap.size 9 1 v acc.length (sc acc) ∧ Ext W0 wr) (fun _ _ i _ => l.length + 1 - (intOf i).toNat)
  case atStart => exact ⟨[], 0, 0, rfl, rfl, .inl ⟨Nat.zero_le _, Nat.le_refl _, fun j _ _ h => by omega, rfl⟩, World.ownsRow_nil _ _ _ _, Ext.rfl' _⟩
  case round =>
    obtain ⟨acc, f, k, rfl, rfl, hat, hown, hext⟩ := hrel
    rcases hat with ⟨hk, hf, hno, hinv⟩ | ⟨rfl, hinv⟩
    · have hacc : acc.length ≤ l.length + 1 := by
        have := congrArg List.length hinv; rw [List.length_append] at this; omega
      have HI := Lib.hid hinv
      have HN := Lib.hid hno
      have HO := Lib.hid hown
      clear hinv hown hno
      by_cases hlt : k < l.length
      · have e0 : ((k : Int) == (l.length : Int)) = false := by rw [beq_eq_false_iff_ne]; omega
        by_cases hc : l[k] = 32
        · have HS := Lib.hid (wds_at hf hlt hc HN.out)
          have b1 : ((l[k].toNat : Int) == 32) = true := by rw [hc]; rfl
          clear hc
          go_wp2_with (at_builtin; refine wpL_app slt_str (.tmp 32) (.tmp 37) rfl rfl rfl rfl (Ext.al (by (repeat (first | exact Ext.rfl' _ | assumption | refine Ext.dr ?_ | refine Ext.drN ?_ _ | refine Ext.al ?_ _ | refine Ext.st ?_ (by simp) _ | refine Ext.tr ?_ (by assumption)))) _) ((own_ext HO.out (by (repeat (first | exact Ext.rfl' _ | assumption | refine Ext.dr ?_ | refine Ext.drN ?_ _ | refine Ext.al ?_ _ | refine Ext.st ?_ (by simp) _ | refine Ext.tr ?_ (by assumption))))).alloc _) (by rfl) (new_cells wr #[.string (str ((l.take k).drop f))] 9) (by simp [Value.oneCell']) (by omega) (by simp only [maxLen]; omega) ?_; intro v' w' hown' hext' hgg; clear hgg)
          go_roundw
          case rel => exact ⟨acc ++ [((l.take k).drop f)], k + 1, k + 1, by try go_num, by try go_num, .inl ⟨by omega, Nat.le_refl _, fun j _ h1 h2 => by omega, by rw [HI.out, HS.out]; simp⟩, by rw [sc_app, List.length_append]; exact hown', hext'⟩
          case measure => simp [intOf] <;> omega
        · have hb : l[k].toNat ≠ 32 := fun h => hc (UInt8.toNat_inj.1 (by show l[k].toNat = 32; omega))
          have b1 : ((l[k].toNat : Int) == 32) = false := by rw [beq_eq_false_iff_ne]; omega
          have HC := Lib.hid hc
          clear hc hb
          go_wp2
          go_roundw
          case rel =>
            refine ⟨acc, f, k + 1, rfl, by go_num, .inl ⟨by omega, by omega, fun j hj h1 h2 => ?_, HI.out⟩, HO.out, hext⟩
            rcases Nat.lt_or_ge j k with h | h
            · exact HN.out j hj h1 h
            · obtain rfl : j = k := by omega
              exact HC.out
          case measure => simp [intOf]; omega
      · obtain rfl : k = l.length := by omega
        have HS := Lib.hid (wds_end hf (fun j hj h => HN.out j hj h hj))
        go_wp2_with (at_builtin; refine wpL_app slt_str (.tmp 32) (.tmp 37) rfl rfl rfl rfl (Ext.al (by (repeat (first | exact Ext.rfl' _ | assumption | refine Ext.dr ?_ | refine Ext.drN ?_ _ | refine Ext.al ?_ _ | refine Ext.st ?_ (by simp) _ | refine Ext.tr ?_ (by assumption)))) _) ((own_ext HO.out (by (repeat (first | exact Ext.rfl' _ | assumption | refine Ext.dr ?_ | refine Ext.drN ?_ _ | refine Ext.al ?_ _ | refine Ext.st ?_ (by simp) _ | refine Ext.tr ?_ (by assumption))))).alloc _) (by rfl) (new_cells wr #[.string (str (l.drop f))] 9) (by simp [Value.oneCell']) (by omega) (by simp only [maxLen]; omega) ?_; intro v' w' hown' hext' hgg; clear hgg)
        go_roundw
        case rel => exact ⟨acc ++ [(l.drop f)], l.length + 1, l.length + 1, by try go_num, by try go_num, .inr ⟨rfl, by rw [HI.out, HS.out]⟩, by rw [sc_app, List.length_append]; exact hown', hext'⟩
        case measure => simp [intOf] <;> omega
    · obtain ⟨A, c, rfl, hnc, hcm, hr, _⟩ := Rd.of_own hown
      clear hown
      by_cases h8 : acc.length = 8
      · obtain ⟨p0, p1, p2, p3, p4, p5, p6, p7, rfl⟩ := list8 h8
        have hm := fun s (h : s ∈ [p0, p1, p2, p3, p4, p5, p6, p7]) => wds_mem l s (by rw [hinv]; exact h)
        have m0 : p0.length ≤ maxLen := by have := hm p0 (by simp); omega
        have m5 : p5.length ≤ maxLen := by have := hm p5 (by simp); omega
        have m6 : p6.length ≤ maxLen := by have := hm p6 (by simp); omega
        have m1 : p1.length ≤ 140737488351232 := by have := hm p1 (by simp); omega
        have m2 : p2.length ≤ 140737488351232 := by have := hm p2 (by simp); omega
        have m3 : p3.length ≤ 140737488351232 := by have := hm p3 (by simp); omega
        have m4 : p4.length ≤ 140737488351232 := by have := hm p4 (by simp); omega
        have m7 : p7.length ≤ 140737488351232 := by have := hm p7 (by simp); omega
        clear hm
        obtain ⟨b, o, rfl, _, hcc⟩ := hr.at_ (by simp)
        have hks := Lib.hid (fun w' (e : Ext wr w') => (show w'.cell? ⟨b, o, none⟩ = some (.string (str p0)) ∧ w'.cell? ⟨b, o + 1, none⟩ = some (.string (str p1)) ∧ w'.cell? ⟨b, o + 2, none⟩ = some (.string (str p2)) ∧ w'.cell? ⟨b, o + 3, none⟩ = some (.string (str p3)) ∧ w'.cell? ⟨b, o + 4, none⟩ = some (.string (str p4)) ∧ w'.cell? ⟨b, o + 5, none⟩ = some (.string (str p5)) ∧ w'.cell? ⟨b, o + 6, none⟩ = some (.string (str p6)) ∧ w'.cell? ⟨b, o + 7, none⟩ = some (.string (str p7)) from
          have g : ∀ j u, (sc [p0, p1, p2, p3, p4, p5, p6, p7])[j]? = some u → w'.cell? ⟨b, o + j, none⟩ = some u := fun j u h => (e.cell (lt_of_cell (hcc j u h))).trans (hcc j u h)
          ⟨g 0 _ rfl, g 1 _ rfl, g 2 _ rfl, g 3 _ rfl, g 4 _ rfl, g 5 _ rfl, g 6 _ rfl, g 7 _ rfl⟩))
        clear hr hcc h8
        obtain ⟨j0, j1, j2, j3, j4, j5, j6, j7⟩ := hks.out wr (Ext.rfl' _)
        have hwf := entW_wf p0 p1 p2 p3 p4 p5 p6 p7
        have hRR := HRR.out
        unfold parsL at hRR
        rw [hinv] at hRR
        dsimp only at hRR
        have CL := fun w' => arLine_c (entW p0 p1 p2 p3 p4 p5 p6 p7) hwf w'
        obtain ⟨⟨ln, le⟩, hll⟩ : ∃ r, r = lineL (entW p0 p1 p2 p3 p4 p5 p6 p7) := ⟨_, rfl⟩
        rw [← hll] at CL hRR
        clear hll hwf hinv
        unfold Ent.val Ent.cells entW at CL
        dsimp only at CL
        obtain ⟨⟨n0, e0⟩, h0⟩ : ∃ r, r = numW p0 := ⟨_, rfl⟩
        obtain ⟨⟨n5, e5⟩, h5⟩ : ∃ r, r = numW p5 := ⟨_, rfl⟩
        obtain ⟨⟨n6, e6⟩, h6⟩ : ∃ r, r = numW p6 := ⟨_, rfl⟩
        have hent : (entW p0 p1 p2 p3 p4 p5 p6 p7).val = .agg #[.int .i64 n0, .string (str (unL p1)), .string (str (unL p2)), .string (str (unL p3)), .string (str (unL p4)), .int .i64 n5, .int .i64 n6, .string (str (unL p7))] := by
          unfold Ent.val Ent.cells entW; rw [← h0, ← h5, ← h6]
        rw [← h0, ← h5, ← h6] at CL hRR
        dsimp only at CL hRR
        have H0 := Lib.hid (show numL 10 1000000000000000000 p0 = (n0, e0) from h0.symm)
        have H5 := Lib.hid (show numL 10 1000000000000000000 p5 = (n5, e5) from h5.symm)
        have H6 := Lib.hid (show numL 10 1000000000000000000 p6 = (n6, e6) from h6.symm)
        have HENT := Lib.hid hent
        have HRR2 := Lib.hid hRR
        clear h0 h5 h6 hent hRR
        obtain ⟨u1, hu1⟩ : ∃ u, unL p1 = u := ⟨_, rfl⟩
        obtain ⟨u2, hu2⟩ : ∃ u, unL p2 = u := ⟨_, rfl⟩
        obtain ⟨u3, hu3⟩ : ∃ u, unL p3 = u := ⟨_, rfl⟩
        obtain ⟨u4, hu4⟩ : ∃ u, unL p4 = u := ⟨_, rfl⟩
        obtain ⟨u7, hu7⟩ : ∃ u, unL p7 = u := ⟨_, rfl⟩
        rw [hu1, hu2, hu3, hu4, hu7] at CL HENT
        have U1 := Lib.hid hu1
        have U2 := Lib.hid hu2
        have U3 := Lib.hid hu3
        have U4 := Lib.hid hu4
        have U7 := Lib.hid hu7
        have CL := Lib.hid CL
        clear hu1 hu2 hu3 hu4 hu7
        have hxw : Ext w wr := hx0.tr hext
        go_wp2_with (go_at_call 70; refine (rDecimal_c _ (by assumption) _).mono ?_; rintro e w2 ⟨rfl, hx2⟩; (first | rw [H0.out] | rw [H5.out] | rw [H6.out]); dsimp only; obtain ⟨j0, j1, j2, j3, j4, j5, j6, j7⟩ := hks.out w2 (by (repeat (first | exact Ext.rfl' _ | assumption | refine Ext.dr ?_ | refine Ext.drN ?_ _ | refine Ext.al ?_ _ | refine Ext.st ?_ (by simp) _ | refine Ext.tr ?_ (by assumption)))))
        have hs2 : wr.heap.size ≤ w2.heap.size := Below.size (show Ext wr w2 by (repeat (first | exact Ext.rfl' _ | assumption | refine Ext.dr ?_ | refine Ext.drN ?_ _ | refine Ext.al ?_ _ | refine Ext.st ?_ (by simp) _ | refine Ext.tr ?_ (by assumption))))
        go_region_held3 (fun w' => w'.cell? ⟨b, o, none⟩ = some (.string (str p0)) ∧ w'.cell? ⟨b, o + 1, none⟩ = some (.string (str p1)) ∧ w'.cell? ⟨b, o + 2, none⟩ = some (.string (str p2)) ∧ w'.cell? ⟨b, o + 3, none⟩ = some (.string (str p3)) ∧ w'.cell? ⟨b, o + 4, none⟩ = some (.string (str p4)) ∧ w'.cell? ⟨b, o + 5, none⟩ = some (.string (str p5)) ∧ w'.cell? ⟨b, o + 6, none⟩ = some (.string (str p6)) ∧ w'.cell? ⟨b, o + 7, none⟩ = some (.string (str p7))) (exact hks.out _ (by (repeat (with_reducible (first | exact Ext.rfl' _ | assumption | refine Ext.dr ?_ | refine Ext.drN ?_ _ | refine Ext.al ?_ _ | refine Ext.st ?_ (by dsimp only; omega) _ | refine Ext.tr ?_ (by assumption)))))) (first
          | (go_at_call 71; refine (arPlain_c _ (by assumption) _).mono ?_; rintro e w3 ⟨rfl, hx3⟩; have hs3 : wr.heap.size ≤ w3.heap.size := Below.size (show Ext wr w3 by (repeat (with_reducible (first | exact Ext.rfl' _ | assumption | refine Ext.dr ?_ | refine Ext.drN ?_ _ | refine Ext.al ?_ _ | refine Ext.st ?_ (by dsimp only; omega) _ | refine Ext.tr ?_ (by assumption))))); (first | (with_reducible have HBK := hp_ext hx3 HBK) | (with_reducible have HBK := hp_ext hx3 (hp_dr HBK)) | (with_reducible have HBK := hp_ext hx3 (heap_alloc_new _ _)) | (with_reducible have HBK := hp_ext hx3 (hp_dr (heap_alloc_new _ _))) | skip); (try (have y0 := frozen_hp (j := 0) HBK; have y1 := frozen_hp (j := 1) HBK; have y2 := frozen_hp (j := 2) HBK; have y3 := frozen_hp (j := 3) HBK; have y4 := frozen_hp (j := 4) HBK; have y5 := frozen_hp (j := 5) HBK; have y6 := frozen_hp (j := 6) HBK; have y7 := frozen_hp (j := 7) HBK; obtain ⟨z0, z1, z2, z3, z4, z5, z6, z7⟩ := eight HBK (Ext.rfl' _))); first | rw [U1.out] | rw [U2.out] | rw [U3.out] | rw [U4.out] | rw [U7.out]))
        all_goals have hsw := hext.size
        all_goals (first
          | (obtain ⟨W9, hW9, hp9, hxW⟩ := put8x (w := W0) HBK (by omega) (show Ext W0 _ by (repeat (with_reducible (first | exact Ext.rfl' _ | assumption | refine Ext.dr ?_ | refine Ext.drN ?_ _ | refine Ext.al ?_ _ | refine Ext.st ?_ (by dsimp only; omega) _ | refine Ext.tr ?_ (by assumption))))) (.int .i64 n0) (.string (str u1)) (.string (str u2)) (.string (str u3)) (.string (str u4)) (.int .i64 n5) (.int .i64 n6) (.string (str u7))
             rw [← hW9]
             clear hW9)
          | (obtain ⟨W9, hW9⟩ : ∃ W9, W9 = w3.alloc (.cells #[.int .i64 n0, .string (str u1), .string (str u2), .string (str u3), .string (str u4), .int .i64 n5, .int .i64 n6, .string (str u7)] 41) := ⟨_, rfl⟩
             rw [← hW9]
             have hp9 := heap_alloc_new w3 (.cells #[.int .i64 n0, .string (str u1), .string (str u2), .string (str u3), .string (str u4), .int .i64 n5, .int .i64 n6, .string (str u7)] 41)
             rw [← hW9] at hp9
             have hxW : Ext W0 W9 := by rw [hW9]; (repeat (with_reducible (first | exact Ext.rfl' _ | assumption | refine Ext.dr ?_ | refine Ext.drN ?_ _ | refine Ext.al ?_ _ | refine Ext.st ?_ (by dsimp only; omega) _ | refine Ext.tr ?_ (by assumption))))
             clear hW9))
        all_goals (
          have HP9 := Lib.hid hp9
          obtain ⟨z0, z1, z2, z3, z4, z5, z6, z7⟩ := eight hp9 (Ext.rfl' _)
          clear hp9 hks
          by_cases c0 : e0 = 0
          · subst c0
            by_cases c5 : e5 = 0
            · subst c5
              by_cases c6 : e6 = 0
              · subst c6
                by_cases ce : le = 0
                · subst ce
                  by_cases cl : ln = l
                  · subst cl
                    have HV := Lib.hid (show RR = (entW p0 p1 p2 p3 p4 p5 p6 p7, 0) by rw [HRR2.out, if_pos ⟨rfl, rfl, rfl, rfl, rfl⟩])
                    go_wp2_with (go_at_call 72; refine (CL.out _).mono ?_; rintro e w9 ⟨rfl, hx9⟩; have hw9 : Ext w w9 := hx0.tr (hxW.tr hx9); have HB := Lib.hid (hp_ext (hxW.tr hx9) HB0.out); have k0 := frozen_hp (j := 0) HB.out; have k1 := frozen_hp (j := 1) HB.out; have k2 := frozen_hp (j := 2) HB.out; have k3 := frozen_hp (j := 3) HB.out; have k4 := frozen_hp (j := 4) HB.out; have k5 := frozen_hp (j := 5) HB.out; have k6 := frozen_hp (j := 6) HB.out; have k7 := frozen_hp (j := 7) HB.out; obtain ⟨q0, q1, q2, q3, q4, q5, q6, q7⟩ := eight HB.out (Ext.rfl' _); obtain ⟨z0, z1, z2, z3, z4, z5, z6, z7⟩ := eight HP9.out hx9)
                    obtain ⟨w1, hw1e⟩ : ∃ w1, w1 = w9 := ⟨_, rfl⟩
                    rw [← hw1e] at HB hw9 q0 q1 q2 q3 q4 q5 q6 q7 k0 k1 k2 k3 k4 k5 k6 k7 ⊢
                    have hw1 := hw9
                    clear hw1e
                    have hp := put8 HB.out (.int .i64 n0) (.string (str u1)) (.string (str u2)) (.string (str u3)) (.string (str u4)) (.int .i64 n5) (.int .i64 n6) (.string (str u7))
                    have hx := ext8 (b := w.heap.size) (Nat.le_refl _) hw1 (.int .i64 n0) (.string (str u1)) (.string (str u2)) (.string (str u3)) (.string (str u4)) (.int .i64 n5) (.int .i64 n6) (.string (str u7))
                    obtain ⟨W9, hW9⟩ : ∃ W9, W9 = ((((((((w1.setCell ⟨w.heap.size, 0, none⟩ (.int .i64 n0)).setCell ⟨w.heap.size, 1, none⟩ (.string (str u1))).setCell ⟨w.heap.size, 2, none⟩ (.string (str u2))).setCell ⟨w.heap.size, 3, none⟩ (.string (str u3))).setCell ⟨w.heap.size, 4, none⟩ (.string (str u4))).setCell ⟨w.heap.size, 5, none⟩ (.int .i64 n5)).setCell ⟨w.heap.size, 6, none⟩ (.int .i64 n6)).setCell ⟨w.heap.size, 7, none⟩ (.string (str u7))) := ⟨_, rfl⟩
                    rw [← hW9] at hp hx ⊢
                    clear hW9 q0 q1 q2 q3 q4 q5 q6 q7 k0 k1 k2 k3 k4 k5 k6 k7
                    obtain ⟨q0, q1, q2, q3, q4, q5, q6, q7⟩ := eight hp (Ext.rfl' _)
                    exact bodyPost_ret (v := .tuple #[.agg #[.int .i64 n0, .string (str u1), .string (str u2), .string (str u3), .string (str u4), .int .i64 n5, .int .i64 n6, .string (str u7)], .int .i64 0]) (by simp [results, Tryd.results23, go_sem, q0, q1, q2, q3, q4, q5, q6, q7]) rfl ⟨ret_val (by rw [HV.out]; unfold parsV; dsimp only; rw [HENT.out]), hx⟩
                  · have HV := Lib.hid (show RR = (zeroEnt, 42) by rw [HRR2.out, if_neg (fun h => cl h.2.2.2.2)])
                    have d1 : ((str ln).toList == l) = false := by rw [beq_eq_false_iff_ne, Lib.toList_data]; exact cl
                    have d2 : (ln == l) = false := by rw [beq_eq_false_iff_ne]; exact cl
                    go_wp2_with (go_at_call 72; refine (CL.out _).mono ?_; rintro e w9 ⟨rfl, hx9⟩; have hw9 : Ext w w9 := hx0.tr (hxW.tr hx9); have HB := Lib.hid (hp_ext (hxW.tr hx9) HB0.out); have k0 := frozen_hp (j := 0) HB.out; have k1 := frozen_hp (j := 1) HB.out; have k2 := frozen_hp (j := 2) HB.out; have k3 := frozen_hp (j := 3) HB.out; have k4 := frozen_hp (j := 4) HB.out; have k5 := frozen_hp (j := 5) HB.out; have k6 := frozen_hp (j := 6) HB.out; have k7 := frozen_hp (j := 7) HB.out; obtain ⟨q0, q1, q2, q3, q4, q5, q6, q7⟩ := eight HB.out (Ext.rfl' _); obtain ⟨z0, z1, z2, z3, z4, z5, z6, z7⟩ := eight HP9.out hx9)
                    try go_wp2
                    obtain ⟨w1, hw1e⟩ : ∃ w1, w1 = w9 := ⟨_, rfl⟩
                    rw [← hw1e] at HB hw9 q0 q1 q2 q3 q4 q5 q6 q7 k0 k1 k2 k3 k4 k5 k6 k7 ⊢
                    have hw1 := hw9
                    clear hw1e
                    have hp := put8 HB.out (.int .i64 0) (.string ⟨#[]⟩) (.string ⟨#[]⟩) (.string ⟨#[]⟩) (.string ⟨#[]⟩) (.int .i64 0) (.int .i64 0) (.string ⟨#[]⟩)
                    have hx := ext8 (b := w.heap.size) (Nat.le_refl _) hw1 (.int .i64 0) (.string ⟨#[]⟩) (.string ⟨#[]⟩) (.string ⟨#[]⟩) (.string ⟨#[]⟩) (.int .i64 0) (.int .i64 0) (.string ⟨#[]⟩)
                    obtain ⟨W9, hW9⟩ : ∃ W9, W9 = ((((((((w1.setCell ⟨w.heap.size, 0, none⟩ (.int .i64 0)).setCell ⟨w.heap.size, 1, none⟩ (.string ⟨#[]⟩)).setCell ⟨w.heap.size, 2, none⟩ (.string ⟨#[]⟩)).setCell ⟨w.heap.size, 3, none⟩ (.string ⟨#[]⟩)).setCell ⟨w.heap.size, 4, none⟩ (.string ⟨#[]⟩)).setCell ⟨w.heap.size, 5, none⟩ (.int .i64 0)).setCell ⟨w.heap.size, 6, none⟩ (.int .i64 0)).setCell ⟨w.heap.size, 7, none⟩ (.string ⟨#[]⟩)) := ⟨_, rfl⟩
                    rw [← hW9] at hp hx ⊢
                    clear hW9 q0 q1 q2 q3 q4 q5 q6 q7 k0 k1 k2 k3 k4 k5 k6 k7
                    obtain ⟨q0, q1, q2, q3, q4, q5, q6, q7⟩ := eight hp (Ext.rfl' _)
                    exact bodyPost_ret (v := .tuple #[.agg #[.int .i64 0, .string ⟨#[]⟩, .string ⟨#[]⟩, .string ⟨#[]⟩, .string ⟨#[]⟩, .int .i64 0, .int .i64 0, .string ⟨#[]⟩], .int .i64 42]) (by simp [results, Tryd.results23, go_sem, q0, q1, q2, q3, q4, q5, q6, q7]) rfl ⟨ret_val (by rw [HV.out]; rfl), hx⟩
                · have HV := Lib.hid (show RR = (zeroEnt, 42) by rw [HRR2.out, if_neg (fun h => ce h.2.2.2.1)])
                  have d1 : (le != 0) = true := by rw [bne_iff_ne]; exact ce
                  go_wp2_with (go_at_call 72; refine (CL.out _).mono ?_; rintro e w9 ⟨rfl, hx9⟩; have hw9 : Ext w w9 := hx0.tr (hxW.tr hx9); have HB := Lib.hid (hp_ext (hxW.tr hx9) HB0.out); have k0 := frozen_hp (j := 0) HB.out; have k1 := frozen_hp (j := 1) HB.out; have k2 := frozen_hp (j := 2) HB.out; have k3 := frozen_hp (j := 3) HB.out; have k4 := frozen_hp (j := 4) HB.out; have k5 := frozen_hp (j := 5) HB.out; have k6 := frozen_hp (j := 6) HB.out; have k7 := frozen_hp (j := 7) HB.out; obtain ⟨q0, q1, q2, q3, q4, q5, q6, q7⟩ := eight HB.out (Ext.rfl' _); obtain ⟨z0, z1, z2, z3, z4, z5, z6, z7⟩ := eight HP9.out hx9)
                  try go_wp2
                  obtain ⟨w1, hw1e⟩ : ∃ w1, w1 = w9 := ⟨_, rfl⟩
                  rw [← hw1e] at HB hw9 q0 q1 q2 q3 q4 q5 q6 q7 k0 k1 k2 k3 k4 k5 k6 k7 ⊢
                  have hw1 := hw9
                  clear hw1e
                  have hp := put8 HB.out (.int .i64 0) (.string ⟨#[]⟩) (.string ⟨#[]⟩) (.string ⟨#[]⟩) (.string ⟨#[]⟩) (.int .i64 0) (.int .i64 0) (.string ⟨#[]⟩)
                  have hx := ext8 (b := w.heap.size) (Nat.le_refl _) hw1 (.int .i64 0) (.string ⟨#[]⟩) (.string ⟨#[]⟩) (.string ⟨#[]⟩) (.string ⟨#[]⟩) (.int .i64 0) (.int .i64 0) (.string ⟨#[]⟩)
                  obtain ⟨W9, hW9⟩ : ∃ W9, W9 = ((((((((w1.setCell ⟨w.heap.size, 0, none⟩ (.int .i64 0)).setCell ⟨w.heap.size, 1, none⟩ (.string ⟨#[]⟩)).setCell ⟨w.heap.size, 2, none⟩ (.string ⟨#[]⟩)).setCell ⟨w.heap.size, 3, none⟩ (.string ⟨#[]⟩)).setCell ⟨w.heap.size, 4, none⟩ (.string ⟨#[]⟩)).setCell ⟨w.heap.size, 5, none⟩ (.int .i64 0)).setCell ⟨w.heap.size, 6, none⟩ (.int .i64 0)).setCell ⟨w.heap.size, 7, none⟩ (.string ⟨#[]⟩)) := ⟨_, rfl⟩
                  rw [← hW9] at hp hx ⊢
                  clear hW9 q0 q1 q2 q3 q4 q5 q6 q7 k0 k1 k2 k3 k4 k5 k6 k7
                  obtain ⟨q0, q1, q2, q3, q4, q5, q6, q7⟩ := eight hp (Ext.rfl' _)
                  exact bodyPost_ret (v := .tuple #[.agg #[.int .i64 0, .string ⟨#[]⟩, .string ⟨#[]⟩, .string ⟨#[]⟩, .string ⟨#[]⟩, .int .i64 0, .int .i64 0, .string ⟨#[]⟩], .int .i64 42]) (by simp [results, Tryd.results23, go_sem, q0, q1, q2, q3, q4, q5, q6, q7]) rfl ⟨ret_val (by rw [HV.out]; rfl), hx⟩
              · have HV := Lib.hid (show RR = (zeroEnt, 42) by rw [HRR2.out, if_neg (fun h => c6 h.2.2.1)])
                have d1 : (e6 != 0) = true := by rw [bne_iff_ne]; exact c6
                go_wp2_with (go_at_call 72; refine (CL.out _).mono ?_; rintro e w9 ⟨rfl, hx9⟩; have hw9 : Ext w w9 := hx0.tr (hxW.tr hx9); have HB := Lib.hid (hp_ext (hxW.tr hx9) HB0.out); have k0 := frozen_hp (j := 0) HB.out; have k1 := frozen_hp (j := 1) HB.out; have k2 := frozen_hp (j := 2) HB.out; have k3 := frozen_hp (j := 3) HB.out; have k4 := frozen_hp (j := 4) HB.out; have k5 := frozen_hp (j := 5) HB.out; have k6 := frozen_hp (j := 6) HB.out; have k7 := frozen_hp (j := 7) HB.out; obtain ⟨q0, q1, q2, q3, q4, q5, q6, q7⟩ := eight HB.out (Ext.rfl' _); obtain ⟨z0, z1, z2, z3, z4, z5, z6, z7⟩ := eight HP9.out hx9)
                try go_wp2
                obtain ⟨w1, hw1e⟩ : ∃ w1, w1 = w9 := ⟨_, rfl⟩
                rw [← hw1e] at HB hw9 q0 q1 q2 q3 q4 q5 q6 q7 k0 k1 k2 k3 k4 k5 k6 k7 ⊢
                have hw1 := hw9
                clear hw1e
                have hp := put8 HB.out (.int .i64 0) (.string ⟨#[]⟩) (.string ⟨#[]⟩) (.string ⟨#[]⟩) (.string ⟨#[]⟩) (.int .i64 0) (.int .i64 0) (.string ⟨#[]⟩)
                have hx := ext8 (b := w.heap.size) (Nat.le_refl _) hw1 (.int .i64 0) (.string ⟨#[]⟩) (.string ⟨#[]⟩) (.string ⟨#[]⟩) (.string ⟨#[]⟩) (.int .i64 0) (.int .i64 0) (.string ⟨#[]⟩)
                obtain ⟨W9, hW9⟩ : ∃ W9, W9 = ((((((((w1.setCell ⟨w.heap.size, 0, none⟩ (.int .i64 0)).setCell ⟨w.heap.size, 1, none⟩ (.string ⟨#[]⟩)).setCell ⟨w.heap.size, 2, none⟩ (.string ⟨#[]⟩)).setCell ⟨w.heap.size, 3, none⟩ (.string ⟨#[]⟩)).setCell ⟨w.heap.size, 4, none⟩ (.string ⟨#[]⟩)).setCell ⟨w.heap.size, 5, none⟩ (.int .i64 0)).setCell ⟨w.heap.size, 6, none⟩ (.int .i64 0)).setCell ⟨w.heap.size, 7, none⟩ (.string ⟨#[]⟩)) := ⟨_, rfl⟩
                rw [← hW9] at hp hx ⊢
                clear hW9 q0 q1 q2 q3 q4 q5 q6 q7 k0 k1 k2 k3 k4 k5 k6 k7
                obtain ⟨q0, q1, q2, q3, q4, q5, q6, q7⟩ := eight hp (Ext.rfl' _)
                exact bodyPost_ret (v := .tuple #[.agg #[.int .i64 0, .string ⟨#[]⟩, .string ⟨#[]⟩, .string ⟨#[]⟩, .string ⟨#[]⟩, .int .i64 0, .int .i64 0, .string ⟨#[]⟩], .int .i64 42]) (by simp [results, Tryd.results23, go_sem, q0, q1, q2, q3, q4, q5, q6, q7]) rfl ⟨ret_val (by rw [HV.out]; rfl), hx⟩
            · have HV := Lib.hid (show RR = (zeroEnt, 42) by rw [HRR2.out, if_neg (fun h => c5 h.2.1)])
              have d1 : (e5 != 0) = true := by rw [bne_iff_ne]; exact c5
              go_wp2_with (go_at_call 72; refine (CL.out _).mono ?_; rintro e w9 ⟨rfl, hx9⟩; have hw9 : Ext w w9 := hx0.tr (hxW.tr hx9); have HB := Lib.hid (hp_ext (hxW.tr hx9) HB0.out); have k0 := frozen_hp (j := 0) HB.out; have k1 := frozen_hp (j := 1) HB.out; have k2 := frozen_hp (j := 2) HB.out; have k3 := frozen_hp (j := 3) HB.out; have k4 := frozen_hp (j := 4) HB.out; have k5 := frozen_hp (j := 5) HB.out; have k6 := frozen_hp (j := 6) HB.out; have k7 := frozen_hp (j := 7) HB.out; obtain ⟨q0, q1, q2, q3, q4, q5, q6, q7⟩ := eight HB.out (Ext.rfl' _); obtain ⟨z0, z1, z2, z3, z4, z5, z6, z7⟩ := eight HP9.out hx9)
              try go_wp2
              obtain ⟨w1, hw1e⟩ : ∃ w1, w1 = w9 := ⟨_, rfl⟩
              rw [← hw1e] at HB hw9 q0 q1 q2 q3 q4 q5 q6 q7 k0 k1 k2 k3 k4 k5 k6 k7 ⊢
              have hw1 := hw9
              clear hw1e
              have hp := put8 HB.out (.int .i64 0) (.string ⟨#[]⟩) (.string ⟨#[]⟩) (.string ⟨#[]⟩) (.string ⟨#[]⟩) (.int .i64 0) (.int .i64 0) (.string ⟨#[]⟩)
              have hx := ext8 (b := w.heap.size) (Nat.le_refl _) hw1 (.int .i64 0) (.string ⟨#[]⟩) (.string ⟨#[]⟩) (.string ⟨#[]⟩) (.string ⟨#[]⟩) (.int .i64 0) (.int .i64 0) (.string ⟨#[]⟩)
              obtain ⟨W9, hW9⟩ : ∃ W9, W9 = ((((((((w1.setCell ⟨w.heap.size, 0, none⟩ (.int .i64 0)).setCell ⟨w.heap.size, 1, none⟩ (.string ⟨#[]⟩)).setCell ⟨w.heap.size, 2, none⟩ (.string ⟨#[]⟩)).setCell ⟨w.heap.size, 3, none⟩ (.string ⟨#[]⟩)).setCell ⟨w.heap.size, 4, none⟩ (.string ⟨#[]⟩)).setCell ⟨w.heap.size, 5, none⟩ (.int .i64 0)).setCell ⟨w.heap.size, 6, none⟩ (.int .i64 0)).setCell ⟨w.heap.size, 7, none⟩ (.string ⟨#[]⟩)) := ⟨_, rfl⟩
              rw [← hW9] at hp hx ⊢
              clear hW9 q0 q1 q2 q3 q4 q5 q6 q7 k0 k1 k2 k3 k4 k5 k6 k7
              obtain ⟨q0, q1, q2, q3, q4, q5, q6, q7⟩ := eight hp (Ext.rfl' _)
              exact bodyPost_ret (v := .tuple #[.agg #[.int .i64 0, .string ⟨#[]⟩, .string ⟨#[]⟩, .string ⟨#[]⟩, .string ⟨#[]⟩, .int .i64 0, .int .i64 0, .string ⟨#[]⟩], .int .i64 42]) (by simp [results, Tryd.results23, go_sem, q0, q1, q2, q3, q4, q5, q6, q7]) rfl ⟨ret_val (by rw [HV.out]; rfl), hx⟩
          · have HV := Lib.hid (show RR = (zeroEnt, 42) by rw [HRR2.out, if_neg (fun h => c0 h.1)])
            have d1 : (e0 != 0) = true := by rw [bne_iff_ne]; exact c0
            go_wp2_with (go_at_call 72; refine (CL.out _).mono ?_; rintro e w9 ⟨rfl, hx9⟩; have hw9 : Ext w w9 := hx0.tr (hxW.tr hx9); have HB := Lib.hid (hp_ext (hxW.tr hx9) HB0.out); have k0 := frozen_hp (j := 0) HB.out; have k1 := frozen_hp (j := 1) HB.out; have k2 := frozen_hp (j := 2) HB.out; have k3 := frozen_hp (j := 3) HB.out; have k4 := frozen_hp (j := 4) HB.out; have k5 := frozen_hp (j := 5) HB.out; have k6 := frozen_hp (j := 6) HB.out; have k7 := frozen_hp (j := 7) HB.out; obtain ⟨q0, q1, q2, q3, q4, q5, q6, q7⟩ := eight HB.out (Ext.rfl' _); obtain ⟨z0, z1, z2, z3, z4, z5, z6, z7⟩ := eight HP9.out hx9)
            try go_wp2
            obtain ⟨w1, hw1e⟩ : ∃ w1, w1 = w9 := ⟨_, rfl⟩
            rw [← hw1e] at HB hw9 q0 q1 q2 q3 q4 q5 q6 q7 k0 k1 k2 k3 k4 k5 k6 k7 ⊢
            have hw1 := hw9
            clear hw1e
            have hp := put8 HB.out (.int .i64 0) (.string ⟨#[]⟩) (.string ⟨#[]⟩) (.string ⟨#[]⟩) (.string ⟨#[]⟩) (.int .i64 0) (.int .i64 0) (.string ⟨#[]⟩)
            have hx := ext8 (b := w.heap.size) (Nat.le_refl _) hw1 (.int .i64 0) (.string ⟨#[]⟩) (.string ⟨#[]⟩) (.string ⟨#[]⟩) (.string ⟨#[]⟩) (.int .i64 0) (.int .i64 0) (.string ⟨#[]⟩)
            obtain ⟨W9, hW9⟩ : ∃ W9, W9 = ((((((((w1.setCell ⟨w.heap.size, 0, none⟩ (.int .i64 0)).setCell ⟨w.heap.size, 1, none⟩ (.string ⟨#[]⟩)).setCell ⟨w.heap.size, 2, none⟩ (.string ⟨#[]⟩)).setCell ⟨w.heap.size, 3, none⟩ (.string ⟨#[]⟩)).setCell ⟨w.heap.size, 4, none⟩ (.string ⟨#[]⟩)).setCell ⟨w.heap.size, 5, none⟩ (.int .i64 0)).setCell ⟨w.heap.size, 6, none⟩ (.int .i64 0)).setCell ⟨w.heap.size, 7, none⟩ (.string ⟨#[]⟩)) := ⟨_, rfl⟩
            rw [← hW9] at hp hx ⊢
            clear hW9 q0 q1 q2 q3 q4 q5 q6 q7 k0 k1 k2 k3 k4 k5 k6 k7
            obtain ⟨q0, q1, q2, q3, q4, q5, q6, q7⟩ := eight hp (Ext.rfl' _)
            exact bodyPost_ret (v := .tuple #[.agg #[.int .i64 0, .string ⟨#[]⟩, .string ⟨#[]⟩, .string ⟨#[]⟩, .string ⟨#[]⟩, .int .i64 0, .int .i64 0, .string ⟨#[]⟩], .int .i64 42]) (by simp [results, Tryd.results23, go_sem, q0, q1, q2, q3, q4, q5, q6, q7]) rfl ⟨ret_val (by rw [HV.out]; rfl), hx⟩
        )
      · have hne : ((acc.length : Int) != 8) = true := by rw [bne_iff_ne]; omega
        have HV := Lib.hid (show RR = (zeroEnt, 42) by rw [HRR.out]; exact pars_not8 (by rw [hinv]; exact h8))
        have HB := Lib.hid (hp_ext (hext) HB0.out); have k0 := frozen_hp (j := 0) HB.out; have k1 := frozen_hp (j := 1) HB.out; have k2 := frozen_hp (j := 2) HB.out; have k3 := frozen_hp (j := 3) HB.out; have k4 := frozen_hp (j := 4) HB.out; have k5 := frozen_hp (j := 5) HB.out; have k6 := frozen_hp (j := 6) HB.out; have k7 := frozen_hp (j := 7) HB.out; obtain ⟨q0, q1, q2, q3, q4, q5, q6, q7⟩ := eight HB.out (Ext.rfl' _)
        obtain ⟨w9, hw9e⟩ : ∃ w9, w9 = wr := ⟨_, rfl⟩
        have hw9 : Ext w w9 := by rw [hw9e]; exact hx0.tr hext
        rw [← hw9e] at HB q0 q1 q2 q3 q4 q5 q6 q7 k0 k1 k2 k3 k4 k5 k6 k7 ⊢
        clear hw9e hr hext
        try go_wp2
        obtain ⟨w1, hw1e⟩ : ∃ w1, w1 = w9 := ⟨_, rfl⟩
        rw [← hw1e] at HB hw9 q0 q1 q2 q3 q4 q5 q6 q7 k0 k1 k2 k3 k4 k5 k6 k7 ⊢
        have hw1 := hw9
        clear hw1e
        have hp := put8 HB.out (.int .i64 0) (.string ⟨#[]⟩) (.string ⟨#[]⟩) (.string ⟨#[]⟩) (.string ⟨#[]⟩) (.int .i64 0) (.int .i64 0) (.string ⟨#[]⟩)
        have hx := ext8 (b := w.heap.size) (Nat.le_refl _) hw1 (.int .i64 0) (.string ⟨#[]⟩) (.string ⟨#[]⟩) (.string ⟨#[]⟩) (.string ⟨#[]⟩) (.int .i64 0) (.int .i64 0) (.string ⟨#[]⟩)
        obtain ⟨W9, hW9⟩ : ∃ W9, W9 = ((((((((w1.setCell ⟨w.heap.size, 0, none⟩ (.int .i64 0)).setCell ⟨w.heap.size, 1, none⟩ (.string ⟨#[]⟩)).setCell ⟨w.heap.size, 2, none⟩ (.string ⟨#[]⟩)).setCell ⟨w.heap.size, 3, none⟩ (.string ⟨#[]⟩)).setCell ⟨w.heap.size, 4, none⟩ (.string ⟨#[]⟩)).setCell ⟨w.heap.size, 5, none⟩ (.int .i64 0)).setCell ⟨w.heap.size, 6, none⟩ (.int .i64 0)).setCell ⟨w.heap.size, 7, none⟩ (.string ⟨#[]⟩)) := ⟨_, rfl⟩
        rw [← hW9] at hp hx ⊢
        clear hW9 q0 q1 q2 q3 q4 q5 q6 q7 k0 k1 k2 k3 k4 k5 k6 k7
        obtain ⟨q0, q1, q2, q3, q4, q5, q6, q7⟩ := eight hp (Ext.rfl' _)
        exact bodyPost_ret (v := .tuple #[.agg #[.int .i64 0, .string ⟨#[]⟩, .string ⟨#[]⟩, .string ⟨#[]⟩, .string ⟨#[]⟩, .int .i64 0, .int .i64 0, .string ⟨#[]⟩], .int .i64 42]) (by simp [results, Tryd.results23, go_sem, q0, q1, q2, q3, q4, q5, q6, q7]) rfl ⟨ret_val (by rw [HV.out]; rfl), hx⟩
end Go.Proofs.YtolfpfdmgelhhaaDoor
