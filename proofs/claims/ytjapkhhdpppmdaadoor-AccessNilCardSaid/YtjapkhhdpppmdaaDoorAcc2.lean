/-
The reference's escaped.
-/
import Derived.Test.YtjapkhhdpppmdaaDoorAcc1
set_option linter.unusedVariables false
set_option linter.unusedSimpArgs false
namespace Go.Proofs.YtjapkhhdpppmdaaDoor
open Go.RowKit

set_option maxRecDepth 100000 in
set_option maxHeartbeats 4000000 in
theorem arEscaped_c (l : List UInt8) (hs : l.length ≤ 35184372088832) (w : World) :
    Calls Tryd.prog 50 #[.string (str l)] w (Gives (.string (str (escL l))) w) := by
  by_cases h0 : l = []
  · subst h0
    rw [show escL [] = [45] from rfl, show str ([] : List UInt8) = ⟨#[]⟩ from rfl, show str ([45] : List UInt8) = ⟨#[45]⟩ from rfl]
    go_enter Tryd.func50, Tryd.ntmps50
    go_wp2
    go_ret
    exact ⟨rfl, by (repeat (first | exact Ext.rfl' _ | assumption | refine Ext.dr ?_ | refine Ext.drN ?_ _ | refine Ext.al ?_ _ | refine Ext.st ?_ (by simp) _ | refine Ext.tr ?_ (by assumption)))⟩
  have e1 : l.isEmpty = false := by rw [List.isEmpty_eq_false_iff]; exact h0
  have e2 : (str l).toList.isEmpty = false := by rw [Lib.toList_data]; exact e1
  obtain ⟨d, hd⟩ : ∃ d, d = (l == [45]) := ⟨_, rfl⟩
  have s1 : ((str l).toList == [45]) = d := by rw [Lib.toList_data, hd]; rfl
  have s2 : (l == [45]) = d := hd.symm
  obtain ⟨R, hR⟩ : ∃ R, R = l.flatMap (escB d) := ⟨_, rfl⟩
  rw [show escL l = R by unfold escL; rw [if_neg h0, s2, hR]]
  have HR := Lib.hid hR
  clear hd hR h0
  have hms : maxLen = 9223372036854775807 := rfl
  go_enter Tryd.func50, Tryd.ntmps50
  go_wp2
  generalize hdg : (⟨#[48, 49, 50, 51, 52, 53, 54, 55, 56, 57, 97, 98, 99, 100, 101, 102]⟩ : ByteArray) = dg
  have hds : dg.size = 16 := by rw [← hdg]; rfl
  have hda : ∀ n (h : n < dg.size), n < 16 → dg[n] = hexl n := fun n h h16 => by subst hdg; exact hexl_at n h16
  have HDA := Lib.hid hda
  clear hda hdg
  go_loopw [4, 5] (fun v i wr => ∃ k : Nat, i = .int .i64 k ∧ k ≤ l.length ∧ wr.ownsRow w.heap.size 5 1 v ((l.take k).flatMap (escB d)).length (bc ((l.take k).flatMap (escB d))) ∧ Ext w wr) (fun _ i _ => l.length - (intOf i).toNat)
  case atStart => exact ⟨0, rfl, Nat.zero_le _, World.ownsRow_nil _ _ _ _, by (repeat (first | exact Ext.rfl' _ | assumption | refine Ext.dr ?_ | refine Ext.drN ?_ _ | refine Ext.al ?_ _ | refine Ext.st ?_ (by simp) _ | refine Ext.tr ?_ (by assumption)))⟩
  case round =>
    obtain ⟨k, rfl, hk, hown, hext⟩ := hrel
    have HO := Lib.hid hown
    clear hown
    have hel := escF_len d (l.take k)
    have htk : (l.take k).length = k := by rw [List.length_take]; omega
    rw [htk] at hel
    by_cases hlt : k < l.length
    · have HT := Lib.hid (esc_take d l k hlt)
      have h256 := UInt8.toNat_lt l[k]
      have hki : (k : Int) + 1 ≤ 9223372036854775807 := by omega
      clear htk
      have q : ∀ c : UInt8, ((l[k].toNat : Int) == (c.toNat : Int)) = (l[k] == c) := fun c => by
        rw [Bool.eq_iff_iff]
        simp only [beq_iff_eq]
        exact ⟨fun h => UInt8.toNat_inj.1 (by omega), fun h => by rw [h]⟩
      by_cases c1 : l[k].toNat < 33
      · have d1 : (l[k].toNat : Int) < 33 := by omega
        have c1' : ¬ 32 < l[k].toNat := by omega
        clear q
        have HE := Lib.hid (show escB d l[k] = [37, hexl (l[k].toNat / 16), hexl (l[k].toNat % 16)] by unfold escB; first | (rw [show okB l[k] = false by unfold okB; simp [c1']]; rfl) | simp [c1'])
        have f2 : (0 : Int) ≤ (l[k].toNat : Int) / 16 := by omega
        have f4 : (l[k].toNat : Int) / 16 < 16 := by omega
        have f5 : ((l[k].toNat : Int) / 16).toNat = l[k].toNat / 16 := by omega
        have f6 : l[k].toNat / 16 < 16 := by omega
        have g2 : (0 : Int) ≤ (l[k].toNat : Int) % 16 := by omega
        have g4 : (l[k].toNat : Int) % 16 < 16 := by omega
        have g5 : ((l[k].toNat : Int) % 16).toNat = l[k].toNat % 16 := by omega
        have g6 : l[k].toNat % 16 < 16 := by omega
        have f1 : IntKind.u8.wrap ((l[k].toNat : Int) / 16) = (l[k].toNat : Int) / 16 := by rw [IntKind.wrap_u8]; omega
        have g1 : (l[k].toNat : Int).tmod 16 = (l[k].toNat : Int) % 16 := Int.tmod_eq_emod_of_nonneg (by omega)
        have f7 : (l[k].toNat : Int) / 16 < (dg.size : Int) := by omega
        have g7 : (l[k].toNat : Int) % 16 < (dg.size : Int) := by omega
        have f8 : l[k].toNat / 16 < dg.size := by omega
        have g8 : l[k].toNat % 16 < dg.size := by omega
        have a1 := HDA.out (l[k].toNat / 16) f8 f6
        have a2 := HDA.out (l[k].toNat % 16) g8 g6
        clear c1 c1'
        go_wp2
        go_region_held3 (fun _ => True) (trivial) (first
          | (refine step_app slt_u8 (.tmp 40) (.tmp 49) rfl rfl rfl rfl (by (repeat (first | exact Ext.rfl' _ | assumption | refine Ext.dr ?_ | refine Ext.drN ?_ _ | refine Ext.al ?_ _ | refine Ext.st ?_ (by simp) _ | refine Ext.tr ?_ (by assumption)))) (own_ext HO.out (by (repeat (first | exact Ext.rfl' _ | assumption | refine Ext.dr ?_ | refine Ext.drN ?_ _ | refine Ext.al ?_ _ | refine Ext.st ?_ (by simp) _ | refine Ext.tr ?_ (by assumption))))) (by rfl) (new_cells_g (by first | rfl | simp) #[.int .u8 37, .int .u8 ((hexl (l[k].toNat / 16)).toNat : Int), .int .u8 ((hexl (l[k].toNat % 16)).toNat : Int)] 5) (by simp [Value.oneCell']) (by omega) (by simp only [maxLen]; omega) ?_; intro v' w' hown' hext' _))
        all_goals (
          have HO2 := Lib.hid hown'
          have HX2 := Lib.hid hext'
          clear hown' hext'
          go_wp2
          go_roundw
          case rel => exact ⟨k + 1, by go_num, by omega, by rw [HT.out, HE.out, bc_app, List.length_append]; exact HO2.out, HX2.out⟩
          case measure => simp [intOf]; omega)
      have d1 : ¬ (l[k].toNat : Int) < 33 := by omega
      by_cases c2 : 126 < l[k].toNat
      · have d2 : (126 : Int) < (l[k].toNat : Int) := by omega
        have c2' : ¬ l[k].toNat < 127 := by omega
        clear q
        have HE := Lib.hid (show escB d l[k] = [37, hexl (l[k].toNat / 16), hexl (l[k].toNat % 16)] by unfold escB; first | (rw [show okB l[k] = false by unfold okB; simp [c2']]; rfl) | simp [c2'])
        have f2 : (0 : Int) ≤ (l[k].toNat : Int) / 16 := by omega
        have f4 : (l[k].toNat : Int) / 16 < 16 := by omega
        have f5 : ((l[k].toNat : Int) / 16).toNat = l[k].toNat / 16 := by omega
        have f6 : l[k].toNat / 16 < 16 := by omega
        have g2 : (0 : Int) ≤ (l[k].toNat : Int) % 16 := by omega
        have g4 : (l[k].toNat : Int) % 16 < 16 := by omega
        have g5 : ((l[k].toNat : Int) % 16).toNat = l[k].toNat % 16 := by omega
        have g6 : l[k].toNat % 16 < 16 := by omega
        have f1 : IntKind.u8.wrap ((l[k].toNat : Int) / 16) = (l[k].toNat : Int) / 16 := by rw [IntKind.wrap_u8]; omega
        have g1 : (l[k].toNat : Int).tmod 16 = (l[k].toNat : Int) % 16 := Int.tmod_eq_emod_of_nonneg (by omega)
        have f7 : (l[k].toNat : Int) / 16 < (dg.size : Int) := by omega
        have g7 : (l[k].toNat : Int) % 16 < (dg.size : Int) := by omega
        have f8 : l[k].toNat / 16 < dg.size := by omega
        have g8 : l[k].toNat % 16 < dg.size := by omega
        have a1 := HDA.out (l[k].toNat / 16) f8 f6
        have a2 := HDA.out (l[k].toNat % 16) g8 g6
        clear c1 c2 c2'
        go_wp2
        go_region_held3 (fun _ => True) (trivial) (first
          | (refine step_app slt_u8 (.tmp 40) (.tmp 49) rfl rfl rfl rfl (by (repeat (first | exact Ext.rfl' _ | assumption | refine Ext.dr ?_ | refine Ext.drN ?_ _ | refine Ext.al ?_ _ | refine Ext.st ?_ (by simp) _ | refine Ext.tr ?_ (by assumption)))) (own_ext HO.out (by (repeat (first | exact Ext.rfl' _ | assumption | refine Ext.dr ?_ | refine Ext.drN ?_ _ | refine Ext.al ?_ _ | refine Ext.st ?_ (by simp) _ | refine Ext.tr ?_ (by assumption))))) (by rfl) (new_cells_g (by first | rfl | simp) #[.int .u8 37, .int .u8 ((hexl (l[k].toNat / 16)).toNat : Int), .int .u8 ((hexl (l[k].toNat % 16)).toNat : Int)] 5) (by simp [Value.oneCell']) (by omega) (by simp only [maxLen]; omega) ?_; intro v' w' hown' hext' _))
        all_goals (
          have HO2 := Lib.hid hown'
          have HX2 := Lib.hid hext'
          clear hown' hext'
          go_wp2
          go_roundw
          case rel => exact ⟨k + 1, by go_num, by omega, by rw [HT.out, HE.out, bc_app, List.length_append]; exact HO2.out, HX2.out⟩
          case measure => simp [intOf]; omega)
      have d2 : ¬ (126 : Int) < (l[k].toNat : Int) := by omega
      have q1 : ((l[k].toNat : Int) == 34) = (l[k] == 34) := q 34
      have q2 : ((l[k].toNat : Int) == 37) = (l[k] == 37) := q 37
      have q3 : ((l[k].toNat : Int) == 92) = (l[k] == 92) := q 92
      clear q
      by_cases c3 : (l[k] == 34) = true
      · rw [c3] at q1
        have HE := Lib.hid (show escB d l[k] = [37, hexl (l[k].toNat / 16), hexl (l[k].toNat % 16)] by unfold escB; first | (rw [show okB l[k] = false by unfold okB; simp [c3]]; rfl) | simp [c3])
        have f2 : (0 : Int) ≤ (l[k].toNat : Int) / 16 := by omega
        have f4 : (l[k].toNat : Int) / 16 < 16 := by omega
        have f5 : ((l[k].toNat : Int) / 16).toNat = l[k].toNat / 16 := by omega
        have f6 : l[k].toNat / 16 < 16 := by omega
        have g2 : (0 : Int) ≤ (l[k].toNat : Int) % 16 := by omega
        have g4 : (l[k].toNat : Int) % 16 < 16 := by omega
        have g5 : ((l[k].toNat : Int) % 16).toNat = l[k].toNat % 16 := by omega
        have g6 : l[k].toNat % 16 < 16 := by omega
        have f1 : IntKind.u8.wrap ((l[k].toNat : Int) / 16) = (l[k].toNat : Int) / 16 := by rw [IntKind.wrap_u8]; omega
        have g1 : (l[k].toNat : Int).tmod 16 = (l[k].toNat : Int) % 16 := Int.tmod_eq_emod_of_nonneg (by omega)
        have f7 : (l[k].toNat : Int) / 16 < (dg.size : Int) := by omega
        have g7 : (l[k].toNat : Int) % 16 < (dg.size : Int) := by omega
        have f8 : l[k].toNat / 16 < dg.size := by omega
        have g8 : l[k].toNat % 16 < dg.size := by omega
        have a1 := HDA.out (l[k].toNat / 16) f8 f6
        have a2 := HDA.out (l[k].toNat % 16) g8 g6
        clear c1 c2 c3 q2 q3
        go_wp2
        go_region_held3 (fun _ => True) (trivial) (first
          | (refine step_app slt_u8 (.tmp 40) (.tmp 49) rfl rfl rfl rfl (by (repeat (first | exact Ext.rfl' _ | assumption | refine Ext.dr ?_ | refine Ext.drN ?_ _ | refine Ext.al ?_ _ | refine Ext.st ?_ (by simp) _ | refine Ext.tr ?_ (by assumption)))) (own_ext HO.out (by (repeat (first | exact Ext.rfl' _ | assumption | refine Ext.dr ?_ | refine Ext.drN ?_ _ | refine Ext.al ?_ _ | refine Ext.st ?_ (by simp) _ | refine Ext.tr ?_ (by assumption))))) (by rfl) (new_cells_g (by first | rfl | simp) #[.int .u8 37, .int .u8 ((hexl (l[k].toNat / 16)).toNat : Int), .int .u8 ((hexl (l[k].toNat % 16)).toNat : Int)] 5) (by simp [Value.oneCell']) (by omega) (by simp only [maxLen]; omega) ?_; intro v' w' hown' hext' _))
        all_goals (
          have HO2 := Lib.hid hown'
          have HX2 := Lib.hid hext'
          clear hown' hext'
          go_wp2
          go_roundw
          case rel => exact ⟨k + 1, by go_num, by omega, by rw [HT.out, HE.out, bc_app, List.length_append]; exact HO2.out, HX2.out⟩
          case measure => simp [intOf]; omega)
      have c3 : (l[k] == 34) = false := by simpa using c3
      rw [c3] at q1
      by_cases c4 : (l[k] == 37) = true
      · rw [c4] at q2
        have HE := Lib.hid (show escB d l[k] = [37, hexl (l[k].toNat / 16), hexl (l[k].toNat % 16)] by unfold escB; first | (rw [show okB l[k] = false by unfold okB; simp [c4]]; rfl) | simp [c4])
        have f2 : (0 : Int) ≤ (l[k].toNat : Int) / 16 := by omega
        have f4 : (l[k].toNat : Int) / 16 < 16 := by omega
        have f5 : ((l[k].toNat : Int) / 16).toNat = l[k].toNat / 16 := by omega
        have f6 : l[k].toNat / 16 < 16 := by omega
        have g2 : (0 : Int) ≤ (l[k].toNat : Int) % 16 := by omega
        have g4 : (l[k].toNat : Int) % 16 < 16 := by omega
        have g5 : ((l[k].toNat : Int) % 16).toNat = l[k].toNat % 16 := by omega
        have g6 : l[k].toNat % 16 < 16 := by omega
        have f1 : IntKind.u8.wrap ((l[k].toNat : Int) / 16) = (l[k].toNat : Int) / 16 := by rw [IntKind.wrap_u8]; omega
        have g1 : (l[k].toNat : Int).tmod 16 = (l[k].toNat : Int) % 16 := Int.tmod_eq_emod_of_nonneg (by omega)
        have f7 : (l[k].toNat : Int) / 16 < (dg.size : Int) := by omega
        have g7 : (l[k].toNat : Int) % 16 < (dg.size : Int) := by omega
        have f8 : l[k].toNat / 16 < dg.size := by omega
        have g8 : l[k].toNat % 16 < dg.size := by omega
        have a1 := HDA.out (l[k].toNat / 16) f8 f6
        have a2 := HDA.out (l[k].toNat % 16) g8 g6
        clear c1 c2 c3 c4 q3
        go_wp2
        go_region_held3 (fun _ => True) (trivial) (first
          | (refine step_app slt_u8 (.tmp 40) (.tmp 49) rfl rfl rfl rfl (by (repeat (first | exact Ext.rfl' _ | assumption | refine Ext.dr ?_ | refine Ext.drN ?_ _ | refine Ext.al ?_ _ | refine Ext.st ?_ (by simp) _ | refine Ext.tr ?_ (by assumption)))) (own_ext HO.out (by (repeat (first | exact Ext.rfl' _ | assumption | refine Ext.dr ?_ | refine Ext.drN ?_ _ | refine Ext.al ?_ _ | refine Ext.st ?_ (by simp) _ | refine Ext.tr ?_ (by assumption))))) (by rfl) (new_cells_g (by first | rfl | simp) #[.int .u8 37, .int .u8 ((hexl (l[k].toNat / 16)).toNat : Int), .int .u8 ((hexl (l[k].toNat % 16)).toNat : Int)] 5) (by simp [Value.oneCell']) (by omega) (by simp only [maxLen]; omega) ?_; intro v' w' hown' hext' _))
        all_goals (
          have HO2 := Lib.hid hown'
          have HX2 := Lib.hid hext'
          clear hown' hext'
          go_wp2
          go_roundw
          case rel => exact ⟨k + 1, by go_num, by omega, by rw [HT.out, HE.out, bc_app, List.length_append]; exact HO2.out, HX2.out⟩
          case measure => simp [intOf]; omega)
      have c4 : (l[k] == 37) = false := by simpa using c4
      rw [c4] at q2
      by_cases c5 : (l[k] == 92) = true
      · rw [c5] at q3
        have HE := Lib.hid (show escB d l[k] = [37, hexl (l[k].toNat / 16), hexl (l[k].toNat % 16)] by unfold escB; first | (rw [show okB l[k] = false by unfold okB; simp [c5]]; rfl) | simp [c5])
        have f2 : (0 : Int) ≤ (l[k].toNat : Int) / 16 := by omega
        have f4 : (l[k].toNat : Int) / 16 < 16 := by omega
        have f5 : ((l[k].toNat : Int) / 16).toNat = l[k].toNat / 16 := by omega
        have f6 : l[k].toNat / 16 < 16 := by omega
        have g2 : (0 : Int) ≤ (l[k].toNat : Int) % 16 := by omega
        have g4 : (l[k].toNat : Int) % 16 < 16 := by omega
        have g5 : ((l[k].toNat : Int) % 16).toNat = l[k].toNat % 16 := by omega
        have g6 : l[k].toNat % 16 < 16 := by omega
        have f1 : IntKind.u8.wrap ((l[k].toNat : Int) / 16) = (l[k].toNat : Int) / 16 := by rw [IntKind.wrap_u8]; omega
        have g1 : (l[k].toNat : Int).tmod 16 = (l[k].toNat : Int) % 16 := Int.tmod_eq_emod_of_nonneg (by omega)
        have f7 : (l[k].toNat : Int) / 16 < (dg.size : Int) := by omega
        have g7 : (l[k].toNat : Int) % 16 < (dg.size : Int) := by omega
        have f8 : l[k].toNat / 16 < dg.size := by omega
        have g8 : l[k].toNat % 16 < dg.size := by omega
        have a1 := HDA.out (l[k].toNat / 16) f8 f6
        have a2 := HDA.out (l[k].toNat % 16) g8 g6
        clear c1 c2 c3 c4 c5
        go_wp2
        go_region_held3 (fun _ => True) (trivial) (first
          | (refine step_app slt_u8 (.tmp 40) (.tmp 49) rfl rfl rfl rfl (by (repeat (first | exact Ext.rfl' _ | assumption | refine Ext.dr ?_ | refine Ext.drN ?_ _ | refine Ext.al ?_ _ | refine Ext.st ?_ (by simp) _ | refine Ext.tr ?_ (by assumption)))) (own_ext HO.out (by (repeat (first | exact Ext.rfl' _ | assumption | refine Ext.dr ?_ | refine Ext.drN ?_ _ | refine Ext.al ?_ _ | refine Ext.st ?_ (by simp) _ | refine Ext.tr ?_ (by assumption))))) (by rfl) (new_cells_g (by first | rfl | simp) #[.int .u8 37, .int .u8 ((hexl (l[k].toNat / 16)).toNat : Int), .int .u8 ((hexl (l[k].toNat % 16)).toNat : Int)] 5) (by simp [Value.oneCell']) (by omega) (by simp only [maxLen]; omega) ?_; intro v' w' hown' hext' _))
        all_goals (
          have HO2 := Lib.hid hown'
          have HX2 := Lib.hid hext'
          clear hown' hext'
          go_wp2
          go_roundw
          case rel => exact ⟨k + 1, by go_num, by omega, by rw [HT.out, HE.out, bc_app, List.length_append]; exact HO2.out, HX2.out⟩
          case measure => simp [intOf]; omega)
      have c5 : (l[k] == 92) = false := by simpa using c5
      rw [c5] at q3
      cases d
      · have HE := Lib.hid (show escB false l[k] = [l[k]] by
          unfold escB
          rw [show okB l[k] = true by unfold okB; rw [c3, c4, c5, decide_eq_true (show 32 < l[k].toNat by omega), decide_eq_true (show l[k].toNat < 127 by omega)]; rfl]
          rfl)
        clear c1 c2 c3 c4 c5
        go_wp2_with (at_builtin; refine wpL_app slt_u8 (.tmp 51) (.tmp 53) rfl rfl rfl rfl (Ext.al (by (repeat (first | exact Ext.rfl' _ | assumption | refine Ext.dr ?_ | refine Ext.drN ?_ _ | refine Ext.al ?_ _ | refine Ext.st ?_ (by simp) _ | refine Ext.tr ?_ (by assumption)))) _) ((own_ext HO.out (by (repeat (first | exact Ext.rfl' _ | assumption | refine Ext.dr ?_ | refine Ext.drN ?_ _ | refine Ext.al ?_ _ | refine Ext.st ?_ (by simp) _ | refine Ext.tr ?_ (by assumption))))).alloc _) (by rfl) (new_cells wr #[.int .u8 (l[k].toNat : Int)] 5) (by simp [Value.oneCell']) (by omega) (by simp only [maxLen]; omega) ?_; intro v' w' hown' hext' hgg; clear hgg)
        go_roundw
        case rel => exact ⟨k + 1, by go_num, by omega, by rw [HT.out, HE.out, bc_app, List.length_append]; exact hown', hext'⟩
        case measure => simp [intOf]; omega
      · have HE0 := Lib.hid (show escB true l[k] = [37, hexl (l[k].toNat / 16), hexl (l[k].toNat % 16)] by unfold escB; simp)
        have HE := HE0
        have f2 : (0 : Int) ≤ (l[k].toNat : Int) / 16 := by omega
        have f4 : (l[k].toNat : Int) / 16 < 16 := by omega
        have f5 : ((l[k].toNat : Int) / 16).toNat = l[k].toNat / 16 := by omega
        have f6 : l[k].toNat / 16 < 16 := by omega
        have g2 : (0 : Int) ≤ (l[k].toNat : Int) % 16 := by omega
        have g4 : (l[k].toNat : Int) % 16 < 16 := by omega
        have g5 : ((l[k].toNat : Int) % 16).toNat = l[k].toNat % 16 := by omega
        have g6 : l[k].toNat % 16 < 16 := by omega
        have f1 : IntKind.u8.wrap ((l[k].toNat : Int) / 16) = (l[k].toNat : Int) / 16 := by rw [IntKind.wrap_u8]; omega
        have g1 : (l[k].toNat : Int).tmod 16 = (l[k].toNat : Int) % 16 := Int.tmod_eq_emod_of_nonneg (by omega)
        have f7 : (l[k].toNat : Int) / 16 < (dg.size : Int) := by omega
        have g7 : (l[k].toNat : Int) % 16 < (dg.size : Int) := by omega
        have f8 : l[k].toNat / 16 < dg.size := by omega
        have g8 : l[k].toNat % 16 < dg.size := by omega
        have a1 := HDA.out (l[k].toNat / 16) f8 f6
        have a2 := HDA.out (l[k].toNat % 16) g8 g6
        clear c1 c2 c3 c4 c5
        go_wp2
        go_region_held3 (fun _ => True) (trivial) (first
          | (refine step_app slt_u8 (.tmp 40) (.tmp 49) rfl rfl rfl rfl (by (repeat (first | exact Ext.rfl' _ | assumption | refine Ext.dr ?_ | refine Ext.drN ?_ _ | refine Ext.al ?_ _ | refine Ext.st ?_ (by simp) _ | refine Ext.tr ?_ (by assumption)))) (own_ext HO.out (by (repeat (first | exact Ext.rfl' _ | assumption | refine Ext.dr ?_ | refine Ext.drN ?_ _ | refine Ext.al ?_ _ | refine Ext.st ?_ (by simp) _ | refine Ext.tr ?_ (by assumption))))) (by rfl) (new_cells_g (by first | rfl | simp) #[.int .u8 37, .int .u8 ((hexl (l[k].toNat / 16)).toNat : Int), .int .u8 ((hexl (l[k].toNat % 16)).toNat : Int)] 5) (by simp [Value.oneCell']) (by omega) (by simp only [maxLen]; omega) ?_; intro v' w' hown' hext' _))
        all_goals (
          have HO2 := Lib.hid hown'
          have HX2 := Lib.hid hext'
          clear hown' hext'
          go_wp2
          go_roundw
          case rel => exact ⟨k + 1, by go_num, by omega, by rw [HT.out, HE.out, bc_app, List.length_append]; exact HO2.out, HX2.out⟩
          case measure => simp [intOf]; omega)
    · obtain rfl : k = l.length := by omega
      rw [List.take_length, ← HR.out] at HO
      obtain ⟨A, c, rfl, hnc, hcm, hr, _⟩ := Rd.of_own HO.out
      have cv := conv_bs (P := Tryd.prog) 106 9 5 Tryd.underlying106 Tryd.underlying5 Tryd.underlying9 hr R.length c rfl
      obtain ⟨s, hs2⟩ : ∃ s, s = str R := ⟨_, rfl⟩
      rw [← hs2] at cv
      have HS := Lib.hid hs2
      clear hs2 hr
      go_wp2
      go_ret
      exact ⟨ret_val (by show Value.string s = _; rw [HS.out]), hext⟩
end Go.Proofs.YtjapkhhdpppmdaaDoor
