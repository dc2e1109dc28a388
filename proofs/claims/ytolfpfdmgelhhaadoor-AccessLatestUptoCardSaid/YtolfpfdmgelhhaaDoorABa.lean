/-
The reference's escaped.
-/
import Derived.Test.YtolfpfdmgelhhaaDoorABl
import Derived.Test.YtolfpfdmgelhhaaDoorUdec
set_option linter.unusedVariables false
set_option linter.unusedSimpArgs false
/-
The reference's escaped.
-/
section
namespace Go.Proofs.YtolfpfdmgelhhaaDoor
open Go.RowKit

set_option maxRecDepth 100000 in
set_option maxHeartbeats 4000000 in
theorem arEscaped_c (l : List UInt8) (hs : l.length ≤ 35184372088832) (w : World) :
    Calls Tryd.prog 115 #[.string (str l)] w (Gives (.string (str (escL l))) w) := by
  by_cases h0 : l = []
  · subst h0
    rw [show escL [] = [45] from rfl, show str ([] : List UInt8) = ⟨#[]⟩ from rfl, show str ([45] : List UInt8) = ⟨#[45]⟩ from rfl]
    go_enter Tryd.func115, Tryd.ntmps115
    go_wp2
    go_ret
    exact ⟨rfl, by (repeat (first | exact Ext.rfl' _ | assumption | refine Ext.dr ?_ | refine Ext.drN ?_ _ | refine Ext.al ?_ _ | refine Ext.st ?_ (by simp) _ | refine Ext.tr ?_ (by assumption)))⟩
  have e1 : l.isEmpty = false := by rw [List.isEmpty_eq_false_iff]; exact h0
  have e2 : (str l).toList.isEmpty = false := by rw [Lib.toList_data]; exact e1
  obtain ⟨d, hd⟩ : ∃ d, d = (l == [45]) := ⟨_, rfl⟩
  have s1 : ((str l).toList == [45]) = d := by rw [Lib.toList_data, hd]; rfl
  have s2 : (l == [45]) = d := hd.symm
  obtain ⟨R, hR⟩ : ∃ R, R = l.flatMap (escB d) := ⟨_, rfl⟩
  rw [show escL l = R by unfold escL; rw [if_neg h0, s2, hR]]
  have HR := Lib.hid hR
  clear hd hR h0
  have hms : maxLen = 9223372036854775807 := rfl
  go_enter Tryd.func115, Tryd.ntmps115
  go_wp2
  generalize hdg : (⟨#[48, 49, 50, 51, 52, 53, 54, 55, 56, 57, 97, 98, 99, 100, 101, 102]⟩ : ByteArray) = dg
  have hds : dg.size = 16 := by rw [← hdg]; rfl
  have hda : ∀ n (h : n < dg.size), n < 16 → dg[n] = hexl n := fun n h h16 => by subst hdg; exact hexl_at n h16
  have HDA := Lib.hid hda
  clear hda hdg
  go_loopw [4, 5] (fun v i wr => ∃ k : Nat, i = .int .i64 k ∧ k ≤ l.length ∧ wr.ownsRow w.heap.size 5 1 v ((l.take k).flatMap (escB d)).length (bc ((l.take k).flatMap (escB d))) ∧ Ext w wr) (fun _ i _ => l.length - (intOf i).toNat)
  case atStart => exact ⟨0, rfl, Nat.zero_le _, World.ownsRow_nil _ _ _ _, by (repeat (first | exact Ext.rfl' _ | assumption | refine Ext.dr ?_ | refine Ext.drN ?_ _ | refine Ext.al ?_ _ | refine Ext.st ?_ (by simp) _ | refine Ext.tr ?_ (by assumption)))⟩
  case round =>
    obtain ⟨k, rfl, hk, hown, hext⟩ := hrel
    have HO := Lib.hid hown
    clear hown
    have hel := escF_len d (l.take k)
    have htk : (l.take k).length = k := by rw [List.length_take]; omega
    rw [htk] at hel
    by_cases hlt : k < l.length
    · have HT := Lib.hid (esc_take d l k hlt)
      have h256 := UInt8.toNat_lt l[k]
      have hki : (k : Int) + 1 ≤ 9223372036854775807 := by omega
      clear htk
      have q : ∀ c : UInt8, ((l[k].toNat : Int) == (c.toNat : Int)) = (l[k] == c) := fun c => by
        rw [Bool.eq_iff_iff]
        simp only [beq_iff_eq]
        exact ⟨fun h => UInt8.toNat_inj.1 (by omega), fun h => by rw [h]⟩
      by_cases c1 : l[k].toNat < 33
      · have d1 : (l[k].toNat : Int) < 33 := by omega
        have c1' : ¬ 32 < l[k].toNat := by omega
        clear q
        have HE := Lib.hid (show escB d l[k] = [37, hexl (l[k].toNat / 16), hexl (l[k].toNat % 16)] by unfold escB; first | (rw [show okB l[k] = false by unfold okB; simp [c1']]; rfl) | simp [c1'])
        have f2 : (0 : Int) ≤ (l[k].toNat : Int) / 16 := by omega
        have f4 : (l[k].toNat : Int) / 16 < 16 := by omega
        have f5 : ((l[k].toNat : Int) / 16).toNat = l[k].toNat / 16 := by omega
        have f6 : l[k].toNat / 16 < 16 := by omega
        have g2 : (0 : Int) ≤ (l[k].toNat : Int) % 16 := by omega
        have g4 : (l[k].toNat : Int) % 16 < 16 := by omega
        have g5 : ((l[k].toNat : Int) % 16).toNat = l[k].toNat % 16 := by omega
        have g6 : l[k].toNat % 16 < 16 := by omega
        have f1 : IntKind.u8.wrap ((l[k].toNat : Int) / 16) = (l[k].toNat : Int) / 16 := by rw [IntKind.wrap_u8]; omega
        have g1 : (l[k].toNat : Int).tmod 16 = (l[k].toNat : Int) % 16 := Int.tmod_eq_emod_of_nonneg (by omega)
        have f7 : (l[k].toNat : Int) / 16 < (dg.size : Int) := by omega
        have g7 : (l[k].toNat : Int) % 16 < (dg.size : Int) := by omega
        have f8 : l[k].toNat / 16 < dg.size := by omega
        have g8 : l[k].toNat % 16 < dg.size := by omega
        have a1 := HDA.out (l[k].toNat / 16) f8 f6
        have a2 := HDA.out (l[k].toNat % 16) g8 g6
        clear c1 c1'
        go_wp2
        go_region_held3 (fun _ => True) (trivial) (first
          | (refine step_app slt_u8 (.tmp 40) (.tmp 49) rfl rfl rfl rfl (by (repeat (first | exact Ext.rfl' _ | assumption | refine Ext.dr ?_ | refine Ext.drN ?_ _ | refine Ext.al ?_ _ | refine Ext.st ?_ (by simp) _ | refine Ext.tr ?_ (by assumption)))) (own_ext HO.out (by (repeat (first | exact Ext.rfl' _ | assumption | refine Ext.dr ?_ | refine Ext.drN ?_ _ | refine Ext.al ?_ _ | refine Ext.st ?_ (by simp) _ | refine Ext.tr ?_ (by assumption))))) (by rfl) (new_cells_g (by first | rfl | simp) #[.int .u8 37, .int .u8 ((hexl (l[k].toNat / 16)).toNat : Int), .int .u8 ((hexl (l[k].toNat % 16)).toNat : Int)] 5) (by simp [Value.oneCell']) (by omega) (by simp only [maxLen]; omega) ?_; intro v' w' hown' hext' _))
        all_goals (
          have HO2 := Lib.hid hown'
          have HX2 := Lib.hid hext'
          clear hown' hext'
          go_wp2
          go_roundw
          case rel => exact ⟨k + 1, by go_num, by omega, by rw [HT.out, HE.out, bc_app, List.length_append]; exact HO2.out, HX2.out⟩
          case measure => simp [intOf]; omega)
      have d1 : ¬ (l[k].toNat : Int) < 33 := by omega
      by_cases c2 : 126 < l[k].toNat
      · have d2 : (126 : Int) < (l[k].toNat : Int) := by omega
        have c2' : ¬ l[k].toNat < 127 := by omega
        clear q
        have HE := Lib.hid (show escB d l[k] = [37, hexl (l[k].toNat / 16), hexl (l[k].toNat % 16)] by unfold escB; first | (rw [show okB l[k] = false by unfold okB; simp [c2']]; rfl) | simp [c2'])
        have f2 : (0 : Int) ≤ (l[k].toNat : Int) / 16 := by omega
        have f4 : (l[k].toNat : Int) / 16 < 16 := by omega
        have f5 : ((l[k].toNat : Int) / 16).toNat = l[k].toNat / 16 := by omega
        have f6 : l[k].toNat / 16 < 16 := by omega
        have g2 : (0 : Int) ≤ (l[k].toNat : Int) % 16 := by omega
        have g4 : (l[k].toNat : Int) % 16 < 16 := by omega
        have g5 : ((l[k].toNat : Int) % 16).toNat = l[k].toNat % 16 := by omega
        have g6 : l[k].toNat % 16 < 16 := by omega
        have f1 : IntKind.u8.wrap ((l[k].toNat : Int) / 16) = (l[k].toNat : Int) / 16 := by rw [IntKind.wrap_u8]; omega
        have g1 : (l[k].toNat : Int).tmod 16 = (l[k].toNat : Int) % 16 := Int.tmod_eq_emod_of_nonneg (by omega)
        have f7 : (l[k].toNat : Int) / 16 < (dg.size : Int) := by omega
        have g7 : (l[k].toNat : Int) % 16 < (dg.size : Int) := by omega
        have f8 : l[k].toNat / 16 < dg.size := by omega
        have g8 : l[k].toNat % 16 < dg.size := by omega
        have a1 := HDA.out (l[k].toNat / 16) f8 f6
        have a2 := HDA.out (l[k].toNat % 16) g8 g6
        clear c1 c2 c2'
        go_wp2
        go_region_held3 (fun _ => True) (trivial) (first
          | (refine step_app slt_u8 (.tmp 40) (.tmp 49) rfl rfl rfl rfl (by (repeat (first | exact Ext.rfl' _ | assumption | refine Ext.dr ?_ | refine Ext.drN ?_ _ | refine Ext.al ?_ _ | refine Ext.st ?_ (by simp) _ | refine Ext.tr ?_ (by assumption)))) (own_ext HO.out (by (repeat (first | exact Ext.rfl' _ | assumption | refine Ext.dr ?_ | refine Ext.drN ?_ _ | refine Ext.al ?_ _ | refine Ext.st ?_ (by simp) _ | refine Ext.tr ?_ (by assumption))))) (by rfl) (new_cells_g (by first | rfl | simp) #[.int .u8 37, .int .u8 ((hexl (l[k].toNat / 16)).toNat : Int), .int .u8 ((hexl (l[k].toNat % 16)).toNat : Int)] 5) (by simp [Value.oneCell']) (by omega) (by simp only [maxLen]; omega) ?_; intro v' w' hown' hext' _))
        all_goals (
          have HO2 := Lib.hid hown'
          have HX2 := Lib.hid hext'
          clear hown' hext'
          go_wp2
          go_roundw
          case rel => exact ⟨k + 1, by go_num, by omega, by rw [HT.out, HE.out, bc_app, List.length_append]; exact HO2.out, HX2.out⟩
          case measure => simp [intOf]; omega)
      have d2 : ¬ (126 : Int) < (l[k].toNat : Int) := by omega
      have q1 : ((l[k].toNat : Int) == 34) = (l[k] == 34) := q 34
      have q2 : ((l[k].toNat : Int) == 37) = (l[k] == 37) := q 37
      have q3 : ((l[k].toNat : Int) == 92) = (l[k] == 92) := q 92
      clear q
      by_cases c3 : (l[k] == 34) = true
      · rw [c3] at q1
        have HE := Lib.hid (show escB d l[k] = [37, hexl (l[k].toNat / 16), hexl (l[k].toNat % 16)] by unfold escB; first | (rw [show okB l[k] = false by unfold okB; simp [c3]]; rfl) | simp [c3])
        have f2 : (0 : Int) ≤ (l[k].toNat : Int) / 16 := by omega
        have f4 : (l[k].toNat : Int) / 16 < 16 := by omega
        have f5 : ((l[k].toNat : Int) / 16).toNat = l[k].toNat / 16 := by omega
        have f6 : l[k].toNat / 16 < 16 := by omega
        have g2 : (0 : Int) ≤ (l[k].toNat : Int) % 16 := by omega
        have g4 : (l[k].toNat : Int) % 16 < 16 := by omega
        have g5 : ((l[k].toNat : Int) % 16).toNat = l[k].toNat % 16 := by omega
        have g6 : l[k].toNat % 16 < 16 := by omega
        have f1 : IntKind.u8.wrap ((l[k].toNat : Int) / 16) = (l[k].toNat : Int) / 16 := by rw [IntKind.wrap_u8]; omega
        have g1 : (l[k].toNat : Int).tmod 16 = (l[k].toNat : Int) % 16 := Int.tmod_eq_emod_of_nonneg (by omega)
        have f7 : (l[k].toNat : Int) / 16 < (dg.size : Int) := by omega
        have g7 : (l[k].toNat : Int) % 16 < (dg.size : Int) := by omega
        have f8 : l[k].toNat / 16 < dg.size := by omega
        have g8 : l[k].toNat % 16 < dg.size := by omega
        have a1 := HDA.out (l[k].toNat / 16) f8 f6
        have a2 := HDA.out (l[k].toNat % 16) g8 g6
        clear c1 c2 c3 q2 q3
        go_wp2
        go_region_held3 (fun _ => True) (trivial) (first
          | (refine step_app slt_u8 (.tmp 40) (.tmp 49) rfl rfl rfl rfl (by (repeat (first | exact Ext.rfl' _ | assumption | refine Ext.dr ?_ | refine Ext.drN ?_ _ | refine Ext.al ?_ _ | refine Ext.st ?_ (by simp) _ | refine Ext.tr ?_ (by assumption)))) (own_ext HO.out (by (repeat (first | exact Ext.rfl' _ | assumption | refine Ext.dr ?_ | refine Ext.drN ?_ _ | refine Ext.al ?_ _ | refine Ext.st ?_ (by simp) _ | refine Ext.tr ?_ (by assumption))))) (by rfl) (new_cells_g (by first | rfl | simp) #[.int .u8 37, .int .u8 ((hexl (l[k].toNat / 16)).toNat : Int), .int .u8 ((hexl (l[k].toNat % 16)).toNat : Int)] 5) (by simp [Value.oneCell']) (by omega) (by simp only [maxLen]; omega) ?_; intro v' w' hown' hext' _))
        all_goals (
          have HO2 := Lib.hid hown'
          have HX2 := Lib.hid hext'
          clear hown' hext'
          go_wp2
          go_roundw
          case rel => exact ⟨k + 1, by go_num, by omega, by rw [HT.out, HE.out, bc_app, List.length_append]; exact HO2.out, HX2.out⟩
          case measure => simp [intOf]; omega)
      have c3 : (l[k] == 34) = false := by simpa using c3
      rw [c3] at q1
      by_cases c4 : (l[k] == 37) = true
      · rw [c4] at q2
        have HE := Lib.hid (show escB d l[k] = [37, hexl (l[k].toNat / 16), hexl (l[k].toNat % 16)] by unfold escB; first | (rw [show okB l[k] = false by unfold okB; simp [c4]]; rfl) | simp [c4])
        have f2 : (0 : Int) ≤ (l[k].toNat : Int) / 16 := by omega
        have f4 : (l[k].toNat : Int) / 16 < 16 := by omega
        have f5 : ((l[k].toNat : Int) / 16).toNat = l[k].toNat / 16 := by omega
        have f6 : l[k].toNat / 16 < 16 := by omega
        have g2 : (0 : Int) ≤ (l[k].toNat : Int) % 16 := by omega
        have g4 : (l[k].toNat : Int) % 16 < 16 := by omega
        have g5 : ((l[k].toNat : Int) % 16).toNat = l[k].toNat % 16 := by omega
        have g6 : l[k].toNat % 16 < 16 := by omega
        have f1 : IntKind.u8.wrap ((l[k].toNat : Int) / 16) = (l[k].toNat : Int) / 16 := by rw [IntKind.wrap_u8]; omega
        have g1 : (l[k].toNat : Int).tmod 16 = (l[k].toNat : Int) % 16 := Int.tmod_eq_emod_of_nonneg (by omega)
        have f7 : (l[k].toNat : Int) / 16 < (dg.size : Int) := by omega
        have g7 : (l[k].toNat : Int) % 16 < (dg.size : Int) := by omega
        have f8 : l[k].toNat / 16 < dg.size := by omega
        have g8 : l[k].toNat % 16 < dg.size := by omega
        have a1 := HDA.out (l[k].toNat / 16) f8 f6
        have a2 := HDA.out (l[k].toNat % 16) g8 g6
        clear c1 c2 c3 c4 q3
        go_wp2
        go_region_held3 (fun _ => True) (trivial) (first
          | (refine step_app slt_u8 (.tmp 40) (.tmp 49) rfl rfl rfl rfl (by (repeat (first | exact Ext.rfl' _ | assumption | refine Ext.dr ?_ | refine Ext.drN ?_ _ | refine Ext.al ?_ _ | refine Ext.st ?_ (by simp) _ | refine Ext.tr ?_ (by assumption)))) (own_ext HO.out (by (repeat (first | exact Ext.rfl' _ | assumption | refine Ext.dr ?_ | refine Ext.drN ?_ _ | refine Ext.al ?_ _ | refine Ext.st ?_ (by simp) _ | refine Ext.tr ?_ (by assumption))))) (by rfl) (new_cells_g (by first | rfl | simp) #[.int .u8 37, .int .u8 ((hexl (l[k].toNat / 16)).toNat : Int), .int .u8 ((hexl (l[k].toNat % 16)).toNat : Int)] 5) (by simp [Value.oneCell']) (by omega) (by simp only [maxLen]; omega) ?_; intro v' w' hown' hext' _))
        all_goals (
          have HO2 := Lib.hid hown'
          have HX2 := Lib.hid hext'
          clear hown' hext'
          go_wp2
          go_roundw
          case rel => exact ⟨k + 1, by go_num, by omega, by rw [HT.out, HE.out, bc_app, List.length_append]; exact HO2.out, HX2.out⟩
          case measure => simp [intOf]; omega)
      have c4 : (l[k] == 37) = false := by simpa using c4
      rw [c4] at q2
      by_cases c5 : (l[k] == 92) = true
      · rw [c5] at q3
        have HE := Lib.hid (show escB d l[k] = [37, hexl (l[k].toNat / 16), hexl (l[k].toNat % 16)] by unfold escB; first | (rw [show okB l[k] = false by unfold okB; simp [c5]]; rfl) | simp [c5])
        have f2 : (0 : Int) ≤ (l[k].toNat : Int) / 16 := by omega
        have f4 : (l[k].toNat : Int) / 16 < 16 := by omega
        have f5 : ((l[k].toNat : Int) / 16).toNat = l[k].toNat / 16 := by omega
        have f6 : l[k].toNat / 16 < 16 := by omega
        have g2 : (0 : Int) ≤ (l[k].toNat : Int) % 16 := by omega
        have g4 : (l[k].toNat : Int) % 16 < 16 := by omega
        have g5 : ((l[k].toNat : Int) % 16).toNat = l[k].toNat % 16 := by omega
        have g6 : l[k].toNat % 16 < 16 := by omega
        have f1 : IntKind.u8.wrap ((l[k].toNat : Int) / 16) = (l[k].toNat : Int) / 16 := by rw [IntKind.wrap_u8]; omega
        have g1 : (l[k].toNat : Int).tmod 16 = (l[k].toNat : Int) % 16 := Int.tmod_eq_emod_of_nonneg (by omega)
        have f7 : (l[k].toNat : Int) / 16 < (dg.size : Int) := by omega
        have g7 : (l[k].toNat : Int) % 16 < (dg.size : Int) := by omega
        have f8 : l[k].toNat / 16 < dg.size := by omega
        have g8 : l[k].toNat % 16 < dg.size := by omega
        have a1 := HDA.out (l[k].toNat / 16) f8 f6
        have a2 := HDA.out (l[k].toNat % 16) g8 g6
        clear c1 c2 c3 c4 c5
        go_wp2
        go_region_held3 (fun _ => True) (trivial) (first
          | (refine step_app slt_u8 (.tmp 40) (.tmp 49) rfl rfl rfl rfl (by (repeat (first | exact Ext.rfl' _ | assumption | refine Ext.dr ?_ | refine Ext.drN ?_ _ | refine Ext.al ?_ _ | refine Ext.st ?_ (by simp) _ | refine Ext.tr ?_ (by assumption)))) (own_ext HO.out (by (repeat (first | exact Ext.rfl' _ | assumption | refine Ext.dr ?_ | refine Ext.drN ?_ _ | refine Ext.al ?_ _ | refine Ext.st ?_ (by simp) _ | refine Ext.tr ?_ (by assumption))))) (by rfl) (new_cells_g (by first | rfl | simp) #[.int .u8 37, .int .u8 ((hexl (l[k].toNat / 16)).toNat : Int), .int .u8 ((hexl (l[k].toNat % 16)).toNat : Int)] 5) (by simp [Value.oneCell']) (by omega) (by simp only [maxLen]; omega) ?_; intro v' w' hown' hext' _))
        all_goals (
          have HO2 := Lib.hid hown'
          have HX2 := Lib.hid hext'
          clear hown' hext'
          go_wp2
          go_roundw
          case rel => exact ⟨k + 1, by go_num, by omega, by rw [HT.out, HE.out, bc_app, List.length_append]; exact HO2.out, HX2.out⟩
          case measure => simp [intOf]; omega)
      have c5 : (l[k] == 92) = false := by simpa using c5
      rw [c5] at q3
      cases d
      · have HE := Lib.hid (show escB false l[k] = [l[k]] by
          unfold escB
          rw [show okB l[k] = true by unfold okB; rw [c3, c4, c5, decide_eq_true (show 32 < l[k].toNat by omega), decide_eq_true (show l[k].toNat < 127 by omega)]; rfl]
          rfl)
        clear c1 c2 c3 c4 c5
        go_wp2_with (at_builtin; refine wpL_app slt_u8 (.tmp 51) (.tmp 53) rfl rfl rfl rfl (Ext.al (by (repeat (first | exact Ext.rfl' _ | assumption | refine Ext.dr ?_ | refine Ext.drN ?_ _ | refine Ext.al ?_ _ | refine Ext.st ?_ (by simp) _ | refine Ext.tr ?_ (by assumption)))) _) ((own_ext HO.out (by (repeat (first | exact Ext.rfl' _ | assumption | refine Ext.dr ?_ | refine Ext.drN ?_ _ | refine Ext.al ?_ _ | refine Ext.st ?_ (by simp) _ | refine Ext.tr ?_ (by assumption))))).alloc _) (by rfl) (new_cells wr #[.int .u8 (l[k].toNat : Int)] 5) (by simp [Value.oneCell']) (by omega) (by simp only [maxLen]; omega) ?_; intro v' w' hown' hext' hgg; clear hgg)
        go_roundw
        case rel => exact ⟨k + 1, by go_num, by omega, by rw [HT.out, HE.out, bc_app, List.length_append]; exact hown', hext'⟩
        case measure => simp [intOf]; omega
      · have HE0 := Lib.hid (show escB true l[k] = [37, hexl (l[k].toNat / 16), hexl (l[k].toNat % 16)] by unfold escB; simp)
        have HE := HE0
        have f2 : (0 : Int) ≤ (l[k].toNat : Int) / 16 := by omega
        have f4 : (l[k].toNat : Int) / 16 < 16 := by omega
        have f5 : ((l[k].toNat : Int) / 16).toNat = l[k].toNat / 16 := by omega
        have f6 : l[k].toNat / 16 < 16 := by omega
        have g2 : (0 : Int) ≤ (l[k].toNat : Int) % 16 := by omega
        have g4 : (l[k].toNat : Int) % 16 < 16 := by omega
        have g5 : ((l[k].toNat : Int) % 16).toNat = l[k].toNat % 16 := by omega
        have g6 : l[k].toNat % 16 < 16 := by omega
        have f1 : IntKind.u8.wrap ((l[k].toNat : Int) / 16) = (l[k].toNat : Int) / 16 := by rw [IntKind.wrap_u8]; omega
        have g1 : (l[k].toNat : Int).tmod 16 = (l[k].toNat : Int) % 16 := Int.tmod_eq_emod_of_nonneg (by omega)
        have f7 : (l[k].toNat : Int) / 16 < (dg.size : Int) := by omega
        have g7 : (l[k].toNat : Int) % 16 < (dg.size : Int) := by omega
        have f8 : l[k].toNat / 16 < dg.size := by omega
        have g8 : l[k].toNat % 16 < dg.size := by omega
        have a1 := HDA.out (l[k].toNat / 16) f8 f6
        have a2 := HDA.out (l[k].toNat % 16) g8 g6
        clear c1 c2 c3 c4 c5
        go_wp2
        go_region_held3 (fun _ => True) (trivial) (first
          | (refine step_app slt_u8 (.tmp 40) (.tmp 49) rfl rfl rfl rfl (by (repeat (first | exact Ext.rfl' _ | assumption | refine Ext.dr ?_ | refine Ext.drN ?_ _ | refine Ext.al ?_ _ | refine Ext.st ?_ (by simp) _ | refine Ext.tr ?_ (by assumption)))) (own_ext HO.out (by (repeat (first | exact Ext.rfl' _ | assumption | refine Ext.dr ?_ | refine Ext.drN ?_ _ | refine Ext.al ?_ _ | refine Ext.st ?_ (by simp) _ | refine Ext.tr ?_ (by assumption))))) (by rfl) (new_cells_g (by first | rfl | simp) #[.int .u8 37, .int .u8 ((hexl (l[k].toNat / 16)).toNat : Int), .int .u8 ((hexl (l[k].toNat % 16)).toNat : Int)] 5) (by simp [Value.oneCell']) (by omega) (by simp only [maxLen]; omega) ?_; intro v' w' hown' hext' _))
        all_goals (
          have HO2 := Lib.hid hown'
          have HX2 := Lib.hid hext'
          clear hown' hext'
          go_wp2
          go_roundw
          case rel => exact ⟨k + 1, by go_num, by omega, by rw [HT.out, HE.out, bc_app, List.length_append]; exact HO2.out, HX2.out⟩
          case measure => simp [intOf]; omega)
    · obtain rfl : k = l.length := by omega
      rw [List.take_length, ← HR.out] at HO
      obtain ⟨A, c, rfl, hnc, hcm, hr, _⟩ := Rd.of_own HO.out
      have cv := conv_bs (P := Tryd.prog) 22 9 5 Tryd.underlying22 Tryd.underlying5 Tryd.underlying9 hr R.length c rfl
      obtain ⟨s, hs2⟩ : ∃ s, s = str R := ⟨_, rfl⟩
      rw [← hs2] at cv
      have HS := Lib.hid hs2
      clear hs2 hr
      go_wp2
      go_ret
      exact ⟨ret_val (by show Value.string s = _; rw [HS.out]), hext⟩
end Go.Proofs.YtolfpfdmgelhhaaDoor
end

/-
Texts of a log's line, read back: the program's unescape and the reference's plain.
-/
section
namespace Go.Proofs.YtolfpfdmgelhhaaDoor
open Go.RowKit

/-- What two signs behind a % say; none: 0. -/
def pctN (a b : UInt8) : Nat := if isDig 16 (lowB a) = true ∧ isDig 16 (lowB b) = true then digV (lowB a) * 16 + digV (lowB b) else 0
def unF : List UInt8 → List UInt8
  | [] => []
  | 37 :: a :: b :: l => UInt8.ofNat (pctN a b) :: unF l
  | c :: l => c :: unF l
/-- A text, read back. -/
def unL (l : List UInt8) : List UInt8 := if l = [45] then [] else unF l
theorem pctN_lt (a b : UInt8) : pctN a b < 256 := by
  unfold pctN
  split
  · rename_i h
    have h1 := dig_lt h.1
    have h2 := dig_lt h.2
    omega
  · omega
theorem num_pct (a b : UInt8) : ∃ e, numL 16 1152921504606846976 [a, b] = ((pctN a b : Int), e) := by
  rw [num_two]
  unfold pctN
  split
  · exact ⟨0, rfl⟩
  · exact ⟨21, rfl⟩
theorem unF_pct (a b : UInt8) (l : List UInt8) : unF (37 :: a :: b :: l) = UInt8.ofNat (pctN a b) :: unF l := by rw [unF]
theorem unF_plain (c : UInt8) (l : List UInt8) (h : c ≠ 37) : unF (c :: l) = c :: unF l := by
  conv => lhs; unfold unF
  split
  · simp_all
  · simp_all
  · rename_i heq
    injection heq with h1 h2
    rw [h1, h2]
theorem unF_short (l : List UInt8) (h : l.length < 2) : unF (37 :: l) = 37 :: unF l := by
  match l, h with
  | [], _ => rfl
  | [a], _ => rfl
theorem unF_len : ∀ l : List UInt8, (unF l).length ≤ l.length := by
  intro l
  induction h : l.length using Nat.strongRecOn generalizing l with
  | ind n ih =>
    subst h
    match l with
    | [] => simp [unF]
    | c :: t =>
      by_cases hc : c = 37
      · subst hc
        match t with
        | [] => simp [unF]
        | [a] =>
          rw [unF_short _ (by simp)]
          have := ih 1 (by simp) [a] rfl
          simp only [List.length_cons, List.length_nil] at *; omega
        | a :: b :: t =>
          rw [unF_pct]
          have := ih t.length (by simp; omega) t rfl
          simp only [List.length_cons] at *; omega
      · rw [unF_plain _ _ hc]
        have := ih t.length (by simp) t rfl
        simp only [List.length_cons] at *; omega
theorem unL_len (l : List UInt8) : (unL l).length ≤ l.length := by
  unfold unL
  split
  · simp
  · exact unF_len l
set_option maxRecDepth 100000 in
set_option maxHeartbeats 4000000 in
theorem aUnescape_c (l : List UInt8) (hs : l.length ≤ 140737488351232) (w : World) (hE : ErrR w) :
    Calls Tryd.prog 110 #[.string (str l)] w (Gives (.string (str (unL l))) w) := by
  by_cases h0 : l = [45]
  · subst h0
    rw [show unL [45] = [] from rfl, show str ([] : List UInt8) = ⟨#[]⟩ from rfl, show str ([45] : List UInt8) = ⟨#[45]⟩ from rfl]
    go_enter Tryd.func110, Tryd.ntmps110
    go_wp2
    go_ret
    exact ⟨rfl, by (repeat (first | exact Ext.rfl' _ | assumption | refine Ext.dr ?_ | refine Ext.drN ?_ _ | refine Ext.al ?_ _ | refine Ext.st ?_ (by simp) _ | refine Ext.tr ?_ (by assumption)))⟩
  have s1 := strNA h0
  have s2 : (l == [45]) = false := by rw [beq_eq_false_iff_ne]; exact h0
  obtain ⟨R, hR⟩ : ∃ R, R = unF l := ⟨_, rfl⟩
  rw [show unL l = R by unfold unL; rw [if_neg h0, hR]]
  have HR := Lib.hid hR
  clear hR
  have hms : maxLen = 9223372036854775807 := rfl
  have HE := Lib.hid hE
  clear hE
  go_enter Tryd.func110, Tryd.ntmps110
  go_wp2
  clear s1 s2 h0
  go_loopw [0, 3] (fun s v wr => ∃ acc l', s = .string (str l') ∧ R = acc ++ unF l' ∧ acc.length + l'.length ≤ l.length ∧ wr.ownsRow w.heap.size 5 1 v acc.length (bc acc) ∧ Ext w wr) (fun s _ _ => strLen s)
  case atStart => exact ⟨[], l, rfl, by rw [HR.out]; rfl, by simp, World.ownsRow_nil _ _ _ _, Ext.rfl' _⟩
  case round =>
    obtain ⟨acc, l', rfl, hinv, hll, hown, hext⟩ := hrel
    have HI := Lib.hid hinv
    have HO := Lib.hid hown
    clear hinv hown
    cases l' with
    | nil =>
      obtain ⟨A, c, rfl, hnc, hcm, hr, _⟩ := Rd.of_own HO.out
      have cv := conv_bs (P := Tryd.prog) 22 9 5 Tryd.underlying22 Tryd.underlying5 Tryd.underlying9 hr acc.length c rfl
      obtain ⟨s, hs2⟩ : ∃ s, s = str acc := ⟨_, rfl⟩
      rw [← hs2] at cv
      have HS := Lib.hid hs2
      have hemp : str ([] : List UInt8) = ⟨#[]⟩ := rfl
      rw [hemp]
      clear hs2 hr hemp
      go_wp2
      go_ret
      exact ⟨ret_val (by rw [HI.out, HS.out]; simp [unF]), hext⟩
    | cons b t =>
      simp only [List.length_cons] at hll
      have h256 := UInt8.toNat_lt b
      by_cases hb : b = 37
      · by_cases h2 : t.length < 2
        · have hlt : decide ((3 : Int) ≤ ((b :: t).length : Int)) = false := by rw [decide_eq_false_iff_not]; simp only [List.length_cons]; omega
          simp only [List.length_cons] at hlt
          have HS := Lib.hid (show R = (acc ++ [b]) ++ unF t by rw [HI.out, hb, unF_short _ h2]; simp)
          have hb1 : ((b.toNat : Int) == 37) = true := by rw [hb]; rfl
          clear hb
          go_wp2_with (at_builtin; refine wpL_app slt_u8 (.tmp 29) (.tmp 31) rfl rfl rfl rfl (Ext.al (by (repeat (first | exact Ext.rfl' _ | assumption | refine Ext.dr ?_ | refine Ext.drN ?_ _ | refine Ext.al ?_ _ | refine Ext.st ?_ (by simp) _ | refine Ext.tr ?_ (by assumption)))) _) ((own_ext HO.out (by (repeat (first | exact Ext.rfl' _ | assumption | refine Ext.dr ?_ | refine Ext.drN ?_ _ | refine Ext.al ?_ _ | refine Ext.st ?_ (by simp) _ | refine Ext.tr ?_ (by assumption))))).alloc _) (by rfl) (new_cells wr #[.int .u8 (b.toNat : Int)] 5) (by simp [Value.oneCell']) (by omega) (by simp only [maxLen]; omega) ?_; intro v' w' hown' hext' hgg; clear hgg)
          go_roundw
          case rel => exact ⟨acc ++ [b], t, rfl, HS.out, by simp only [List.length_append, List.length_cons, List.length_nil]; omega, by rw [bc_app, List.length_append]; exact hown', hext'⟩
          case measure => simp [strLen]
        · subst hb
          obtain ⟨a, t, rfl⟩ : ∃ a t', t = a :: t' := by cases t with | nil => simp at h2 | cons a t => exact ⟨a, t, rfl⟩
          obtain ⟨b, t, rfl⟩ : ∃ a t', t = a :: t' := by cases t with | nil => simp at h2 | cons a t => exact ⟨a, t, rfl⟩
          clear h2
          simp only [List.length_cons] at hll
          obtain ⟨e, h2⟩ := num_pct a b
          have CH := fun w hE => Hex_c [a, b] (by simp) w hE
          rw [h2] at CH
          have hlt : decide ((3 : Int) ≤ ((37 :: a :: b :: t : List UInt8).length : Int)) = true := by rw [decide_eq_true_eq]; simp only [List.length_cons]; omega
          simp only [List.length_cons] at hlt
          have hlt2 : (3 : Int) ≤ (t.length : Int) + 1 + 1 + 1 := by omega
          have hn2 := pctN_lt a b
          obtain ⟨n, hn⟩ : ∃ n : Nat, n = pctN a b := ⟨_, rfl⟩
          rw [← hn] at CH hn2
          have HS := Lib.hid (show R = (acc ++ [UInt8.ofNat n]) ++ unF t by rw [HI.out, unF_pct, ← hn]; simp)
          have CH := Lib.hid CH
          have hbt : ((UInt8.ofNat n).toNat : Int) = (n : Int) := by rw [UInt8.toNat_ofNat']; omega
          have HBT := Lib.hid hbt
          have hw8 : IntKind.u8.wrap (n : Int) = (n : Int) := by rw [IntKind.wrap_u8]; omega
          clear hn h2 hbt
          go_wp2_with (first
            | (go_at_call 158; refine (CH.out _ (HE.out.ext (by (repeat (first | exact Ext.rfl' _ | assumption | refine Ext.dr ?_ | refine Ext.drN ?_ _ | refine Ext.al ?_ _ | refine Ext.st ?_ (by simp) _ | refine Ext.tr ?_ (by assumption)))))).mono ?_; rintro e w1 ⟨rfl, hx1⟩)
            | (at_builtin; refine wpL_app slt_u8 (.tmp 29) (.tmp 31) rfl rfl rfl rfl (Ext.al (by (repeat (first | exact Ext.rfl' _ | assumption | refine Ext.dr ?_ | refine Ext.drN ?_ _ | refine Ext.al ?_ _ | refine Ext.st ?_ (by simp) _ | refine Ext.tr ?_ (by assumption)))) _) ((own_ext HO.out (by (repeat (first | exact Ext.rfl' _ | assumption | refine Ext.dr ?_ | refine Ext.drN ?_ _ | refine Ext.al ?_ _ | refine Ext.st ?_ (by simp) _ | refine Ext.tr ?_ (by assumption))))).alloc _) (by rfl) (new_cells w1 #[.int .u8 (n : Int)] 5) (by simp [Value.oneCell']) (by omega) (by simp only [maxLen]; omega) ?_; intro v' w' hown' hext' hgg; clear hgg))
          go_roundw
          case rel =>
            have hbc : bc [UInt8.ofNat n] = [.int .u8 (n : Int)] := by show [Value.int .u8 ((UInt8.ofNat n).toNat : Int)] = _; rw [HBT.out]
            exact ⟨acc ++ [UInt8.ofNat n], t, rfl, HS.out, by simp only [List.length_append, List.length_cons, List.length_nil]; omega, by rw [bc_app, List.length_append, hbc]; exact hown', hext'⟩
          case measure => simp [strLen]; try omega
      · have hb1 : ((b.toNat : Int) == 37) = false := by
          rw [beq_eq_false_iff_ne]; intro h; exact hb (UInt8.toNat_inj.1 (by show b.toNat = 37; omega))
        have HS := Lib.hid (show R = (acc ++ [b]) ++ unF t by rw [HI.out, unF_plain _ _ hb]; simp)
        clear hb
        go_wp2_with (at_builtin; refine wpL_app slt_u8 (.tmp 29) (.tmp 31) rfl rfl rfl rfl (Ext.al (by (repeat (first | exact Ext.rfl' _ | assumption | refine Ext.dr ?_ | refine Ext.drN ?_ _ | refine Ext.al ?_ _ | refine Ext.st ?_ (by simp) _ | refine Ext.tr ?_ (by assumption)))) _) ((own_ext HO.out (by (repeat (first | exact Ext.rfl' _ | assumption | refine Ext.dr ?_ | refine Ext.drN ?_ _ | refine Ext.al ?_ _ | refine Ext.st ?_ (by simp) _ | refine Ext.tr ?_ (by assumption))))).alloc _) (by rfl) (new_cells wr #[.int .u8 (b.toNat : Int)] 5) (by simp [Value.oneCell']) (by omega) (by simp only [maxLen]; omega) ?_; intro v' w' hown' hext' hgg; clear hgg)
        go_roundw
        case rel => exact ⟨acc ++ [b], t, rfl, HS.out, by simp only [List.length_append, List.length_cons, List.length_nil]; omega, by rw [bc_app, List.length_append]; exact hown', hext'⟩
        case measure => simp [strLen]
theorem slice3 {l : List UInt8} {k : Nat} (h : k + 2 < l.length) : (l.take (k + 3)).drop (k + 1) = [l[k + 1], l[k + 2]] := by
  have h1 : l.drop (k + 1) = l[k + 1] :: l[k + 2] :: l.drop (k + 3) := by
    rw [List.drop_eq_getElem_cons (by omega), List.drop_eq_getElem_cons (by omega)]
  rw [List.drop_take, h1, show k + 3 - (k + 1) = 2 by omega]
  rfl
set_option maxRecDepth 100000 in
set_option maxHeartbeats 4000000 in
theorem arPlain_c (l : List UInt8) (hs : l.length ≤ 140737488351232) (w : World) :
    Calls Tryd.prog 71 #[.string (str l)] w (Gives (.string (str (unL l))) w) := by
  by_cases h0 : l = [45]
  · subst h0
    rw [show unL [45] = [] from rfl, show str ([] : List UInt8) = ⟨#[]⟩ from rfl, show str ([45] : List UInt8) = ⟨#[45]⟩ from rfl]
    go_enter Tryd.func71, Tryd.ntmps71
    go_wp2
    go_ret
    exact ⟨rfl, by (repeat (first | exact Ext.rfl' _ | assumption | refine Ext.dr ?_ | refine Ext.drN ?_ _ | refine Ext.al ?_ _ | refine Ext.st ?_ (by simp) _ | refine Ext.tr ?_ (by assumption)))⟩
  have s1 := strNA h0
  have s2 : (l == [45]) = false := by rw [beq_eq_false_iff_ne]; exact h0
  obtain ⟨R, hR⟩ : ∃ R, R = unF l := ⟨_, rfl⟩
  rw [show unL l = R by unfold unL; rw [if_neg h0, hR]]
  have HR := Lib.hid hR
  clear hR
  have hms : maxLen = 9223372036854775807 := rfl
  go_enter Tryd.func71, Tryd.ntmps71
  go_wp2
  clear s1 s2 h0
  go_loopw [3, 4] (fun v i wr => ∃ acc k, i = .int .i64 (k : Nat) ∧ R = acc ++ unF (l.drop k) ∧ k ≤ l.length ∧ acc.length ≤ k ∧ wr.ownsRow w.heap.size 5 1 v acc.length (bc acc) ∧ Ext w wr) (fun _ i _ => l.length - (intOf i).toNat)
  case atStart => exact ⟨[], 0, rfl, by rw [HR.out]; rfl, by simp, Nat.le_refl _, World.ownsRow_nil _ _ _ _, Ext.rfl' _⟩
  case round =>
    obtain ⟨acc, k, rfl, hinv, hk, hak, hown, hext⟩ := hrel
    have HI := Lib.hid hinv
    have HO := Lib.hid hown
    clear hinv hown
    by_cases hlt : k < l.length
    · have hki : (k : Int) + 1 ≤ 9223372036854775807 := by omega
      by_cases hb : l[k] = 37
      · have hb1 : ((l[k].toNat : Int) == 37) = true := by rw [hb]; rfl
        have i1 : IntKind.i64.wrap ((k : Int) + 2) = (k : Int) + 2 := by rw [IntKind.wrap_i64]; omega
        by_cases h2 : k + 2 < l.length
        · have i2 : IntKind.i64.wrap ((k : Int) + 1) = (k : Int) + 1 := by rw [IntKind.wrap_i64]; omega
          have i22 : IntKind.i64.wrap ((k : Int) + 3) = (k : Int) + 3 := by rw [IntKind.wrap_i64]; omega
          have i3 : (k : Int) + 2 < (l.length : Int) := by omega
          have i4 : ((k : Int) + 1).toNat = k + 1 := by omega
          have i5 : ((k : Int) + 3).toNat = k + 3 := by omega
          have i6 : (0 : Int) ≤ (k : Int) + 1 := by omega
          have i7 : (k : Int) + 1 ≤ (k : Int) + 3 := by omega
          have i8 : (k : Int) + 3 ≤ (l.length : Int) := by omega
          have hdr := drop3 h2
          obtain ⟨e, hn0⟩ := num_pct l[k + 1] l[k + 2]
          have CH := fun w => rHex_c ((l.take (k + 3)).drop (k + 1)) (by rw [slice3 h2]; simp [maxLen]) w
          rw [show numL 16 1152921504606846976 ((l.take (k + 3)).drop (k + 1)) = ((pctN l[k + 1] l[k + 2] : Int), e) by rw [slice3 h2]; exact hn0] at CH
          have hn2 := pctN_lt l[k + 1] l[k + 2]
          obtain ⟨n, hn⟩ : ∃ n : Nat, n = pctN l[k + 1] l[k + 2] := ⟨_, rfl⟩
          rw [← hn] at CH hn2
          have HS := Lib.hid (show R = (acc ++ [UInt8.ofNat n]) ++ unF (l.drop (k + 3)) by rw [HI.out, hdr, hb, unF_pct, ← hn]; simp)
          have CH := Lib.hid CH
          have hbt : ((UInt8.ofNat n).toNat : Int) = (n : Int) := by rw [UInt8.toNat_ofNat']; omega
          have HBT := Lib.hid hbt
          have hw8 : IntKind.u8.wrap (n : Int) = (n : Int) := by rw [IntKind.wrap_u8]; omega
          clear hn hn0 hbt hdr hb
          go_wp2_with (first
            | (go_at_call 113; refine (CH.out _).mono ?_; rintro e w1 ⟨rfl, hx1⟩)
            | (at_builtin; refine wpL_app slt_u8 (.tmp 36) (.tmp 39) rfl rfl rfl rfl (Ext.al (by (repeat (first | exact Ext.rfl' _ | assumption | refine Ext.dr ?_ | refine Ext.drN ?_ _ | refine Ext.al ?_ _ | refine Ext.st ?_ (by simp) _ | refine Ext.tr ?_ (by assumption)))) _) ((own_ext HO.out (by (repeat (first | exact Ext.rfl' _ | assumption | refine Ext.dr ?_ | refine Ext.drN ?_ _ | refine Ext.al ?_ _ | refine Ext.st ?_ (by simp) _ | refine Ext.tr ?_ (by assumption))))).alloc _) (by rfl) (new_cells w1 #[.int .u8 (n : Int)] 5) (by simp [Value.oneCell']) (by omega) (by simp only [maxLen]; omega) ?_; intro v' w' hown' hext' hgg; clear hgg))
          go_roundw
          case rel =>
            have hbc : bc [UInt8.ofNat n] = [.int .u8 (n : Int)] := by show [Value.int .u8 ((UInt8.ofNat n).toNat : Int)] = _; rw [HBT.out]
            exact ⟨acc ++ [UInt8.ofNat n], k + 3, by go_num, HS.out, by omega, by simp only [List.length_append, List.length_cons, List.length_nil]; omega, by rw [bc_app, List.length_append, hbc]; exact hown', hext'⟩
          case measure => simp [intOf]; omega
        · have i3 : ¬ (k : Int) + 2 < (l.length : Int) := by omega
          have HS := Lib.hid (show R = (acc ++ [l[k]]) ++ unF (l.drop (k + 1)) by
            rw [HI.out, List.drop_eq_getElem_cons hlt, hb, unF_short _ (by rw [List.length_drop]; omega)]; simp)
          clear hb h2
          go_wp2_with (at_builtin; refine wpL_app slt_u8 (.tmp 43) (.tmp 47) rfl rfl rfl rfl (Ext.al (by (repeat (first | exact Ext.rfl' _ | assumption | refine Ext.dr ?_ | refine Ext.drN ?_ _ | refine Ext.al ?_ _ | refine Ext.st ?_ (by simp) _ | refine Ext.tr ?_ (by assumption)))) _) ((own_ext HO.out (by (repeat (first | exact Ext.rfl' _ | assumption | refine Ext.dr ?_ | refine Ext.drN ?_ _ | refine Ext.al ?_ _ | refine Ext.st ?_ (by simp) _ | refine Ext.tr ?_ (by assumption))))).alloc _) (by rfl) (new_cells wr #[.int .u8 (l[k].toNat : Int)] 5) (by simp [Value.oneCell']) (by omega) (by simp only [maxLen]; omega) ?_; intro v' w' hown' hext' hgg; clear hgg)
          go_roundw
          case rel => exact ⟨acc ++ [l[k]], k + 1, by go_num, HS.out, by omega, by simp only [List.length_append, List.length_cons, List.length_nil]; omega, by rw [bc_app, List.length_append]; exact hown', hext'⟩
          case measure => simp [intOf]; omega
      · have hb1 : ((l[k].toNat : Int) == 37) = false := by
          rw [beq_eq_false_iff_ne]; intro h; exact hb (UInt8.toNat_inj.1 (by show l[k].toNat = 37; omega))
        have HS := Lib.hid (show R = (acc ++ [l[k]]) ++ unF (l.drop (k + 1)) by
          rw [HI.out, List.drop_eq_getElem_cons hlt, unF_plain _ _ hb]; simp)
        clear hb
        go_wp2_with (at_builtin; refine wpL_app slt_u8 (.tmp 43) (.tmp 47) rfl rfl rfl rfl (Ext.al (by (repeat (first | exact Ext.rfl' _ | assumption | refine Ext.dr ?_ | refine Ext.drN ?_ _ | refine Ext.al ?_ _ | refine Ext.st ?_ (by simp) _ | refine Ext.tr ?_ (by assumption)))) _) ((own_ext HO.out (by (repeat (first | exact Ext.rfl' _ | assumption | refine Ext.dr ?_ | refine Ext.drN ?_ _ | refine Ext.al ?_ _ | refine Ext.st ?_ (by simp) _ | refine Ext.tr ?_ (by assumption))))).alloc _) (by rfl) (new_cells wr #[.int .u8 (l[k].toNat : Int)] 5) (by simp [Value.oneCell']) (by omega) (by simp only [maxLen]; omega) ?_; intro v' w' hown' hext' hgg; clear hgg)
        go_roundw
        case rel => exact ⟨acc ++ [l[k]], k + 1, by go_num, HS.out, by omega, by simp only [List.length_append, List.length_cons, List.length_nil]; omega, by rw [bc_app, List.length_append]; exact hown', hext'⟩
        case measure => simp [intOf]; omega
    · obtain rfl : k = l.length := by omega
      have HN := Lib.hid (show R = acc by rw [HI.out, List.drop_length]; simp [unF])
      obtain ⟨A, c, rfl, hnc, hcm, hr, _⟩ := Rd.of_own HO.out
      have cv := conv_bs (P := Tryd.prog) 22 9 5 Tryd.underlying22 Tryd.underlying5 Tryd.underlying9 hr acc.length c rfl
      obtain ⟨s, hs2⟩ : ∃ s, s = str acc := ⟨_, rfl⟩
      rw [← hs2] at cv
      have HS := Lib.hid hs2
      clear hs2 hr
      go_wp2
      go_ret
      exact ⟨ret_val (by show Value.string s = _; rw [HN.out, HS.out]), hext⟩
end Go.Proofs.YtolfpfdmgelhhaaDoor
end
