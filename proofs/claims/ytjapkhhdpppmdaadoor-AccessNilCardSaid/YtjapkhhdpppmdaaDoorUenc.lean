/-
Bytes that do not stand for themselves, written by % and two digits: the program's Encode and the reference's.
-/
import Derived.Test.YtjapkhhdpppmdaaDoorUdec
import Derived.Test.YtjapkhhdpppmdaaDoorBld
set_option linter.unusedVariables false
set_option linter.unusedSimpArgs false
namespace Go.Proofs.YtjapkhhdpppmdaaDoor
open Go.RowKit

theorem hexD_cut0 : ∀ d : Fin 16, ((⟨#[48, 49, 50, 51, 52, 53, 54, 55, 56, 57, 65, 66, 67, 68, 69, 70]⟩ : ByteArray).extract d.val (d.val + 1)) = str [hexD d.val] := by decide +kernel
theorem hexD_cut (n : Nat) (h : n < 16) : ((⟨#[48, 49, 50, 51, 52, 53, 54, 55, 56, 57, 65, 66, 67, 68, 69, 70]⟩ : ByteArray).extract n (n + 1)) = str [hexD n] := hexD_cut0 ⟨n, h⟩
theorem and15_0 : ∀ b : Fin 256, bits .and .u8 (b.val : Int) 15 = (b.val : Int) % 16 := by decide +kernel
theorem and15 (b : UInt8) : bits .and .u8 (b.toNat : Int) 15 = (b.toNat : Int) % 16 := and15_0 ⟨b.toNat, UInt8.toNat_lt b⟩
theorem enc_take (l : List UInt8) (k : Nat) (h : k < l.length) : encL (l.take (k + 1)) = encL (l.take k) ++ encB l[k] := by
  unfold encL; rw [List.take_succ_eq_append_getElem h, List.flatMap_append]; simp

set_option maxRecDepth 100000 in
set_option maxHeartbeats 2000000 in
theorem uEncode_c (l : List UInt8) (hs : l.length ≤ 35184372088832) (w : World) :
    Calls Tryd.prog 42 #[.string (str l)] w (Gives (.string (str (encL l))) w) := by
  have hms : maxLen = 9223372036854775807 := rfl
  go_enter Tryd.func42, Tryd.ntmps42
  go_wp2
  go_loopw [8] (fun i wr => ∃ k : Nat, i = .int .i64 k ∧ k ≤ l.length ∧ Bld w.heap.size w.heap.size (encL (l.take k)) wr ∧ Ext w wr) (fun i _ => l.length - (intOf i).toNat)
  case atStart => exact ⟨0, rfl, Nat.zero_le _, bld_new w w.heap.size (Nat.le_refl _), by (repeat (first | exact Ext.rfl' _ | assumption | refine Ext.dr ?_ | refine Ext.drN ?_ _ | refine Ext.al ?_ _ | refine Ext.st ?_ (by simp) _ | refine Ext.tr ?_ (by assumption)))⟩
  case round =>
    obtain ⟨k, rfl, hk, hbld, hext⟩ := hrel
    have HBD := Lib.hid hbld
    clear hbld
    have hel := enc_len (l.take k)
    have htk : (l.take k).length = k := by rw [List.length_take]; omega
    rw [htk] at hel
    have hxs := hext.size
    by_cases hlt : k < l.length
    · have HT := Lib.hid (enc_take l k hlt)
      have h256 := UInt8.toNat_lt l[k]
      have hki : (k : Int) + 1 ≤ 9223372036854775807 := by omega
      by_cases hp : plnB l[k] = true
      · have HP := Lib.hid hp
        have HE := Lib.hid (show encB l[k] = [l[k]] by unfold encB; rw [hp]; rfl)
        clear hp htk
        go_wp2_with (first
          | (go_at_call 65; refine (uplain_c _ _).mono ?_; rintro e w1 ⟨rfl, rfl⟩; rw [HP.out])
          | (go_at_call 74; refine (WriteByte_c w.heap.size w.heap.size _ l[k] _ HBD.out (by omega) (by omega)).mono ?_; rintro e w1 ⟨rfl, hb1, hx1⟩))
        go_roundw
        case rel => exact ⟨k + 1, by go_num, by omega, by rw [HT.out, HE.out]; exact hb1, Below.trans hext hx1⟩
        case measure => simp [intOf]; omega
      · have hp' : plnB l[k] = false := by simpa using hp
        have HP := Lib.hid hp'
        by_cases h47 : l[k] = 47
        · have HE := Lib.hid (show encB l[k] = [l[k]] by unfold encB; rw [h47]; rfl)
          have h47' : ((l[k].toNat : Int) == 47) = true := by rw [h47]; rfl
          clear hp hp' htk h47
          go_wp2_with (first
            | (go_at_call 65; refine (uplain_c _ _).mono ?_; rintro e w1 ⟨rfl, rfl⟩; rw [HP.out])
            | (go_at_call 74; refine (WriteByte_c w.heap.size w.heap.size _ l[k] _ HBD.out (by omega) (by omega)).mono ?_; rintro e w1 ⟨rfl, hb1, hx1⟩))
          go_roundw
          case rel => exact ⟨k + 1, by go_num, by omega, by rw [HT.out, HE.out]; exact hb1, Below.trans hext hx1⟩
          case measure => simp [intOf]; omega
        · have h47' : ((l[k].toNat : Int) == 47) = false := by rw [beq_eq_false_iff_ne]; intro h; exact h47 (UInt8.toNat_inj.1 (by show l[k].toNat = 47; omega))
          have HE := Lib.hid (show encB l[k] = [37, hexD (l[k].toNat / 16), hexD (l[k].toNat % 16)] by unfold encB; rw [hp']; simp [h47])
          clear hp hp' htk h47
          obtain ⟨x, hx⟩ : ∃ x : Nat, x = l[k].toNat := ⟨_, rfl⟩
          have hcut1 := hexD_cut (l[k].toNat / 16) (by omega)
          have hcut2 := hexD_cut (l[k].toNat % 16) (by omega)
          go_wp2_with (first
            | (go_at_call 65; refine (uplain_c _ _).mono ?_; rintro e w1 ⟨rfl, rfl⟩; rw [HP.out]))
          obtain ⟨h1, hh1⟩ : ∃ h, h = hexD (l[k].toNat / 16) := ⟨_, rfl⟩
          obtain ⟨h2, hh2⟩ : ∃ h, h = hexD (l[k].toNat % 16) := ⟨_, rfl⟩
          rw [← hh1] at hcut1 HE
          rw [← hh2] at hcut2 HE
          clear hh1 hh2 hx x
          have f1 : IntKind.u8.wrap ((l[k].toNat : Int) / 16 + 1) = (l[k].toNat : Int) / 16 + 1 := by rw [IntKind.wrap_u8]; omega
          have f2 : (0 : Int) ≤ (l[k].toNat : Int) / 16 := by omega
          have f3 : (l[k].toNat : Int) / 16 ≤ (l[k].toNat : Int) / 16 + 1 := by omega
          have f4 : (l[k].toNat : Int) / 16 + 1 ≤ 16 := by omega
          have f5 : ((l[k].toNat : Int) / 16).toNat = l[k].toNat / 16 := by omega
          have f6 : ((l[k].toNat : Int) / 16 + 1).toNat = l[k].toNat / 16 + 1 := by omega
          have g0 := and15 l[k]
          have g1 : IntKind.u8.wrap ((l[k].toNat : Int) % 16 + 1) = (l[k].toNat : Int) % 16 + 1 := by rw [IntKind.wrap_u8]; omega
          have g2 : (0 : Int) ≤ (l[k].toNat : Int) % 16 := by omega
          have g3 : (l[k].toNat : Int) % 16 ≤ (l[k].toNat : Int) % 16 + 1 := by omega
          have g4 : (l[k].toNat : Int) % 16 + 1 ≤ 16 := by omega
          have g5 : ((l[k].toNat : Int) % 16).toNat = l[k].toNat % 16 := by omega
          have g6 : ((l[k].toNat : Int) % 16 + 1).toNat = l[k].toNat % 16 + 1 := by omega
          have cc1 : ∀ w, (Op.stringOp .add ⟨#[37]⟩ (str [h1])).run Tryd.prog w = .ok (.string (str [37, h1])) w := fun w => by
            rw [cat_ok _ _ (by rw [str_size]; show 1 + 1 ≤ _; omega)]; simp
          have cc2 : ∀ w, (Op.stringOp .add (str [37, h1]) (str [h2])).run Tryd.prog w = .ok (.string (str [37, h1, h2])) w := fun w => by
            rw [cat_ok _ _ (by rw [str_size, str_size]; show 2 + 1 ≤ _; omega)]; simp
          have hx3 : ([37, h1, h2] : List UInt8).length = 3 := rfl
          go_region_held3 (fun _ => True) (trivial) (first
            | (go_at_call 75; refine (WriteString_c w.heap.size w.heap.size _ [37, h1, h2] _ (HBD.out.ext (by (repeat (first | exact Ext.rfl' _ | assumption | refine Ext.dr ?_ | refine Ext.drN ?_ _ | refine Ext.al ?_ _ | refine Ext.st ?_ (by simp) _ | refine Ext.tr ?_ (by assumption))))) (by omega) (Below.size (by (repeat (first | exact Ext.rfl' _ | assumption | refine Ext.dr ?_ | refine Ext.drN ?_ _ | refine Ext.al ?_ _ | refine Ext.st ?_ (by simp) _ | refine Ext.tr ?_ (by assumption))) : Ext w _))).mono ?_; rintro e w1 ⟨rfl, hb1, hx1⟩))
          all_goals go_wp2
          go_roundw
          case rel => exact ⟨k + 1, by go_num, by omega, by rw [HT.out, HE.out]; exact hb1, Below.trans (Ext.dr hext) hx1⟩
          case measure => simp [intOf]; omega
    · obtain rfl : k = l.length := by omega
      rw [List.take_length] at HBD
      go_wp2_with (go_at_call 76; refine (bString_c w.heap.size w.heap.size _ _ HBD.out (by omega)).mono ?_; rintro e w1 ⟨rfl, hx1⟩)
      go_ret
      exact ⟨rfl, Below.trans hext hx1⟩
theorem hexD_at0 : ∀ d : Fin 16, ((⟨#[48, 49, 50, 51, 52, 53, 54, 55, 56, 57, 65, 66, 67, 68, 69, 70]⟩ : ByteArray)[d.val]'(show d.val < 16 from d.isLt)) = hexD d.val := by decide +kernel
theorem hexD_at (n : Nat) (h : n < 16) : ((⟨#[48, 49, 50, 51, 52, 53, 54, 55, 56, 57, 65, 66, 67, 68, 69, 70]⟩ : ByteArray)[n]'(show n < 16 from h)) = hexD n := hexD_at0 ⟨n, h⟩

set_option maxRecDepth 100000 in
set_option maxHeartbeats 2000000 in
theorem urEncode_c (l : List UInt8) (hs : l.length ≤ 35184372088832) (w : World) :
    Calls Tryd.prog 43 #[.string (str l)] w (Gives (.string (str (encL l))) w) := by
  have hms : maxLen = 9223372036854775807 := rfl
  go_enter Tryd.func43, Tryd.ntmps43
  go_wp2
  generalize hdg : (⟨#[48, 49, 50, 51, 52, 53, 54, 55, 56, 57, 65, 66, 67, 68, 69, 70]⟩ : ByteArray) = dg
  have hds : dg.size = 16 := by rw [← hdg]; rfl
  have hda : ∀ n (h : n < dg.size), n < 16 → dg[n] = hexD n := fun n h h16 => by subst hdg; exact hexD_at n h16
  have HDA := Lib.hid hda
  clear hda hdg
  go_loopw [4, 5] (fun v i wr => ∃ k : Nat, i = .int .i64 k ∧ k ≤ l.length ∧ wr.ownsRow w.heap.size 5 1 v (encL (l.take k)).length (bc (encL (l.take k))) ∧ Ext w wr) (fun _ i _ => l.length - (intOf i).toNat)
  case atStart => exact ⟨0, rfl, Nat.zero_le _, World.ownsRow_nil _ _ _ _, by (repeat (first | exact Ext.rfl' _ | assumption | refine Ext.dr ?_ | refine Ext.drN ?_ _ | refine Ext.al ?_ _ | refine Ext.st ?_ (by simp) _ | refine Ext.tr ?_ (by assumption)))⟩
  case round =>
    obtain ⟨k, rfl, hk, hown, hext⟩ := hrel
    have HO := Lib.hid hown
    clear hown
    have hel := enc_len (l.take k)
    have htk : (l.take k).length = k := by rw [List.length_take]; omega
    rw [htk] at hel
    by_cases hlt : k < l.length
    · have HT := Lib.hid (enc_take l k hlt)
      have h256 := UInt8.toNat_lt l[k]
      have hki : (k : Int) + 1 ≤ 9223372036854775807 := by omega
      by_cases hp : plnB l[k] = true
      · have HP := Lib.hid hp
        have HE := Lib.hid (show encB l[k] = [l[k]] by unfold encB; rw [hp]; rfl)
        clear hp htk
        go_wp2_with (first
          | (go_at_call 77; refine (urplain_c _ _).mono ?_; rintro e w1 ⟨rfl, rfl⟩; rw [HP.out])
          | (at_builtin; refine wpL_app slt_u8 (.tmp 22) (.tmp 24) rfl rfl rfl rfl (Ext.al (by (repeat (first | exact Ext.rfl' _ | assumption | refine Ext.dr ?_ | refine Ext.drN ?_ _ | refine Ext.al ?_ _ | refine Ext.st ?_ (by simp) _ | refine Ext.tr ?_ (by assumption)))) _) ((own_ext HO.out (by (repeat (first | exact Ext.rfl' _ | assumption | refine Ext.dr ?_ | refine Ext.drN ?_ _ | refine Ext.al ?_ _ | refine Ext.st ?_ (by simp) _ | refine Ext.tr ?_ (by assumption))))).alloc _) (by rfl) (new_cells wr #[.int .u8 (l[k].toNat : Int)] 5) (by simp [Value.oneCell']) (by omega) (by simp only [maxLen]; omega) ?_; intro v' w' hown' hext' hgg; clear hgg))
        go_roundw
        case rel => exact ⟨k + 1, by go_num, by omega, by rw [HT.out, HE.out, bc_app, List.length_append]; exact hown', hext'⟩
        case measure => simp [intOf]; omega
      · have hp' : plnB l[k] = false := by simpa using hp
        have HP := Lib.hid hp'
        by_cases h47 : l[k] = 47
        · have HE := Lib.hid (show encB l[k] = [l[k]] by unfold encB; rw [h47]; rfl)
          have h47' : ((l[k].toNat : Int) == 47) = true := by rw [h47]; rfl
          clear hp hp' htk h47
          go_wp2_with (first
            | (go_at_call 77; refine (urplain_c _ _).mono ?_; rintro e w1 ⟨rfl, rfl⟩; rw [HP.out])
            | (at_builtin; refine wpL_app slt_u8 (.tmp 22) (.tmp 24) rfl rfl rfl rfl (Ext.al (by (repeat (first | exact Ext.rfl' _ | assumption | refine Ext.dr ?_ | refine Ext.drN ?_ _ | refine Ext.al ?_ _ | refine Ext.st ?_ (by simp) _ | refine Ext.tr ?_ (by assumption)))) _) ((own_ext HO.out (by (repeat (first | exact Ext.rfl' _ | assumption | refine Ext.dr ?_ | refine Ext.drN ?_ _ | refine Ext.al ?_ _ | refine Ext.st ?_ (by simp) _ | refine Ext.tr ?_ (by assumption))))).alloc _) (by rfl) (new_cells wr #[.int .u8 (l[k].toNat : Int)] 5) (by simp [Value.oneCell']) (by omega) (by simp only [maxLen]; omega) ?_; intro v' w' hown' hext' hgg; clear hgg))
          go_roundw
          case rel => exact ⟨k + 1, by go_num, by omega, by rw [HT.out, HE.out, bc_app, List.length_append]; exact hown', hext'⟩
          case measure => simp [intOf]; omega
        · have h47' : ((l[k].toNat : Int) == 47) = false := by rw [beq_eq_false_iff_ne]; intro h; exact h47 (UInt8.toNat_inj.1 (by show l[k].toNat = 47; omega))
          have HE := Lib.hid (show encB l[k] = [37, hexD (l[k].toNat / 16), hexD (l[k].toNat % 16)] by unfold encB; rw [hp']; simp [h47])
          clear hp hp' htk h47
          have f2 : (0 : Int) ≤ (l[k].toNat : Int) / 16 := by omega
          have f4 : (l[k].toNat : Int) / 16 < 16 := by omega
          have f5 : ((l[k].toNat : Int) / 16).toNat = l[k].toNat / 16 := by omega
          have f6 : l[k].toNat / 16 < 16 := by omega
          have g2 : (0 : Int) ≤ (l[k].toNat : Int) % 16 := by omega
          have g4 : (l[k].toNat : Int) % 16 < 16 := by omega
          have g5 : ((l[k].toNat : Int) % 16).toNat = l[k].toNat % 16 := by omega
          have g6 : l[k].toNat % 16 < 16 := by omega
          have f1 : IntKind.u8.wrap ((l[k].toNat : Int) / 16) = (l[k].toNat : Int) / 16 := by rw [IntKind.wrap_u8]; omega
          have g1 : (l[k].toNat : Int).tmod 16 = (l[k].toNat : Int) % 16 := Int.tmod_eq_emod_of_nonneg (by omega)
          have f7 : (l[k].toNat : Int) / 16 < (dg.size : Int) := by omega
          have g7 : (l[k].toNat : Int) % 16 < (dg.size : Int) := by omega
          have f8 : l[k].toNat / 16 < dg.size := by omega
          have g8 : l[k].toNat % 16 < dg.size := by omega
          have a1 := HDA.out (l[k].toNat / 16) f8 f6
          have a2 := HDA.out (l[k].toNat % 16) g8 g6
          go_wp2_with (first
            | (go_at_call 77; refine (urplain_c _ _).mono ?_; rintro e w1 ⟨rfl, rfl⟩; rw [HP.out]))
          go_region_held3 (fun _ => True) (trivial) (first
            | (refine step_app slt_u8 (.tmp 26) (.tmp 35) rfl rfl rfl rfl (by (repeat (first | exact Ext.rfl' _ | assumption | refine Ext.dr ?_ | refine Ext.drN ?_ _ | refine Ext.al ?_ _ | refine Ext.st ?_ (by simp) _ | refine Ext.tr ?_ (by assumption)))) (own_ext HO.out (by (repeat (first | exact Ext.rfl' _ | assumption | refine Ext.dr ?_ | refine Ext.drN ?_ _ | refine Ext.al ?_ _ | refine Ext.st ?_ (by simp) _ | refine Ext.tr ?_ (by assumption))))) (by rfl) (new_cells_g (by first | rfl | simp) #[.int .u8 37, .int .u8 ((hexD (l[k].toNat / 16)).toNat : Int), .int .u8 ((hexD (l[k].toNat % 16)).toNat : Int)] 5) (by simp [Value.oneCell']) (by omega) (by simp only [maxLen]; omega) ?_; intro v' w' hown' hext' _))
          all_goals (
            have HO2 := Lib.hid hown'
            have HX2 := Lib.hid hext'
            clear hown' hext'
            go_wp2
            go_roundw
            case rel => exact ⟨k + 1, by go_num, by omega, by rw [HT.out, HE.out, bc_app, List.length_append]; exact HO2.out, HX2.out⟩
            case measure => simp [intOf]; omega)
    · obtain rfl : k = l.length := by omega
      rw [List.take_length] at HO
      obtain ⟨A, c, rfl, hnc, hcm, hr, _⟩ := Rd.of_own HO.out
      have cv := conv_bs (P := Tryd.prog) 106 9 5 Tryd.underlying106 Tryd.underlying5 Tryd.underlying9 hr (encL l).length c rfl
      obtain ⟨s, hs2⟩ : ∃ s, s = str (encL l) := ⟨_, rfl⟩
      rw [← hs2] at cv
      have HS := Lib.hid hs2
      clear hs2 hr
      go_wp2
      go_ret
      exact ⟨ret_val (by show Value.string s = _; rw [HS.out]), hext⟩
end Go.Proofs.YtjapkhhdpppmdaaDoor
