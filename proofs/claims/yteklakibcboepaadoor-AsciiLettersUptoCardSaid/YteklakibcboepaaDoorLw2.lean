/-
The law AsciiLetters as a walk: it answers true (of texts of at most 2^40 bytes).
-/
import Derived.Test.YteklakibcboepaaDoorKn1
import Derived.Test.YteklakibcboepaaDoorAsc12
set_option linter.unusedVariables false
set_option linter.unusedSimpArgs false
namespace Go.Proofs.YteklakibcboepaaDoor
open Go.RowKit

set_option maxRecDepth 100000 in
set_option maxHeartbeats 2000000 in
theorem AsciiLetters_w (l t : List UInt8) (sep : UInt8) (hs : l.length ≤ 1099511627776) (ht : t.length ≤ 1099511627776) (w : World) (hE : ErrR w) :
    Calls Tryd.prog 7 #[.string (str l), .string (str t), .int .u8 (sep.toNat : Int)] w (Gives (.bool true) w) := by
  have hm : l.length ≤ maxLen := by unfold maxLen; omega
  have hm' : t.length ≤ maxLen := by unfold maxLen; omega
  have CE := fun w => Equal_c l t hm hm' w
  have CF := fun w => rEqual_c l t hm hm' w
  have CL := fun w => Lower_c l hm w
  have CM := fun w => rLower_c l hm w
  have CT := fun w => Trim_c l hm w
  have CU := fun w => rTrim_c l hm w
  have CS := fun w => Split_c l sep hs w
  have CR := fun w => rSplit_c l sep hs w
  have hsl := splitL_len sep l
  generalize (lowL l == lowL t) = E at *
  generalize lowL l = a at *
  generalize trimL l = b at *
  generalize splitL sep l = ps at *
  have hps : ps.length ≤ maxLen := by unfold maxLen; omega
  have CE := Lib.hid CE
  have CF := Lib.hid CF
  have CL := Lib.hid CL
  have CM := Lib.hid CM
  have CT := Lib.hid CT
  have CU := Lib.hid CU
  have CS := Lib.hid CS
  have CR := Lib.hid CR
  have HE := Lib.hid hE
  have HP := Lib.hid hps
  clear hE hm hm' hsl hps
  cases E
  all_goals (
    go_enter Tryd.func7, Tryd.ntmps7
    go_wp2_with (first
      | (go_at_call 31; refine (CL.out _).mono ?_; rintro e w1 ⟨rfl, hx1⟩)
      | (go_at_call 32; refine (CM.out _).mono ?_; rintro e w2 ⟨rfl, hx2⟩)
      | (go_at_call 33; refine (CE.out _).mono ?_; rintro e w3 ⟨rfl, hx3⟩)
      | (go_at_call 34; refine (CF.out _).mono ?_; rintro e w4 ⟨rfl, hx4⟩)
      | (go_at_call 35; refine (CT.out _).mono ?_; rintro e w5 ⟨rfl, hx5⟩)
      | (go_at_call 36; refine (CU.out _).mono ?_; rintro e w6 ⟨rfl, hx6⟩)
      | (go_at_call 38; refine (CS.out _).mono ?_; rintro e w7 ⟨v, rfl, ⟨A, c, rfl, hr, hc⟩, hx7⟩)
      | (go_at_call 39; refine (CR.out _).mono ?_; rintro e w8 ⟨v', rfl, ⟨B, d, rfl, hr', hd⟩, hx8⟩)
      | (go_at_call 37; refine (SameStrings_c _ _ _ _ _ _ _ ps rfl rfl HP.out (hr.ext (by (repeat (first | exact Ext.rfl' _ | assumption | refine Ext.dr ?_ | refine Ext.drN ?_ _ | refine Ext.al ?_ _ | refine Ext.st ?_ (by simp) _ | refine Ext.tr ?_ (by assumption))))) (hr'.ext (by (repeat (first | exact Ext.rfl' _ | assumption | refine Ext.dr ?_ | refine Ext.drN ?_ _ | refine Ext.al ?_ _ | refine Ext.st ?_ (by simp) _ | refine Ext.tr ?_ (by assumption)))))).mono ?_; rintro e w9 ⟨rfl, hx9⟩)
      | (go_at_call 30; refine (knows01_c _ (HE.out.ext (by (repeat (first | exact Ext.rfl' _ | assumption | refine Ext.dr ?_ | refine Ext.drN ?_ _ | refine Ext.al ?_ _ | refine Ext.st ?_ (by simp) _ | refine Ext.tr ?_ (by assumption)))))).mono ?_; rintro e w10 ⟨rfl, hx10⟩))
    go_ret
    exact ⟨rfl, by (repeat (first | exact Ext.rfl' _ | assumption | refine Ext.dr ?_ | refine Ext.drN ?_ _ | refine Ext.al ?_ _ | refine Ext.st ?_ (by simp) _ | refine Ext.tr ?_ (by assumption)))⟩)
end Go.Proofs.YteklakibcboepaaDoor
