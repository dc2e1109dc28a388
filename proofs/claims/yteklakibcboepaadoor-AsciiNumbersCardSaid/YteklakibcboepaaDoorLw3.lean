/-
The law AsciiNumbers as a walk: it answers true.
-/
import Derived.Test.YteklakibcboepaaDoorKn1
import Derived.Test.YteklakibcboepaaDoorAsc12
import Derived.Test.YteklakibcboepaaDoorHex2
set_option linter.unusedVariables false
set_option linter.unusedSimpArgs false
namespace Go.Proofs.YteklakibcboepaaDoor
open Go.RowKit

set_option maxRecDepth 100000 in
set_option maxHeartbeats 4000000 in
theorem AsciiNumbers_w (l : List UInt8) (n : Int) (hs : l.length ≤ 140737488355328) (h0 : -9223372036854775808 ≤ n) (h1 : n ≤ 9223372036854775807) (w : World) (hE : ErrR w) (hP : Pow w) (hB : Bru w) :
    Calls Tryd.prog 8 #[.string (str l), .int .i64 n] w (Gives (.bool true) w) := by
  have CA := fun w h => Digits_c n w h h0 h1
  have CB := fun w => rDigits_c n w h0 h1
  have CX := fun w => HexDigits_c n w
  have CY := fun w => rHexDigits_c n w
  have C1 := fun w h => Decimal_c l hs w h
  have C2 := fun w h => Hex_c l hs w h
  have C3 := fun w => rDecimal_c l (by unfold maxLen; omega) w
  have C4 := fun w => rHex_c l (by unfold maxLen; omega) w
  generalize numL 10 1000000000000000000 l = x1 at *
  generalize numL 16 1152921504606846976 l = x2 at *
  generalize decB n = d1 at *
  generalize hexB n = d2 at *
  obtain ⟨a1, e1⟩ := x1
  obtain ⟨a2, e2⟩ := x2
  have CA := Lib.hid CA
  have CB := Lib.hid CB
  have CX := Lib.hid CX
  have CY := Lib.hid CY
  have C1 := Lib.hid C1
  have C2 := Lib.hid C2
  have C3 := Lib.hid C3
  have C4 := Lib.hid C4
  have HE := Lib.hid hE
  have HW := Lib.hid hP
  have HB := Lib.hid hB
  clear hE hP hs hB
  go_enter Tryd.func8, Tryd.ntmps8
  go_wp2_with (first
    | (go_at_call 45; refine (CA.out _ (HW.out.ext (by (repeat (first | exact Ext.rfl' _ | assumption | refine Ext.dr ?_ | refine Ext.drN ?_ _ | refine Ext.al ?_ _ | refine Ext.st ?_ (by simp) _ | refine Ext.tr ?_ (by assumption)))))).mono ?_; rintro e w1 ⟨rfl, hx1⟩)
    | (go_at_call 46; refine (CB.out _).mono ?_; rintro e w2 ⟨rfl, hx2⟩)
    | (go_at_call 47; refine (CX.out _ (HB.out.ext (by (repeat (first | exact Ext.rfl' _ | assumption | refine Ext.dr ?_ | refine Ext.drN ?_ _ | refine Ext.al ?_ _ | refine Ext.st ?_ (by simp) _ | refine Ext.tr ?_ (by assumption)))))).mono ?_; rintro e w3 ⟨rfl, hx3⟩)
    | (go_at_call 48; refine (CY.out _).mono ?_; rintro e w4 ⟨rfl, hx4⟩)
    | (go_at_call 40; refine (C1.out _ (HE.out.ext (by (repeat (first | exact Ext.rfl' _ | assumption | refine Ext.dr ?_ | refine Ext.drN ?_ _ | refine Ext.al ?_ _ | refine Ext.st ?_ (by simp) _ | refine Ext.tr ?_ (by assumption)))))).mono ?_; rintro e w5 ⟨rfl, hx5⟩)
    | (go_at_call 42; refine (C2.out _ (HE.out.ext (by (repeat (first | exact Ext.rfl' _ | assumption | refine Ext.dr ?_ | refine Ext.drN ?_ _ | refine Ext.al ?_ _ | refine Ext.st ?_ (by simp) _ | refine Ext.tr ?_ (by assumption)))))).mono ?_; rintro e w6 ⟨rfl, hx6⟩)
    | (go_at_call 41; refine (C3.out _).mono ?_; rintro e w7 ⟨rfl, hx7⟩)
    | (go_at_call 43; refine (C4.out _).mono ?_; rintro e w8 ⟨rfl, hx8⟩)
    | (go_at_call 44; refine (num01_c _ _).mono ?_; rintro e w9 ⟨rfl, rfl⟩)
    | (go_at_call 30; refine (knows01_c _ (HE.out.ext (by (repeat (first | exact Ext.rfl' _ | assumption | refine Ext.dr ?_ | refine Ext.drN ?_ _ | refine Ext.al ?_ _ | refine Ext.st ?_ (by simp) _ | refine Ext.tr ?_ (by assumption)))))).mono ?_; rintro e w10 ⟨rfl, hx10⟩))
  go_ret
  exact ⟨rfl, by (repeat (first | exact Ext.rfl' _ | assumption | refine Ext.dr ?_ | refine Ext.drN ?_ _ | refine Ext.al ?_ _ | refine Ext.st ?_ (by simp) _ | refine Ext.tr ?_ (by assumption)))⟩
end Go.Proofs.YteklakibcboepaaDoor
