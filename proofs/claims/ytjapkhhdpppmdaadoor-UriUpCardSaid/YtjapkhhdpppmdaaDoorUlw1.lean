/-
The laws UriCodes, UriBack, UriCleans as walks: they answer true.
-/
import Derived.Test.YtjapkhhdpppmdaaDoorUkn
import Derived.Test.YtjapkhhdpppmdaaDoorUenc
set_option linter.unusedVariables false
set_option linter.unusedSimpArgs false
namespace Go.Proofs.YtjapkhhdpppmdaaDoor
open Go.RowKit

set_option maxRecDepth 100000 in
set_option maxHeartbeats 2000000 in
theorem UriCodes_w (l : List UInt8) (hs : l.length ≤ 1048576) (w : World) (hE : ErrR w) :
    Calls Tryd.prog 14 #[.string (str l)] w (Gives (.bool true) w) := by
  have C1 := Lib.hid (fun (w : World) (hE : ErrR w) => uDecode_c l (by omega) w hE)
  have C2 := Lib.hid (fun (w : World) => urDecode_c l (by omega) w)
  have C3 := Lib.hid (fun (w : World) => uEncode_c l (by omega) w)
  have C4 := Lib.hid (fun (w : World) => urEncode_c l (by omega) w)
  generalize (decR l).1 = x at *
  generalize (decR l).2 = e at *
  generalize encL l = y at *
  have HE := Lib.hid hE
  clear hE
  go_enter Tryd.func14, Tryd.ntmps14
  go_wp2_with (first
    | (go_at_call 40; refine (C1.out _ (HE.out.ext (by (repeat (first | exact Ext.rfl' _ | assumption | refine Ext.dr ?_ | refine Ext.drN ?_ _ | refine Ext.al ?_ _ | refine Ext.st ?_ (by simp) _ | refine Ext.tr ?_ (by assumption)))))).mono ?_; rintro e w1 ⟨rfl, hx1⟩)
    | (go_at_call 41; refine (C2.out _).mono ?_; rintro e w2 ⟨rfl, hx2⟩)
    | (go_at_call 32; refine (num08_c _ _).mono ?_; rintro e w3 ⟨rfl, rfl⟩)
    | (go_at_call 42; refine (C3.out _).mono ?_; rintro e w4 ⟨rfl, hx4⟩)
    | (go_at_call 43; refine (C4.out _).mono ?_; rintro e w5 ⟨rfl, hx5⟩)
    | (go_at_call 33; refine (knows08_c _ (HE.out.ext (by (repeat (first | exact Ext.rfl' _ | assumption | refine Ext.dr ?_ | refine Ext.drN ?_ _ | refine Ext.al ?_ _ | refine Ext.st ?_ (by simp) _ | refine Ext.tr ?_ (by assumption)))))).mono ?_; rintro e w6 ⟨rfl, hx6⟩))
  go_ret
  exact ⟨rfl, by (repeat (first | exact Ext.rfl' _ | assumption | refine Ext.dr ?_ | refine Ext.drN ?_ _ | refine Ext.al ?_ _ | refine Ext.st ?_ (by simp) _ | refine Ext.tr ?_ (by assumption)))⟩
set_option maxRecDepth 100000 in
set_option maxHeartbeats 2000000 in
theorem UriBack_w (l : List UInt8) (hs : l.length ≤ 1048576) (w : World) (hE : ErrR w) :
    Calls Tryd.prog 15 #[.string (str l)] w (Gives (.bool true) w) := by
  have C3 := Lib.hid (fun (w : World) => uEncode_c l (by omega) w)
  have hel := enc_len l
  have h1 := fun (w : World) (hE : ErrR w) => uDecode_c (encL l) (by omega) w hE
  rw [decR_some (dec_enc l)] at h1
  have C1 := Lib.hid h1
  clear h1 hel
  generalize encL l = y at *
  have HE := Lib.hid hE
  clear hE
  go_enter Tryd.func15, Tryd.ntmps15
  go_wp2_with (first
    | (go_at_call 40; refine (C1.out _ (HE.out.ext (by (repeat (first | exact Ext.rfl' _ | assumption | refine Ext.dr ?_ | refine Ext.drN ?_ _ | refine Ext.al ?_ _ | refine Ext.st ?_ (by simp) _ | refine Ext.tr ?_ (by assumption)))))).mono ?_; rintro e w1 ⟨rfl, hx1⟩)
    | (go_at_call 32; refine (num08_c _ _).mono ?_; rintro e w3 ⟨rfl, rfl⟩)
    | (go_at_call 42; refine (C3.out _).mono ?_; rintro e w4 ⟨rfl, hx4⟩)
    | (go_at_call 33; refine (knows08_c _ (HE.out.ext (by (repeat (first | exact Ext.rfl' _ | assumption | refine Ext.dr ?_ | refine Ext.drN ?_ _ | refine Ext.al ?_ _ | refine Ext.st ?_ (by simp) _ | refine Ext.tr ?_ (by assumption)))))).mono ?_; rintro e w6 ⟨rfl, hx6⟩))
  go_ret
  exact ⟨rfl, by (repeat (first | exact Ext.rfl' _ | assumption | refine Ext.dr ?_ | refine Ext.drN ?_ _ | refine Ext.al ?_ _ | refine Ext.st ?_ (by simp) _ | refine Ext.tr ?_ (by assumption)))⟩
set_option maxRecDepth 100000 in
set_option maxHeartbeats 2000000 in
theorem UriCleans_w (l : List UInt8) (hs : l.length ≤ 140737488351232) (w : World) (hE : ErrR w) :
    Calls Tryd.prog 12 #[.string (str l)] w (Gives (.bool true) w) := by
  have C1 := Lib.hid (fun (w : World) => Clean_c l (by omega) w)
  have C2 := Lib.hid (fun (w : World) => rClean_c l (by omega) w)
  have C3 := Lib.hid (fun (w : World) (hE : ErrR w) => uResolve_c l (by omega) w hE)
  have C4 := Lib.hid (fun (w : World) (hE : ErrR w) => urResolve_c l (by omega) w hE)
  generalize (cleanL l).1 = x at *
  generalize (cleanL l).2 = e at *
  generalize (resU l).1 = y at *
  generalize (resU l).2 = f at *
  have HE := Lib.hid hE
  clear hE
  go_enter Tryd.func12, Tryd.ntmps12
  go_wp2_with (first
    | (go_at_call 36; refine (C1.out _).mono ?_; rintro e w1 ⟨rfl, hx1⟩)
    | (go_at_call 37; refine (C2.out _).mono ?_; rintro e w2 ⟨rfl, hx2⟩)
    | (go_at_call 32; refine (num08_c _ _).mono ?_; rintro e w3 ⟨rfl, rfl⟩)
    | (go_at_call 38; refine (C3.out _ (HE.out.ext (by (repeat (first | exact Ext.rfl' _ | assumption | refine Ext.dr ?_ | refine Ext.drN ?_ _ | refine Ext.al ?_ _ | refine Ext.st ?_ (by simp) _ | refine Ext.tr ?_ (by assumption)))))).mono ?_; rintro e w4 ⟨rfl, hx4⟩)
    | (go_at_call 39; refine (C4.out _ (HE.out.ext (by (repeat (first | exact Ext.rfl' _ | assumption | refine Ext.dr ?_ | refine Ext.drN ?_ _ | refine Ext.al ?_ _ | refine Ext.st ?_ (by simp) _ | refine Ext.tr ?_ (by assumption)))))).mono ?_; rintro e w5 ⟨rfl, hx5⟩)
    | (go_at_call 33; refine (knows08_c _ (HE.out.ext (by (repeat (first | exact Ext.rfl' _ | assumption | refine Ext.dr ?_ | refine Ext.drN ?_ _ | refine Ext.al ?_ _ | refine Ext.st ?_ (by simp) _ | refine Ext.tr ?_ (by assumption)))))).mono ?_; rintro e w6 ⟨rfl, hx6⟩))
  go_ret
  exact ⟨rfl, by (repeat (first | exact Ext.rfl' _ | assumption | refine Ext.dr ?_ | refine Ext.drN ?_ _ | refine Ext.al ?_ _ | refine Ext.st ?_ (by simp) _ | refine Ext.tr ?_ (by assumption)))⟩
end Go.Proofs.YtjapkhhdpppmdaaDoor
