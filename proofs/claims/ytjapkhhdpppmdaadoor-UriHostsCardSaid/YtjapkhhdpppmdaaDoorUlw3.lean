/-
The law UriHosts as a walk: it answers true.
-/
import Derived.Test.YtjapkhhdpppmdaaDoorUhv
set_option linter.unusedVariables false
set_option linter.unusedSimpArgs false
namespace Go.Proofs.YtjapkhhdpppmdaaDoor
open Go.RowKit

set_option maxRecDepth 100000 in
set_option maxHeartbeats 2000000 in
theorem UriHosts_w (l : List UInt8) (hs : l.length ≤ 140737488355328) (w : World) (hE : ErrR w) :
    Calls Tryd.prog 10 #[.string (str l)] w (Gives (.bool true) w) := by
  have C1 := fun (w : World) (hE : ErrR w) => uHost_c l hs w hE
  have C2 := fun (w : World) => urHost_c l hs w
  unfold hostV at C1 C2
  generalize (hostL l).1 = x at *
  generalize (hostL l).2.1 = e at *
  generalize (hostL l).2.2 = y at *
  have C1 := Lib.hid C1
  have C2 := Lib.hid C2
  have HE := Lib.hid hE
  clear hE
  go_enter Tryd.func10, Tryd.ntmps10
  go_wp2_with (first
    | (go_at_call 34; refine (C1.out _ (HE.out.ext (by (repeat (first | exact Ext.rfl' _ | assumption | refine Ext.dr ?_ | refine Ext.drN ?_ _ | refine Ext.al ?_ _ | refine Ext.st ?_ (by simp) _ | refine Ext.tr ?_ (by assumption)))))).mono ?_; rintro e w1 ⟨rfl, hx1⟩)
    | (go_at_call 35; refine (C2.out _).mono ?_; rintro e w2 ⟨rfl, hx2⟩)
    | (go_at_call 32; refine (num08_c _ _).mono ?_; rintro e w3 ⟨rfl, rfl⟩)
    | (go_at_call 33; refine (knows08_c _ (HE.out.ext (by (repeat (first | exact Ext.rfl' _ | assumption | refine Ext.dr ?_ | refine Ext.drN ?_ _ | refine Ext.al ?_ _ | refine Ext.st ?_ (by simp) _ | refine Ext.tr ?_ (by assumption)))))).mono ?_; rintro e w6 ⟨rfl, hx6⟩))
  go_ret
  exact ⟨rfl, by (repeat (first | exact Ext.rfl' _ | assumption | refine Ext.dr ?_ | refine Ext.drN ?_ _ | refine Ext.al ?_ _ | refine Ext.st ?_ (by simp) _ | refine Ext.tr ?_ (by assumption)))⟩
end Go.Proofs.YtjapkhhdpppmdaaDoor
