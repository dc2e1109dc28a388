/-
The law AccessLogs as a walk: any room.
-/
import Derived.Test.YtolfpfdmgelhhaaDoorALg
set_option linter.unusedVariables false
set_option linter.unusedSimpArgs false
namespace Go.Proofs.YtolfpfdmgelhhaaDoor
open Go.RowKit

set_option maxRecDepth 100000 in
set_option maxHeartbeats 4000000 in
theorem AccessLogs_bad (W : World) (hE : ErrR W) (hP : Pow W) (hM : Mx W) (m : Int) (hm : m < 1 ∨ 1048576 < m) (A : Option Addr) (c : Nat) (xs : List Ent) :
    Calls Tryd.prog 6 #[.int .i64 m, .slice A xs.length c] W (Gives (.bool true) W) := by
  have HE := Lib.hid hE
  have HP := Lib.hid hP
  have HM := Lib.hid hM
  have HB := Lib.hid hm
  clear hE hP hM hm
  go_enter Tryd.func6, Tryd.ntmps6
  go_wp2_with (first
    | (go_at_call 28; refine (aNewLog_no m HB.out W).mono ?_; rintro e w1 ⟨rfl, rfl⟩)
    | (go_at_call 29; refine (arNewLog_no m HB.out W).mono ?_; rintro e w2 ⟨rfl, rfl⟩)
    | (go_at_call 25; refine (num21_c _ _).mono ?_; rintro e w3 ⟨rfl, rfl⟩)
    | (go_at_call 26; refine (knows21_c _ (HE.out.ext (by (repeat (first | exact Ext.rfl' _ | assumption | refine Ext.dr ?_ | refine Ext.drN ?_ _ | refine Ext.al ?_ _ | refine Ext.st ?_ (by simp) _ | refine Ext.tr ?_ (by assumption))))) (HP.out.ext (by (repeat (first | exact Ext.rfl' _ | assumption | refine Ext.dr ?_ | refine Ext.drN ?_ _ | refine Ext.al ?_ _ | refine Ext.st ?_ (by simp) _ | refine Ext.tr ?_ (by assumption))))) (HM.out.ext (by (repeat (first | exact Ext.rfl' _ | assumption | refine Ext.dr ?_ | refine Ext.drN ?_ _ | refine Ext.al ?_ _ | refine Ext.st ?_ (by simp) _ | refine Ext.tr ?_ (by assumption)))))).mono ?_; rintro e w6 ⟨rfl, hx6⟩))
  go_loopw [8] (fun i wr => i = .int .i64 0 ∧ Ext W wr) (fun i _ => 1 - (intOf i).toNat)
  case atStart => exact ⟨rfl, hx6⟩
  case round =>
    obtain ⟨rfl, hx⟩ := hrel
    by_cases h0 : (0 : Int) < (xs.length : Int)
    · go_wp2
      go_ret
      exact ⟨rfl, hx⟩
    · go_wp2
      go_ret
      exact ⟨rfl, hx⟩
theorem AccessLogs_w (W : World) (hE : ErrR W) (hP : Pow W) (hM : Mx W) (m : Int) (A : Option Addr) (c : Nat) (xs : List Ent) (hA : RdE W A xs) (hx : xs.length ≤ 140737488355328) :
    Calls Tryd.prog 6 #[.int .i64 m, .slice A xs.length c] W (Gives (.bool true) W) := by
  by_cases h : 1 ≤ m ∧ m ≤ 1048576
  · obtain ⟨lim, rfl⟩ : ∃ n : Nat, m = (n : Int) := ⟨m.toNat, by omega⟩
    exact AccessLogs_good W hE hP hM lim (by omega) (by omega) A c xs hA hx
  · exact AccessLogs_bad W hE hP hM m (by omega) A c xs
end Go.Proofs.YtolfpfdmgelhhaaDoor
