/-
The law AsciiClasses as a walk: it answers true.
-/
import Derived.Test.YteklakibcboepaaDoorKn1
set_option linter.unusedVariables false
set_option linter.unusedSimpArgs false
namespace Go.Proofs.YteklakibcboepaaDoor
open Go.RowKit

set_option maxRecDepth 100000 in
set_option maxHeartbeats 1000000 in
theorem AsciiClasses_w (l : List UInt8) (hs : l.length ≤ 140737488355328) (w : World) (hE : ErrR w) :
    Calls Tryd.prog 6 #[.string (str l)] w (Gives (.bool true) w) := by
  have hm : l.length ≤ maxLen := by unfold maxLen; omega
  have CT := fun w => Token_c (str l) (by rw [str_size]; exact hm) w
  have CR := fun w => rToken_c (str l) (by rw [str_size]; exact hm) w
  have CV := fun w => Value_c l hm w
  have CU := fun w => rValue_c l hm w
  generalize (((str l).data.toList.all fun b => tokB b.toNat) && decide (0 < (str l).size)) = A at *
  generalize ((l.all fun b => valB b.toNat) && endsB l) = V at *
  have CT := Lib.hid CT
  have CR := Lib.hid CR
  have CV := Lib.hid CV
  have CU := Lib.hid CU
  have HE := Lib.hid hE
  clear hE hm
  cases A <;> cases V
  all_goals (
    go_enter Tryd.func6, Tryd.ntmps6
    go_wp2_with (first
      | (go_at_call 26; refine (CT.out _).mono ?_; rintro e w1 ⟨rfl, hx1⟩)
      | (go_at_call 27; refine (CR.out _).mono ?_; rintro e w2 ⟨rfl, hx2⟩)
      | (go_at_call 28; refine (CV.out _).mono ?_; rintro e w3 ⟨rfl, hx3⟩)
      | (go_at_call 29; refine (CU.out _).mono ?_; rintro e w4 ⟨rfl, hx4⟩)
      | (go_at_call 30; refine (knows01_c _ (HE.out.ext (by (repeat (first | exact Ext.rfl' _ | assumption | refine Ext.dr ?_ | refine Ext.drN ?_ _ | refine Ext.al ?_ _ | refine Ext.st ?_ (by simp) _ | refine Ext.tr ?_ (by assumption)))))).mono ?_; rintro e w5 ⟨rfl, hx5⟩))
    go_ret
    exact ⟨rfl, by (repeat (first | exact Ext.rfl' _ | assumption | refine Ext.dr ?_ | refine Ext.drN ?_ _ | refine Ext.al ?_ _ | refine Ext.st ?_ (by simp) _ | refine Ext.tr ?_ (by assumption)))⟩)
end Go.Proofs.YteklakibcboepaaDoor
