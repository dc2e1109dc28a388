/-
The law ServerNil as the evaluator runs it: its arguments are never looked at.
-/
import Derived.Test.YtieheagfcmcbiaaGreatDoorEvT
set_option linter.unusedVariables false
set_option linter.unusedSimpArgs false
set_option linter.unusedVariables false
set_option linter.unusedSimpArgs false
namespace Go.Proofs.YtieheagfcmcbiaaGreatDoor
open Go.RowKit

set_option maxRecDepth 100000 in
set_option maxHeartbeats 0 in
theorem serverNil_run : Ev.isT (.bool true) (Ev.run Tryz.prog Ev.smB 100000 (.fn 3 [.sym 0, .sym 1, .sym 2] Ev.h0E)) = true := by decide +kernel

theorem serverNil_w (W : World) (h : Ev.MxE W) (v0 v1 v2 : Value) (o0 : v0.oneCell' = true) (o1 : v1.oneCell' = true) (o2 : v2.oneCell' = true) : Calls Tryz.prog 3 #[v0, v1, v2] W fun e w' => e = .returned (.bool true) ∧ Ext W w' := by
  let ν : Nat → Value := fun k => if k = 0 then v0 else if k = 1 then v1 else if k = 2 then v2 else .bool true
  have hν : ∀ k, (ν k).oneCell' = true := fun k => by
    show (if k = 0 then v0 else if k = 1 then v1 else if k = 2 then v2 else .bool true).oneCell' = true
    split
    · exact o0
    · split
      · exact o1
      · split
        · exact o2
        · rfl
  have hA : Ev.Rs 8 Ev.muE ν [.sym 0, .sym 1, .sym 2] (#[v0, v1, v2] : Array Value).toList :=
    Ev.Rs.cons (by simp only [Ev.R]; rfl) (Ev.Rs.cons (by simp only [Ev.R]; rfl) (Ev.Rs.cons (by simp only [Ev.R]; rfl) Ev.Rs.nil))
  exact (Ev.runs hν serverNil_run h hA).mono fun e w' ⟨x, n, m, h1, h2, h3⟩ => ⟨by rw [h1, Ev.R_true h2], h3.toExt⟩
end Go.Proofs.YtieheagfcmcbiaaGreatDoor
