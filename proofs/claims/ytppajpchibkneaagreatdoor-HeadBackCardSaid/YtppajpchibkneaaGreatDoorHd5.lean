/-
Head's demand: it goes on, or gives up with a number.
-/
import Derived.Test.YtppajpchibkneaaGreatDoorHDa
set_option linter.unusedVariables false
set_option linter.unusedSimpArgs false
namespace Go.Proofs.YtppajpchibkneaaGreatDoor
open Go.RowKit

set_option maxRecDepth 100000 in
theorem demand_yes (e : Int) (w : World) : Calls Tryz.prog 46 #[.bool true, .int .i64 e] w fun r w' => r = .returned (.tuple #[]) ∧ w = w' := by
  go_enter Tryz.func46, Tryz.ntmps46
  go_wp2
  go_end0
  exact ⟨rfl, rfl⟩
set_option maxRecDepth 100000 in
theorem demand_no (e : Int) (w : World) : Calls Tryz.prog 46 #[.bool false, .int .i64 e] w fun r w' => r = .panicked [{ v := .iface 26 (.int .i64 e), recovered := false }] ∧ w = w' := by
  go_enter Tryz.func46, Tryz.ntmps46
  go_wp2
  simp [bodyPost]
/-- It goes on, or it gives up. -/
def Gups (ok : Bool) (e : Int) (w : World) (r : Ending) (w' : World) : Prop := (ok = true → r = .returned (.tuple #[])) ∧ (ok = false → r = .panicked [{ v := .iface 26 (.int .i64 e), recovered := false }]) ∧ w = w'
theorem demand_c (ok : Bool) (e : Int) (w : World) : Calls Tryz.prog 46 #[.bool ok, .int .i64 e] w (Gups ok e w) := by
  cases ok with
  | true => exact (demand_yes e w).mono (by rintro r w' ⟨rfl, rfl⟩; exact ⟨fun _ => rfl, fun h => (by cases h), rfl⟩)
  | false => exact (demand_no e w).mono (by rintro r w' ⟨rfl, rfl⟩; exact ⟨fun h => (by cases h), fun _ => rfl, rfl⟩)
end Go.Proofs.YtppajpchibkneaaGreatDoor
