/-
A closed fact of the card: no text of the translation begins a goroutine.
-/
import Derived.Test.YtieheagfcmcbiaaGreatDoorRows
import GoSem.ClaimSeven
import Derived.SevenTiedAt
import Derived.LaidByTextLater
import Derived.KernelRfl
set_option linter.unusedVariables false
set_option linter.unusedSimpArgs false
namespace Go.Proofs.YtieheagfcmcbiaaGreatDoor.serverNil
open Go

/-- where no body and no entry begins a goroutine, no row that enters goes -/
theorem goes_none {P : Program} (hn : P.funcs.toList.all (fun fn => !fn.goes) = true) (c : OpenClaim) (hs : c.start = .entering) : false = c.goesBy P := by
  symm
  have hat : ∀ g : FuncId, (P.funcs[g]?).any Func.goes = false := by
    intro g
    cases h : P.funcs[g]? with
    | none => rfl
    | some fn =>
      have hm : fn ∈ P.funcs.toList := Array.mem_toList_iff.2 (Array.mem_of_getElem? h)
      have := List.all_eq_true.1 hn fn hm
      simpa using this
  have hg : ∀ f, P.goes f = false := by
    intro f
    unfold Program.goes
    have h2 : P.funcs.any Func.goes = false := by
      rw [← Array.any_toList, List.any_eq_false]
      intro fn hm
      have := List.all_eq_true.1 hn fn hm
      simpa using this
    rw [h2, Bool.and_false, Bool.or_false, List.any_eq_false]
    intro g _
    rw [hat g]; exact Bool.false_ne_true
  unfold OpenClaim.goesBy Program.goesAt Program.goesFrom
  rw [hs]
  have h3 : (P.funcNamed c.func).any P.goes = false := by
    cases P.funcNamed c.func with
    | none => rfl
    | some f => simpa using hg f
  rw [h3]
  rfl

theorem noGo : Tryz.pinned.checked.prog.funcs.toList.all (fun fn => !fn.goes) = true := by kernel_rfl

theorem c_goes : false = Rows.serverNilRow.goesBy Tryz.pinned.checked.prog := goes_none noGo _ rfl
end Go.Proofs.YtieheagfcmcbiaaGreatDoor.serverNil
