/-
Closed facts of the row: by the kernel alone.
-/
import Derived.Test.YtieheagfcmcbiaaGreatDoorRows
import Derived.JoinedOf
import Derived.KernelRfl
set_option linter.unusedVariables false
namespace Go.Proofs.YtieheagfcmcbiaaGreatDoor
open Go
theorem jf_0 : (fun (P : Program) (f : FuncId) (fn : Func) (s : ChangeSpec) (c : OpenClaim) => (c.wf (OpenSpec.ofChange s) : Bool)) Tryz.prog 3 Tryz.f3 (OpenSpec.ofChange Rows.serverNilSpec).bare Rows.serverNilRow = true := by kernel_rfl
theorem jf_3 : (fun (P : Program) (f : FuncId) (fn : Func) (s : ChangeSpec) (c : OpenClaim) => (fn.params.all (P.readableRec ·) : Bool)) Tryz.prog 3 Tryz.f3 (OpenSpec.ofChange Rows.serverNilSpec).bare Rows.serverNilRow = true := by kernel_rfl
theorem jf_4 : (fun (P : Program) (f : FuncId) (fn : Func) (s : ChangeSpec) (c : OpenClaim) => (namedTie P c.named s.vars : Bool)) Tryz.prog 3 Tryz.f3 (OpenSpec.ofChange Rows.serverNilSpec).bare Rows.serverNilRow = true := by kernel_rfl
theorem jf_5 : (fun (P : Program) (f : FuncId) (fn : Func) (s : ChangeSpec) (c : OpenClaim) => ((c.stops == []) : Bool)) Tryz.prog 3 Tryz.f3 (OpenSpec.ofChange Rows.serverNilSpec).bare Rows.serverNilRow = true := by kernel_rfl
theorem jf_6 : (fun (P : Program) (f : FuncId) (fn : Func) (s : ChangeSpec) (c : OpenClaim) => ((P.stops == []) : Bool)) Tryz.prog 3 Tryz.f3 (OpenSpec.ofChange Rows.serverNilSpec).bare Rows.serverNilRow = true := by kernel_rfl
theorem jf_7 : (fun (P : Program) (f : FuncId) (fn : Func) (s : ChangeSpec) (c : OpenClaim) => ((c.knobs == []) : Bool)) Tryz.prog 3 Tryz.f3 (OpenSpec.ofChange Rows.serverNilSpec).bare Rows.serverNilRow = true := by kernel_rfl
theorem jf_8 : (fun (P : Program) (f : FuncId) (fn : Func) (s : ChangeSpec) (c : OpenClaim) => ((P.stopKnobs == []) : Bool)) Tryz.prog 3 Tryz.f3 (OpenSpec.ofChange Rows.serverNilSpec).bare Rows.serverNilRow = true := by kernel_rfl
theorem jf_13 : (fun (P : Program) (f : FuncId) (fn : Func) (s : ChangeSpec) (c : OpenClaim) => ((c.maps == (fn.params.toList ++ s.plain.varTypes P).any (P.mapsRec ·)) : Bool)) Tryz.prog 3 Tryz.f3 (OpenSpec.ofChange Rows.serverNilSpec).bare Rows.serverNilRow = true := by kernel_rfl
theorem jf_14 : (fun (P : Program) (f : FuncId) (fn : Func) (s : ChangeSpec) (c : OpenClaim) => ((c.ifaces == (fn.params.toList ++ s.plain.varTypes P).any (P.ifacesRec ·)) : Bool)) Tryz.prog 3 Tryz.f3 (OpenSpec.ofChange Rows.serverNilSpec).bare Rows.serverNilRow = true := by kernel_rfl
theorem jf_15 : (fun (P : Program) (f : FuncId) (fn : Func) (s : ChangeSpec) (c : OpenClaim) => ((c.mapsOut == P.mapsAmong fn.resultTypes.toList) : Bool)) Tryz.prog 3 Tryz.f3 (OpenSpec.ofChange Rows.serverNilSpec).bare Rows.serverNilRow = true := by kernel_rfl
theorem jf_16 : (fun (P : Program) (f : FuncId) (fn : Func) (s : ChangeSpec) (c : OpenClaim) => ((c.loops == (fn.params.toList ++ s.plain.varTypes P).any (P.loopsFrom ·)) : Bool)) Tryz.prog 3 Tryz.f3 (OpenSpec.ofChange Rows.serverNilSpec).bare Rows.serverNilRow = true := by kernel_rfl
theorem jf_17 : (fun (P : Program) (f : FuncId) (fn : Func) (s : ChangeSpec) (c : OpenClaim) => ((c.wideKeys == (fn.params.toList ++ s.plain.varTypes P ++ fn.resultTypes.toList).any (P.wideKeysFrom ·)) : Bool)) Tryz.prog 3 Tryz.f3 (OpenSpec.ofChange Rows.serverNilSpec).bare Rows.serverNilRow = true := by kernel_rfl
theorem jf_18 : (fun (P : Program) (f : FuncId) (fn : Func) (s : ChangeSpec) (c : OpenClaim) => (s.vars.all (P.varReadable ·) : Bool)) Tryz.prog 3 Tryz.f3 (OpenSpec.ofChange Rows.serverNilSpec).bare Rows.serverNilRow = true := by kernel_rfl
theorem jf_19 : (fun (P : Program) (f : FuncId) (fn : Func) (s : ChangeSpec) (c : OpenClaim) => (fn.resultTypes.all (fun t => P.readableRec t && decide (t < P.types.size)) : Bool)) Tryz.prog 3 Tryz.f3 (OpenSpec.ofChange Rows.serverNilSpec).bare Rows.serverNilRow = true := by kernel_rfl
theorem jf_20 : (fun (P : Program) (f : FuncId) (fn : Func) (s : ChangeSpec) (c : OpenClaim) => ((c.ifacesOut == fn.resultTypes.toList.any (P.ifacesRec ·)) : Bool)) Tryz.prog 3 Tryz.f3 (OpenSpec.ofChange Rows.serverNilSpec).bare Rows.serverNilRow = true := by kernel_rfl
theorem jf_21 : (fun (P : Program) (f : FuncId) (fn : Func) (s : ChangeSpec) (c : OpenClaim) => ((c.loopsOut == fn.resultTypes.toList.any (P.loopsFrom ·)) : Bool)) Tryz.prog 3 Tryz.f3 (OpenSpec.ofChange Rows.serverNilSpec).bare Rows.serverNilRow = true := by kernel_rfl
theorem jf_22 : (fun (P : Program) (f : FuncId) (fn : Func) (s : ChangeSpec) (c : OpenClaim) => ((c.plainKeys == P.plainKeys) : Bool)) Tryz.prog 3 Tryz.f3 (OpenSpec.ofChange Rows.serverNilSpec).bare Rows.serverNilRow = true := by kernel_rfl
theorem jf_23 : (fun (P : Program) (f : FuncId) (fn : Func) (s : ChangeSpec) (c : OpenClaim) => (c.shortTexts.isNone : Bool)) Tryz.prog 3 Tryz.f3 (OpenSpec.ofChange Rows.serverNilSpec).bare Rows.serverNilRow = true := by kernel_rfl
theorem jf_26 : (fun (P : Program) (f : FuncId) (fn : Func) (s : ChangeSpec) (c : OpenClaim) => ((c.lifted == P.liftsFinal) : Bool)) Tryz.prog 3 Tryz.f3 (OpenSpec.ofChange Rows.serverNilSpec).bare Rows.serverNilRow = true := by kernel_rfl
theorem jf_27 : (fun (P : Program) (f : FuncId) (fn : Func) (s : ChangeSpec) (c : OpenClaim) => ((P.make == some c.make) : Bool)) Tryz.prog 3 Tryz.f3 (OpenSpec.ofChange Rows.serverNilSpec).bare Rows.serverNilRow = true := by kernel_rfl
theorem jf_28 : (fun (P : Program) (f : FuncId) (fn : Func) (s : ChangeSpec) (c : OpenClaim) => ((c.kinds == (if c.domain.isEmpty then [] else fn.params.toList.map fun t => match P.underlying t with | some (.int k) => some k | _ => none)) : Bool)) Tryz.prog 3 Tryz.f3 (OpenSpec.ofChange Rows.serverNilSpec).bare Rows.serverNilRow = true := by kernel_rfl
theorem jf_29 : (fun (P : Program) (f : FuncId) (fn : Func) (s : ChangeSpec) (c : OpenClaim) => ((c.pinned == c.pinnedBy) : Bool)) Tryz.prog 3 Tryz.f3 (OpenSpec.ofChange Rows.serverNilSpec).bare Rows.serverNilRow = true := by kernel_rfl
theorem jf_30 : (fun (P : Program) (f : FuncId) (fn : Func) (s : ChangeSpec) (c : OpenClaim) => ((c.veiled == (fn.params.toList ++ s.plain.varTypes P ++ fn.resultTypes.toList).any (P.veiledRec ·)) : Bool)) Tryz.prog 3 Tryz.f3 (OpenSpec.ofChange Rows.serverNilSpec).bare Rows.serverNilRow = true := by kernel_rfl
theorem jf_31 : (fun (P : Program) (f : FuncId) (fn : Func) (s : ChangeSpec) (c : OpenClaim) => (c.veiledFits P fn.params.toList (fn.params.toList ++ s.plain.varTypes P ++ fn.resultTypes.toList) : Bool)) Tryz.prog 3 Tryz.f3 (OpenSpec.ofChange Rows.serverNilSpec).bare Rows.serverNilRow = true := by kernel_rfl
end Go.Proofs.YtieheagfcmcbiaaGreatDoor
