/-
Fields with other names: Without, the program's.
-/
import Derived.Test.YtnakeigpelcajaaGreatDoorHd2
import Derived.WalkMore
set_option linter.unusedVariables false
set_option linter.unusedSimpArgs false
namespace Go.Proofs.YtnakeigpelcajaaGreatDoor
open Go.RowKit

theorem slt_fld : SlT Tryz.prog 23 35 (.agg #[.string ⟨#[]⟩, .string ⟨#[]⟩]) 2 32 := ⟨Tryz.underlying23, by kernel_rfl, rfl, by omega⟩
/-- Is a name among others? -/
def metH (x : List UInt8) (nms : List (List UInt8)) : Bool := nms.any fun q => lowL x == lowL q
def withH (fs : List Fld) (nms : List (List UInt8)) : List Fld := fs.filter fun p => !metH p.1 nms
def IsFl (fs : List Fld) (v : Value) (w : World) : Prop := ∃ A c, v = .slice A fs.length c ∧ Rd w A (fc fs)
theorem fc_app (a b : List Fld) : fc (a ++ b) = fc a ++ fc b := by simp [fc]
theorem with_succ (fs : List Fld) (nms : List (List UInt8)) (k : Nat) (h : k < fs.length) : withH (fs.take (k + 1)) nms = withH (fs.take k) nms ++ (if metH fs[k].1 nms = true then [] else [fs[k]]) := by
  unfold withH
  rw [List.take_succ_eq_append_getElem h, List.filter_append]
  congr 1
  by_cases hc : metH fs[k].1 nms = true
  · rw [if_pos hc]; simp [List.filter_cons, hc]
  · rw [if_neg hc]; simp [List.filter_cons, hc]
theorem with_len (fs : List Fld) (nms : List (List UInt8)) : (withH fs nms).length ≤ fs.length := List.length_filter_le _ _
theorem met_yes {x : List UInt8} {nms : List (List UInt8)} {t : Nat} (ht : t < nms.length) (h : (lowL x == lowL nms[t]) = true) : metH x nms = true := by
  unfold metH; rw [List.any_eq_true]; exact ⟨_, List.getElem_mem ht, h⟩
theorem met_no {x : List UInt8} {nms : List (List UInt8)} (h : ∀ i (hi : i < nms.length), (lowL x == lowL nms[i]) = false) : metH x nms = false := by
  unfold metH; rw [List.any_eq_false]
  intro q hq
  obtain ⟨i, hi, rfl⟩ := List.getElem_of_mem hq
  rw [h i hi]; decide
end Go.Proofs.YtnakeigpelcajaaGreatDoor
