/-
An argument of a row that is an entry (three ints and five texts), opened.
-/
import Derived.Test.YtolfpfdmgelhhaaDoorAcc9
import Derived.Test.YtolfpfdmgelhhaaDoorLaw
import Derived.SizedLaws
import Derived.WideKeyArgs
set_option linter.unusedVariables false
set_option linter.unusedSimpArgs false
namespace Go.Proofs.YtolfpfdmgelhhaaDoor
open Go.RowKit Go.ChangeShapes Go.WideShapes Go.Deep Go.Joins

section
variable {H : Type} {enc : TypeId × Value → H} {P : Program} {W : World} {base : Nat}
theorem okWide_struct {r : Reach} {b0 : Nat} {t : TypeId} {fs : Array Field} {v : Value} (ht : P.underlying t = some (.struct fs)) (h : Value.okWide P W r b0 t v) : ∃ cs, v = .agg cs := by
  unfold Value.okWide at h
  rw [ht] at h
  cases v with
  | agg cs => exact ⟨cs, rfl⟩
  | _ => simp_all
theorem i64_bd3 {n : Int} (h : (Lit.int .i64 n).wf = true) : -9223372036854775808 ≤ n ∧ n ≤ 9223372036854775807 := by
  simp only [Lit.wf, IntKind.min, IntKind.max, IntKind.signed, IntKind.bits, Bool.and_eq_true, decide_eq_true_eq, if_true] at h
  omega
theorem entry_cells {t : TypeId} {f0 f1 f2 f3 f4 f5 f6 f7 : Field} {fuel : Nat} {cs : List Value} {y : DataW H × List MemPlace} (ht : P.underlying t = some (.struct #[f0, f1, f2, f3, f4, f5, f6, f7])) (ce : P.cellsOf t = 8)
    (o : f0.offset = 0 ∧ f1.offset = 1 ∧ f2.offset = 2 ∧ f3.offset = 3 ∧ f4.offset = 4 ∧ f5.offset = 5 ∧ f6.offset = 6 ∧ f7.offset = 7)
    (c : P.cellsOf f0.type = 1 ∧ P.cellsOf f1.type = 1 ∧ P.cellsOf f2.type = 1 ∧ P.cellsOf f3.type = 1 ∧ P.cellsOf f4.type = 1 ∧ P.cellsOf f5.type = 1 ∧ P.cellsOf f6.type = 1 ∧ P.cellsOf f7.type = 1)
    (u0 : P.underlying f0.type = some (.int .i64)) (u1 : P.underlying f1.type = some .string) (u2 : P.underlying f2.type = some .string) (u3 : P.underlying f3.type = some .string) (u4 : P.underlying f4.type = some .string) (u5 : P.underlying f5.type = some (.int .i64)) (u6 : P.underlying f6.type = some (.int .i64)) (u7 : P.underlying f7.type = some .string)
    (h : DataW.trod enc P W 0 (fun _ => true) true fuel t cs = some y) :
    ∃ x : Ent, cs = x.cells.toList ∧ x.wf := by
  obtain ⟨ys, k, hk, hxy, hcl, hxl, hfs⟩ := DataW.trod_struct ht h
  obtain ⟨o0, o1, o2, o3, o4, o5, o6, o7⟩ := o
  obtain ⟨c0, c1, c2, c3, c4, c5, c6, c7⟩ := c
  rw [ce] at hcl
  match ys, hxl, cs, hcl with
  | [y0, y1, y2, y3, y4, y5, y6, y7], _, [v0, v1, v2, v3, v4, v5, v6, v7], _ =>
    have t0 := hfs 0 f0 rfl
    have t1 := hfs 1 f1 rfl
    have t2 := hfs 2 f2 rfl
    have t3 := hfs 3 f3 rfl
    have t4 := hfs 4 f4 rfl
    have t5 := hfs 5 f5 rfl
    have t6 := hfs 6 f6 rfl
    have t7 := hfs 7 f7 rfl
    simp [o0, o1, o2, o3, o4, o5, o6, o7, c0, c1, c2, c3, c4, c5, c6, c7] at t0 t1 t2 t3 t4 t5 t6 t7
    obtain ⟨n0, q0, _, w0⟩ := DataW.trod_int u0 t0
    obtain ⟨s1, q1, _, _⟩ := DataW.trod_string u1 t1
    obtain ⟨s2, q2, _, _⟩ := DataW.trod_string u2 t2
    obtain ⟨s3, q3, _, _⟩ := DataW.trod_string u3 t3
    obtain ⟨s4, q4, _, _⟩ := DataW.trod_string u4 t4
    obtain ⟨n5, q5, _, w5⟩ := DataW.trod_int u5 t5
    obtain ⟨n6, q6, _, w6⟩ := DataW.trod_int u6 t6
    obtain ⟨s7, q7, _, _⟩ := DataW.trod_string u7 t7
    simp only [List.cons.injEq, and_true] at q0 q1 q2 q3 q4 q5 q6 q7
    subst q0 q1 q2 q3 q4 q5 q6 q7
    exact ⟨⟨n0, s1.data.toList, s2.data.toList, s3.data.toList, s4.data.toList, n5, n6, s7.data.toList⟩, by simp [Ent.cells], i64_bd3 w0, i64_bd3 w5, i64_bd3 w6⟩
theorem open_entry {t : TypeId} {f0 f1 f2 f3 f4 f5 f6 f7 : Field} {v : Value} {d : DataW H} {p : List MemPlace} (ht : P.underlying t = some (.struct #[f0, f1, f2, f3, f4, f5, f6, f7])) (ce : P.cellsOf t = 8)
    (o : f0.offset = 0 ∧ f1.offset = 1 ∧ f2.offset = 2 ∧ f3.offset = 3 ∧ f4.offset = 4 ∧ f5.offset = 5 ∧ f6.offset = 6 ∧ f7.offset = 7)
    (c : P.cellsOf f0.type = 1 ∧ P.cellsOf f1.type = 1 ∧ P.cellsOf f2.type = 1 ∧ P.cellsOf f3.type = 1 ∧ P.cellsOf f4.type = 1 ∧ P.cellsOf f5.type = 1 ∧ P.cellsOf f6.type = 1 ∧ P.cellsOf f7.type = 1)
    (u0 : P.underlying f0.type = some (.int .i64)) (u1 : P.underlying f1.type = some .string) (u2 : P.underlying f2.type = some .string) (u3 : P.underlying f3.type = some .string) (u4 : P.underlying f4.type = some .string) (u5 : P.underlying f5.type = some (.int .i64)) (u6 : P.underlying f6.type = some (.int .i64)) (u7 : P.underlying f7.type = some .string)
    (hval : Value.okWide P W .any base t v) (h : DataW.Trod enc P W 0 (fun _ => true) true t v d p) : ∃ x : Ent, v = x.val ∧ x.wf := by
  obtain ⟨cs, rfl⟩ := okWide_struct ht hval
  obtain ⟨fuel, hf⟩ := h
  obtain ⟨x, hx, hw⟩ := entry_cells ht ce o c u0 u1 u2 u3 u4 u5 u6 u7 hf
  refine ⟨x, ?_, hw⟩
  unfold Ent.val
  congr 1
  have : cs.toList = x.cells.toList := by simpa [Value.cells] using hx
  exact Array.toList_inj.1 this
end
end Go.Proofs.YtolfpfdmgelhhaaDoor
