/-
A file and a request as the law's arguments come: their cells, and no more.
-/
import Derived.Test.YtemdgilifnhdpaaGreatDoorLaw
import Derived.Test.YtemdgilifnhdpaaGreatDoorBytes
import Derived.SizedLaws
import Derived.WideKeyArgs
import Derived.Deep.SlicePairs
set_option linter.unusedVariables false
set_option linter.unusedSimpArgs false
namespace Go.Proofs.YtemdgilifnhdpaaGreatDoor
open Go.RowKit Go.ChangeShapes Go.WideShapes

section
variable {H : Type} {enc : TypeId × Value → H} {P : Program} {W : World} {base : Nat}
theorem snStruct {P : Program} {W : World} {r : Reach} {b0 : Nat} {t : TypeId} {fs : Array Field} {v : Value} (ht : P.underlying t = some (.struct fs)) (h : Value.okWide P W r b0 t v) : ∃ cs, v = .agg cs ∧ cs.size = P.cellsOf t := okWide_struct ht h
/-- a request: four cells -/
theorem snReq {t : TypeId} {fs : Array Field} {v : Value} (ht : P.underlying t = some (.struct fs)) (c : P.cellsOf t = 4) (h : Value.okWide P W .any base t v) : ∃ a b c d, v = .agg #[a, b, c, d] := by
  obtain ⟨cs, rfl, hs⟩ := snStruct ht h
  rw [c] at hs
  match hcl : cs.toList, (show cs.toList.length = 4 from by simpa using hs) with
  | [a, b, c, d], _ => exact ⟨a, b, c, d, by congr 1; apply Array.toList_inj.1; rw [hcl]⟩
/-- a file: its path, its body, its time -/
theorem snFile {t s e : TypeId} {r0 r1 r2 : Field} {v : Value} {d : DataW H} {p : List MemPlace} (ht : P.underlying t = some (.struct #[r0, r1, r2])) (cr : P.cellsOf t = 3) (or_ : r0.offset = 0 ∧ r1.offset = 1 ∧ r2.offset = 2)
    (ccr : P.cellsOf r0.type = 1 ∧ P.cellsOf r1.type = 1 ∧ P.cellsOf r2.type = 1) (v0 : P.underlying r0.type = some .string) (v1 : r1.type = s) (v2 : P.underlying r2.type = some (.int .i64)) (hs : P.underlying s = some (.slice e))
    (hval : Value.okWide P W .any base t v) (h : DataW.Trod enc P W 0 (fun _ => true) true t v d p) : ∃ q A n c mt, v = .agg #[.string q, .slice A n c, .int .i64 mt] := by
  obtain ⟨cs, rfl, hsz⟩ := snStruct ht hval
  obtain ⟨fuel, hf⟩ := h
  obtain ⟨ys, k, hk, hxy, hcl, hxl, hfs⟩ := DataW.trod_struct ht hf
  obtain ⟨o0, o1, o2⟩ := or_
  obtain ⟨c0, c1, c2⟩ := ccr
  rw [cr] at hsz
  have hcl2 : cs.toList.length = 3 := by simpa using hsz
  have hce : (Value.cells (.agg cs)).toList = cs.toList := by simp [Value.cells]
  obtain ⟨w0, w1, w2, hcs⟩ : ∃ w0 w1 w2, cs.toList = [w0, w1, w2] := by
    match hcl3 : cs.toList, hcl2 with
    | [w0, w1, w2], _ => exact ⟨_, _, _, rfl⟩
  rw [hce, hcs] at hfs
  match ys, hxl with
  | [y0, y1, y2], _ =>
    have t0 := hfs 0 r0 rfl
    have t1 := hfs 1 r1 rfl
    have t2 := hfs 2 r2 rfl
    simp [o0, o1, o2, c0, c1, c2] at t0 t1 t2
    obtain ⟨s0, q0, z0, _⟩ := DataW.trod_string v0 t0
    obtain ⟨n2, q2, z2, wf2⟩ := DataW.trod_int v2 t2
    rw [v1] at t1
    have h1 : ∃ A n c, w1 = .slice A n c := by
      rcases DataW.trod_slice hs t1 with ⟨h, _⟩ | ⟨a, len, cap, es, rs, n, _, h, _⟩
      · simp only [List.cons.injEq, and_true] at h
        exact ⟨_, _, _, h⟩
      · simp only [List.cons.injEq, and_true] at h
        exact ⟨_, _, _, h⟩
    obtain ⟨A, n, c, rfl⟩ := h1
    simp only [List.cons.injEq, and_true] at q0 q2
    subst q0 q2
    exact ⟨s0, A, n, c, n2, by congr 1; apply Array.toList_inj.1; rw [hcs]⟩
end
end Go.Proofs.YtemdgilifnhdpaaGreatDoor
