/-
Arguments of a row that are a request, a slice of fields (how long their texts are), a slice of bytes.
-/
import Derived.Test.YtnakeigpelcajaaGreatDoorLaw
import Derived.Test.YtnakeigpelcajaaGreatDoorHd1
import Derived.SizedLaws
import Derived.WideKeyArgs
import Derived.Deep.SlicePairs
import Derived.Test.YtnakeigpelcajaaGreatDoorHXa
import Derived.Lib.LaidTab
set_option linter.unusedVariables false
set_option linter.unusedSimpArgs false
/-
Arguments of a row that are a request, a slice of fields (how long their texts are), a slice of bytes.
-/
section
namespace Go.Proofs.YtnakeigpelcajaaGreatDoor
open Go.RowKit Go.ChangeShapes Go.WideShapes Go.Deep Go.Joins

theorem spot_none8 {W : World} {a : Addr} {u : Value} (h : W.cell? a = some u) : a.spot = none := by
  unfold World.cell? at h
  cases hsp : a.spot with
  | none => rfl
  | some z => simp only [hsp, Option.isSome_some, if_true] at h; split at h <;> cases h
theorem rd_of8 {W : World} {a : Addr} {xs : List Value} (h : ∀ i u, xs[i]? = some u → W.cell? (a.add i) = some u) : Rd W (some a) xs := by
  cases xs with
  | nil => exact .inl rfl
  | cons x xs =>
    have h1 := h 0 x rfl
    have hs := spot_none8 h1
    obtain ⟨b, f, sp⟩ := a
    have hs : sp = none := by simpa [Addr.add] using hs
    subst hs
    exact .inr ⟨b, f, rfl, fun i u hu => by have := h i u hu; rwa [add_mk] at this⟩
theorem okWide_struct8 {P : Program} {W : World} {r : Reach} {b0 : Nat} {t : TypeId} {fs : Array Field} {v : Value} (ht : P.underlying t = some (.struct fs)) (h : Value.okWide P W r b0 t v) : ∃ cs, v = .agg cs := by
  unfold Value.okWide at h
  rw [ht] at h
  cases v with
  | agg cs => exact ⟨cs, rfl⟩
  | _ => simp_all
theorem weightsAll_mem8 {H : Type} (P : Program) (e : TypeId) : ∀ (l : List (DataW H)) (d : DataW H) (n : Nat), d ∈ l → n ∈ d.weights P e → n ∈ DataW.weightsAll P e l
  | [], _, _, h, _ => by cases h
  | x :: l, d, n, h, hn => by
    unfold DataW.weightsAll
    rcases List.mem_cons.1 h with rfl | h
    · exact List.mem_append.2 (.inl hn)
    · exact List.mem_append.2 (.inr (weightsAll_mem8 P e l d n h hn))
theorem u8_nat7 {n : Int} (h : (Lit.int .u8 n).wf = true) : ((UInt8.ofNat n.toNat).toNat : Int) = n := by
  simp only [Lit.wf, IntKind.min, IntKind.max, IntKind.signed, IntKind.bits, Bool.and_eq_true, decide_eq_true_eq] at h
  rw [UInt8.toNat_ofNat']
  simp at h
  omega
section
variable {H : Type} {enc : TypeId × Value → H} {P : Program} {W : World} {base : Nat}
theorem field_cells8 {t : TypeId} {f0 f1 : Field} {fuel : Nat} {cs : List Value} {y : DataW H × List MemPlace} (ht : P.underlying t = some (.struct #[f0, f1])) (ce : P.cellsOf t = 2) (o : f0.offset = 0 ∧ f1.offset = 1) (c : P.cellsOf f0.type = 1 ∧ P.cellsOf f1.type = 1)
    (u0 : P.underlying f0.type = some .string) (u1 : P.underlying f1.type = some .string) (h : DataW.trod enc P W 0 (fun _ => true) true fuel t cs = some y) :
    ∃ x : Fld, cs = [.string (str x.1), .string (str x.2)] ∧ x.1.length ∈ y.1.weights P t ∧ x.2.length ∈ y.1.weights P t := by
  obtain ⟨ys, k, hk, hxy, hcl, hxl, hfs⟩ := DataW.trod_struct ht h
  obtain ⟨o0, o1⟩ := o
  obtain ⟨c0, c1⟩ := c
  rw [ce] at hcl
  match ys, hxl, cs, hcl with
  | [y0, y1], _, [v0, v1], _ =>
    have t0 := hfs 0 f0 rfl
    have t1 := hfs 1 f1 rfl
    simp [o0, o1, c0, c1] at t0 t1
    obtain ⟨s0, q0, r0, z0⟩ := DataW.trod_string u0 t0
    obtain ⟨s1, q1, r1, z1⟩ := DataW.trod_string u1 t1
    simp only [List.cons.injEq, and_true] at q0 q1
    subst q0 q1 hxy r0 r1
    refine ⟨(s0.data.toList, s1.data.toList), by simp, ?_, ?_⟩ <;> simp [DataW.weights, DataW.weightsEach, ht]
/-- A slice of fields, off its one cell. -/
theorem fields_cell {t e : TypeId} {f0 f1 : Field} {fuel : Nat} {v : Value} {y : DataW H × List MemPlace} (ht : P.underlying t = some (.slice e)) (he : P.underlying e = some (.struct #[f0, f1])) (ce : P.cellsOf e = 2) (o : f0.offset = 0 ∧ f1.offset = 1) (c : P.cellsOf f0.type = 1 ∧ P.cellsOf f1.type = 1)
    (u0 : P.underlying f0.type = some .string) (u1 : P.underlying f1.type = some .string)
    (hf : DataW.trod enc P W 0 (fun _ => true) true fuel t [v] = some y) (hw : ∀ n ∈ y.1.weights P t, n ≤ reachBytes) :
    ∃ A c xs, v = .slice A (List.length xs) c ∧ Rd W A (fc xs) ∧ (∀ x ∈ xs, x.1.length ≤ reachBytes ∧ x.2.length ≤ reachBytes) ∧ xs.length * P.bytesOf e ≤ reachBytes := by
  rcases open_slice ht hf with ⟨hcs, hx⟩ | ⟨a, len, cap, m, n, D, Pl, hcs, _, hlc, hcm, hm, hx, hi⟩
  · simp only [List.cons.injEq, and_true] at hcs
    subst hcs
    exact ⟨none, 0, [], rfl, .inl rfl, fun x hx => (by cases hx), by simp⟩
  · simp only [List.cons.injEq, and_true] at hcs
    subst hcs
    simp only [if_true] at hm
    subst hm
    subst hx
    have hlen : len * P.bytesOf e ≤ reachBytes := by
      have hmem := hw ((len + (m - len)) * P.bytesOf e) (by simp [DataW.weights, ht])
      have h2 : len * P.bytesOf e ≤ (len + (m - len)) * P.bytesOf e := Nat.mul_le_mul_right _ (by omega)
      omega
    have each : ∀ i, ∃ x : Fld, i < len → ((x.1.length ≤ reachBytes ∧ x.2.length ≤ reachBytes) ∧ W.cell? (a.add (i * 2)) = some (.string (str x.1)) ∧ W.cell? (a.add (i * 2 + 1)) = some (.string (str x.2))) := fun i => by
      by_cases hil : i < len
      · obtain ⟨cs', g1, g2⟩ := hi i (by omega)
        rw [ce] at g1
        obtain ⟨_, hl3, hcell⟩ := World.cells?_some g1
        obtain ⟨x, rfl, w1, w2⟩ := field_cells8 he ce o c u0 u1 g2
        have hmem : ∀ q, q ∈ (D i).weights P e → q ≤ reachBytes := fun q hq => hw q (by
          have hD : D i ∈ (List.range len).map D := List.mem_map.2 ⟨i, List.mem_range.2 hil, rfl⟩
          have := weightsAll_mem8 P e _ _ q hD hq
          simp only [DataW.weights, ht]
          exact List.mem_cons_of_mem _ (List.mem_append.2 (.inl this)))
        refine ⟨x, fun _ => ⟨⟨hmem _ w1, hmem _ w2⟩, ?_, ?_⟩⟩
        · have e := hcell 0 (by omega)
          rw [add_add] at e
          exact e
        · have e := hcell 1 (by omega)
          rw [add_add] at e
          exact e
      · exact ⟨([], []), fun h => absurd h hil⟩
    obtain ⟨X, hX⟩ := Classical.axiomOfChoice each
    refine ⟨some a, m, (List.range len).map X, by simp, ?_, fun x hx => ?_, by simpa using hlen⟩
    · refine rd_of8 fun i u hu => ?_
      have hil : i < len * 2 := by have := (List.getElem?_eq_some_iff.1 hu).1; rw [fc_len] at this; simpa using this
      have h2 := hX (i / 2) (by omega)
      obtain ⟨g1, g2⟩ := fc_at ((List.range len).map X) (i / 2) (by simp; omega)
      simp only [List.getElem_map, List.getElem_range] at g1 g2
      rcases Nat.mod_two_eq_zero_or_one i with h0 | h0
      · rw [show i / 2 * 2 = i from by omega] at g1 h2
        rw [g1] at hu
        cases hu
        exact h2.2.1
      · rw [show i / 2 * 2 + 1 = i from by omega] at g2 h2
        rw [g2] at hu
        cases hu
        exact h2.2.2
    · obtain ⟨i, hil, rfl⟩ := List.mem_map.1 hx
      exact (hX i (List.mem_range.1 hil)).1
theorem i64_bd8 {n : Int} (h : (Lit.int .i64 n).wf = true) : -9223372036854775808 ≤ n ∧ n ≤ 9223372036854775807 := by
  simp only [Lit.wf, IntKind.min, IntKind.max, IntKind.signed, IntKind.bits, Bool.and_eq_true, decide_eq_true_eq, if_true] at h
  omega
theorem open_request {t s e : TypeId} {r0 r1 r2 r3 f0 f1 : Field} {v : Value} {d : DataW H} {p : List MemPlace} (ht : P.underlying t = some (.struct #[r0, r1, r2, r3])) (cr : P.cellsOf t = 4) (or_ : r0.offset = 0 ∧ r1.offset = 1 ∧ r2.offset = 2 ∧ r3.offset = 3)
    (ccr : P.cellsOf r0.type = 1 ∧ P.cellsOf r1.type = 1 ∧ P.cellsOf r2.type = 1 ∧ P.cellsOf r3.type = 1) (v0 : P.underlying r0.type = some .string) (v1 : P.underlying r1.type = some .string) (v2 : P.underlying r2.type = some (.int .i64)) (v3 : r3.type = s)
    (hs : P.underlying s = some (.slice e)) (he : P.underlying e = some (.struct #[f0, f1])) (ce : P.cellsOf e = 2) (o : f0.offset = 0 ∧ f1.offset = 1) (c : P.cellsOf f0.type = 1 ∧ P.cellsOf f1.type = 1)
    (u0 : P.underlying f0.type = some .string) (u1 : P.underlying f1.type = some .string)
    (hval : Value.okWide P W .any base t v) (h : DataW.Trod enc P W 0 (fun _ => true) true t v d p) (hw : ∀ n ∈ d.weights P t, n ≤ reachBytes) :
    ∃ m q mi A k xs, v = .agg #[.string (str m), .string (str q), .int .i64 mi, .slice A (List.length xs) k] ∧ m.length ≤ reachBytes ∧ q.length ≤ reachBytes ∧ (-9223372036854775808 ≤ mi ∧ mi ≤ 9223372036854775807) ∧ Rd W A (fc xs) ∧ (∀ x ∈ xs, x.1.length ≤ reachBytes ∧ x.2.length ≤ reachBytes) ∧ xs.length * P.bytesOf e ≤ reachBytes := by
  obtain ⟨cs, rfl⟩ := okWide_struct8 ht hval
  obtain ⟨fuel, hf⟩ := h
  obtain ⟨ys, k, hk, hxy, hcl, hxl, hfs⟩ := DataW.trod_struct ht hf
  obtain ⟨o0, o1, o2, o3⟩ := or_
  obtain ⟨c0, c1, c2, c3⟩ := ccr
  rw [cr] at hcl
  have hcl2 : cs.toList.length = 4 := by simpa [Value.cells] using hcl
  have hce : (Value.cells (.agg cs)).toList = cs.toList := by simp [Value.cells]
  obtain ⟨w0, w1, w2, w3, hcs⟩ : ∃ w0 w1 w2 w3, cs.toList = [w0, w1, w2, w3] := by
    match hcl3 : cs.toList, hcl2 with
    | [w0, w1, w2, w3], _ => exact ⟨_, _, _, _, rfl⟩
  rw [hce, hcs] at hfs
  match ys, hxl with
  | [y0, y1, y2, y3], _ =>
    have t0 := hfs 0 r0 rfl
    have t1 := hfs 1 r1 rfl
    have t2 := hfs 2 r2 rfl
    have t3 := hfs 3 r3 rfl
    simp [o0, o1, o2, o3, c0, c1, c2, c3] at t0 t1 t2 t3
    obtain ⟨s0, q0, z0, _⟩ := DataW.trod_string v0 t0
    obtain ⟨s1, q1, z1, _⟩ := DataW.trod_string v1 t1
    obtain ⟨n2, q2, z2, wf2⟩ := DataW.trod_int v2 t2
    have hd := (Prod.mk.inj hxy).1
    have hw2 : ∀ n ∈ DataW.weightsEach P [r0.type, r1.type, r2.type, r3.type] [y0.1, y1.1, y2.1, y3.1], n ≤ reachBytes := by
      intro n hn
      refine hw n ?_
      rw [hd]
      simpa [DataW.weights, ht] using hn
    have b0 := hw2 s0.data.toList.length (by rw [z0]; simp [DataW.weightsEach, DataW.weights])
    have b1 := hw2 s1.data.toList.length (by rw [z1]; simp [DataW.weightsEach, DataW.weights])
    have b3 : ∀ n ∈ y3.1.weights P r3.type, n ≤ reachBytes := fun n hn => hw2 n (by simp only [DataW.weightsEach, List.mem_append]; exact .inr (.inr (.inr (.inl hn))))
    rw [v3] at t3 b3
    obtain ⟨A, kk, xs, hv3, hr, hx, hl⟩ := fields_cell hs he ce o c u0 u1 t3 b3
    simp only [List.cons.injEq, and_true] at q0 q1 q2
    subst q0 q1 q2 hv3
    refine ⟨s0.data.toList, s1.data.toList, n2, A, kk, xs, ?_, b0, b1, i64_bd8 wf2, hr, hx, hl⟩
    congr 1
    apply Array.toList_inj.1
    rw [hcs]
    simp
/-- An argument that is a slice of fields; how long their texts are. -/
theorem open_fieldsB {t e : TypeId} {f0 f1 : Field} {v : Value} {d : DataW H} {p : List MemPlace} (ht : P.underlying t = some (.slice e)) (he : P.underlying e = some (.struct #[f0, f1])) (ce : P.cellsOf e = 2) (o : f0.offset = 0 ∧ f1.offset = 1) (c : P.cellsOf f0.type = 1 ∧ P.cellsOf f1.type = 1)
    (u0 : P.underlying f0.type = some .string) (u1 : P.underlying f1.type = some .string)
    (hval : Value.okWide P W .any base t v) (h : DataW.Trod enc P W 0 (fun _ => true) true t v d p) (hw : ∀ n ∈ d.weights P t, n ≤ reachBytes) :
    ∃ A c xs, v = .slice A (List.length xs) c ∧ Rd W A (fc xs) ∧ (∀ x ∈ xs, x.1.length ≤ reachBytes ∧ x.2.length ≤ reachBytes) ∧ xs.length * P.bytesOf e ≤ reachBytes := by
  obtain ⟨a0, len, cap, rfl⟩ := okWide_slice ht hval
  obtain ⟨fuel, hf⟩ := h
  exact fields_cell ht he ce o c u0 u1 (v := .slice a0 len cap) (by simpa [Value.cells] using hf) hw
theorem open_bytes7 {t e : TypeId} {v : Value} {d : DataW H} {p : List MemPlace} (ht : P.underlying t = some (.slice e)) (he : P.underlying e = some (.int .u8)) (ce : P.cellsOf e = 1)
    (hval : Value.okWide P W .any base t v) (h : DataW.Trod enc P W 0 (fun _ => true) true t v d p) (hw : ∀ n ∈ d.weights P t, n ≤ reachBytes) :
    ∃ A c xs, v = .slice A (List.length xs) c ∧ Rd W A (bc xs) ∧ List.length xs ≤ c ∧ xs.length * P.bytesOf e ≤ reachBytes := by
  obtain ⟨a0, len, cap, rfl⟩ := okWide_slice ht hval
  obtain ⟨fuel, hf⟩ := h
  rcases open_slice ht hf with ⟨hcs, hx⟩ | ⟨a, len', cap', m, n, D, Pl, hcs, _, hlc, hcm, hm, hx, hi⟩
  · simp only [Value.cells, List.cons.injEq, and_true] at hcs
    injection hcs with h1 h2 h3
    subst h1; subst h2; subst h3
    exact ⟨none, 0, [], rfl, .inl rfl, Nat.le_refl _, by simp⟩
  · simp only [Value.cells, List.cons.injEq, and_true] at hcs
    injection hcs with h1 h2 h3
    subst h1; subst h2; subst h3
    simp only [if_true] at hm
    subst hm
    have hd := (Prod.mk.inj hx).1
    have hlen : len * P.bytesOf e ≤ reachBytes := by
      have hmem : (len + (m - len)) * P.bytesOf e ∈ d.weights P t := by
        rw [hd]; simp [DataW.weights, ht]
      have := hw _ hmem
      have h2 : len * P.bytesOf e ≤ (len + (m - len)) * P.bytesOf e := Nat.mul_le_mul_right _ (by omega)
      omega
    have each : ∀ i, ∃ x : UInt8, i < len → W.cell? (a.add i) = some (.int .u8 (x.toNat : Int)) := fun i => by
      by_cases hil : i < len
      · obtain ⟨cs', g1, g2⟩ := hi i (by omega)
        rw [ce] at g1
        obtain ⟨_, hl3, hcell⟩ := World.cells?_some g1
        obtain ⟨n, rfl, _, z⟩ := DataW.trod_int he g2
        refine ⟨UInt8.ofNat n.toNat, fun _ => ?_⟩
        rw [u8_nat7 z]
        have e := hcell 0 (by omega)
        rw [add_add] at e
        simpa using e
      · exact ⟨0, fun h => absurd h hil⟩
    obtain ⟨X, hX⟩ := Classical.axiomOfChoice each
    refine ⟨some a, m, (List.range len).map X, by simp, ?_, by simpa using hlc, by simpa using hlen⟩
    · refine rd_of8 fun i u hu => ?_
      have hil : i < len := by have := (List.getElem?_eq_some_iff.1 hu).1; simpa [bc] using this
      have hu2 : u = .int .u8 ((X i).toNat : Int) := by
        have : (bc ((List.range len).map X))[i]? = some (.int .u8 ((X i).toNat : Int)) := by simp [bc, hil]
        rw [this] at hu
        exact (Option.some.inj hu).symm
      rw [hu2]
      exact hX i hil
end
end Go.Proofs.YtnakeigpelcajaaGreatDoor
end

/-
The library's tables, as a row lays them.
-/
section
namespace Go.Proofs.YtnakeigpelcajaaGreatDoor
open Go.RowKit Go.ChangeShapes

theorem tPow : (Tryz.prog.globals[0]?).map (·.type) = some 102 := by kernel_rfl
theorem cells20 : Tryz.prog.cellsOf 102 = 20 := by kernel_rfl
theorem cells_u64 : Tryz.prog.cellsOf 53 = 1 := by kernel_rfl
theorem pow_of {W : World} {rest : List (String × DataW Unit)} (h : laidMet Tryz.prog (("internal/strconv.uint64pow10", Lib.tabData .u64 Lib.pow10Tab) :: rest) W) : Pow W :=
  Lib.tabIs_of_head gPow tPow Tryz.underlying102 Tryz.underlying53 cells_u64 cells20 h
theorem gBruN : Tryz.prog.globalNamed "math/bits.deBruijn64tab" = some 5 := by kernel_rfl
theorem tBruN : (Tryz.prog.globals[5]?).map (·.type) = some 124 := by kernel_rfl
theorem cells64 : Tryz.prog.cellsOf 124 = 64 := by kernel_rfl
theorem cells_u8 : Tryz.prog.cellsOf 5 = 1 := by kernel_rfl
def bruTab : List Int := [0, 1, 56, 2, 57, 49, 28, 3, 61, 58, 42, 50, 38, 29, 17, 4, 62, 47, 59, 36, 45, 43, 51, 22, 53, 39, 33, 30, 24, 18, 12, 5, 63, 55, 48, 27, 60, 41, 37, 16, 46, 35, 44, 21, 52, 32, 23, 11, 54, 26, 40, 15, 34, 20, 31, 10, 25, 14, 19, 9, 13, 8, 7, 6]
theorem bru_of {W : World} {rest : List (String × DataW Unit)} (h : laidMet Tryz.prog (("math/bits.deBruijn64tab", Lib.tabData .u8 bruTab) :: rest) W) : Bru W := by
  have ht := Lib.tabIs_of_head gBruN tBruN Tryz.underlying124 Tryz.underlying5 cells_u8 cells64 h
  exact ht.cell gBruN 15 (by decide)
end Go.Proofs.YtnakeigpelcajaaGreatDoor
end
