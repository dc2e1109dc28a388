/-
Arguments of a row that are a slice of fields (two texts), of texts, of bytes, of numbers, read as lists.
-/
import Derived.Test.YtpkgoppfihcpbaaDoorHd1
import Derived.Test.YtpkgoppfihcpbaaDoorLaw
import Derived.SizedLaws
import Derived.WideKeyArgs
import Derived.Deep.SlicePairs
set_option linter.unusedVariables false
set_option linter.unusedSimpArgs false
namespace Go.Proofs.YtpkgoppfihcpbaaDoor
open Go.RowKit Go.ChangeShapes Go.WideShapes Go.Deep Go.Joins

theorem spot_none6 {W : World} {a : Addr} {u : Value} (h : W.cell? a = some u) : a.spot = none := by
  unfold World.cell? at h
  cases hsp : a.spot with
  | none => rfl
  | some z => simp only [hsp, Option.isSome_some, if_true] at h; split at h <;> cases h
theorem rd_of6 {W : World} {a : Addr} {xs : List Value} (h : ∀ i u, xs[i]? = some u → W.cell? (a.add i) = some u) : Rd W (some a) xs := by
  cases xs with
  | nil => exact .inl rfl
  | cons x xs =>
    have h1 := h 0 x rfl
    have hs := spot_none6 h1
    obtain ⟨b, f, sp⟩ := a
    have hs : sp = none := by simpa [Addr.add] using hs
    subst hs
    exact .inr ⟨b, f, rfl, fun i u hu => by have := h i u hu; rwa [add_mk] at this⟩
section
variable {H : Type} {enc : TypeId × Value → H} {P : Program} {W : World} {base : Nat}
theorem field_cells {t : TypeId} {f0 f1 : Field} {fuel : Nat} {cs : List Value} {y : DataW H × List MemPlace} (ht : P.underlying t = some (.struct #[f0, f1])) (ce : P.cellsOf t = 2) (o : f0.offset = 0 ∧ f1.offset = 1) (c : P.cellsOf f0.type = 1 ∧ P.cellsOf f1.type = 1)
    (u0 : P.underlying f0.type = some .string) (u1 : P.underlying f1.type = some .string) (h : DataW.trod enc P W 0 (fun _ => true) true fuel t cs = some y) :
    ∃ x : Fld, cs = [.string (str x.1), .string (str x.2)] ∧ x.1.length ≤ maxLen ∧ x.2.length ≤ maxLen := by
  obtain ⟨ys, k, hk, hxy, hcl, hxl, hfs⟩ := DataW.trod_struct ht h
  obtain ⟨o0, o1⟩ := o
  obtain ⟨c0, c1⟩ := c
  rw [ce] at hcl
  match ys, hxl, cs, hcl with
  | [y0, y1], _, [v0, v1], _ =>
    have t0 := hfs 0 f0 rfl
    have t1 := hfs 1 f1 rfl
    simp [o0, o1, c0, c1] at t0 t1
    obtain ⟨s0, q0, _, z0⟩ := DataW.trod_string u0 t0
    obtain ⟨s1, q1, _, z1⟩ := DataW.trod_string u1 t1
    simp only [List.cons.injEq, and_true] at q0 q1
    subst q0 q1
    exact ⟨(s0.data.toList, s1.data.toList), by simp, by simpa using z0, by simpa using z1⟩
theorem open_fields {t e : TypeId} {f0 f1 : Field} {v : Value} {d : DataW H} {p : List MemPlace} (ht : P.underlying t = some (.slice e)) (he : P.underlying e = some (.struct #[f0, f1])) (ce : P.cellsOf e = 2) (o : f0.offset = 0 ∧ f1.offset = 1) (c : P.cellsOf f0.type = 1 ∧ P.cellsOf f1.type = 1)
    (u0 : P.underlying f0.type = some .string) (u1 : P.underlying f1.type = some .string)
    (hval : Value.okWide P W .any base t v) (h : DataW.Trod enc P W 0 (fun _ => true) true t v d p) (hw : ∀ n ∈ d.weights P t, n ≤ reachBytes) :
    ∃ A c xs, v = .slice A (List.length xs) c ∧ Rd W A (fc xs) ∧ (∀ x ∈ xs, x.1.length ≤ maxLen) ∧ xs.length * P.bytesOf e ≤ reachBytes := by
  obtain ⟨a0, len, cap, rfl⟩ := okWide_slice ht hval
  obtain ⟨fuel, hf⟩ := h
  rcases open_slice ht hf with ⟨hcs, hx⟩ | ⟨a, len', cap', m, n, D, Pl, hcs, _, hlc, hcm, hm, hx, hi⟩
  · simp only [Value.cells, List.cons.injEq, and_true] at hcs
    injection hcs with h1 h2 h3
    subst h1; subst h2; subst h3
    exact ⟨none, 0, [], rfl, .inl rfl, fun x hx => (by cases hx), by simp⟩
  · simp only [Value.cells, List.cons.injEq, and_true] at hcs
    injection hcs with h1 h2 h3
    subst h1; subst h2; subst h3
    simp only [if_true] at hm
    subst hm
    have hd := (Prod.mk.inj hx).1
    have hlen : len * P.bytesOf e ≤ reachBytes := by
      have hmem : (len + (m - len)) * P.bytesOf e ∈ d.weights P t := by
        rw [hd]; simp [DataW.weights, ht]
      have := hw _ hmem
      have h2 : len * P.bytesOf e ≤ (len + (m - len)) * P.bytesOf e := Nat.mul_le_mul_right _ (by omega)
      omega
    have each : ∀ i, ∃ x : Fld, i < len → (x.1.length ≤ maxLen ∧ W.cell? (a.add (i * 2)) = some (.string (str x.1)) ∧ W.cell? (a.add (i * 2 + 1)) = some (.string (str x.2))) := fun i => by
      by_cases hil : i < len
      · obtain ⟨cs', g1, g2⟩ := hi i (by omega)
        rw [ce] at g1
        obtain ⟨_, hl3, hcell⟩ := World.cells?_some g1
        obtain ⟨x, rfl, hwf, _⟩ := field_cells he ce o c u0 u1 g2
        refine ⟨x, fun _ => ⟨hwf, ?_, ?_⟩⟩
        · have e := hcell 0 (by omega)
          rw [add_add] at e
          exact e
        · have e := hcell 1 (by omega)
          rw [add_add] at e
          exact e
      · exact ⟨([], []), fun h => absurd h hil⟩
    obtain ⟨X, hX⟩ := Classical.axiomOfChoice each
    refine ⟨some a, m, (List.range len).map X, by simp, ?_, fun x hx => ?_, by simpa using hlen⟩
    · refine rd_of6 fun i u hu => ?_
      have hil : i < len * 2 := by have := (List.getElem?_eq_some_iff.1 hu).1; rw [fc_len] at this; simpa using this
      have h2 := hX (i / 2) (by omega)
      obtain ⟨g1, g2⟩ := fc_at ((List.range len).map X) (i / 2) (by simp; omega)
      simp only [List.getElem_map, List.getElem_range] at g1 g2
      rcases Nat.mod_two_eq_zero_or_one i with h0 | h0
      · rw [show i / 2 * 2 = i from by omega] at g1 h2
        rw [g1] at hu
        cases hu
        exact h2.2.1
      · rw [show i / 2 * 2 + 1 = i from by omega] at g2 h2
        rw [g2] at hu
        cases hu
        exact h2.2.2
    · obtain ⟨i, hil, rfl⟩ := List.mem_map.1 hx
      exact (hX i (List.mem_range.1 hil)).1
theorem open_texts {t e : TypeId} {v : Value} {d : DataW H} {p : List MemPlace} (ht : P.underlying t = some (.slice e)) (he : P.underlying e = some .string) (ce : P.cellsOf e = 1)
    (hval : Value.okWide P W .any base t v) (h : DataW.Trod enc P W 0 (fun _ => true) true t v d p) (hw : ∀ n ∈ d.weights P t, n ≤ reachBytes) :
    ∃ A c xs, v = .slice A (List.length xs) c ∧ Rd W A (sc xs) ∧ (∀ x ∈ xs, x.length ≤ maxLen) ∧ xs.length * P.bytesOf e ≤ reachBytes := by
  obtain ⟨a0, len, cap, rfl⟩ := okWide_slice ht hval
  obtain ⟨fuel, hf⟩ := h
  rcases open_slice ht hf with ⟨hcs, hx⟩ | ⟨a, len', cap', m, n, D, Pl, hcs, _, hlc, hcm, hm, hx, hi⟩
  · simp only [Value.cells, List.cons.injEq, and_true] at hcs
    injection hcs with h1 h2 h3
    subst h1; subst h2; subst h3
    exact ⟨none, 0, [], rfl, .inl rfl, fun x hx => (by cases hx), by simp⟩
  · simp only [Value.cells, List.cons.injEq, and_true] at hcs
    injection hcs with h1 h2 h3
    subst h1; subst h2; subst h3
    simp only [if_true] at hm
    subst hm
    have hd := (Prod.mk.inj hx).1
    have hlen : len * P.bytesOf e ≤ reachBytes := by
      have hmem : (len + (m - len)) * P.bytesOf e ∈ d.weights P t := by
        rw [hd]; simp [DataW.weights, ht]
      have := hw _ hmem
      have h2 : len * P.bytesOf e ≤ (len + (m - len)) * P.bytesOf e := Nat.mul_le_mul_right _ (by omega)
      omega
    have each : ∀ i, ∃ x : List UInt8, i < len → (x.length ≤ maxLen ∧ W.cell? (a.add i) = some (.string (str x))) := fun i => by
      by_cases hil : i < len
      · obtain ⟨cs', g1, g2⟩ := hi i (by omega)
        rw [ce] at g1
        obtain ⟨_, hl3, hcell⟩ := World.cells?_some g1
        obtain ⟨s, rfl, _, z⟩ := DataW.trod_string he g2
        refine ⟨s.data.toList, fun _ => ⟨by simpa using z, ?_⟩⟩
        have e := hcell 0 (by omega)
        rw [add_add] at e
        simpa using e
      · exact ⟨[], fun h => absurd h hil⟩
    obtain ⟨X, hX⟩ := Classical.axiomOfChoice each
    refine ⟨some a, m, (List.range len).map X, by simp, ?_, fun x hx => ?_, by simpa using hlen⟩
    · refine rd_of6 fun i u hu => ?_
      have hil : i < len := by have := (List.getElem?_eq_some_iff.1 hu).1; simpa [sc] using this
      have hu2 : u = .string (str (X i)) := by
        have : (sc ((List.range len).map X))[i]? = some (.string (str (X i))) := by simp [sc, hil]
        rw [this] at hu
        exact (Option.some.inj hu).symm
      rw [hu2]
      exact (hX i hil).2
    · obtain ⟨i, hil, rfl⟩ := List.mem_map.1 hx
      exact (hX i (List.mem_range.1 hil)).1
end
theorem u8_nat7 {n : Int} (h : (Lit.int .u8 n).wf = true) : ((UInt8.ofNat n.toNat).toNat : Int) = n := by
  simp only [Lit.wf, IntKind.min, IntKind.max, IntKind.signed, IntKind.bits, Bool.and_eq_true, decide_eq_true_eq] at h
  rw [UInt8.toNat_ofNat']
  simp at h
  omega
theorem i64_bd7 {n : Int} (h : (Lit.int .i64 n).wf = true) : -9223372036854775808 ≤ n ∧ n ≤ 9223372036854775807 := by
  simp only [Lit.wf, IntKind.min, IntKind.max, IntKind.signed, IntKind.bits, Bool.and_eq_true, decide_eq_true_eq, if_true] at h
  omega
section
variable {H : Type} {enc : TypeId × Value → H} {P : Program} {W : World} {base : Nat}
theorem open_bytes7 {t e : TypeId} {v : Value} {d : DataW H} {p : List MemPlace} (ht : P.underlying t = some (.slice e)) (he : P.underlying e = some (.int .u8)) (ce : P.cellsOf e = 1)
    (hval : Value.okWide P W .any base t v) (h : DataW.Trod enc P W 0 (fun _ => true) true t v d p) (hw : ∀ n ∈ d.weights P t, n ≤ reachBytes) :
    ∃ A c xs, v = .slice A (List.length xs) c ∧ Rd W A (bc xs) ∧ List.length xs ≤ c ∧ xs.length * P.bytesOf e ≤ reachBytes := by
  obtain ⟨a0, len, cap, rfl⟩ := okWide_slice ht hval
  obtain ⟨fuel, hf⟩ := h
  rcases open_slice ht hf with ⟨hcs, hx⟩ | ⟨a, len', cap', m, n, D, Pl, hcs, _, hlc, hcm, hm, hx, hi⟩
  · simp only [Value.cells, List.cons.injEq, and_true] at hcs
    injection hcs with h1 h2 h3
    subst h1; subst h2; subst h3
    exact ⟨none, 0, [], rfl, .inl rfl, Nat.le_refl _, by simp⟩
  · simp only [Value.cells, List.cons.injEq, and_true] at hcs
    injection hcs with h1 h2 h3
    subst h1; subst h2; subst h3
    simp only [if_true] at hm
    subst hm
    have hd := (Prod.mk.inj hx).1
    have hlen : len * P.bytesOf e ≤ reachBytes := by
      have hmem : (len + (m - len)) * P.bytesOf e ∈ d.weights P t := by
        rw [hd]; simp [DataW.weights, ht]
      have := hw _ hmem
      have h2 : len * P.bytesOf e ≤ (len + (m - len)) * P.bytesOf e := Nat.mul_le_mul_right _ (by omega)
      omega
    have each : ∀ i, ∃ x : UInt8, i < len → W.cell? (a.add i) = some (.int .u8 (x.toNat : Int)) := fun i => by
      by_cases hil : i < len
      · obtain ⟨cs', g1, g2⟩ := hi i (by omega)
        rw [ce] at g1
        obtain ⟨_, hl3, hcell⟩ := World.cells?_some g1
        obtain ⟨n, rfl, _, z⟩ := DataW.trod_int he g2
        refine ⟨UInt8.ofNat n.toNat, fun _ => ?_⟩
        rw [u8_nat7 z]
        have e := hcell 0 (by omega)
        rw [add_add] at e
        simpa using e
      · exact ⟨0, fun h => absurd h hil⟩
    obtain ⟨X, hX⟩ := Classical.axiomOfChoice each
    refine ⟨some a, m, (List.range len).map X, by simp, ?_, by simpa using hlc, by simpa using hlen⟩
    · refine rd_of6 fun i u hu => ?_
      have hil : i < len := by have := (List.getElem?_eq_some_iff.1 hu).1; simpa [bc] using this
      have hu2 : u = .int .u8 ((X i).toNat : Int) := by
        have : (bc ((List.range len).map X))[i]? = some (.int .u8 ((X i).toNat : Int)) := by simp [bc, hil]
        rw [this] at hu
        exact (Option.some.inj hu).symm
      rw [hu2]
      exact hX i hil
theorem open_ints7 {t e : TypeId} {v : Value} {d : DataW H} {p : List MemPlace} (ht : P.underlying t = some (.slice e)) (he : P.underlying e = some (.int .i64)) (ce : P.cellsOf e = 1)
    (hval : Value.okWide P W .any base t v) (h : DataW.Trod enc P W 0 (fun _ => true) true t v d p) (hw : ∀ n ∈ d.weights P t, n ≤ reachBytes) :
    ∃ A c xs, v = .slice A (List.length xs) c ∧ Rd W A (xs.map (Value.int .i64)) ∧ (∀ x ∈ xs, -9223372036854775808 ≤ x ∧ x ≤ 9223372036854775807) ∧ xs.length * P.bytesOf e ≤ reachBytes := by
  obtain ⟨a0, len, cap, rfl⟩ := okWide_slice ht hval
  obtain ⟨fuel, hf⟩ := h
  rcases open_slice ht hf with ⟨hcs, hx⟩ | ⟨a, len', cap', m, n, D, Pl, hcs, _, hlc, hcm, hm, hx, hi⟩
  · simp only [Value.cells, List.cons.injEq, and_true] at hcs
    injection hcs with h1 h2 h3
    subst h1; subst h2; subst h3
    exact ⟨none, 0, [], rfl, .inl rfl, fun x hx => (by cases hx), by simp⟩
  · simp only [Value.cells, List.cons.injEq, and_true] at hcs
    injection hcs with h1 h2 h3
    subst h1; subst h2; subst h3
    simp only [if_true] at hm
    subst hm
    have hd := (Prod.mk.inj hx).1
    have hlen : len * P.bytesOf e ≤ reachBytes := by
      have hmem : (len + (m - len)) * P.bytesOf e ∈ d.weights P t := by
        rw [hd]; simp [DataW.weights, ht]
      have := hw _ hmem
      have h2 : len * P.bytesOf e ≤ (len + (m - len)) * P.bytesOf e := Nat.mul_le_mul_right _ (by omega)
      omega
    have each : ∀ i, ∃ x : Int, i < len → ((-9223372036854775808 ≤ x ∧ x ≤ 9223372036854775807) ∧ W.cell? (a.add i) = some (.int .i64 x)) := fun i => by
      by_cases hil : i < len
      · obtain ⟨cs', g1, g2⟩ := hi i (by omega)
        rw [ce] at g1
        obtain ⟨_, hl3, hcell⟩ := World.cells?_some g1
        obtain ⟨n, rfl, _, z⟩ := DataW.trod_int he g2
        refine ⟨n, fun _ => ⟨i64_bd7 z, ?_⟩⟩
        have e := hcell 0 (by omega)
        rw [add_add] at e
        simpa using e
      · exact ⟨0, fun h => absurd h hil⟩
    obtain ⟨X, hX⟩ := Classical.axiomOfChoice each
    refine ⟨some a, m, (List.range len).map X, by simp, ?_, fun x hx => ?_, by simpa using hlen⟩
    · refine rd_of6 fun i u hu => ?_
      have hil : i < len := by have := (List.getElem?_eq_some_iff.1 hu).1; simpa using this
      have hu2 : u = .int .i64 (X i) := by
        have : (((List.range len).map X).map (Value.int .i64))[i]? = some (.int .i64 (X i)) := by simp [hil]
        rw [this] at hu
        exact (Option.some.inj hu).symm
      rw [hu2]
      exact (hX i hil).2
    · obtain ⟨i, hil, rfl⟩ := List.mem_map.1 hx
      exact (hX i (List.mem_range.1 hil)).1
end
end Go.Proofs.YtpkgoppfihcpbaaDoor
