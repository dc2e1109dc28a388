/-
Fields with other names: Without, the reference's; two lists of fields that are the same.
-/
import Derived.Test.YtppajpchibkneaaGreatDoorHd3
import Derived.Test.YtppajpchibkneaaGreatDoorHv3
import Derived.Test.YtppajpchibkneaaGreatDoorLaw
import Derived.SizedLaws
import Derived.WideKeyArgs
import Derived.Deep.SlicePairs
import Derived.Test.YtppajpchibkneaaGreatDoorHPx
set_option linter.unusedVariables false
set_option linter.unusedSimpArgs false
/-
Fields with other names: Without, the reference's; two lists of fields that are the same.
-/
section
namespace Go.Proofs.YtppajpchibkneaaGreatDoor
open Go.RowKit

theorem met_succ {x : List UInt8} {nms : List (List UInt8)} {t : Nat} (ht : t < nms.length) : metH x (nms.take (t + 1)) = (metH x (nms.take t) || (lowL x == lowL nms[t])) := by
  unfold metH
  rw [List.take_succ_eq_append_getElem ht, List.any_append]; simp
set_option maxRecDepth 100000 in
set_option maxHeartbeats 4000000 in
theorem hFields_c (fs : List Fld) (A B : Option Addr) (n c m d : Nat) (hn : fs.length = n) (hm : fs.length = m) (hb : n ≤ maxLen) (w : World) (h : Rd w A (fc fs)) (hB : Rd w B (fc fs)) :
    Calls Tryz.prog 18 #[.slice A n c, .slice B m d] w (Gives (.bool true) w) := by
  obtain rfl : n = m := hn.symm.trans hm
  unfold maxLen at hb
  go_enter Tryz.func18, Tryz.ntmps18
  go_wp2
  go_loopw [5] (fun i wr => ∃ k : Nat, k ≤ n ∧ i = .int .i64 (k : Int) ∧ Ext w wr) (fun i _ => n - (intOf i).toNat)
  case atStart => exact ⟨0, Nat.zero_le _, rfl, Ext.rfl' _⟩
  case round =>
    obtain ⟨k, hk, rfl, hext⟩ := hrel
    by_cases hlt : k < n
    · obtain ⟨b, o, rfl, hbl, hS⟩ := h.fld (k := k) (by omega)
      obtain ⟨b', o', rfl, hbl', hS'⟩ := hB.fld (k := k) (by omega)
      obtain ⟨a0, a1⟩ := hS.out wr hext
      obtain ⟨e0, e1⟩ := hS'.out wr hext
      obtain ⟨p, hp⟩ : ∃ p, p = fs[k] := ⟨_, rfl⟩
      rw [← hp] at a0 a1 e0 e1
      obtain ⟨x, y⟩ := p
      have hk0 : (0 : Int) ≤ (k : Int) := by omega
      have hk1 : (k : Int) < (n : Int) := by omega
      clear hp
      go_wp2
      go_quiet (fail)
      go_wp2
      go_roundw
      case rel => exact ⟨k + 1, by omega, by go_num, hext.drN _⟩
      case measure => simp [intOf]; omega
    · obtain rfl : k = n := by omega
      go_wp2
      go_ret
      exact ⟨rfl, hext⟩
end Go.Proofs.YtppajpchibkneaaGreatDoor
end

/-
Fields by their names: the law as a walk.
-/
section
namespace Go.Proofs.YtppajpchibkneaaGreatDoor
open Go.RowKit

theorem first_tup (ls : List (List UInt8)) : ∃ s b, firstV ls = .tuple #[.string s, .bool b] := by
  cases ls with
  | nil => exact ⟨_, _, rfl⟩
  | cons v ls => exact ⟨_, _, rfl⟩
end Go.Proofs.YtppajpchibkneaaGreatDoor
end

/-
Arguments of a row that are a slice of fields (two texts), a slice of texts, read as lists.
-/
section
namespace Go.Proofs.YtppajpchibkneaaGreatDoor
open Go.RowKit Go.ChangeShapes Go.WideShapes Go.Deep Go.Joins

theorem mx_of {w : World} (h : w.ShapedOpen Tryz.prog) : Mx w := Tryz.laysM147.s1_3 w h
theorem spot_none6 {W : World} {a : Addr} {u : Value} (h : W.cell? a = some u) : a.spot = none := by
  unfold World.cell? at h
  cases hsp : a.spot with
  | none => rfl
  | some z => simp only [hsp, Option.isSome_some, if_true] at h; split at h <;> cases h
theorem rd_of6 {W : World} {a : Addr} {xs : List Value} (h : ∀ i u, xs[i]? = some u → W.cell? (a.add i) = some u) : Rd W (some a) xs := by
  cases xs with
  | nil => exact .inl rfl
  | cons x xs =>
    have h1 := h 0 x rfl
    have hs := spot_none6 h1
    obtain ⟨b, f, sp⟩ := a
    have hs : sp = none := by simpa [Addr.add] using hs
    subst hs
    exact .inr ⟨b, f, rfl, fun i u hu => by have := h i u hu; rwa [add_mk] at this⟩
section
variable {H : Type} {enc : TypeId × Value → H} {P : Program} {W : World} {base : Nat}
theorem field_cells {t : TypeId} {f0 f1 : Field} {fuel : Nat} {cs : List Value} {y : DataW H × List MemPlace} (ht : P.underlying t = some (.struct #[f0, f1])) (ce : P.cellsOf t = 2) (o : f0.offset = 0 ∧ f1.offset = 1) (c : P.cellsOf f0.type = 1 ∧ P.cellsOf f1.type = 1)
    (u0 : P.underlying f0.type = some .string) (u1 : P.underlying f1.type = some .string) (h : DataW.trod enc P W 0 (fun _ => true) true fuel t cs = some y) :
    ∃ x : Fld, cs = [.string (str x.1), .string (str x.2)] ∧ x.1.length ≤ maxLen ∧ x.2.length ≤ maxLen := by
  obtain ⟨ys, k, hk, hxy, hcl, hxl, hfs⟩ := DataW.trod_struct ht h
  obtain ⟨o0, o1⟩ := o
  obtain ⟨c0, c1⟩ := c
  rw [ce] at hcl
  match ys, hxl, cs, hcl with
  | [y0, y1], _, [v0, v1], _ =>
    have t0 := hfs 0 f0 rfl
    have t1 := hfs 1 f1 rfl
    simp [o0, o1, c0, c1] at t0 t1
    obtain ⟨s0, q0, _, z0⟩ := DataW.trod_string u0 t0
    obtain ⟨s1, q1, _, z1⟩ := DataW.trod_string u1 t1
    simp only [List.cons.injEq, and_true] at q0 q1
    subst q0 q1
    exact ⟨(s0.data.toList, s1.data.toList), by simp, by simpa using z0, by simpa using z1⟩
theorem open_fields {t e : TypeId} {f0 f1 : Field} {v : Value} {d : DataW H} {p : List MemPlace} (ht : P.underlying t = some (.slice e)) (he : P.underlying e = some (.struct #[f0, f1])) (ce : P.cellsOf e = 2) (o : f0.offset = 0 ∧ f1.offset = 1) (c : P.cellsOf f0.type = 1 ∧ P.cellsOf f1.type = 1)
    (u0 : P.underlying f0.type = some .string) (u1 : P.underlying f1.type = some .string)
    (hval : Value.okWide P W .any base t v) (h : DataW.Trod enc P W 0 (fun _ => true) true t v d p) (hw : ∀ n ∈ d.weights P t, n ≤ reachBytes) :
    ∃ A c xs, v = .slice A (List.length xs) c ∧ Rd W A (fc xs) ∧ (∀ x ∈ xs, x.1.length ≤ maxLen) ∧ xs.length * P.bytesOf e ≤ reachBytes := by
  obtain ⟨a0, len, cap, rfl⟩ := okWide_slice ht hval
  obtain ⟨fuel, hf⟩ := h
  rcases open_slice ht hf with ⟨hcs, hx⟩ | ⟨a, len', cap', m, n, D, Pl, hcs, _, hlc, hcm, hm, hx, hi⟩
  · simp only [Value.cells, List.cons.injEq, and_true] at hcs
    injection hcs with h1 h2 h3
    subst h1; subst h2; subst h3
    exact ⟨none, 0, [], rfl, .inl rfl, fun x hx => (by cases hx), by simp⟩
  · simp only [Value.cells, List.cons.injEq, and_true] at hcs
    injection hcs with h1 h2 h3
    subst h1; subst h2; subst h3
    simp only [if_true] at hm
    subst hm
    have hd := (Prod.mk.inj hx).1
    have hlen : len * P.bytesOf e ≤ reachBytes := by
      have hmem : (len + (m - len)) * P.bytesOf e ∈ d.weights P t := by
        rw [hd]; simp [DataW.weights, ht]
      have := hw _ hmem
      have h2 : len * P.bytesOf e ≤ (len + (m - len)) * P.bytesOf e := Nat.mul_le_mul_right _ (by omega)
      omega
    have each : ∀ i, ∃ x : Fld, i < len → (x.1.length ≤ maxLen ∧ W.cell? (a.add (i * 2)) = some (.string (str x.1)) ∧ W.cell? (a.add (i * 2 + 1)) = some (.string (str x.2))) := fun i => by
      by_cases hil : i < len
      · obtain ⟨cs', g1, g2⟩ := hi i (by omega)
        rw [ce] at g1
        obtain ⟨_, hl3, hcell⟩ := World.cells?_some g1
        obtain ⟨x, rfl, hwf, _⟩ := field_cells he ce o c u0 u1 g2
        refine ⟨x, fun _ => ⟨hwf, ?_, ?_⟩⟩
        · have e := hcell 0 (by omega)
          rw [add_add] at e
          exact e
        · have e := hcell 1 (by omega)
          rw [add_add] at e
          exact e
      · exact ⟨([], []), fun h => absurd h hil⟩
    obtain ⟨X, hX⟩ := Classical.axiomOfChoice each
    refine ⟨some a, m, (List.range len).map X, by simp, ?_, fun x hx => ?_, by simpa using hlen⟩
    · refine rd_of6 fun i u hu => ?_
      have hil : i < len * 2 := by have := (List.getElem?_eq_some_iff.1 hu).1; rw [fc_len] at this; simpa using this
      have h2 := hX (i / 2) (by omega)
      obtain ⟨g1, g2⟩ := fc_at ((List.range len).map X) (i / 2) (by simp; omega)
      simp only [List.getElem_map, List.getElem_range] at g1 g2
      rcases Nat.mod_two_eq_zero_or_one i with h0 | h0
      · rw [show i / 2 * 2 = i from by omega] at g1 h2
        rw [g1] at hu
        cases hu
        exact h2.2.1
      · rw [show i / 2 * 2 + 1 = i from by omega] at g2 h2
        rw [g2] at hu
        cases hu
        exact h2.2.2
    · obtain ⟨i, hil, rfl⟩ := List.mem_map.1 hx
      exact (hX i (List.mem_range.1 hil)).1
theorem open_texts {t e : TypeId} {v : Value} {d : DataW H} {p : List MemPlace} (ht : P.underlying t = some (.slice e)) (he : P.underlying e = some .string) (ce : P.cellsOf e = 1)
    (hval : Value.okWide P W .any base t v) (h : DataW.Trod enc P W 0 (fun _ => true) true t v d p) (hw : ∀ n ∈ d.weights P t, n ≤ reachBytes) :
    ∃ A c xs, v = .slice A (List.length xs) c ∧ Rd W A (sc xs) ∧ (∀ x ∈ xs, x.length ≤ maxLen) ∧ xs.length * P.bytesOf e ≤ reachBytes := by
  obtain ⟨a0, len, cap, rfl⟩ := okWide_slice ht hval
  obtain ⟨fuel, hf⟩ := h
  rcases open_slice ht hf with ⟨hcs, hx⟩ | ⟨a, len', cap', m, n, D, Pl, hcs, _, hlc, hcm, hm, hx, hi⟩
  · simp only [Value.cells, List.cons.injEq, and_true] at hcs
    injection hcs with h1 h2 h3
    subst h1; subst h2; subst h3
    exact ⟨none, 0, [], rfl, .inl rfl, fun x hx => (by cases hx), by simp⟩
  · simp only [Value.cells, List.cons.injEq, and_true] at hcs
    injection hcs with h1 h2 h3
    subst h1; subst h2; subst h3
    simp only [if_true] at hm
    subst hm
    have hd := (Prod.mk.inj hx).1
    have hlen : len * P.bytesOf e ≤ reachBytes := by
      have hmem : (len + (m - len)) * P.bytesOf e ∈ d.weights P t := by
        rw [hd]; simp [DataW.weights, ht]
      have := hw _ hmem
      have h2 : len * P.bytesOf e ≤ (len + (m - len)) * P.bytesOf e := Nat.mul_le_mul_right _ (by omega)
      omega
    have each : ∀ i, ∃ x : List UInt8, i < len → (x.length ≤ maxLen ∧ W.cell? (a.add i) = some (.string (str x))) := fun i => by
      by_cases hil : i < len
      · obtain ⟨cs', g1, g2⟩ := hi i (by omega)
        rw [ce] at g1
        obtain ⟨_, hl3, hcell⟩ := World.cells?_some g1
        obtain ⟨s, rfl, _, z⟩ := DataW.trod_string he g2
        refine ⟨s.data.toList, fun _ => ⟨by simpa using z, ?_⟩⟩
        have e := hcell 0 (by omega)
        rw [add_add] at e
        simpa using e
      · exact ⟨[], fun h => absurd h hil⟩
    obtain ⟨X, hX⟩ := Classical.axiomOfChoice each
    refine ⟨some a, m, (List.range len).map X, by simp, ?_, fun x hx => ?_, by simpa using hlen⟩
    · refine rd_of6 fun i u hu => ?_
      have hil : i < len := by have := (List.getElem?_eq_some_iff.1 hu).1; simpa [sc] using this
      have hu2 : u = .string (str (X i)) := by
        have : (sc ((List.range len).map X))[i]? = some (.string (str (X i))) := by simp [sc, hil]
        rw [this] at hu
        exact (Option.some.inj hu).symm
      rw [hu2]
      exact (hX i hil).2
    · obtain ⟨i, hil, rfl⟩ := List.mem_map.1 hx
      exact (hX i (List.mem_range.1 hil)).1
end
end Go.Proofs.YtppajpchibkneaaGreatDoor
end

/-
Arguments of a row that are a slice of bytes, a slice of numbers, read as lists.
-/
section
namespace Go.Proofs.YtppajpchibkneaaGreatDoor
open Go.RowKit Go.ChangeShapes Go.WideShapes Go.Deep Go.Joins

theorem u8_nat7 {n : Int} (h : (Lit.int .u8 n).wf = true) : ((UInt8.ofNat n.toNat).toNat : Int) = n := by
  simp only [Lit.wf, IntKind.min, IntKind.max, IntKind.signed, IntKind.bits, Bool.and_eq_true, decide_eq_true_eq] at h
  rw [UInt8.toNat_ofNat']
  simp at h
  omega
theorem i64_bd7 {n : Int} (h : (Lit.int .i64 n).wf = true) : -9223372036854775808 ≤ n ∧ n ≤ 9223372036854775807 := by
  simp only [Lit.wf, IntKind.min, IntKind.max, IntKind.signed, IntKind.bits, Bool.and_eq_true, decide_eq_true_eq, if_true] at h
  omega
section
variable {H : Type} {enc : TypeId × Value → H} {P : Program} {W : World} {base : Nat}
theorem open_bytes7 {t e : TypeId} {v : Value} {d : DataW H} {p : List MemPlace} (ht : P.underlying t = some (.slice e)) (he : P.underlying e = some (.int .u8)) (ce : P.cellsOf e = 1)
    (hval : Value.okWide P W .any base t v) (h : DataW.Trod enc P W 0 (fun _ => true) true t v d p) (hw : ∀ n ∈ d.weights P t, n ≤ reachBytes) :
    ∃ A c xs, v = .slice A (List.length xs) c ∧ Rd W A (bc xs) ∧ List.length xs ≤ c ∧ xs.length * P.bytesOf e ≤ reachBytes := by
  obtain ⟨a0, len, cap, rfl⟩ := okWide_slice ht hval
  obtain ⟨fuel, hf⟩ := h
  rcases open_slice ht hf with ⟨hcs, hx⟩ | ⟨a, len', cap', m, n, D, Pl, hcs, _, hlc, hcm, hm, hx, hi⟩
  · simp only [Value.cells, List.cons.injEq, and_true] at hcs
    injection hcs with h1 h2 h3
    subst h1; subst h2; subst h3
    exact ⟨none, 0, [], rfl, .inl rfl, Nat.le_refl _, by simp⟩
  · simp only [Value.cells, List.cons.injEq, and_true] at hcs
    injection hcs with h1 h2 h3
    subst h1; subst h2; subst h3
    simp only [if_true] at hm
    subst hm
    have hd := (Prod.mk.inj hx).1
    have hlen : len * P.bytesOf e ≤ reachBytes := by
      have hmem : (len + (m - len)) * P.bytesOf e ∈ d.weights P t := by
        rw [hd]; simp [DataW.weights, ht]
      have := hw _ hmem
      have h2 : len * P.bytesOf e ≤ (len + (m - len)) * P.bytesOf e := Nat.mul_le_mul_right _ (by omega)
      omega
    have each : ∀ i, ∃ x : UInt8, i < len → W.cell? (a.add i) = some (.int .u8 (x.toNat : Int)) := fun i => by
      by_cases hil : i < len
      · obtain ⟨cs', g1, g2⟩ := hi i (by omega)
        rw [ce] at g1
        obtain ⟨_, hl3, hcell⟩ := World.cells?_some g1
        obtain ⟨n, rfl, _, z⟩ := DataW.trod_int he g2
        refine ⟨UInt8.ofNat n.toNat, fun _ => ?_⟩
        rw [u8_nat7 z]
        have e := hcell 0 (by omega)
        rw [add_add] at e
        simpa using e
      · exact ⟨0, fun h => absurd h hil⟩
    obtain ⟨X, hX⟩ := Classical.axiomOfChoice each
    refine ⟨some a, m, (List.range len).map X, by simp, ?_, by simpa using hlc, by simpa using hlen⟩
    · refine rd_of6 fun i u hu => ?_
      have hil : i < len := by have := (List.getElem?_eq_some_iff.1 hu).1; simpa [bc] using this
      have hu2 : u = .int .u8 ((X i).toNat : Int) := by
        have : (bc ((List.range len).map X))[i]? = some (.int .u8 ((X i).toNat : Int)) := by simp [bc, hil]
        rw [this] at hu
        exact (Option.some.inj hu).symm
      rw [hu2]
      exact hX i hil
theorem open_ints7 {t e : TypeId} {v : Value} {d : DataW H} {p : List MemPlace} (ht : P.underlying t = some (.slice e)) (he : P.underlying e = some (.int .i64)) (ce : P.cellsOf e = 1)
    (hval : Value.okWide P W .any base t v) (h : DataW.Trod enc P W 0 (fun _ => true) true t v d p) (hw : ∀ n ∈ d.weights P t, n ≤ reachBytes) :
    ∃ A c xs, v = .slice A (List.length xs) c ∧ Rd W A (xs.map (Value.int .i64)) ∧ (∀ x ∈ xs, -9223372036854775808 ≤ x ∧ x ≤ 9223372036854775807) ∧ xs.length * P.bytesOf e ≤ reachBytes := by
  obtain ⟨a0, len, cap, rfl⟩ := okWide_slice ht hval
  obtain ⟨fuel, hf⟩ := h
  rcases open_slice ht hf with ⟨hcs, hx⟩ | ⟨a, len', cap', m, n, D, Pl, hcs, _, hlc, hcm, hm, hx, hi⟩
  · simp only [Value.cells, List.cons.injEq, and_true] at hcs
    injection hcs with h1 h2 h3
    subst h1; subst h2; subst h3
    exact ⟨none, 0, [], rfl, .inl rfl, fun x hx => (by cases hx), by simp⟩
  · simp only [Value.cells, List.cons.injEq, and_true] at hcs
    injection hcs with h1 h2 h3
    subst h1; subst h2; subst h3
    simp only [if_true] at hm
    subst hm
    have hd := (Prod.mk.inj hx).1
    have hlen : len * P.bytesOf e ≤ reachBytes := by
      have hmem : (len + (m - len)) * P.bytesOf e ∈ d.weights P t := by
        rw [hd]; simp [DataW.weights, ht]
      have := hw _ hmem
      have h2 : len * P.bytesOf e ≤ (len + (m - len)) * P.bytesOf e := Nat.mul_le_mul_right _ (by omega)
      omega
    have each : ∀ i, ∃ x : Int, i < len → ((-9223372036854775808 ≤ x ∧ x ≤ 9223372036854775807) ∧ W.cell? (a.add i) = some (.int .i64 x)) := fun i => by
      by_cases hil : i < len
      · obtain ⟨cs', g1, g2⟩ := hi i (by omega)
        rw [ce] at g1
        obtain ⟨_, hl3, hcell⟩ := World.cells?_some g1
        obtain ⟨n, rfl, _, z⟩ := DataW.trod_int he g2
        refine ⟨n, fun _ => ⟨i64_bd7 z, ?_⟩⟩
        have e := hcell 0 (by omega)
        rw [add_add] at e
        simpa using e
      · exact ⟨0, fun h => absurd h hil⟩
    obtain ⟨X, hX⟩ := Classical.axiomOfChoice each
    refine ⟨some a, m, (List.range len).map X, by simp, ?_, fun x hx => ?_, by simpa using hlen⟩
    · refine rd_of6 fun i u hu => ?_
      have hil : i < len := by have := (List.getElem?_eq_some_iff.1 hu).1; simpa using this
      have hu2 : u = .int .i64 (X i) := by
        have : (((List.range len).map X).map (Value.int .i64))[i]? = some (.int .i64 (X i)) := by simp [hil]
        rw [this] at hu
        exact (Option.some.inj hu).symm
      rw [hu2]
      exact (hX i hil).2
    · obtain ⟨i, hil, rfl⟩ := List.mem_map.1 hx
      exact (hX i (List.mem_range.1 hil)).1
end
end Go.Proofs.YtppajpchibkneaaGreatDoor
end

/-
No parser, and one that nobody made: the law as a walk.
-/
section
namespace Go.Proofs.YtppajpchibkneaaGreatDoor
open Go.RowKit

set_option maxRecDepth 100000 in
set_option maxHeartbeats 1000000 in
theorem hSame_c (m t : ByteArray) (i : Int) (fs : List Fld) (A B : Option Addr) (n k c d : Nat) (hn : fs.length = n) (hk : fs.length = k) (hb : n ≤ maxLen) (w : World) (h : Rd w A (fc fs)) (hB : Rd w B (fc fs)) :
    Calls Tryz.prog 15 #[.agg #[.string m, .string t, .int .i64 i, .slice A n c], .agg #[.string m, .string t, .int .i64 i, .slice B k d]] w (Gives (.bool true) w) := by
  have HA := Lib.hid h
  have HB := Lib.hid hB
  clear h hB
  have CF := Lib.hid (fun w h hB => hFields_c fs A B n c k d hn hk hb w h hB)
  clear hn hk hb
  go_enter Tryz.func15, Tryz.ntmps15
  go_wp2_with (go_at_call 18; refine (CF.out _ (HA.out.ext (by (repeat (first | exact Ext.rfl' _ | assumption | refine Ext.dr ?_ | refine Ext.drN ?_ _ | refine Ext.al ?_ _ | refine Ext.st ?_ (by simp) _ | refine Ext.tr ?_ (by assumption))))) (HB.out.ext (by (repeat (first | exact Ext.rfl' _ | assumption | refine Ext.dr ?_ | refine Ext.drN ?_ _ | refine Ext.al ?_ _ | refine Ext.st ?_ (by simp) _ | refine Ext.tr ?_ (by assumption)))))).mono ?_; rintro e w1 ⟨rfl, x1⟩)
  go_ret
  exact ⟨rfl, by (repeat (first | exact Ext.rfl' _ | assumption | refine Ext.dr ?_ | refine Ext.drN ?_ _ | refine Ext.al ?_ _ | refine Ext.st ?_ (by simp) _ | refine Ext.tr ?_ (by assumption)))⟩
end Go.Proofs.YtppajpchibkneaaGreatDoor
end

/-
Whatever comes as a head: the law as a walk.
-/
section
namespace Go.Proofs.YtppajpchibkneaaGreatDoor
open Go.RowKit

/-- A text without a byte that could end a line, or hide one. -/
def clnL (l : List UInt8) : Prop := ∀ j (h : j < l.length), l[j].toNat ≠ 0 ∧ l[j].toNat ≠ 10 ∧ l[j].toNat ≠ 13 ∧ l[j].toNat ≠ 127
theorem cln_val {l : List UInt8} (h : vlL l = true) : clnL l := by
  unfold vlL at h
  rw [Bool.and_eq_true, List.all_eq_true] at h
  intro j hj
  have := h.1 l[j] (List.getElem_mem hj)
  unfold valB at this
  simp at this
  omega
theorem cln_tg {l : List UInt8} (h : tgH l = true) : clnL l ∧ l ≠ [] := by
  unfold tgH at h
  rw [Bool.and_eq_true, List.all_eq_true] at h
  refine ⟨fun j hj => ?_, by simpa using h.2⟩
  have := h.1 l[j] (List.getElem_mem hj)
  unfold tgB at this
  simp at this
  omega
set_option maxRecDepth 100000 in
/-- A part of bytes: its value and what it reads as. -/
theorem cut_partH (b : List UInt8) (B : Option Addr) (n c X Y : Nat) (w : World) (hR : Rd w B (bc b)) (hX : X ≤ Y) (hY : Y ≤ b.length) (hc : b.length ≤ c) :
    ∃ B', (∀ w', (Instr.slice 25 (.slice B n c) (some (.int .i64 (X : Int))) (some (.int .i64 (Y : Int))) none).run Tryz.prog w' = .ok (.slice B' (Y - X) (c - X)) w') ∧ Rd w B' (bc ((b.take Y).drop X)) ∧ (∀ a', B' = some a' → ∃ a, B = some a ∧ a.block = a'.block) := by
  have hl : ((b.take Y).drop X).length = Y - X := by rw [List.length_drop, List.length_take]; omega
  have hz : ∀ w', (Go.sizeOf 5).run Tryz.prog w' = .ok 1 w' := fun _ => rfl
  have hu := Tryz.underlying25
  refine ⟨if c = X then B else B.map (·.add (X * 1)), fun w' => ?_, ?_, ?_⟩
  · have h1 : (0 : Int) ≤ (Y : Int) := by omega
    have h2 : (Y : Int) ≤ (c : Int) := by omega
    have h3 : (0 : Int) ≤ (X : Int) := by omega
    have h4 : (X : Int) ≤ (Y : Int) := by omega
    simp [Instr.slice, Instr.sliceBounds, Instr.sliceBound, asIntOf, run_underlying hu, go_sem, h1, h2, h3, h4, hz, hX, (show Y ≤ c by omega)]
  · by_cases h0 : X = Y
    · have h5 : (b.take Y).drop X = [] := List.eq_nil_of_length_eq_zero (by rw [hl]; omega)
      exact .inl (by rw [h5]; rfl)
    · rw [if_neg (by omega)]
      obtain ⟨g, f, rfl, hg, hcc⟩ := hR.at_ (by rw [bc_len]; omega)
      refine .inr ⟨g, f + X * 1, by simp [Addr.add], fun j u hu => ?_⟩
      have hj : j < Y - X := by have := (List.getElem?_eq_some_iff.1 hu).1; rw [bc_len, hl] at this; exact this
      rw [Nat.mul_one, Nat.add_assoc]
      refine hcc (X + j) u ?_
      rw [← hu, ← bc_drop, ← bc_take, List.getElem?_drop, List.getElem?_take_of_lt (by omega)]
  · intro a' ha
    split at ha
    · exact ⟨a', ha, rfl⟩
    · cases B with
      | none => cases ha
      | some a => cases ha; exact ⟨a, rfl, by cases a; simp only [Addr.add]; split <;> rfl⟩
end Go.Proofs.YtppajpchibkneaaGreatDoor
end

/-
In whatever pieces a head comes: plain laws.
-/
section
namespace Go.Proofs.YtppajpchibkneaaGreatDoor
open Go.RowKit

theorem feed_le (s : Pst) (l : List UInt8) : (feedP s l).2.1 ≤ l.length := by
  unfold feedP
  split
  · exact Nat.zero_le _
  · exact run_le l s
theorem run_ok : ∀ (l : List UInt8) (s : Pst), Pok s → (runP s l).2.2 = 0 → (runP s l).1.done = false → Pok (runP s l).1
  | [], s, h, _, _ => h
  | c :: l, s, h, h0, h1 => by
    rw [run_cons] at h0 h1 ⊢
    by_cases k1 : (takeP s c).2 ≠ 0
    · rw [if_pos k1] at h0; exact absurd h0 k1
    · rw [if_neg k1] at h0 h1 ⊢
      by_cases k2 : (takeP s c).1.done = true
      · rw [if_pos k2] at h1; exact absurd (k2.symm.trans h1) (by decide)
      · rw [if_neg k2] at h0 h1 ⊢
        exact run_ok l _ (take_ok h (by simpa using k1) (by simpa using k2)) h0 h1
theorem feed_go (s : Pst) (l : List UInt8) (h : Pgo s) : Pgo (feedP s l).1 := by
  unfold feedP
  split
  · exact h
  · rename_i hc
    dsimp only
    rcases h with h | h | h
    · exact absurd (.inl h) hc
    · exact absurd (.inr h) hc
    · by_cases h0 : (runP s l).2.2 = 0
      · rw [h0, pst_e ((run_e l s).trans h.e0)]
        by_cases h1 : (runP s l).1.done = true
        · exact .inl h1
        · exact .inr (.inr (run_ok l s h h0 (by simpa using h1)))
      · exact .inr (.inl h0)
theorem pc_le {s0 : Pst} {b : List UInt8} {m n : Nat} {s : Pst} {d : Bool} {e : Int} (h : PcAt s0 b m s n d e) : n ≤ b.length := by
  have h1 := feed_le s0 (b.take m)
  rw [← h.n_, List.length_take] at h1
  have := h.le
  omega
/-- How far the next piece goes. -/
def cutT (n m : Nat) (ct : Int) : Nat := min n (m + (ct % ((n : Int) + 1)).toNat)
theorem cutT_ok (n m : Nat) (ct : Int) (_hc : 0 ≤ ct) (hm : m ≤ n) : m ≤ cutT n m ct ∧ cutT n m ct ≤ n ∧ 0 ≤ ct % ((n : Int) + 1) ∧ ct % ((n : Int) + 1) ≤ (n : Int) ∧ min (n : Int) ((m : Int) + ct % ((n : Int) + 1)) = (cutT n m ct : Int) := by
  have h1 : 0 ≤ ct % ((n : Int) + 1) := Int.emod_nonneg _ (by omega)
  have h2 : ct % ((n : Int) + 1) < (n : Int) + 1 := Int.emod_lt_of_pos ct (by omega)
  unfold cutT
  refine ⟨by omega, by omega, h1, by omega, ?_⟩
  omega
end Go.Proofs.YtppajpchibkneaaGreatDoor
end
