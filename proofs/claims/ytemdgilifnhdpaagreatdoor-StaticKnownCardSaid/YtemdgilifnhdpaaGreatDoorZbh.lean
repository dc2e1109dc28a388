/-
How a walk that answers true and leaves at most new memory gives a law's row: for any program.
-/
import Derived.Test.YtemdgilifnhdpaaGreatDoorZac
import Derived.ProofKit
import Derived.OpenShut
import Derived.Deep.DeepHandedRow
import Derived.Deep.SlicePairs
import Derived.Lib.LaidTab
import Derived.SizedLaws
import Derived.Lib.SmallJoins
import Derived.WideKeyArgs
import Derived.SevenTiedAt
import Derived.Test.YtemdgilifnhdpaaGreatDoorZav
import Derived.Test.YtemdgilifnhdpaaGreatDoorZaf
set_option linter.unusedVariables false
set_option linter.unusedSimpArgs false
section
namespace Go.Proofs.YtemdgilifnhdpaaGreatDoor
open Go.RowKit Go.ChangeShapes Go.WideShapes Go.Joins Go.Deep

section
variable {H : Type} {enc : TypeId × Value → H} {P : Program}

theorem trodAll_stays (hl : laidOutB P = true) {W W' : World} (hx : Ext W W') {sp : Nat → Bool} : ∀ {ts : List TypeId} {vs : List Value} {ds : List (DataW H)} {ps : List MemPlace},
    (∀ t ∈ ts, P.readableRec t = true ∧ t < P.types.size) → DataW.TrodAll enc P W 0 (fun _ => true) true ts vs ds ps → (∀ p ∈ ps, p.block < W.heap.size) → (∀ p ∈ ps, sp p.block = true) →
    DataW.TrodAll enc P W' 0 sp true ts vs ds ps
  | [], [], [], ps, _, h, _, _ => h
  | t :: ts, v :: vs, d :: ds, ps, hr, h, hlt, hs => by
    obtain ⟨p, q, h1, h2, rfl⟩ := h
    refine ⟨p, q, WideElems.Trod_stays hl (hr t (by simp)).1 (hr t (by simp)).2 h1 (fun x hm => hx.same (hlt x (by simp [hm]))) (fun x hm => hs x (by simp [hm])), ?_, rfl⟩
    exact trodAll_stays hl hx (fun t ht => hr t (by simp [ht])) h2 (fun x hm => hlt x (by simp [hm])) (fun x hm => hs x (by simp [hm]))
  | [], _ :: _, _, _, _, h, _, _ => by cases h
  | [], [], _ :: _, _, _, h, _, _ => by cases h
  | _ :: _, [], _, _, _, h, _, _ => by cases h
  | _ :: _, _ :: _, [], _, _, h, _, _ => by cases h

theorem law_post {f : Func} {s : ChangeSpec} {apart fresh : Bool} {W W' : World} {args : Array Value} {ds gs : List (DataW H)} {before : List MemPlace} {tb : TypeId}
    (hrt : f.resultTypes = #[tb]) (hb4 : P.underlying tb = some .bool) (hl : laidOutB P = true) (hpar : ∀ t ∈ f.params.toList, P.readableRec t = true ∧ t < P.types.size) (hv : s.vars = [])
    (hW : DataW.Whole enc P f.params.toList s.vars apart W args.toList ds gs before)
    (hspec : (s.fn H (ds ++ gs)).results = [.lit (.bool true)] ∧ (s.fn H (ds ++ gs)).args = ds ∧ (s.fn H (ds ++ gs)).vars = []) (hx : Ext W W') :
    s.post enc P f apart fresh false false W args (.bool true) W' := by
  have hW' := hW
  have hlt : ∀ p ∈ before, p.block < W.heap.size := fun p hp => hW.lt p hp
  obtain ⟨p, q, hA, hV, rfl, hfz, hnd⟩ := hW
  rw [hv] at hV
  obtain ⟨rfl, rfl⟩ := trodVars_none hV
  obtain ⟨h1, h2, h3⟩ := hspec
  refine ⟨ds, [], p ++ [], [], p, [], hW', ?_, ?_, ?_, hx.frame _, fun h => by cases h⟩
  · rw [h1, hrt]
    exact trodAll_mk1 (shut_bool hb4 true)
  · rw [h2]
    exact trodAll_stays hl hx hpar hA (fun x hm => hlt x (by simp [hm])) (fun x hm => by have := hlt x (by simp [hm]); simpa using this)
  · rw [h3, hv]; rfl

theorem bd_i64 {n : Int} (h : (Lit.int .i64 n).wf = true) : -9223372036854775808 ≤ n ∧ n ≤ 9223372036854775807 := by
  simp only [Lit.wf, IntKind.min, IntKind.max, IntKind.signed, IntKind.bits, Bool.and_eq_true, decide_eq_true_eq, if_true] at h
  omega
end
end Go.Proofs.YtemdgilifnhdpaaGreatDoor
end

section
namespace Go.Proofs.YtemdgilifnhdpaaGreatDoor
open Go.RowKit Go.ChangeShapes Go.WideShapes Go.Deep Go.Joins

theorem spot_none2 {W : World} {a : Addr} {u : Value} (h : W.cell? a = some u) : a.spot = none := by
  unfold World.cell? at h
  cases hsp : a.spot with
  | none => rfl
  | some z => simp only [hsp, Option.isSome_some, if_true] at h; split at h <;> cases h
theorem rd_of2 {W : World} {a : Addr} {xs : List Value} (h : ∀ i u, xs[i]? = some u → W.cell? (a.add i) = some u) : Rd W (some a) xs := by
  by_cases h0 : xs = []
  · exact .inl h0
  · have hp := List.length_pos_iff.2 h0
    have h1 := h 0 xs[0] (List.getElem?_eq_getElem hp)
    have hs := spot_none2 h1
    obtain ⟨b, o, sp⟩ := a
    have hs : sp = none := by simpa [Addr.add] using hs
    subst hs
    exact .inr ⟨b, o, rfl, fun j u hj => by have := h j u hj; rw [add_mk] at this; exact this⟩
theorem u8_nat2 {n : Int} (h : (Lit.int .u8 n).wf = true) : ((UInt8.ofNat n.toNat).toNat : Int) = n := by
  simp only [Lit.wf, IntKind.min, IntKind.max, IntKind.signed, IntKind.bits, Bool.and_eq_true, decide_eq_true_eq] at h
  rw [UInt8.toNat_ofNat']
  simp at h
  omega
theorem i64_bd {n : Int} (h : (Lit.int .i64 n).wf = true) : -9223372036854775808 ≤ n ∧ n ≤ 9223372036854775807 := by
  simp only [Lit.wf, IntKind.min, IntKind.max, IntKind.signed, IntKind.bits, Bool.and_eq_true, decide_eq_true_eq, if_true] at h
  omega
theorem bc_u8L2 {zs : List Int} (h : ∀ n ∈ zs, (Lit.int .u8 n).wf = true) : bc (zs.map fun z => UInt8.ofNat z.toNat) = zs.map (.int .u8) := by
  unfold bc
  rw [List.map_map]
  exact List.map_congr_left fun n hn => by simp only [Function.comp]; rw [u8_nat2 (h n hn)]

section
variable {H : Type}
theorem weightsAll_mem (P : Program) (e : TypeId) : ∀ (l : List (DataW H)) (d : DataW H) (n : Nat), d ∈ l → n ∈ d.weights P e → n ∈ DataW.weightsAll P e l
  | [], _, _, h, _ => by cases h
  | x :: l, d, n, h, hn => by
    unfold DataW.weightsAll
    rcases List.mem_cons.1 h with rfl | h
    · exact List.mem_append.2 (.inl hn)
    · exact List.mem_append.2 (.inr (weightsAll_mem P e l d n h hn))

variable {enc : TypeId × Value → H} {P : Program} {W : World} {base : Nat}
theorem bytes_cells {t e : TypeId} {fuel : Nat} {v : Value} {y : DataW H × List MemPlace} (ht : P.underlying t = some (.slice e)) (he : P.underlying e = some (.int .u8)) (hc : P.cellsOf e = 1) (hb : P.bytesOf e = 1)
    (h : DataW.trod enc P W 0 (fun _ => true) true fuel t [v] = some y) (hw : ∀ n ∈ y.1.weights P t, n ≤ reachBytes) :
    ∃ B mm d, v = .slice B (List.length mm) d ∧ Rd W B (bc mm) ∧ mm.length ≤ reachBytes := by
  rcases open_ints ht he hc h with ⟨hcs, hx⟩ | ⟨a, len, cap, zs, hcs, _, hlc, hcm, hz, hx, hi, hwz⟩
  · simp only [List.cons.injEq, and_true] at hcs
    exact ⟨none, [], 0, hcs, .inl rfl, by simp⟩
  · simp only [List.cons.injEq, and_true] at hcs
    simp only [if_true] at hz
    have hl : (zs.take len).length = len := by rw [List.length_take]; omega
    refine ⟨some a, (zs.take len).map fun z => UInt8.ofNat z.toNat, cap, by rw [hcs, List.length_map, hl], ?_, ?_⟩
    · rw [bc_u8L2 (fun n hn => hwz n (List.mem_of_mem_take hn))]
      refine rd_of2 fun j u hu => ?_
      have hjl : j < len := by have := (List.getElem?_eq_some_iff.1 hu).1; rw [List.length_map, hl] at this; exact this
      rw [hi j (by omega)]
      rw [List.getElem?_map, List.getElem?_take_of_lt hjl, List.getElem?_eq_getElem (by omega)] at hu
      rw [← hu]
      simp [List.getD, List.getElem?_eq_getElem (show j < zs.length by omega)]
    · rw [List.length_map, hl]
      have := hw ((zs.take len).length + (zs.drop len).length) (by rw [hx]; simp [DataW.weights, ht, hb, lits])
      omega

theorem order_cells {e q : TypeId} {f0 f1 f2 f3 : Field} {fuel : Nat} {vs : List Value} {y : DataW H × List MemPlace} (he : P.underlying e = some (.struct #[f0, f1, f2, f3]))
    (o0 : f0.offset = 0) (o1 : f1.offset = 1) (o2 : f2.offset = 2) (o3 : f3.offset = 3) (c0 : P.cellsOf f0.type = 1) (c1 : P.cellsOf f1.type = 1) (c2 : P.cellsOf f2.type = 1) (c3 : P.cellsOf f3.type = 1)
    (u0 : P.underlying f0.type = some (.int .i64)) (u1 : P.underlying f1.type = some (.int .i64)) (u2 : P.underlying f2.type = some .string) (u3 : P.underlying f3.type = some (.slice q)) (uq : P.underlying q = some (.int .u8)) (cq : P.cellsOf q = 1) (bq : P.bytesOf q = 1)
    (hl : vs.length = 4) (g2 : DataW.trod enc P W 0 (fun _ => true) true fuel e vs = some y) (hw : ∀ n ∈ y.1.weights P e, n ≤ reachBytes) :
    ∃ x : OpW, vs = opW x ∧ OpOk W x := by
  obtain ⟨ys, k, hk, hxy, _, hxl, hfs⟩ := DataW.trod_struct he g2
  match ys, hxl, vs, hl with
  | [y0, y1, y2, y3], _, [v0, v1, v2, v3], _ =>
    have t0 := hfs 0 f0 rfl
    have t1 := hfs 1 f1 rfl
    have t2 := hfs 2 f2 rfl
    have t3 := hfs 3 f3 rfl
    simp [o0, o1, o2, o3, c0, c1, c2, c3] at t0 t1 t2 t3
    obtain ⟨k0, q0, _, _⟩ := DataW.trod_int u0 t0
    obtain ⟨n0, q1, _, w1⟩ := DataW.trod_int u1 t1
    obtain ⟨s, q2, hs2, hsl⟩ := DataW.trod_string u2 t2
    simp only [List.cons.injEq, and_true] at q0 q1 q2
    subst q0; subst q1; subst q2
    rw [hxy] at hw
    obtain ⟨B, mm, dd, rfl, hr, hml⟩ := bytes_cells u3 uq cq bq t3 (fun z hz => hw z (by
      simp only [DataW.weights, he, List.map_cons, List.map_nil, DataW.weightsEach]
      exact List.mem_append.2 (.inr (List.mem_append.2 (.inr (List.mem_append.2 (.inr (List.mem_append.2 (.inl hz)))))))))
    have hsz : s.data.toList.length ≤ reachBytes := hw _ (by
      simp only [DataW.weights, he, List.map_cons, List.map_nil, DataW.weightsEach]
      refine List.mem_append.2 (.inr (List.mem_append.2 (.inr (List.mem_append.2 (.inl ?_)))))
      rw [hs2]; simp [DataW.weights])
    exact ⟨⟨k0, n0, s.data.toList, B, dd, mm⟩, by simp [opW], hr, by unfold reachBytes at hml; exact (by omega), i64_bd w1, by unfold reachBytes at hsz; exact (by omega)⟩
theorem open_opsW {t e q : TypeId} {f0 f1 f2 f3 : Field} {v : Value} {d : DataW H} {p : List MemPlace} (ht : P.underlying t = some (.slice e)) (he : P.underlying e = some (.struct #[f0, f1, f2, f3])) (ce : P.cellsOf e = 4)
    (o0 : f0.offset = 0) (o1 : f1.offset = 1) (o2 : f2.offset = 2) (o3 : f3.offset = 3) (c0 : P.cellsOf f0.type = 1) (c1 : P.cellsOf f1.type = 1) (c2 : P.cellsOf f2.type = 1) (c3 : P.cellsOf f3.type = 1)
    (u0 : P.underlying f0.type = some (.int .i64)) (u1 : P.underlying f1.type = some (.int .i64)) (u2 : P.underlying f2.type = some .string) (u3 : P.underlying f3.type = some (.slice q)) (uq : P.underlying q = some (.int .u8)) (cq : P.cellsOf q = 1) (bq : P.bytesOf q = 1) (be : 1 ≤ P.bytesOf e)
    (hval : Value.okWide P W .any base t v) (h : DataW.Trod enc P W 0 (fun _ => true) true t v d p) (hw : ∀ n ∈ d.weights P t, n ≤ reachBytes) :
    ∃ A c xs, v = .slice A (List.length xs) c ∧ RdOpW W A xs ∧ xs.length ≤ reachBytes := by
  obtain ⟨a0, len, cap, rfl⟩ := okWide_slice ht hval
  obtain ⟨fuel, hf⟩ := h
  rcases open_slice ht hf with ⟨hcs, hx⟩ | ⟨a, len', cap', m, n, D, Pl, hcs, _, hlc, hcm, hm, hx, hi⟩
  · simp only [Value.cells, List.cons.injEq, and_true] at hcs
    injection hcs with h1 h2 h3
    subst h1; subst h2; subst h3
    exact ⟨none, 0, [], rfl, ⟨.inl rfl, fun x hx => by cases hx⟩, by simp⟩
  · simp only [Value.cells, List.cons.injEq, and_true] at hcs
    injection hcs with h1 h2 h3
    subst h1; subst h2; subst h3
    simp only [if_true] at hm
    subst hm
    have hd := (Prod.mk.inj hx).1
    have hlen : len ≤ reachBytes := by
      have hmem : (len + (m - len)) * P.bytesOf e ∈ d.weights P t := by
        rw [hd]; simp [DataW.weights, ht]
      have := hw _ hmem
      have h2 : len + (m - len) ≤ (len + (m - len)) * P.bytesOf e := Nat.le_mul_of_pos_right _ be
      omega
    have each : ∀ i, ∃ x : OpW, i < len → ((∀ j u, (opW x)[j]? = some u → W.cell? (a.add (i * 4 + j)) = some u) ∧ OpOk W x) := fun i => by
      by_cases hil : i < len
      · obtain ⟨cs', g1, g2⟩ := hi i (by omega)
        rw [ce] at g1
        obtain ⟨_, hl4, hcell⟩ := World.cells?_some g1
        obtain ⟨x, rfl, hok⟩ := order_cells he o0 o1 o2 o3 c0 c1 c2 c3 u0 u1 u2 u3 uq cq bq hl4 g2 (fun z hz => hw z (by
          rw [hd]
          simp only [DataW.weights, ht]
          exact List.mem_cons_of_mem _ (List.mem_append.2 (.inl (weightsAll_mem P e _ (D i) z (List.mem_map.2 ⟨i, List.mem_range.2 hil, rfl⟩) hz)))))
        refine ⟨x, fun _ => ⟨fun j u hu => ?_, hok⟩⟩
        have hj : j < 4 := (List.getElem?_eq_some_iff.1 hu).1
        have e0 := hcell j hj
        rw [add_add, hu] at e0
        exact e0
      · exact ⟨⟨0, 0, [], none, 0, []⟩, fun h => absurd h hil⟩
    obtain ⟨X, hX⟩ := Classical.axiomOfChoice each
    refine ⟨some a, m, (List.range len).map X, by simp, ⟨rd_of2 fun j u hu => ?_, fun x hx => ?_⟩, by simpa using hlen⟩
    · have hjl : j < len * 4 := by have := (List.getElem?_eq_some_iff.1 hu).1; rw [opsW_len] at this; simpa using this
      have hk3 : j / 4 < len := by omega
      have hat := opsW_at ((List.range len).map X) (j / 4) (j % 4) (by omega)
      rw [show j / 4 * 4 + j % 4 = j from by omega, hu] at hat
      simp [hk3] at hat
      have := (hX (j / 4) hk3).1 (j % 4) u hat.symm
      rw [show j / 4 * 4 + j % 4 = j from by omega] at this
      exact this
    · obtain ⟨i, hil, rfl⟩ := List.mem_map.1 hx
      exact (hX i (List.mem_range.1 hil)).2
end
end Go.Proofs.YtemdgilifnhdpaaGreatDoor
end

section
namespace Go.Proofs.YtemdgilifnhdpaaGreatDoor
open Go.RowKit Go.ChangeShapes Go.WideShapes Go.Deep Go.Joins

theorem spot_none6 {W : World} {a : Addr} {u : Value} (h : W.cell? a = some u) : a.spot = none := by
  unfold World.cell? at h
  cases hsp : a.spot with
  | none => rfl
  | some z => simp only [hsp, Option.isSome_some, if_true] at h; split at h <;> cases h
theorem rd_of6 {W : World} {a : Addr} {xs : List Value} (h : ∀ i u, xs[i]? = some u → W.cell? (a.add i) = some u) : Rd W (some a) xs := by
  cases xs with
  | nil => exact .inl rfl
  | cons x xs =>
    have h1 := h 0 x rfl
    have hs := spot_none6 h1
    obtain ⟨b, f, sp⟩ := a
    have hs : sp = none := by simpa [Addr.add] using hs
    subst hs
    exact .inr ⟨b, f, rfl, fun i u hu => by have := h i u hu; rwa [add_mk] at this⟩
section
variable {H : Type} {enc : TypeId × Value → H} {P : Program} {W : World} {base : Nat}
end
theorem u8_nat7 {n : Int} (h : (Lit.int .u8 n).wf = true) : ((UInt8.ofNat n.toNat).toNat : Int) = n := by
  simp only [Lit.wf, IntKind.min, IntKind.max, IntKind.signed, IntKind.bits, Bool.and_eq_true, decide_eq_true_eq] at h
  rw [UInt8.toNat_ofNat']
  simp at h
  omega
section
variable {H : Type} {enc : TypeId × Value → H} {P : Program} {W : World} {base : Nat}
theorem open_bytes7 {t e : TypeId} {v : Value} {d : DataW H} {p : List MemPlace} (ht : P.underlying t = some (.slice e)) (he : P.underlying e = some (.int .u8)) (ce : P.cellsOf e = 1)
    (hval : Value.okWide P W .any base t v) (h : DataW.Trod enc P W 0 (fun _ => true) true t v d p) (hw : ∀ n ∈ d.weights P t, n ≤ reachBytes) :
    ∃ A c xs, v = .slice A (List.length xs) c ∧ Rd W A (bc xs) ∧ List.length xs ≤ c ∧ xs.length * P.bytesOf e ≤ reachBytes := by
  obtain ⟨a0, len, cap, rfl⟩ := okWide_slice ht hval
  obtain ⟨fuel, hf⟩ := h
  rcases open_slice ht hf with ⟨hcs, hx⟩ | ⟨a, len', cap', m, n, D, Pl, hcs, _, hlc, hcm, hm, hx, hi⟩
  · simp only [Value.cells, List.cons.injEq, and_true] at hcs
    injection hcs with h1 h2 h3
    subst h1; subst h2; subst h3
    exact ⟨none, 0, [], rfl, .inl rfl, Nat.le_refl _, by simp⟩
  · simp only [Value.cells, List.cons.injEq, and_true] at hcs
    injection hcs with h1 h2 h3
    subst h1; subst h2; subst h3
    simp only [if_true] at hm
    subst hm
    have hd := (Prod.mk.inj hx).1
    have hlen : len * P.bytesOf e ≤ reachBytes := by
      have hmem : (len + (m - len)) * P.bytesOf e ∈ d.weights P t := by
        rw [hd]; simp [DataW.weights, ht]
      have := hw _ hmem
      have h2 : len * P.bytesOf e ≤ (len + (m - len)) * P.bytesOf e := Nat.mul_le_mul_right _ (by omega)
      omega
    have each : ∀ i, ∃ x : UInt8, i < len → W.cell? (a.add i) = some (.int .u8 (x.toNat : Int)) := fun i => by
      by_cases hil : i < len
      · obtain ⟨cs', g1, g2⟩ := hi i (by omega)
        rw [ce] at g1
        obtain ⟨_, hl3, hcell⟩ := World.cells?_some g1
        obtain ⟨n, rfl, _, z⟩ := DataW.trod_int he g2
        refine ⟨UInt8.ofNat n.toNat, fun _ => ?_⟩
        rw [u8_nat7 z]
        have e := hcell 0 (by omega)
        rw [add_add] at e
        simpa using e
      · exact ⟨0, fun h => absurd h hil⟩
    obtain ⟨X, hX⟩ := Classical.axiomOfChoice each
    refine ⟨some a, m, (List.range len).map X, by simp, ?_, by simpa using hlc, by simpa using hlen⟩
    · refine rd_of6 fun i u hu => ?_
      have hil : i < len := by have := (List.getElem?_eq_some_iff.1 hu).1; simpa [bc] using this
      have hu2 : u = .int .u8 ((X i).toNat : Int) := by
        have : (bc ((List.range len).map X))[i]? = some (.int .u8 ((X i).toNat : Int)) := by simp [bc, hil]
        rw [this] at hu
        exact (Option.some.inj hu).symm
      rw [hu2]
      exact hX i hil
end
end Go.Proofs.YtemdgilifnhdpaaGreatDoor
end
