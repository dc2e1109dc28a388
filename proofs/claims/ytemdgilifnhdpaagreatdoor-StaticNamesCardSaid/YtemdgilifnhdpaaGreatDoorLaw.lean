/-
How a walk that answers true and leaves at most new memory gives a law's row: for any program.
-/
import Derived.Test.YtemdgilifnhdpaaGreatDoorBytes
import Derived.ProofKit
import Derived.OpenShut
import Derived.Deep.DeepHandedRow
import Derived.Deep.SlicePairs
import Derived.Lib.LaidTab
import Derived.SizedLaws
import Derived.Lib.SmallJoins
import Derived.WideKeyArgs
import Derived.SevenTiedAt
set_option linter.unusedVariables false
set_option linter.unusedSimpArgs false
namespace Go.Proofs.YtemdgilifnhdpaaGreatDoor
open Go.RowKit Go.ChangeShapes Go.WideShapes Go.Joins Go.Deep

section
variable {H : Type} {enc : TypeId × Value → H} {P : Program}

theorem trodAll_stays (hl : laidOutB P = true) {W W' : World} (hx : Ext W W') {sp : Nat → Bool} : ∀ {ts : List TypeId} {vs : List Value} {ds : List (DataW H)} {ps : List MemPlace},
    (∀ t ∈ ts, P.readableRec t = true ∧ t < P.types.size) → DataW.TrodAll enc P W 0 (fun _ => true) true ts vs ds ps → (∀ p ∈ ps, p.block < W.heap.size) → (∀ p ∈ ps, sp p.block = true) →
    DataW.TrodAll enc P W' 0 sp true ts vs ds ps
  | [], [], [], ps, _, h, _, _ => h
  | t :: ts, v :: vs, d :: ds, ps, hr, h, hlt, hs => by
    obtain ⟨p, q, h1, h2, rfl⟩ := h
    refine ⟨p, q, WideElems.Trod_stays hl (hr t (by simp)).1 (hr t (by simp)).2 h1 (fun x hm => hx.same (hlt x (by simp [hm]))) (fun x hm => hs x (by simp [hm])), ?_, rfl⟩
    exact trodAll_stays hl hx (fun t ht => hr t (by simp [ht])) h2 (fun x hm => hlt x (by simp [hm])) (fun x hm => hs x (by simp [hm]))
  | [], _ :: _, _, _, _, h, _, _ => by cases h
  | [], [], _ :: _, _, _, h, _, _ => by cases h
  | _ :: _, [], _, _, _, h, _, _ => by cases h
  | _ :: _, _ :: _, [], _, _, h, _, _ => by cases h

/-- The row's step: the law answered true, nothing that was there has turned. -/
theorem law_post {f : Func} {s : ChangeSpec} {apart fresh : Bool} {W W' : World} {args : Array Value} {ds gs : List (DataW H)} {before : List MemPlace} {tb : TypeId}
    (hrt : f.resultTypes = #[tb]) (hb4 : P.underlying tb = some .bool) (hl : laidOutB P = true) (hpar : ∀ t ∈ f.params.toList, P.readableRec t = true ∧ t < P.types.size) (hv : s.vars = [])
    (hW : DataW.Whole enc P f.params.toList s.vars apart W args.toList ds gs before)
    (hspec : (s.fn H (ds ++ gs)).results = [.lit (.bool true)] ∧ (s.fn H (ds ++ gs)).args = ds ∧ (s.fn H (ds ++ gs)).vars = []) (hx : Ext W W') :
    s.post enc P f apart fresh false false W args (.bool true) W' := by
  have hW' := hW
  have hlt : ∀ p ∈ before, p.block < W.heap.size := fun p hp => hW.lt p hp
  obtain ⟨p, q, hA, hV, rfl, hfz, hnd⟩ := hW
  rw [hv] at hV
  obtain ⟨rfl, rfl⟩ := trodVars_none hV
  obtain ⟨h1, h2, h3⟩ := hspec
  refine ⟨ds, [], p ++ [], [], p, [], hW', ?_, ?_, ?_, hx.frame _, fun h => by cases h⟩
  · rw [h1, hrt]
    exact trodAll_mk1 (shut_bool hb4 true)
  · rw [h2]
    exact trodAll_stays hl hx hpar hA (fun x hm => hlt x (by simp [hm])) (fun x hm => by have := hlt x (by simp [hm]); simpa using this)
  · rw [h3, hv]; rfl

/-- An argument that is a slice of pairs of ints. -/
theorem open_pairs {W : World} {base : Nat} {t e : TypeId} {f0 f1 : Field} {v : Value} {d : DataW H} {p : List MemPlace} (ht : P.underlying t = some (.slice e)) (he : P.underlying e = some (.struct #[f0, f1]))
    (ce : P.cellsOf e = 2) (o0 : f0.offset = 0) (o1 : f1.offset = 1) (c0 : P.cellsOf f0.type = 1) (c1 : P.cellsOf f1.type = 1) (u0 : P.underlying f0.type = some (.int .i64)) (u1 : P.underlying f1.type = some (.int .i64))
    (hval : Value.okWide P W .any base t v) (h : DataW.Trod enc P W 0 (fun _ => true) true t v d p) :
    ∃ A n c ps, v = .slice A n c ∧ ps.length = n ∧ Rd W A (pc ps) ∧ c ≤ maxLen ∧ n ≤ c ∧
      (∀ q ∈ ps, (-9223372036854775808 ≤ q.1 ∧ q.1 ≤ 9223372036854775807) ∧ (-9223372036854775808 ≤ q.2 ∧ q.2 ≤ 9223372036854775807)) ∧
      (n = 0 ∨ ∃ es sp, d = .slice es sp ∧ es.length = n) := by
  obtain ⟨a0, len, cap, rfl⟩ := okWide_slice ht hval
  obtain ⟨fuel, hf⟩ := h
  rcases open_slice_pairs ht he ce o0 o1 c0 c1 hf with ⟨hcs, hx⟩ | ⟨a, len', cap', m, n, V0, V1, D0, D1, P0, P1, hcs, _, hlc, hcm, hm, hx, hi⟩
  · simp only [Value.cells, List.cons.injEq, and_true] at hcs
    injection hcs with h1 h2 h3
    subst h1; subst h2; subst h3
    exact ⟨none, 0, 0, [], rfl, rfl, .inl rfl, by simp [maxLen], Nat.le_refl _, (fun q hq => by cases hq), .inl rfl⟩
  · simp only [Value.cells, List.cons.injEq, and_true] at hcs
    injection hcs with h1 h2 h3
    subst h1; subst h2; subst h3
    simp only [if_true] at hm
    subst hm
    have key : ∀ i, i < m → ∃ q : Int × Int, W.cell? (a.add (i * 2)) = some (.int .i64 q.1) ∧ W.cell? (a.add (i * 2 + 1)) = some (.int .i64 q.2) ∧ (Lit.int .i64 q.1).wf = true ∧ (Lit.int .i64 q.2).wf = true := by
      intro i him
      obtain ⟨g0, g1, t0, t1⟩ := hi i him
      obtain ⟨x, e0, _, w0⟩ := DataW.trod_int u0 t0
      obtain ⟨y, e1, _, w1⟩ := DataW.trod_int u1 t1
      simp only [List.cons.injEq, and_true] at e0 e1
      exact ⟨(x, y), by rw [g0, e0], by rw [g1, e1], w0, w1⟩
    have ch : ∀ i, ∃ q : Int × Int, i < m → (W.cell? (a.add (i * 2)) = some (.int .i64 q.1) ∧ W.cell? (a.add (i * 2 + 1)) = some (.int .i64 q.2) ∧ (Lit.int .i64 q.1).wf = true ∧ (Lit.int .i64 q.2).wf = true) := fun i => by
      by_cases him : i < m
      · obtain ⟨q, hq⟩ := key i him; exact ⟨q, fun _ => hq⟩
      · exact ⟨(0, 0), fun h => absurd h him⟩
    obtain ⟨Q, hQ⟩ := Classical.axiomOfChoice ch
    refine ⟨some a, len, m, (List.range len).map Q, rfl, by simp, ?_, hcm, hlc, ?_, .inr ⟨_, _, (Prod.mk.inj hx).1, by simp⟩⟩
    · by_cases h0 : len = 0
      · subst h0; exact .inl rfl
      · have hs : a.spot = none := by
          have := (hQ 0 (by omega)).1
          unfold World.cell? at this
          cases hsp : a.spot with
          | none => rfl
          | some z =>
            rw [show a.add (0 * 2) = a from rfl] at this
            simp only [hsp, Option.isSome_some, if_true] at this
            split at this <;> cases this
        obtain ⟨b, o, sp⟩ := a
        simp only at hs
        subst hs
        refine .inr ⟨b, o, rfl, fun j u hj => ?_⟩
        have hjl : j < len * 2 := by
          have := (List.getElem?_eq_some_iff.1 hj).1
          rw [pc_len] at this; simpa using this
        rcases Nat.mod_two_eq_zero_or_one j with h2 | h2
        · obtain ⟨k, rfl⟩ : ∃ k, j = k * 2 := ⟨j / 2, by omega⟩
          rw [pc_at0] at hj
          have hk : k < len := by omega
          simp [hk] at hj
          have := (hQ k (by omega)).1
          rw [add_mk] at this
          rw [this, ← hj]
        · obtain ⟨k, rfl⟩ : ∃ k, j = k * 2 + 1 := ⟨j / 2, by omega⟩
          rw [pc_at1] at hj
          have hk : k < len := by omega
          simp [hk] at hj
          have := (hQ k (by omega)).2.1
          rw [add_mk] at this
          rw [this, ← hj]
    · intro q hq
      simp only [List.mem_map, List.mem_range] at hq
      obtain ⟨k, hk, rfl⟩ := hq
      obtain ⟨_, _, w0, w1⟩ := hQ k (by omega)
      simp only [Lit.wf, IntKind.min, IntKind.max, IntKind.signed, IntKind.bits, Bool.and_eq_true, decide_eq_true_eq, if_true] at w0 w1
      omega
theorem bd_i64 {n : Int} (h : (Lit.int .i64 n).wf = true) : -9223372036854775808 ≤ n ∧ n ≤ 9223372036854775807 := by
  simp only [Lit.wf, IntKind.min, IntKind.max, IntKind.signed, IntKind.bits, Bool.and_eq_true, decide_eq_true_eq, if_true] at h
  omega
end
end Go.Proofs.YtemdgilifnhdpaaGreatDoor
