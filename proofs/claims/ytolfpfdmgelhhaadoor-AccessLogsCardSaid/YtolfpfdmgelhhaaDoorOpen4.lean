/-
An argument of a row that is a slice of entries, read as a list.
-/
import Derived.Test.YtolfpfdmgelhhaaDoorOpen3
import Derived.Test.YtolfpfdmgelhhaaDoorALg
import Derived.Deep.SlicePairs
set_option linter.unusedVariables false
set_option linter.unusedSimpArgs false
namespace Go.Proofs.YtolfpfdmgelhhaaDoor
open Go.RowKit Go.ChangeShapes Go.WideShapes Go.Deep Go.Joins

theorem spot_none4 {W : World} {a : Addr} {u : Value} (h : W.cell? a = some u) : a.spot = none := by
  unfold World.cell? at h
  cases hsp : a.spot with
  | none => rfl
  | some z => simp only [hsp, Option.isSome_some, if_true] at h; split at h <;> cases h
section
variable {H : Type} {enc : TypeId × Value → H} {P : Program} {W : World} {base : Nat}
theorem open_entries {t e : TypeId} {f0 f1 f2 f3 f4 f5 f6 f7 : Field} {v : Value} {d : DataW H} {p : List MemPlace} (ht : P.underlying t = some (.slice e)) (he : P.underlying e = some (.struct #[f0, f1, f2, f3, f4, f5, f6, f7])) (ce : P.cellsOf e = 8)
    (o : f0.offset = 0 ∧ f1.offset = 1 ∧ f2.offset = 2 ∧ f3.offset = 3 ∧ f4.offset = 4 ∧ f5.offset = 5 ∧ f6.offset = 6 ∧ f7.offset = 7)
    (c : P.cellsOf f0.type = 1 ∧ P.cellsOf f1.type = 1 ∧ P.cellsOf f2.type = 1 ∧ P.cellsOf f3.type = 1 ∧ P.cellsOf f4.type = 1 ∧ P.cellsOf f5.type = 1 ∧ P.cellsOf f6.type = 1 ∧ P.cellsOf f7.type = 1)
    (u0 : P.underlying f0.type = some (.int .i64)) (u1 : P.underlying f1.type = some .string) (u2 : P.underlying f2.type = some .string) (u3 : P.underlying f3.type = some .string) (u4 : P.underlying f4.type = some .string) (u5 : P.underlying f5.type = some (.int .i64)) (u6 : P.underlying f6.type = some (.int .i64)) (u7 : P.underlying f7.type = some .string)
    (hval : Value.okWide P W .any base t v) (h : DataW.Trod enc P W 0 (fun _ => true) true t v d p) (hw : ∀ n ∈ d.weights P t, n ≤ reachBytes) :
    ∃ A c xs, v = .slice A (List.length xs) c ∧ RdE W A xs ∧ xs.length * P.bytesOf e ≤ reachBytes := by
  obtain ⟨a0, len, cap, rfl⟩ := okWide_slice ht hval
  obtain ⟨fuel, hf⟩ := h
  rcases open_slice ht hf with ⟨hcs, hx⟩ | ⟨a, len', cap', m, n, D, Pl, hcs, _, hlc, hcm, hm, hx, hi⟩
  · simp only [Value.cells, List.cons.injEq, and_true] at hcs
    injection hcs with h1 h2 h3
    subst h1; subst h2; subst h3
    exact ⟨none, 0, [], rfl, ⟨fun x hx => (by cases hx), Or.inl rfl⟩, by simp⟩
  · simp only [Value.cells, List.cons.injEq, and_true] at hcs
    injection hcs with h1 h2 h3
    subst h1; subst h2; subst h3
    simp only [if_true] at hm
    subst hm
    have hd := (Prod.mk.inj hx).1
    have hlen : len * P.bytesOf e ≤ reachBytes := by
      have hmem : (len + (m - len)) * P.bytesOf e ∈ d.weights P t := by
        rw [hd]; simp [DataW.weights, ht]
      have := hw _ hmem
      have h2 : len * P.bytesOf e ≤ (len + (m - len)) * P.bytesOf e := Nat.mul_le_mul_right _ (by omega)
      omega
    have each : ∀ i, ∃ x : Ent, i < len → (x.wf ∧ ∀ j u, x.cells[j]? = some u → W.cell? (a.add (i * 8 + j)) = some u) := fun i => by
      by_cases hil : i < len
      · obtain ⟨cs', g1, g2⟩ := hi i (by omega)
        rw [ce] at g1
        obtain ⟨_, hl3, hcell⟩ := World.cells?_some g1
        obtain ⟨x, rfl, hwf⟩ := entry_cells he ce o c u0 u1 u2 u3 u4 u5 u6 u7 g2
        refine ⟨x, fun _ => ⟨hwf, fun j u hu => ?_⟩⟩
        have hj : j < 8 := (Array.getElem?_eq_some_iff.1 hu).1
        have e := hcell j hj
        rw [add_add] at e
        rw [e, Array.getElem?_toList]
        exact hu
      · exact ⟨⟨0, [], [], [], [], 0, 0, []⟩, fun h => absurd h hil⟩
    obtain ⟨X, hX⟩ := Classical.axiomOfChoice each
    refine ⟨some a, m, (List.range len).map X, by simp, ⟨fun x hx => ?_, ?_⟩, by simpa using hlen⟩
    · obtain ⟨i, hil, rfl⟩ := List.mem_map.1 hx
      exact (hX i (List.mem_range.1 hil)).1
    · rcases Nat.eq_zero_or_pos len with h0 | h0
      · left; subst h0; rfl
      · right
        have h1 := (hX 0 h0).2 0 _ rfl
        have hs := spot_none4 h1
        obtain ⟨b, f, sp⟩ := a
        have hs : sp = none := by simpa [Addr.add] using hs
        subst hs
        refine ⟨b, f, rfl, fun i hi j u hu => ?_⟩
        have hil : i < len := by simpa using hi
        have h2 := (hX i hil).2 j u (by simpa using hu)
        rw [add_mk] at h2
        rw [Nat.add_assoc]; exact h2
end
end Go.Proofs.YtolfpfdmgelhhaaDoor
