/-
Arguments of a row that are slices of bytes, of ints, of slices of bytes: read as lists; and how much they weigh.
-/
import Derived.Test.YteklakibcboepaaDoorRows
import Derived.Test.YteklakibcboepaaDoorQue3
import Derived.Deep.Matrix
set_option linter.unusedVariables false
set_option linter.unusedSimpArgs false
namespace Go.Proofs.YteklakibcboepaaDoor
open Go.RowKit Go.ChangeShapes Go.WideShapes Go.Deep

theorem spot_none {W : World} {a : Addr} {u : Value} (h : W.cell? a = some u) : a.spot = none := by
  unfold World.cell? at h
  cases hsp : a.spot with
  | none => rfl
  | some z => simp only [hsp, Option.isSome_some, if_true] at h; split at h <;> cases h
theorem rd_of {W : World} {a : Addr} {xs : List Value} (h : ∀ i u, xs[i]? = some u → W.cell? (a.add i) = some u) : Rd W (some a) xs := by
  by_cases h0 : xs = []
  · exact .inl h0
  · have hp := List.length_pos_iff.2 h0
    have h1 := h 0 xs[0] (List.getElem?_eq_getElem hp)
    have hs := spot_none h1
    obtain ⟨b, o, sp⟩ := a
    have hs : sp = none := by simpa [Addr.add] using hs
    subst hs
    exact .inr ⟨b, o, rfl, fun j u hj => by have := h j u hj; rw [add_mk] at this; exact this⟩
theorem u8_nat {n : Int} (h : (Lit.int .u8 n).wf = true) : ((UInt8.ofNat n.toNat).toNat : Int) = n := by
  simp only [Lit.wf, IntKind.min, IntKind.max, IntKind.signed, IntKind.bits, Bool.and_eq_true, decide_eq_true_eq] at h
  rw [UInt8.toNat_ofNat']
  simp at h
  omega
/-- The bytes of a list of numbers. -/
def u8L (zs : List Int) : List UInt8 := zs.map fun z => UInt8.ofNat z.toNat
theorem u8L_len (zs : List Int) : (u8L zs).length = zs.length := by simp [u8L]
theorem bc_u8L {zs : List Int} (h : ∀ n ∈ zs, (Lit.int .u8 n).wf = true) : bc (u8L zs) = zs.map (.int .u8) := by
  unfold bc u8L
  rw [List.map_map]
  exact List.map_congr_left fun n hn => by simp only [Function.comp]; rw [u8_nat (h n hn)]

section
variable {H : Type}
theorem bulk_lits (k : IntKind) : ∀ zs : List Int, Rows.uptoBulkAll (lits (H := H) k zs) = zs.length
  | [] => by simp [lits, Rows.uptoBulkAll]
  | z :: zs => by
    have := bulk_lits k zs
    simp only [lits, List.map_cons, Rows.uptoBulkAll, Rows.uptoBulk, List.length_cons] at *
    omega
theorem bulk_row (k : IntKind) (A : Option Addr) (L : Nat) (zs : List Int) (hl : L ≤ zs.length) (ha : A = none → L = 0) : L + 1 ≤ Rows.uptoBulk (intRow (H := H) k A L zs) := by
  cases A with
  | none => rw [ha rfl]; simp [intRow, Rows.uptoBulk]
  | some a =>
    simp only [intRow, Rows.uptoBulk, bulk_lits, List.length_take]
    omega
theorem bulk_map (g : Nat → DataW H) (f : Nat → Nat) : ∀ l : List Nat, (∀ r ∈ l, f r ≤ Rows.uptoBulk (g r)) → (l.map f).sum ≤ Rows.uptoBulkAll (l.map g)
  | [], _ => by simp
  | r :: l, h => by
    have h1 := h r (by simp)
    have h2 := bulk_map g f l (fun r hr => h r (by simp [hr]))
    simp only [List.map_cons, List.sum_cons, Rows.uptoBulkAll]
    omega
theorem bulk_cons (d : DataW H) (l : List (DataW H)) : Rows.uptoBulkAll (d :: l) = Rows.uptoBulk d + Rows.uptoBulkAll l := by simp [Rows.uptoBulkAll]
theorem bulk_nil : Rows.uptoBulkAll ([] : List (DataW H)) = 0 := by simp [Rows.uptoBulkAll]

variable {enc : TypeId × Value → H} {P : Program} {W : World} {base : Nat}
/-- An argument that is a slice of slices of bytes. -/
theorem open_rowsB {t e q : TypeId} {v : Value} {d : DataW H} {p : List MemPlace} (ht : P.underlying t = some (.slice e)) (he : P.underlying e = some (.slice q)) (hq : P.underlying q = some (.int .u8))
    (ce : P.cellsOf e = 1) (cq : P.cellsOf q = 1) (hval : Value.okWide P W .any base t v) (h : DataW.Trod enc P W 0 (fun _ => true) true t v d p) :
    ∃ A c ps, v = .slice A ps.length c ∧ RdBB W A ps ∧ totS ps + ps.length ≤ Rows.uptoBulk d := by
  obtain ⟨a0, len, cap, rfl⟩ := okWide_slice ht hval
  obtain ⟨fuel, hf⟩ := h
  rcases open_int_rows ht he hq ce cq hf with ⟨hcs, hx⟩ | ⟨a, len', cap', A, L, C, Z, hcs, _, hlc, hcm, hx, hi⟩
  · simp only [Value.cells, List.cons.injEq, and_true] at hcs
    injection hcs with h1 h2 h3
    subst h1; subst h2; subst h3
    exact ⟨none, 0, [], rfl, ⟨[], .inl rfl, rfl, fun i h => by simp at h⟩, by simp [totS]⟩
  · simp only [Value.cells, List.cons.injEq, and_true] at hcs
    injection hcs with h1 h2 h3
    subst h1; subst h2; subst h3
    have hlen : ∀ r, r < len → (u8L ((Z r).take (L r))).length = L r := fun r hr => by
      obtain ⟨_, g1, _, g3, _⟩ := hi r (by omega)
      rw [u8L_len, List.length_take]; omega
    refine ⟨some a, cap, (List.range len).map fun r => u8L ((Z r).take (L r)), by simp, ⟨(List.range len).map fun r => .slice (A r) (L r) (C r), rd_of fun i u hu => ?_, by simp, fun i hl => ?_⟩, ?_⟩
    · have hil : i < len := by have := (List.getElem?_eq_some_iff.1 hu).1; simpa using this
      simp [hil] at hu
      rw [← hu]; exact (hi i (by omega)).1
    · have hil : i < len := by simpa using hl
      obtain ⟨g0, g1, g2, g3, g4, g5, g6⟩ := hi i (by omega)
      refine ⟨A i, C i, ?_, ?_⟩
      · simp only [List.getElem_map, List.getElem_range, List.getElem?_map, List.getElem?_range hil, Option.map_some, hlen i hil]
      · simp only [List.getElem_map, List.getElem_range]
        have hw : ∀ n ∈ (Z i).take (L i), (Lit.int .u8 n).wf = true := fun n hn => g4 n (List.mem_of_mem_take hn)
        rw [bc_u8L hw]
        cases hA : A i with
        | none =>
          have h0 := g5 hA
          rw [show L i = 0 from by omega]
          exact .inl (by simp)
        | some a' =>
          refine rd_of fun j u hu => ?_
          have hjl : j < L i := by have := (List.getElem?_eq_some_iff.1 hu).1; simp at this; omega
          have := (g6 a' hA).2 j (by omega)
          rw [this]
          rw [List.getElem?_map, List.getElem?_take_of_lt hjl, List.getElem?_eq_getElem (by omega)] at hu
          rw [← hu]
          simp [List.getD, List.getElem?_eq_getElem (show j < (Z i).length by omega)]
    · have hd := (Prod.mk.inj hx).1
      subst hd
      have h1 := bulk_map (fun r => intRow (H := H) .u8 (A r) (L r) (Z r)) (fun r => L r + 1) (List.range len) (fun r hr => bulk_row .u8 (A r) (L r) (Z r) (by
        obtain ⟨_, g1, _, g3, _⟩ := hi r (by have := List.mem_range.1 hr; omega)
        omega) (fun ha => by
        obtain ⟨_, g1, _, _, _, g5, _⟩ := hi r (by have := List.mem_range.1 hr; omega)
        have := g5 ha; omega))
      have h2 : totS ((List.range len).map fun r => u8L ((Z r).take (L r))) = ((List.range len).map fun r => L r).sum := by
        unfold totS
        rw [List.map_map]
        congr 1
        exact List.map_congr_left fun r hr => hlen r (List.mem_range.1 hr)
      have h3 : ∀ l : List Nat, (l.map fun r => L r + 1).sum = (l.map fun r => L r).sum + l.length := fun l => by
        induction l with
        | nil => rfl
        | cons r l ih => simp only [List.map_cons, List.sum_cons, List.length_cons, ih]; omega
      rw [h3] at h1
      simp only [Rows.uptoBulk, h2, List.length_map, List.length_range] at *
      omega

/-- An argument that is a slice of ints. -/
theorem open_listI {t e : TypeId} {v : Value} {d : DataW H} {p : List MemPlace} (ht : P.underlying t = some (.slice e)) (he : P.underlying e = some (.int .i64)) (hc : P.cellsOf e = 1)
    (hval : Value.okWide P W .any base t v) (h : DataW.Trod enc P W 0 (fun _ => true) true t v d p) :
    ∃ A c ts, v = .slice A ts.length c ∧ Rd W A (ic ts) ∧ (∀ z ∈ ts, (Lit.int .i64 z).wf = true) ∧ ts.length ≤ Rows.uptoBulk d := by
  obtain ⟨a0, len, cap, rfl⟩ := okWide_slice ht hval
  obtain ⟨fuel, hf⟩ := h
  rcases open_ints ht he hc hf with ⟨hcs, hx⟩ | ⟨a, len', cap', zs, hcs, _, hlc, hcm, hz, hx, hi, hw⟩
  · simp only [Value.cells, List.cons.injEq, and_true] at hcs
    injection hcs with h1 h2 h3
    subst h1; subst h2; subst h3
    exact ⟨none, 0, [], rfl, .inl rfl, (fun _ h => by cases h), by simp⟩
  · simp only [Value.cells, List.cons.injEq, and_true] at hcs
    injection hcs with h1 h2 h3
    subst h1; subst h2; subst h3
    simp only [if_true] at hz
    have hl : (zs.take len).length = len := by rw [List.length_take]; omega
    refine ⟨some a, cap, zs.take len, by rw [hl], rd_of fun j u hu => ?_, fun z hz => hw z (List.mem_of_mem_take hz), ?_⟩
    · have hjl : j < len := by have := (List.getElem?_eq_some_iff.1 hu).1; rw [ic_len, hl] at this; exact this
      rw [hi j (by omega)]
      unfold ic at hu
      rw [List.getElem?_map, List.getElem?_take_of_lt hjl, List.getElem?_eq_getElem (by omega)] at hu
      rw [← hu]
      simp [List.getD, List.getElem?_eq_getElem (show j < zs.length by omega)]
    · have hd := (Prod.mk.inj hx).1
      subst hd
      simp only [Rows.uptoBulk, bulk_lits]
      omega
end
end Go.Proofs.YteklakibcboepaaDoor
