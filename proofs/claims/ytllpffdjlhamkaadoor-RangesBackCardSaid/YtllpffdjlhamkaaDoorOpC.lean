/-
An argument of a row that is a slice of bytes, read as a list.
-/
import Derived.Test.YtllpffdjlhamkaaDoorRows
import Derived.Test.YtllpffdjlhamkaaDoorMul6
import Derived.Test.YtllpffdjlhamkaaDoorLaw
import Derived.Deep.Matrix
import Derived.SizedLaws
set_option linter.unusedVariables false
set_option linter.unusedSimpArgs false
namespace Go.Proofs.YtllpffdjlhamkaaDoor
open Go.RowKit Go.ChangeShapes Go.WideShapes Go.Deep

theorem mx_ofC {w : World} (h : w.ShapedOpen Tryd.prog) : Mx w := Tryd.laysM143.s1_3 w h
theorem spot_noneC {W : World} {a : Addr} {u : Value} (h : W.cell? a = some u) : a.spot = none := by
  unfold World.cell? at h
  cases hsp : a.spot with
  | none => rfl
  | some z => simp only [hsp, Option.isSome_some, if_true] at h; split at h <;> cases h
theorem rd_ofC {W : World} {a : Addr} {xs : List Value} (h : ∀ i u, xs[i]? = some u → W.cell? (a.add i) = some u) : Rd W (some a) xs := by
  by_cases h0 : xs = []
  · exact .inl h0
  · have hp := List.length_pos_iff.2 h0
    have h1 := h 0 xs[0] (List.getElem?_eq_getElem hp)
    have hs := spot_noneC h1
    obtain ⟨b, o, sp⟩ := a
    have hs : sp = none := by simpa [Addr.add] using hs
    subst hs
    exact .inr ⟨b, o, rfl, fun j u hj => by have := h j u hj; rw [add_mk] at this; exact this⟩
theorem u8_natC {n : Int} (h : (Lit.int .u8 n).wf = true) : ((UInt8.ofNat n.toNat).toNat : Int) = n := by
  simp only [Lit.wf, IntKind.min, IntKind.max, IntKind.signed, IntKind.bits, Bool.and_eq_true, decide_eq_true_eq] at h
  rw [UInt8.toNat_ofNat']
  simp at h
  omega
def u8LC (zs : List Int) : List UInt8 := zs.map fun z => UInt8.ofNat z.toNat
theorem bc_u8LC {zs : List Int} (h : ∀ n ∈ zs, (Lit.int .u8 n).wf = true) : bc (u8LC zs) = zs.map (.int .u8) := by
  unfold bc u8LC
  rw [List.map_map]
  exact List.map_congr_left fun n hn => by simp only [Function.comp]; rw [u8_natC (h n hn)]
section
variable {H : Type}
variable {enc : TypeId × Value → H} {P : Program} {W : World} {base : Nat}
/-- An argument that is a slice of bytes. -/
theorem open_bytesC {t e : TypeId} {v : Value} {d : DataW H} {p : List MemPlace} (ht : P.underlying t = some (.slice e)) (he : P.underlying e = some (.int .u8)) (hc : P.cellsOf e = 1)
    (hb : P.bytesOf e = 1) (hval : Value.okWide P W .any base t v) (h : DataW.Trod enc P W 0 (fun _ => true) true t v d p) (hwt : ∀ n ∈ d.weights P t, n ≤ reachBytes) :
    ∃ A c l, v = .slice A (List.length l) c ∧ Rd W A (bc l) ∧ l.length ≤ c ∧ (A = none → c = 0) ∧ l.length ≤ reachBytes := by
  obtain ⟨a0, len, cap, rfl⟩ := okWide_slice ht hval
  obtain ⟨fuel, hf⟩ := h
  rcases open_ints ht he hc hf with ⟨hcs, hx⟩ | ⟨a, len', cap', zs, hcs, _, hlc, hcm, hz, hx, hi, hw⟩
  · simp only [Value.cells, List.cons.injEq, and_true] at hcs
    injection hcs with h1 h2 h3
    subst h1; subst h2; subst h3
    exact ⟨none, 0, [], rfl, .inl rfl, by simp, fun _ => rfl, by simp⟩
  · simp only [Value.cells, List.cons.injEq, and_true] at hcs
    injection hcs with h1 h2 h3
    subst h1; subst h2; subst h3
    simp only [if_true] at hz
    have hl : (zs.take len).length = len := by rw [List.length_take]; omega
    have hl2 : (u8LC (zs.take len)).length = len := by unfold u8LC; rw [List.length_map, hl]
    refine ⟨some a, cap, u8LC (zs.take len), by rw [hl2], ?_, by rw [hl2]; exact hlc, fun h => (by cases h), ?_⟩
    · rw [bc_u8LC (fun z hz => hw z (List.mem_of_mem_take hz))]
      refine rd_ofC fun j u hu => ?_
      have hjl : j < len := by have := (List.getElem?_eq_some_iff.1 hu).1; rw [List.length_map, hl] at this; exact this
      rw [hi j (by omega)]
      rw [List.getElem?_map, List.getElem?_take_of_lt hjl, List.getElem?_eq_getElem (by omega)] at hu
      rw [← hu]
      simp [List.getD, List.getElem?_eq_getElem (show j < zs.length by omega)]
    · rw [hl2]
      have hd := (Prod.mk.inj hx).1
      have := hwt ((zs.take len).length + (zs.drop len).length) (by rw [hd]; simp [DataW.weights, ht, hb, lits])
      omega
end
end Go.Proofs.YtllpffdjlhamkaaDoor
