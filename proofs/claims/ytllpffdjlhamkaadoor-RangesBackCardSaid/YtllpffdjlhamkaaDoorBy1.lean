/-
bytes.IndexByte and bytes.TrimSuffix in the words of lists of bytes.
-/
import Derived.Test.YtllpffdjlhamkaaDoorShelfB
import Derived.Shelf.Bytes.SlSmallAll
import Derived.Test.YtllpffdjlhamkaaDoorQueN
import Derived.Test.YtllpffdjlhamkaaDoorAsc10
set_option linter.unusedVariables false
set_option linter.unusedSimpArgs false
namespace Go.Proofs.YtllpffdjlhamkaaDoor
open Go.RowKit

/-- The numbers of a list of bytes. -/
def xsOf (l : List UInt8) : List Int := l.map fun b => (b.toNat : Int)
@[simp] theorem xsOf_len (l : List UInt8) : (xsOf l).length = l.length := by simp [xsOf]
@[simp] theorem bytesOf_xs (l : List UInt8) : Lib.bytesOf (xsOf l) = l := by
  unfold Lib.bytesOf xsOf
  rw [List.map_map]
  conv => rhs; rw [← List.map_id l]
  exact List.map_congr_left fun b _ => by simp
theorem xsOf_get (l : List UInt8) (i : Nat) (h : i < l.length) : (xsOf l).getD i 0 = (l[i].toNat : Int) := by simp [xsOf, List.getD, h]
theorem bytesIn_of {w : World} {A : Option Addr} {l : List UInt8} {n : Nat} (h : Rd w A (bc l)) (hn : n = l.length) : Lib.BytesIn w A n (xsOf l) := by
  intro hp
  obtain ⟨b, o, hA, _, hc⟩ := h.at_ (by rw [bc_len]; omega)
  exact ⟨b, o, hA, fun i hi => by rw [xsOf_get l i (by omega)]; exact hc i _ (bc_at l i (by omega))⟩
theorem bIndexByte_c (l : List UInt8) (A : Option Addr) (n c : Nat) (b : UInt8) (w : World) (h : Rd w A (bc l)) (hn : n = l.length) (hA : A = none → c = 0) :
    Calls Tryd.prog 37 #[.slice A n c, .int .u8 (b.toNat : Int)] w fun e w' => e = .returned (.int .i64 (Lib.indexByte l b)) ∧ w = w' := by
  subst hn
  have hu : ((b.toNat : Int)).toNat.toUInt8 = b := by simp
  cases A with
  | none =>
    obtain rfl := hA rfl
    have hl : l = [] := by
      rcases h with h | ⟨_, _, h, _⟩
      · simpa [bc] using h
      · cases h
    subst hl
    exact (Tryd.bytes_IndexByte_nil _ w).mono fun e w' ⟨he, hw⟩ => ⟨he, hw.symm⟩
  | some a =>
    have hc : ∀ i, i < l.length → w.cell? (a.add i) = some (.int .u8 ((xsOf l).getD i 0)) := fun i hi => by
      obtain ⟨b', o, hA', _, hc⟩ := h.at_ (by rw [bc_len]; omega)
      cases hA'
      rw [add_mk, xsOf_get l i hi]; exact hc i _ (bc_at l i hi)
    refine (Tryd.bytes_IndexByte_at a l.length c (xsOf l) (b.toNat : Int) w (by simp) hc).mono fun e w' ⟨he, hw⟩ => ⟨?_, hw.symm⟩
    rw [he, bytesOf_xs, hu]
/-- A row without a byte 13 at its end. -/
def strip13 (l : List UInt8) : List UInt8 := if Lib.hasSuffix l [13] then l.take (l.length - 1) else l
theorem Rd.strip {w : World} {A : Option Addr} {l : List UInt8} (h : Rd w A (bc l)) : Rd w A (bc (strip13 l)) := by
  unfold strip13
  split
  · rw [← bc_take]; exact h.take _
  · exact h
end Go.Proofs.YtllpffdjlhamkaaDoor
