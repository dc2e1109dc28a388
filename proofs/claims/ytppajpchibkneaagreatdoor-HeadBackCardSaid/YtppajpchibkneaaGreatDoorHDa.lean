/-
Fields by their names: Values, the program's and the reference's.
-/
import Derived.Test.YtppajpchibkneaaGreatDoorASb
set_option linter.unusedVariables false
set_option linter.unusedSimpArgs false
/-
Fields by their names: Values, the program's and the reference's.
-/
section
namespace Go.Proofs.YtppajpchibkneaaGreatDoor
open Go.RowKit

/-- A field: its name, its value. -/
abbrev Fld := List UInt8 × List UInt8
/-- The cells of fields. -/
def fc (fs : List Fld) : List Value := fs.flatMap fun p => [.string (str p.1), .string (str p.2)]
theorem fc_len (fs : List Fld) : (fc fs).length = fs.length * 2 := by
  induction fs with
  | nil => rfl
  | cons p fs ih => simp [fc, List.flatMap_cons] at *; omega
theorem fc_at : ∀ (fs : List Fld) (k : Nat) (h : k < fs.length), (fc fs)[k * 2]? = some (.string (str fs[k].1)) ∧ (fc fs)[k * 2 + 1]? = some (.string (str fs[k].2))
  | [], k, h => by simp at h
  | p :: fs, 0, _ => ⟨rfl, rfl⟩
  | p :: fs, k + 1, h => by
    have ih := fc_at fs k (by simpa using h)
    have e : fc (p :: fs) = .string (str p.1) :: .string (str p.2) :: fc fs := rfl
    rw [e, show (k + 1) * 2 = k * 2 + 1 + 1 from by omega]
    simpa using ih
/-- Element k of a slice of fields, in every later world. -/
theorem Rd.fld {w : World} {A : Option Addr} {fs : List Fld} (h : Rd w A (fc fs)) {k : Nat} (hk : k < fs.length) :
    ∃ b o, A = some ⟨b, o, none⟩ ∧ b < w.heap.size ∧ Hid (∀ w', Ext w w' → (w'.cell? ⟨b, o + k * 2, none⟩ = some (.string (str fs[k].1)) ∧ w'.cell? ⟨b, o + k * 2 + 1, none⟩ = some (.string (str fs[k].2)))) := by
  obtain ⟨b, o, rfl, hb, hc⟩ := h.at_ (by rw [fc_len]; omega)
  obtain ⟨h1, h2⟩ := fc_at fs k hk
  refine ⟨b, o, rfl, hb, fun w' e => ⟨(e.cell (p := ⟨b, o + k * 2, none⟩) hb).trans (hc _ _ h1), (e.cell (p := ⟨b, o + k * 2 + 1, none⟩) hb).trans (hc _ _ h2)⟩⟩
/-- The values of the fields that bear a name. -/
def valsH (fs : List Fld) (nm : List UInt8) : List (List UInt8) := (fs.filter fun p => lowL p.1 == lowL nm).map Prod.snd
theorem vals_succ (fs : List Fld) (nm : List UInt8) (k : Nat) (h : k < fs.length) : valsH (fs.take (k + 1)) nm = valsH (fs.take k) nm ++ (if (lowL fs[k].1 == lowL nm) = true then [fs[k].2] else []) := by
  unfold valsH
  rw [List.take_succ_eq_append_getElem h, List.filter_append, List.map_append]
  congr 1
  by_cases hc : (lowL fs[k].1 == lowL nm) = true
  · rw [if_pos hc]; simp [List.filter_cons, hc]
  · rw [if_neg hc]; simp [List.filter_cons, hc]
theorem vals_len (fs : List Fld) (nm : List UInt8) : (valsH fs nm).length ≤ fs.length := by
  unfold valsH; rw [List.length_map]; exact List.length_filter_le _ _
/-- A slice of texts. -/
def IsTx (ls : List (List UInt8)) (v : Value) (w : World) : Prop := ∃ A c, v = .slice A ls.length c ∧ Rd w A (sc ls)
end Go.Proofs.YtppajpchibkneaaGreatDoor
end

/-
Fields by their names: First, the program's and the reference's.
-/
section
namespace Go.Proofs.YtppajpchibkneaaGreatDoor
open Go.RowKit

/-- The first of texts, and whether there is one. -/
def firstV : List (List UInt8) → Value
  | [] => .tuple #[.string ⟨#[]⟩, .bool false]
  | v :: _ => .tuple #[.string (str v), .bool true]
theorem sc_first {w : World} {A : Option Addr} {v : List UInt8} {ls : List (List UInt8)} (h : Rd w A (sc (v :: ls))) : ∃ b f, A = some ⟨b, f, none⟩ ∧ w.cell? ⟨b, f, none⟩ = some (.string (str v)) := by
  obtain ⟨b, f, rfl, _, hc⟩ := h.at_ (by simp)
  exact ⟨b, f, rfl, hc 0 _ rfl⟩
end Go.Proofs.YtppajpchibkneaaGreatDoor
end
