/-
Two lists of texts that are the same.
-/
import Derived.Test.YtllpffdjlhamkaaDoorAsc11
set_option linter.unusedVariables false
set_option linter.unusedSimpArgs false
namespace Go.Proofs.YtllpffdjlhamkaaDoor
open Go.RowKit

/-- Element k of a slice of texts, in every later world. -/
theorem Rd.text {w : World} {A : Option Addr} {ps : List (List UInt8)} (h : Rd w A (sc ps)) {k : Nat} (hk : k < ps.length) :
    ∃ b o, A = some ⟨b, o, none⟩ ∧ b < w.heap.size ∧ Hid (∀ w', Ext w w' → w'.cell? ⟨b, o + k, none⟩ = some (.string (str ps[k]))) := by
  obtain ⟨b, o, rfl, hb, _⟩ := h.at_ (by rw [sc_len]; omega)
  refine ⟨b, o, rfl, hb, fun w' e => ?_⟩
  obtain ⟨b', o', he, _, hc'⟩ := (h.ext e).at_ (by rw [sc_len]; omega)
  cases he
  exact hc' k _ (sc_at ps k hk)

end Go.Proofs.YtllpffdjlhamkaaDoor
