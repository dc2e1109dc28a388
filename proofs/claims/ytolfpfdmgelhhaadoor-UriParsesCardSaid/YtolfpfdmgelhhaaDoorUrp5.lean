/-
Where a host ends: plain law. No program in sight.
-/
import Derived.Test.YtolfpfdmgelhhaaDoorUmay
set_option linter.unusedVariables false
set_option linter.unusedSimpArgs false
namespace Go.Proofs.YtolfpfdmgelhhaaDoor
open Go.RowKit

def autB (b : UInt8) : Bool := !(b == 47 || b == 63)
theorem auth_at {l : List UInt8} (k : Nat) (h7 : 7 ≤ k) (hk : k ≤ l.length) (ha : ((l.take k).drop 7).all autB = true) (hs : ∀ h : k < l.length, autB l[k] = false) :
    authL (l.drop 7) = k - 7 ∧ (l.drop 7).take (k - 7) = (l.take k).drop 7 ∧ (l.drop 7).drop (k - 7) = l.drop k := by
  have e : (l.drop 7).take (k - 7) = (l.take k).drop 7 := by rw [List.drop_take]
  have e2 : (l.drop 7).drop (k - 7) = l.drop k := by rw [List.drop_drop]; congr 1; omega
  refine ⟨?_, e, e2⟩
  have h1 : (l.drop 7).takeWhile autB = (l.drop 7).take (k - 7) := tw_eq autB (l.drop 7) (k - 7) (by rw [List.length_drop]; omega) (by rw [e]; exact ha) (fun h => by
    rw [List.length_drop] at h
    have h2 : (l.drop 7)[k - 7]'(by rw [List.length_drop]; omega) = l[k]'(by omega) := by rw [List.getElem_drop]; congr 1; omega
    rw [h2]; exact hs (by omega))
  show ((l.drop 7).takeWhile autB).length = k - 7
  rw [h1, List.length_take, List.length_drop]; omega
end Go.Proofs.YtolfpfdmgelhhaaDoor
