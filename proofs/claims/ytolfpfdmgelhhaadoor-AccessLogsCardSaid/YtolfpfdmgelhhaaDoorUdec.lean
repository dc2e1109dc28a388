/-
Bytes by % and two digits, read: the program's Decode and the reference's.
-/
import Derived.Test.YtolfpfdmgelhhaaDoorUch
import Derived.Test.YtolfpfdmgelhhaaDoorQue1
import Derived.Test.YtolfpfdmgelhhaaDoorErr
set_option linter.unusedVariables false
set_option linter.unusedSimpArgs false
namespace Go.Proofs.YtolfpfdmgelhhaaDoor
open Go.RowKit

def decR (l : List UInt8) : List UInt8 × Int := match decL l with | some x => (x, 0) | none => ([], 40)
theorem decR_some {l x : List UInt8} (h : decL l = some x) : decR l = (x, 0) := by unfold decR; rw [h]
theorem decR_none {l : List UInt8} (h : decL l = none) : decR l = ([], 40) := by unfold decR; rw [h]
theorem dig_lt {b : UInt8} (h : isDig 16 b = true) : digV b < 16 := by
  unfold isDig at h; simp only [Bool.and_eq_true, decide_eq_true_eq] at h; exact h.2
theorem num_two (a b : UInt8) : numL 16 1152921504606846976 [a, b] = if isDig 16 (lowB a) = true ∧ isDig 16 (lowB b) = true then (((digV (lowB a) * 16 + digV (lowB b) : Nat) : Int), 0) else (0, 21) := by
  unfold numL lowL
  by_cases h : isDig 16 (lowB a) = true ∧ isDig 16 (lowB b) = true
  · have h1 := dig_lt h.1
    have h2 := dig_lt h.2
    rw [if_neg (by simp [h.1, h.2]), if_pos h]
    have e : valL 16 (List.map lowB [a, b]) = digV (lowB a) * 16 + digV (lowB b) := by simp [valL, valF]
    rw [e, if_pos (by omega)]
  · rw [if_pos (.inr (by simp only [List.map_cons, List.map_nil, List.all_cons, List.all_nil, Bool.and_true, Bool.and_eq_false_iff]; by_cases h1 : isDig 16 (lowB a) = true; exact .inr (by simpa using fun h2 => h ⟨h1, h2⟩); exact .inl (by simpa using h1))), if_neg h]

/-- Where the reference's loop stands. -/
def DecAt (l acc : List UInt8) (k : Nat) : Prop := decL l = (decL (l.drop k)).map (acc ++ ·)
theorem wr_dig {b : UInt8} (h : isDig 16 (lowB b) = true) : wrV b = (digV (lowB b) : Int) := by unfold wrV; rw [if_pos h]
theorem wr_no {b : UInt8} (h : ¬ isDig 16 (lowB b) = true) : wrV b = -1 := by unfold wrV; rw [if_neg h]
theorem drop3 {l : List UInt8} {k : Nat} (h : k + 2 < l.length) : l.drop k = l[k] :: l[k + 1] :: l[k + 2] :: l.drop (k + 3) := by
  rw [List.drop_eq_getElem_cons (by omega), List.drop_eq_getElem_cons (by omega), List.drop_eq_getElem_cons (by omega)]
end Go.Proofs.YtolfpfdmgelhhaaDoor
