/-
Hosts, and bytes by % and two digits: plain words and laws. No program in sight.
-/
import Derived.Test.YtemdgilifnhdpaaGreatDoorZal
import Derived.Test.YtemdgilifnhdpaaGreatDoorZao
set_option linter.unusedVariables false
set_option linter.unusedSimpArgs false
section
namespace Go.Proofs.YtemdgilifnhdpaaGreatDoor
open Go.RowKit

def decL : List UInt8 → Option (List UInt8)
  | [] => some []
  | 37 :: a :: b :: l => if isDig 16 (lowB a) = true ∧ isDig 16 (lowB b) = true then (decL l).map (UInt8.ofNat (digV (lowB a) * 16 + digV (lowB b)) :: ·) else none
  | c :: l => if c = 37 then none else (decL l).map (c :: ·)
theorem dec_plain (c : UInt8) (l : List UInt8) (h : c ≠ 37) : decL (c :: l) = (decL l).map (c :: ·) := by
  conv => lhs; unfold decL
  split
  · simp_all
  · simp_all
  · rename_i heq
    injection heq with h1 h2
    subst h1; subst h2
    rw [if_neg h]
theorem dec_pct (a b : UInt8) (l : List UInt8) : decL (37 :: a :: b :: l) = if isDig 16 (lowB a) = true ∧ isDig 16 (lowB b) = true then (decL l).map (UInt8.ofNat (digV (lowB a) * 16 + digV (lowB b)) :: ·) else none := by
  rw [decL]
theorem dec_short (l : List UInt8) (h : l.length < 2) : decL (37 :: l) = none := by
  match l, h with
  | [], _ => rfl
  | [a], _ => rfl
theorem dec_len : ∀ (l x : List UInt8), decL l = some x → x.length ≤ l.length
  | [], x, h => by simp [decL] at h; subst h; simp
  | c :: l, x, h => by
    by_cases hc : c = 37
    · subst hc
      match l, h with
      | [], h => cases h
      | [a], h => cases h
      | a :: b :: l, h =>
        rw [dec_pct] at h
        split at h
        · cases hd : decL l with
          | none => rw [hd] at h; cases h
          | some y =>
            rw [hd] at h
            have := dec_len l y hd
            have e := Option.some.inj h
            rw [← e]; simp; omega
        · cases h
    · rw [dec_plain _ _ hc] at h
      cases hd : decL l with
      | none => rw [hd] at h; cases h
      | some y =>
        rw [hd] at h
        have := dec_len l y hd
        have e := Option.some.inj h
        rw [← e]; simp; omega
end Go.Proofs.YtemdgilifnhdpaaGreatDoor
end

section
namespace Go.Proofs.YtemdgilifnhdpaaGreatDoor
open Go.RowKit

theorem all_succ_l (l : List UInt8) (p : UInt8 → Bool) (k : Nat) (h : k < l.length) : (l.take (k + 1)).all p = ((l.take k).all p && p l[k]) := by
  rw [List.take_succ_eq_append_getElem h, List.all_append]; simp only [List.all_cons, List.all_nil, Bool.and_true]
end Go.Proofs.YtemdgilifnhdpaaGreatDoor
end
