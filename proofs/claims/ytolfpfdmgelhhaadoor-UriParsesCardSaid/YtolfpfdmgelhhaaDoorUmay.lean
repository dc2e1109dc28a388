/-
The reference's bytes of a path, its local.
-/
import Derived.Test.YtolfpfdmgelhhaaDoorUkn
set_option linter.unusedVariables false
set_option linter.unusedSimpArgs false
namespace Go.Proofs.YtolfpfdmgelhhaaDoor
open Go.RowKit

set_option maxRecDepth 100000 in
set_option maxHeartbeats 4000000 in
theorem urmay_c (b : UInt8) (q : Bool) (w : World) : Calls Tryd.prog 133 #[.int .u8 (b.toNat : Int), .bool q] w fun e w' => e = .returned (.bool (mayB q b)) ∧ w = w' := by
  by_cases h34 : b = 34
  · subst h34
    show Calls Tryd.prog 133 #[.int .u8 34, .bool q] w fun e w' => e = .returned (.bool (mayB q 34)) ∧ w = w'
    cases q
    all_goals (
      go_enter Tryd.func133, Tryd.ntmps133
      go_wp2
      go_ret
      exact ⟨rfl, rfl⟩)
  by_cases h35 : b = 35
  · subst h35
    show Calls Tryd.prog 133 #[.int .u8 35, .bool q] w fun e w' => e = .returned (.bool (mayB q 35)) ∧ w = w'
    cases q
    all_goals (
      go_enter Tryd.func133, Tryd.ntmps133
      go_wp2
      go_ret
      exact ⟨rfl, rfl⟩)
  by_cases h60 : b = 60
  · subst h60
    show Calls Tryd.prog 133 #[.int .u8 60, .bool q] w fun e w' => e = .returned (.bool (mayB q 60)) ∧ w = w'
    cases q
    all_goals (
      go_enter Tryd.func133, Tryd.ntmps133
      go_wp2
      go_ret
      exact ⟨rfl, rfl⟩)
  by_cases h62 : b = 62
  · subst h62
    show Calls Tryd.prog 133 #[.int .u8 62, .bool q] w fun e w' => e = .returned (.bool (mayB q 62)) ∧ w = w'
    cases q
    all_goals (
      go_enter Tryd.func133, Tryd.ntmps133
      go_wp2
      go_ret
      exact ⟨rfl, rfl⟩)
  by_cases h92 : b = 92
  · subst h92
    show Calls Tryd.prog 133 #[.int .u8 92, .bool q] w fun e w' => e = .returned (.bool (mayB q 92)) ∧ w = w'
    cases q
    all_goals (
      go_enter Tryd.func133, Tryd.ntmps133
      go_wp2
      go_ret
      exact ⟨rfl, rfl⟩)
  by_cases h94 : b = 94
  · subst h94
    show Calls Tryd.prog 133 #[.int .u8 94, .bool q] w fun e w' => e = .returned (.bool (mayB q 94)) ∧ w = w'
    cases q
    all_goals (
      go_enter Tryd.func133, Tryd.ntmps133
      go_wp2
      go_ret
      exact ⟨rfl, rfl⟩)
  by_cases h96 : b = 96
  · subst h96
    show Calls Tryd.prog 133 #[.int .u8 96, .bool q] w fun e w' => e = .returned (.bool (mayB q 96)) ∧ w = w'
    cases q
    all_goals (
      go_enter Tryd.func133, Tryd.ntmps133
      go_wp2
      go_ret
      exact ⟨rfl, rfl⟩)
  by_cases h123 : b = 123
  · subst h123
    show Calls Tryd.prog 133 #[.int .u8 123, .bool q] w fun e w' => e = .returned (.bool (mayB q 123)) ∧ w = w'
    cases q
    all_goals (
      go_enter Tryd.func133, Tryd.ntmps133
      go_wp2
      go_ret
      exact ⟨rfl, rfl⟩)
  by_cases h124 : b = 124
  · subst h124
    show Calls Tryd.prog 133 #[.int .u8 124, .bool q] w fun e w' => e = .returned (.bool (mayB q 124)) ∧ w = w'
    cases q
    all_goals (
      go_enter Tryd.func133, Tryd.ntmps133
      go_wp2
      go_ret
      exact ⟨rfl, rfl⟩)
  by_cases h125 : b = 125
  · subst h125
    show Calls Tryd.prog 133 #[.int .u8 125, .bool q] w fun e w' => e = .returned (.bool (mayB q 125)) ∧ w = w'
    cases q
    all_goals (
      go_enter Tryd.func133, Tryd.ntmps133
      go_wp2
      go_ret
      exact ⟨rfl, rfl⟩)
  by_cases h63 : b = 63
  · subst h63
    show Calls Tryd.prog 133 #[.int .u8 63, .bool q] w fun e w' => e = .returned (.bool (mayB q 63)) ∧ w = w'
    cases q
    all_goals (
      go_enter Tryd.func133, Tryd.ntmps133
      go_wp2
      go_ret
      exact ⟨rfl, rfl⟩)
  have hq : ∀ c : UInt8, ¬ b = c → ((b.toNat : Int) == (c.toNat : Int)) = false := fun c h => by
    rw [beq_eq_false_iff_ne]; intro h2; exact h (UInt8.toNat_inj.1 (by omega))
  have k34 : ((b.toNat : Int) == 34) = false := hq 34 h34
  have k35 : ((b.toNat : Int) == 35) = false := hq 35 h35
  have k60 : ((b.toNat : Int) == 60) = false := hq 60 h60
  have k62 : ((b.toNat : Int) == 62) = false := hq 62 h62
  have k92 : ((b.toNat : Int) == 92) = false := hq 92 h92
  have k94 : ((b.toNat : Int) == 94) = false := hq 94 h94
  have k96 : ((b.toNat : Int) == 96) = false := hq 96 h96
  have k123 : ((b.toNat : Int) == 123) = false := hq 123 h123
  have k124 : ((b.toNat : Int) == 124) = false := hq 124 h124
  have k125 : ((b.toNat : Int) == 125) = false := hq 125 h125
  have k63 : ((b.toNat : Int) == 63) = false := hq 63 h63
  have hm : mayB q b = (decide (33 ≤ b.toNat) && decide (b.toNat ≤ 126)) := by
    unfold mayB
    simp [h34, h35, h60, h62, h92, h94, h96, h123, h124, h125, h63]
  rw [hm]
  clear hm hq h34 h35 h60 h62 h92 h94 h96 h123 h124 h125 h63
  generalize b.toNat = x at *
  by_cases a1 : 33 ≤ x
  · have d1 : decide ((33 : Int) ≤ (x : Int)) = true := by rw [decide_eq_true_eq]; omega
    have e1 : decide (33 ≤ x) = true := by rw [decide_eq_true_eq]; omega
    by_cases a2 : x ≤ 126
    · have d2 : decide ((x : Int) ≤ 126) = true := by rw [decide_eq_true_eq]; omega
      have e2 : decide (x ≤ 126) = true := by rw [decide_eq_true_eq]; omega
      rw [e1, e2]
      clear e1 e2
      go_enter Tryd.func133, Tryd.ntmps133
      go_wp2
      go_ret
      exact ⟨rfl, rfl⟩
    · have d2 : decide ((x : Int) ≤ 126) = false := by rw [decide_eq_false_iff_not]; omega
      have e2 : decide (x ≤ 126) = false := by rw [decide_eq_false_iff_not]; omega
      rw [e1, e2]
      clear e1 e2
      go_enter Tryd.func133, Tryd.ntmps133
      go_wp2
      go_ret
      exact ⟨rfl, rfl⟩
  · have d1 : decide ((33 : Int) ≤ (x : Int)) = false := by rw [decide_eq_false_iff_not]; omega
    have e1 : decide (33 ≤ x) = false := by rw [decide_eq_false_iff_not]; omega
    rw [e1]
    clear e1
    go_enter Tryd.func133, Tryd.ntmps133
    go_wp2
    go_ret
    exact ⟨ret_bool (by simp), rfl⟩

/-- A path and a query as values. -/
def locV (o : Option (List UInt8 × List UInt8 × Bool)) : Value :=
  match o with
  | none => .tuple #[.string ⟨#[]⟩, .string ⟨#[]⟩, .bool false, .bool false]
  | some (p, q, a) => .tuple #[.string (str p), .string (str q), .bool a, .bool true]
theorem may63 : mayB false 63 = false := by decide
theorem may63t : mayB true 63 = true := by decide
theorem loc_end {l : List UInt8} (h : l.all (mayB false) = true) : localL l = some (l, [], false) := by
  rw [local_none l (fun hm => by
    have := List.all_eq_true.1 h 63 hm
    rw [may63] at this; cases this), if_pos h]
theorem loc_bad {l : List UInt8} (k : Nat) (hk : k < l.length) (ha : (l.take k).all (mayB false) = true) (h63 : l[k] ≠ 63) (hb : mayB false l[k] = false) : localL l = none := by
  rcases cut_cases l 63 with hno | ⟨p, q, rfl, hna⟩
  · rw [local_none l hno, if_neg]
    intro h
    have := List.all_eq_true.1 h l[k] (List.getElem_mem hk)
    rw [hb] at this; cases this
  · rw [local_some p q hna, if_neg]
    rintro ⟨h, _⟩
    by_cases hp : k < p.length
    · rw [List.getElem_append_left hp] at hb
      have := List.all_eq_true.1 h p[k] (List.getElem_mem hp)
      rw [hb] at this; cases this
    · by_cases he : k = p.length
      · subst he
        rw [List.getElem_append_right (Nat.le_refl _)] at h63
        simp at h63
      · have hm : (63 : UInt8) ∈ (p ++ 63 :: q).take k := List.mem_take_iff_getElem.2 ⟨p.length, (by rw [List.length_append, List.length_cons] at *; omega), by simp⟩
        have := List.all_eq_true.1 ha 63 hm
        rw [may63] at this; cases this
theorem loc_at {l : List UInt8} (k : Nat) (hk : k < l.length) (ha : (l.take k).all (mayB false) = true) (h63 : l[k] = 63) :
    localL l = if (l.drop k).all (mayB true) = true then some (l.take k, l.drop (k + 1), true) else none := by
  have e : l = l.take k ++ 63 :: l.drop (k + 1) := by
    conv => lhs; rw [← List.take_append_drop k l, List.drop_eq_getElem_cons hk, h63]
  have hna : (63 : UInt8) ∉ l.take k := fun hm => by
    have := List.all_eq_true.1 ha 63 hm
    rw [may63] at this; cases this
  have h1 := local_some (l.take k) (l.drop (k + 1)) hna
  rw [← e, ha] at h1
  rw [h1, List.drop_eq_getElem_cons hk, h63, List.all_cons, may63t]
  simp
theorem all_td (l : List UInt8) (p : UInt8 → Bool) (k i : Nat) (hk : k ≤ i) (hi : i < l.length) : ((l.take (i + 1)).drop k).all p = (((l.take i).drop k).all p && p l[i]) := by
  have e : l.take (i + 1) = l.take i ++ [l[i]] := (List.take_append_getElem hi).symm
  rw [e, List.drop_append_of_le_length (by rw [List.length_take]; omega), List.all_append]
  simp
end Go.Proofs.YtolfpfdmgelhhaaDoor
