/-
Head's version: its digit.
-/
import Derived.Test.YtppajpchibkneaaDoorHd6
import Derived.Test.YtppajpchibkneaaDoorShelf
set_option linter.unusedVariables false
set_option linter.unusedSimpArgs false
namespace Go.Proofs.YtppajpchibkneaaDoor
open Go.RowKit

def httpL : List UInt8 := [72, 84, 84, 80, 47, 49, 46]
/-- The digit of a version, and whether it is one. -/
def verH (l : List UInt8) : Int × Bool :=
  match l with
  | [72, 84, 84, 80, 47, 49, 46, d] => if 48 ≤ d.toNat ∧ d.toNat ≤ 57 then ((d.toNat : Int) - 48, true) else (0, false)
  | _ => (0, false)
theorem cut_yes (r : List UInt8) (w : World) : Calls Tryd.prog 54 #[.string (str (httpL ++ r)), .string ⟨#[72, 84, 84, 80, 47, 49, 46]⟩] w fun e w' => e = .returned (.tuple #[.string (str r), .bool true]) ∧ w = w' := by
  refine (Tryd.strings_CutPrefix (str (httpL ++ r)) ⟨#[72, 84, 84, 80, 47, 49, 46]⟩ w).mono ?_
  rintro e w' ⟨rfl, rfl⟩
  have h : Lib.hasPrefix (httpL ++ r) [72, 84, 84, 80, 47, 49, 46] = true := by simp [Lib.hasPrefix, httpL]
  refine ⟨?_, rfl⟩
  rw [str_data]
  show Ending.returned (.tuple #[.string ⟨(Lib.trimPrefix (httpL ++ r) [72, 84, 84, 80, 47, 49, 46]).toArray⟩, .bool (Lib.hasPrefix (httpL ++ r) [72, 84, 84, 80, 47, 49, 46])]) = _
  rw [h]
  unfold Lib.trimPrefix
  rw [h]
  rfl
theorem cut_no (l : List UInt8) (hn : ∀ r, l ≠ httpL ++ r) (w : World) : Calls Tryd.prog 54 #[.string (str l), .string ⟨#[72, 84, 84, 80, 47, 49, 46]⟩] w fun e w' => e = .returned (.tuple #[.string (str l), .bool false]) ∧ w = w' := by
  refine (Tryd.strings_CutPrefix (str l) ⟨#[72, 84, 84, 80, 47, 49, 46]⟩ w).mono ?_
  rintro e w' ⟨rfl, rfl⟩
  have h : Lib.hasPrefix l [72, 84, 84, 80, 47, 49, 46] = false := by
    cases hc : Lib.hasPrefix l [72, 84, 84, 80, 47, 49, 46] with
    | false => rfl
    | true =>
      unfold Lib.hasPrefix at hc
      rw [List.isPrefixOf_iff_prefix] at hc
      obtain ⟨r, hr⟩ := hc
      exact absurd hr.symm (hn r)
  refine ⟨?_, rfl⟩
  rw [str_data]
  show Ending.returned (.tuple #[.string ⟨(Lib.trimPrefix l [72, 84, 84, 80, 47, 49, 46]).toArray⟩, .bool (Lib.hasPrefix l [72, 84, 84, 80, 47, 49, 46])]) = _
  rw [h]
  unfold Lib.trimPrefix
  rw [h]
  rfl
theorem ver_no {l : List UInt8} (hn : ∀ r, l ≠ httpL ++ r) : verH l = (0, false) := by
  unfold verH
  split
  · rename_i d
    exact absurd rfl (hn [d])
  · rfl
theorem ver_len {r : List UInt8} (h : r.length ≠ 1) : verH (httpL ++ r) = (0, false) := by
  unfold verH
  split
  · rename_i d hd
    have h2 := congrArg List.length hd
    simp [httpL] at h2
    omega
  · rfl
theorem ver_one (d : UInt8) : verH (httpL ++ [d]) = if 48 ≤ d.toNat ∧ d.toNat ≤ 57 then ((d.toNat : Int) - 48, true) else (0, false) := rfl
set_option maxRecDepth 100000 in
set_option maxHeartbeats 1000000 in
theorem hVersion_c (l : List UInt8) (hs : l.length ≤ maxLen) (w : World) :
    Calls Tryd.prog 39 #[.string (str l)] w fun e w' => e = .returned (.tuple #[.int .i64 (verH l).1, .bool (verH l).2]) ∧ w = w' := by
  by_cases hp : ∃ r, l = httpL ++ r
  · obtain ⟨r, rfl⟩ := hp
    have C := Lib.hid (fun w' => cut_yes r w')
    by_cases h1 : r.length = 1
    · obtain ⟨d, rfl⟩ : ∃ d, r = [d] := List.length_eq_one_iff.1 h1
      rw [ver_one]
      obtain ⟨s, hs⟩ : ∃ s, s = str (httpL ++ [d]) := ⟨_, rfl⟩
      rw [← hs] at C ⊢
      have h256 := UInt8.toNat_lt d
      clear hs
      by_cases c1 : d.toNat < 48
      · have d1 : (d.toNat : Int) < 48 := by omega
        rw [if_neg (by omega)]
        go_enter Tryd.func39, Tryd.ntmps39
        go_wp2_with (go_at_call 54; refine (C.out _).mono ?_; rintro e w1 ⟨rfl, rfl⟩)
        go_ret2
        exact ⟨rfl, rfl⟩
      · have d1 : ¬ (d.toNat : Int) < 48 := by omega
        by_cases c2 : 57 < d.toNat
        · have d2 : (57 : Int) < (d.toNat : Int) := by omega
          rw [if_neg (by omega)]
          go_enter Tryd.func39, Tryd.ntmps39
          go_wp2_with (go_at_call 54; refine (C.out _).mono ?_; rintro e w1 ⟨rfl, rfl⟩)
          go_ret2
          exact ⟨rfl, rfl⟩
        · have d2 : ¬ (57 : Int) < (d.toNat : Int) := by omega
          rw [if_pos (by omega)]
          have s1 : IntKind.u8.wrap ((d.toNat : Int) - 48) = (d.toNat : Int) - 48 := by rw [IntKind.wrap_u8]; omega
          have s2 : IntKind.i64.wrap ((d.toNat : Int) - 48) = (d.toNat : Int) - 48 := by rw [IntKind.wrap_i64]; omega
          go_enter Tryd.func39, Tryd.ntmps39
          go_wp2_with (go_at_call 54; refine (C.out _).mono ?_; rintro e w1 ⟨rfl, rfl⟩)
          go_ret2
          exact ⟨rfl, rfl⟩
    · rw [ver_len h1]
      have e1 : ((r.length : Int) != 1) = true := by rw [bne_iff_ne]; omega
      obtain ⟨s, hs⟩ : ∃ s, s = str (httpL ++ r) := ⟨_, rfl⟩
      rw [← hs] at C ⊢
      clear hs
      go_enter Tryd.func39, Tryd.ntmps39
      go_wp2_with (go_at_call 54; refine (C.out _).mono ?_; rintro e w1 ⟨rfl, rfl⟩)
      go_ret2
      exact ⟨rfl, rfl⟩
  · have hn : ∀ r, l ≠ httpL ++ r := fun r h => hp ⟨r, h⟩
    rw [ver_no hn]
    have C := Lib.hid (fun w' => cut_no l hn w')
    go_enter Tryd.func39, Tryd.ntmps39
    go_wp2_with (go_at_call 54; refine (C.out _).mono ?_; rintro e w1 ⟨rfl, rfl⟩)
    go_ret2
    exact ⟨rfl, rfl⟩
end Go.Proofs.YtppajpchibkneaaDoor
