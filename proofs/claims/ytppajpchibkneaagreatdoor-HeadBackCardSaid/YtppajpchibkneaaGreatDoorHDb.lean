/-
Head's target: may a text stand in a first line?
-/
import Derived.Test.YtppajpchibkneaaGreatDoorHDa
import Derived.Lib.ConvBytes
import Derived.Test.YtppajpchibkneaaGreatDoorShelf
set_option linter.unusedVariables false
set_option linter.unusedSimpArgs false
/-
Head's target: may a text stand in a first line?
-/
section
namespace Go.Proofs.YtppajpchibkneaaGreatDoor
open Go.RowKit

theorem Ext.bwH {a b : World} (h : Ext a b) (e : TypeId) (s : ByteArray) : Ext a (Lib.bytesWorld b e s) :=
  ⟨by simpa [Lib.bytesWorld, World.freeze, World.alloc, World.drew, -World.alloc_eq, -World.drew_eq] using h.os,
   by simpa [Lib.bytesWorld, World.freeze, World.alloc, World.drew, -World.alloc_eq, -World.drew_eq] using h.tape,
   by simpa [Lib.bytesWorld, World.freeze, World.alloc, World.drew, -World.alloc_eq, -World.drew_eq] using h.output,
   by rw [Lib.bytesWorld_size]; have := h.size; omega,
   fun i hi => by rw [Lib.bytesWorld_at_old _ _ _ _ (by have := h.size; omega)]; exact h.block i hi⟩
/-- May a byte stand in a target? -/
def tgB (b : UInt8) : Bool := decide (32 < b.toNat) && decide (b.toNat < 127)
def tgH (l : List UInt8) : Bool := l.all tgB && !(l == [])
theorem tg_no {l : List UInt8} {k : Nat} (h : k < l.length) (hb : tgB l[k] = false) : tgH l = false := by
  unfold tgH
  have : l.all tgB = false := by rw [List.all_eq_false]; exact ⟨l[k], List.getElem_mem h, by rw [hb]; decide⟩
  rw [this]; rfl
theorem tg_all {l : List UInt8} (h : ∀ j (hj : j < l.length), tgB l[j] = true) : l.all tgB = true := by
  rw [List.all_eq_true]
  intro b hb
  obtain ⟨j, hj, rfl⟩ := List.getElem_of_mem hb
  exact h j hj
set_option maxRecDepth 100000 in
set_option maxHeartbeats 4000000 in
theorem hTarget_c (l : List UInt8) (hs : l.length ≤ 140737488351232) (w : World) :
    Calls Tryz.prog 20 #[.string (str l)] w (Gives (.bool (tgH l)) w) := by
  obtain ⟨R, hR⟩ : ∃ R, R = tgH l := ⟨_, rfl⟩
  rw [← hR]
  have HR := Lib.hid hR
  clear hR
  have hms : maxLen = 9223372036854775807 := rfl
  have CV := fun w => Lib.run_convert_string_bytes (P := Tryz.prog) w 9 25 5 (str l) Tryz.underlying9 Tryz.underlying25 Tryz.underlying5
  go_enter Tryz.func20, Tryz.ntmps20
  go_wp2
  clear CV
  obtain ⟨W1, hW1⟩ : ∃ W1, W1 = Lib.bytesWorld w 5 (str l) := ⟨_, rfl⟩
  rw [← hW1]
  have hX1 : Ext w W1 := by rw [hW1]; exact Ext.bwH (Ext.rfl' _) _ _
  have HC := Lib.hid (show ∀ k (h : k < l.length), W1.cell? ⟨w.heap.size, k, none⟩ = some (.int .u8 (l[k].toNat : Int)) from fun k h => by
    have hc := Lib.bytesWorld_cell w 5 (str l) k (by simpa using h)
    rw [← hW1] at hc
    rw [hc]
    simp [List.getD, h])
  clear hW1
  go_loopw [8] (fun i wr => ∃ k : Nat, i = .int .i64 k ∧ k ≤ l.length ∧ (∀ j (hj : j < l.length), j < k → tgB l[j] = true) ∧ W1 = wr) (fun i _ => l.length - (intOf i).toNat)
  case atStart => exact ⟨0, rfl, Nat.zero_le _, fun j _ h => by omega, by trivial⟩
  case round =>
    obtain ⟨k, rfl, hk, hno, rfl⟩ := hrel
    have HNO := Lib.hid hno
    clear hno
    by_cases hlt : k < l.length
    · have hck := HC.out k hlt
      have h256 := UInt8.toNat_lt l[k]
      have hki : (k : Int) + 1 ≤ 9223372036854775807 := by omega
      have hk0 : (0 : Int) ≤ (k : Int) := by omega
      have hk1 : (k : Int) < (l.length : Int) := by omega
      have HT := Lib.hid (fun hb => tg_no hlt hb)
      have HD := Lib.hid (show tgB l[k] = (decide (32 < l[k].toNat) && decide (l[k].toNat < 127)) from rfl)
      obtain ⟨b, hb⟩ : ∃ b, b = l[k].toNat := ⟨_, rfl⟩
      rw [← hb] at hck h256
      have HB := Lib.hid hb
      clear hb
      by_cases c1 : b ≤ 32
      · have c2 : (b : Int) ≤ 32 := by omega
        have HV := Lib.hid (show R = false by rw [HR.out]; exact HT.out (by rw [HD.out, ← HB.out, decide_eq_false (by omega)]; rfl))
        go_wp2
        go_ret
        exact ⟨ret_bool HV.out.symm, hX1⟩
      · have c2 : ¬ (b : Int) ≤ 32 := by omega
        by_cases c3 : 127 ≤ b
        · have c4 : (127 : Int) ≤ (b : Int) := by omega
          have HV := Lib.hid (show R = false by rw [HR.out]; exact HT.out (by rw [HD.out, ← HB.out, decide_eq_true (by omega), decide_eq_false (by omega)]; rfl))
          go_wp2
          go_ret
          exact ⟨ret_bool HV.out.symm, hX1⟩
        · have c4 : ¬ (127 : Int) ≤ (b : Int) := by omega
          have HV := Lib.hid (show tgB l[k] = true by rw [HD.out, ← HB.out, decide_eq_true (by omega), decide_eq_true (by omega)]; rfl)
          go_wp2
          go_roundw
          case rel => exact ⟨k + 1, by go_num, by omega, fun j hj h2 => by
            rcases Nat.lt_or_ge j k with h3 | h3
            · exact HNO.out j hj h3
            · obtain rfl : j = k := by omega
              exact HV.out, by trivial⟩
          case measure => simp [intOf]; omega
    · have hall := tg_all (fun j hj => HNO.out j hj (by omega))
      by_cases h0 : l = []
      · have HV := Lib.hid (show R = false by rw [HR.out, h0]; rfl)
        have hkl : k = l.length := by omega
        subst h0
        subst hkl
        rw [show str ([] : List UInt8) = ⟨#[]⟩ from rfl]
        go_wp2
        go_ret
        exact ⟨ret_bool HV.out.symm, hX1⟩
      · have HV := Lib.hid (show R = true by rw [HR.out]; unfold tgH; rw [hall]; simp [h0])
        have e1 : l.isEmpty = false := by rw [List.isEmpty_eq_false_iff]; exact h0
        have e2 : (str l).toList.isEmpty = false := by rw [Lib.toList_data]; exact e1
        have hkl : k = l.length := by omega
        subst hkl
        clear hall h0
        go_wp2
        go_ret
        exact ⟨ret_bool HV.out.symm, hX1⟩
end Go.Proofs.YtppajpchibkneaaGreatDoor
end

/-
Head's version: its digit.
-/
section
namespace Go.Proofs.YtppajpchibkneaaGreatDoor
open Go.RowKit

def httpL : List UInt8 := [72, 84, 84, 80, 47, 49, 46]
/-- The digit of a version, and whether it is one. -/
def verH (l : List UInt8) : Int × Bool :=
  match l with
  | [72, 84, 84, 80, 47, 49, 46, d] => if 48 ≤ d.toNat ∧ d.toNat ≤ 57 then ((d.toNat : Int) - 48, true) else (0, false)
  | _ => (0, false)
theorem cut_yes (r : List UInt8) (w : World) : Calls Tryz.prog 58 #[.string (str (httpL ++ r)), .string ⟨#[72, 84, 84, 80, 47, 49, 46]⟩] w fun e w' => e = .returned (.tuple #[.string (str r), .bool true]) ∧ w = w' := by
  refine (Tryz.strings_CutPrefix (str (httpL ++ r)) ⟨#[72, 84, 84, 80, 47, 49, 46]⟩ w).mono ?_
  rintro e w' ⟨rfl, rfl⟩
  have h : Lib.hasPrefix (httpL ++ r) [72, 84, 84, 80, 47, 49, 46] = true := by simp [Lib.hasPrefix, httpL]
  refine ⟨?_, rfl⟩
  rw [str_data]
  show Ending.returned (.tuple #[.string ⟨(Lib.trimPrefix (httpL ++ r) [72, 84, 84, 80, 47, 49, 46]).toArray⟩, .bool (Lib.hasPrefix (httpL ++ r) [72, 84, 84, 80, 47, 49, 46])]) = _
  rw [h]
  unfold Lib.trimPrefix
  rw [h]
  rfl
theorem cut_no (l : List UInt8) (hn : ∀ r, l ≠ httpL ++ r) (w : World) : Calls Tryz.prog 58 #[.string (str l), .string ⟨#[72, 84, 84, 80, 47, 49, 46]⟩] w fun e w' => e = .returned (.tuple #[.string (str l), .bool false]) ∧ w = w' := by
  refine (Tryz.strings_CutPrefix (str l) ⟨#[72, 84, 84, 80, 47, 49, 46]⟩ w).mono ?_
  rintro e w' ⟨rfl, rfl⟩
  have h : Lib.hasPrefix l [72, 84, 84, 80, 47, 49, 46] = false := by
    cases hc : Lib.hasPrefix l [72, 84, 84, 80, 47, 49, 46] with
    | false => rfl
    | true =>
      unfold Lib.hasPrefix at hc
      rw [List.isPrefixOf_iff_prefix] at hc
      obtain ⟨r, hr⟩ := hc
      exact absurd hr.symm (hn r)
  refine ⟨?_, rfl⟩
  rw [str_data]
  show Ending.returned (.tuple #[.string ⟨(Lib.trimPrefix l [72, 84, 84, 80, 47, 49, 46]).toArray⟩, .bool (Lib.hasPrefix l [72, 84, 84, 80, 47, 49, 46])]) = _
  rw [h]
  unfold Lib.trimPrefix
  rw [h]
  rfl
theorem ver_no {l : List UInt8} (hn : ∀ r, l ≠ httpL ++ r) : verH l = (0, false) := by
  unfold verH
  split
  · rename_i d
    exact absurd rfl (hn [d])
  · rfl
theorem ver_len {r : List UInt8} (h : r.length ≠ 1) : verH (httpL ++ r) = (0, false) := by
  unfold verH
  split
  · rename_i d hd
    have h2 := congrArg List.length hd
    simp [httpL] at h2
    omega
  · rfl
theorem ver_one (d : UInt8) : verH (httpL ++ [d]) = if 48 ≤ d.toNat ∧ d.toNat ≤ 57 then ((d.toNat : Int) - 48, true) else (0, false) := rfl
set_option maxRecDepth 100000 in
set_option maxHeartbeats 1000000 in
theorem hVersion_c (l : List UInt8) (hs : l.length ≤ maxLen) (w : World) :
    Calls Tryz.prog 47 #[.string (str l)] w fun e w' => e = .returned (.tuple #[.int .i64 (verH l).1, .bool (verH l).2]) ∧ w = w' := by
  by_cases hp : ∃ r, l = httpL ++ r
  · obtain ⟨r, rfl⟩ := hp
    have C := Lib.hid (fun w' => cut_yes r w')
    by_cases h1 : r.length = 1
    · obtain ⟨d, rfl⟩ : ∃ d, r = [d] := List.length_eq_one_iff.1 h1
      rw [ver_one]
      obtain ⟨s, hs⟩ : ∃ s, s = str (httpL ++ [d]) := ⟨_, rfl⟩
      rw [← hs] at C ⊢
      have h256 := UInt8.toNat_lt d
      clear hs
      by_cases c1 : d.toNat < 48
      · have d1 : (d.toNat : Int) < 48 := by omega
        rw [if_neg (by omega)]
        go_enter Tryz.func47, Tryz.ntmps47
        go_wp2_with (go_at_call 58; refine (C.out _).mono ?_; rintro e w1 ⟨rfl, rfl⟩)
        go_ret2
        exact ⟨rfl, rfl⟩
      · have d1 : ¬ (d.toNat : Int) < 48 := by omega
        by_cases c2 : 57 < d.toNat
        · have d2 : (57 : Int) < (d.toNat : Int) := by omega
          rw [if_neg (by omega)]
          go_enter Tryz.func47, Tryz.ntmps47
          go_wp2_with (go_at_call 58; refine (C.out _).mono ?_; rintro e w1 ⟨rfl, rfl⟩)
          go_ret2
          exact ⟨rfl, rfl⟩
        · have d2 : ¬ (57 : Int) < (d.toNat : Int) := by omega
          rw [if_pos (by omega)]
          have s1 : IntKind.u8.wrap ((d.toNat : Int) - 48) = (d.toNat : Int) - 48 := by rw [IntKind.wrap_u8]; omega
          have s2 : IntKind.i64.wrap ((d.toNat : Int) - 48) = (d.toNat : Int) - 48 := by rw [IntKind.wrap_i64]; omega
          go_enter Tryz.func47, Tryz.ntmps47
          go_wp2_with (go_at_call 58; refine (C.out _).mono ?_; rintro e w1 ⟨rfl, rfl⟩)
          go_ret2
          exact ⟨rfl, rfl⟩
    · rw [ver_len h1]
      have e1 : ((r.length : Int) != 1) = true := by rw [bne_iff_ne]; omega
      obtain ⟨s, hs⟩ : ∃ s, s = str (httpL ++ r) := ⟨_, rfl⟩
      rw [← hs] at C ⊢
      clear hs
      go_enter Tryz.func47, Tryz.ntmps47
      go_wp2_with (go_at_call 58; refine (C.out _).mono ?_; rintro e w1 ⟨rfl, rfl⟩)
      go_ret2
      exact ⟨rfl, rfl⟩
  · have hn : ∀ r, l ≠ httpL ++ r := fun r h => hp ⟨r, h⟩
    rw [ver_no hn]
    have C := Lib.hid (fun w' => cut_no l hn w')
    go_enter Tryz.func47, Tryz.ntmps47
    go_wp2_with (go_at_call 58; refine (C.out _).mono ?_; rintro e w1 ⟨rfl, rfl⟩)
    go_ret2
    exact ⟨rfl, rfl⟩
end Go.Proofs.YtppajpchibkneaaGreatDoor
end
