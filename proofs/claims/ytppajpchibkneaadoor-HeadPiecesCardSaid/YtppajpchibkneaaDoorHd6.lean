/-
Head's target: may a text stand in a first line?
-/
import Derived.Test.YtppajpchibkneaaDoorHd2
import Derived.Lib.ConvBytes
set_option linter.unusedVariables false
set_option linter.unusedSimpArgs false
namespace Go.Proofs.YtppajpchibkneaaDoor
open Go.RowKit

theorem Ext.bwH {a b : World} (h : Ext a b) (e : TypeId) (s : ByteArray) : Ext a (Lib.bytesWorld b e s) :=
  ⟨by simpa [Lib.bytesWorld, World.freeze, World.alloc, World.drew, -World.alloc_eq, -World.drew_eq] using h.os,
   by simpa [Lib.bytesWorld, World.freeze, World.alloc, World.drew, -World.alloc_eq, -World.drew_eq] using h.tape,
   by simpa [Lib.bytesWorld, World.freeze, World.alloc, World.drew, -World.alloc_eq, -World.drew_eq] using h.output,
   by rw [Lib.bytesWorld_size]; have := h.size; omega,
   fun i hi => by rw [Lib.bytesWorld_at_old _ _ _ _ (by have := h.size; omega)]; exact h.block i hi⟩
/-- May a byte stand in a target? -/
def tgB (b : UInt8) : Bool := decide (32 < b.toNat) && decide (b.toNat < 127)
def tgH (l : List UInt8) : Bool := l.all tgB && !(l == [])
theorem tg_no {l : List UInt8} {k : Nat} (h : k < l.length) (hb : tgB l[k] = false) : tgH l = false := by
  unfold tgH
  have : l.all tgB = false := by rw [List.all_eq_false]; exact ⟨l[k], List.getElem_mem h, by rw [hb]; decide⟩
  rw [this]; rfl
theorem tg_all {l : List UInt8} (h : ∀ j (hj : j < l.length), tgB l[j] = true) : l.all tgB = true := by
  rw [List.all_eq_true]
  intro b hb
  obtain ⟨j, hj, rfl⟩ := List.getElem_of_mem hb
  exact h j hj
set_option maxRecDepth 100000 in
set_option maxHeartbeats 4000000 in
theorem hTarget_c (l : List UInt8) (hs : l.length ≤ 140737488351232) (w : World) :
    Calls Tryd.prog 38 #[.string (str l)] w (Gives (.bool (tgH l)) w) := by
  obtain ⟨R, hR⟩ : ∃ R, R = tgH l := ⟨_, rfl⟩
  rw [← hR]
  have HR := Lib.hid hR
  clear hR
  have hms : maxLen = 9223372036854775807 := rfl
  have CV := fun w => Lib.run_convert_string_bytes (P := Tryd.prog) w 9 22 5 (str l) Tryd.underlying9 Tryd.underlying22 Tryd.underlying5
  go_enter Tryd.func38, Tryd.ntmps38
  go_wp2
  clear CV
  obtain ⟨W1, hW1⟩ : ∃ W1, W1 = Lib.bytesWorld w 5 (str l) := ⟨_, rfl⟩
  rw [← hW1]
  have hX1 : Ext w W1 := by rw [hW1]; exact Ext.bwH (Ext.rfl' _) _ _
  have HC := Lib.hid (show ∀ k (h : k < l.length), W1.cell? ⟨w.heap.size, k, none⟩ = some (.int .u8 (l[k].toNat : Int)) from fun k h => by
    have hc := Lib.bytesWorld_cell w 5 (str l) k (by simpa using h)
    rw [← hW1] at hc
    rw [hc]
    simp [List.getD, h])
  clear hW1
  go_loopw [8] (fun i wr => ∃ k : Nat, i = .int .i64 k ∧ k ≤ l.length ∧ (∀ j (hj : j < l.length), j < k → tgB l[j] = true) ∧ W1 = wr) (fun i _ => l.length - (intOf i).toNat)
  case atStart => exact ⟨0, rfl, Nat.zero_le _, fun j _ h => by omega, by trivial⟩
  case round =>
    obtain ⟨k, rfl, hk, hno, rfl⟩ := hrel
    have HNO := Lib.hid hno
    clear hno
    by_cases hlt : k < l.length
    · have hck := HC.out k hlt
      have h256 := UInt8.toNat_lt l[k]
      have hki : (k : Int) + 1 ≤ 9223372036854775807 := by omega
      have hk0 : (0 : Int) ≤ (k : Int) := by omega
      have hk1 : (k : Int) < (l.length : Int) := by omega
      have HT := Lib.hid (fun hb => tg_no hlt hb)
      have HD := Lib.hid (show tgB l[k] = (decide (32 < l[k].toNat) && decide (l[k].toNat < 127)) from rfl)
      obtain ⟨b, hb⟩ : ∃ b, b = l[k].toNat := ⟨_, rfl⟩
      rw [← hb] at hck h256
      have HB := Lib.hid hb
      clear hb
      by_cases c1 : b ≤ 32
      · have c2 : (b : Int) ≤ 32 := by omega
        have HV := Lib.hid (show R = false by rw [HR.out]; exact HT.out (by rw [HD.out, ← HB.out, decide_eq_false (by omega)]; rfl))
        go_wp2
        go_ret
        exact ⟨ret_bool HV.out.symm, hX1⟩
      · have c2 : ¬ (b : Int) ≤ 32 := by omega
        by_cases c3 : 127 ≤ b
        · have c4 : (127 : Int) ≤ (b : Int) := by omega
          have HV := Lib.hid (show R = false by rw [HR.out]; exact HT.out (by rw [HD.out, ← HB.out, decide_eq_true (by omega), decide_eq_false (by omega)]; rfl))
          go_wp2
          go_ret
          exact ⟨ret_bool HV.out.symm, hX1⟩
        · have c4 : ¬ (127 : Int) ≤ (b : Int) := by omega
          have HV := Lib.hid (show tgB l[k] = true by rw [HD.out, ← HB.out, decide_eq_true (by omega), decide_eq_true (by omega)]; rfl)
          go_wp2
          go_roundw
          case rel => exact ⟨k + 1, by go_num, by omega, fun j hj h2 => by
            rcases Nat.lt_or_ge j k with h3 | h3
            · exact HNO.out j hj h3
            · obtain rfl : j = k := by omega
              exact HV.out, by trivial⟩
          case measure => simp [intOf]; omega
    · have hall := tg_all (fun j hj => HNO.out j hj (by omega))
      by_cases h0 : l = []
      · have HV := Lib.hid (show R = false by rw [HR.out, h0]; rfl)
        have hkl : k = l.length := by omega
        subst h0
        subst hkl
        rw [show str ([] : List UInt8) = ⟨#[]⟩ from rfl]
        go_wp2
        go_ret
        exact ⟨ret_bool HV.out.symm, hX1⟩
      · have HV := Lib.hid (show R = true by rw [HR.out]; unfold tgH; rw [hall]; simp [h0])
        have e1 : l.isEmpty = false := by rw [List.isEmpty_eq_false_iff]; exact h0
        have e2 : (str l).toList.isEmpty = false := by rw [Lib.toList_data]; exact e1
        have hkl : k = l.length := by omega
        subst hkl
        clear hall h0
        go_wp2
        go_ret
        exact ⟨ret_bool HV.out.symm, hX1⟩
end Go.Proofs.YtppajpchibkneaaDoor
