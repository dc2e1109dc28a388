/-
Which texts are tokens and which are values of fields: the program's loops over the table of classes.
-/
import Derived.Test.YtemdgilifnhdpaaGreatDoorAsc1
set_option linter.unusedVariables false
set_option linter.unusedSimpArgs false
namespace Go.Proofs.YtemdgilifnhdpaaGreatDoor
open Go.RowKit

theorem gd (l : List UInt8) (k : Nat) (d : UInt8) (h : k < l.length) : l.getD k d = l[k] := by simp [List.getD, h]
/-- A byte of a text. -/
def bt (s : ByteArray) (k : Nat) : Nat := (s.data.toList.getD k 0).toNat
theorem bt_get (s : ByteArray) (k : Nat) (h : k < s.size) : s[k].toNat = bt s k := by
  unfold bt
  have : k < s.data.toList.length := by simpa using h
  rw [gd _ _ _ this]; rfl
theorem bt_lt (s : ByteArray) (k : Nat) : bt s k < 256 := UInt8.toNat_lt _
theorem all_take (s : ByteArray) (p : Nat → Bool) (k : Nat) (h : k < s.size) : ((s.data.toList.take (k + 1)).all fun b => p b.toNat) = (((s.data.toList.take k).all fun b => p b.toNat) && p (bt s k)) := by
  have hl : k < s.data.toList.length := by simpa using h
  rw [List.take_succ_eq_append_getElem hl, List.all_append]
  unfold bt
  rw [gd _ _ _ hl]
  simp
theorem all_false (s : ByteArray) (p : Nat → Bool) (k : Nat) (h : k < s.size) (hp : p (bt s k) = false) : (s.data.toList.all fun b => p b.toNat) = false := by
  have hl : k < s.data.toList.length := by simpa using h
  rw [Bool.eq_false_iff]
  intro ha
  have := List.all_eq_true.1 ha _ (List.getElem_mem hl)
  unfold bt at hp
  rw [gd _ _ _ hl] at hp
  rw [hp] at this
  cases this
/-- What a bit of the table says. -/
def hasB (bit : Int) (c : Nat) : Bool := if bit = 1 then tokB c else if bit = 2 then valB c else uppB c
theorem bit1 : ∀ c, c < 256 → (bits .and .i64 (cls c) 1 == 0) = !tokB c := by decide +kernel
theorem bit2 : ∀ c, c < 256 → (bits .and .i64 (cls c) 2 == 0) = !valB c := by decide +kernel
theorem bit4 : ∀ c, c < 256 → (bits .and .i64 (cls c) 4 == 0) = !uppB c := by decide +kernel
theorem bitH (bit : Int) (hb : bit = 1 ∨ bit = 2 ∨ bit = 4) (c : Nat) (h : c < 256) : (bits .and .i64 (cls c) bit == 0) = !hasB bit c := by
  rcases hb with rfl | rfl | rfl
  · exact bit1 c h
  · exact bit2 c h
  · exact bit4 c h

/-- The table in a new block of a later world. -/
theorem tab_at {w : World} (c : Nat) (hc : c < 256) : ((w.alloc (.cells (clsA 0) 148)).setRow w.heap.size (clsA 256)).cell? ⟨w.heap.size, c, none⟩ = some (.int .i64 (cls c)) := by
  rw [cell_setRow_same _ _ _ _ _ _ _ (heap_alloc_new w _), clsA_at _ _ hc, if_pos hc]
theorem ext_tab {a w : World} (h : Ext a w) : Ext a ((w.alloc (.cells (clsA 0) 148)).setRow w.heap.size (clsA 256)) := (h.al _).row h.size _

set_option maxRecDepth 100000 in
set_option maxHeartbeats 1000000 in
theorem all_c (s : ByteArray) (bit : Int) (hbit : bit = 1 ∨ bit = 2 ∨ bit = 4) (hs : s.size ≤ maxLen) (w : World) :
    Calls Tryz.prog 149 #[.string s, .int .i64 bit] w (Gives (.bool (s.data.toList.all fun b => hasB bit b.toNat)) w) := by
  unfold maxLen at hs
  have hi85 : (Tryz.prog.info? 148).map (·.size) = some 256 := by kernel_rfl
  have HI := Lib.hid hi85
  clear hi85
  go_enter Tryz.func149, Tryz.ntmps149
  go_wp2_with fail
  refine (classes_c _).mono ?_
  rintro e w1 ⟨rfl, hx1⟩
  go_wp2_with (refine wpList_store_row rfl 148 (.tmp 5) (.tmp 7) rfl w1.heap.size (clsA 256) rfl rfl 148 (clsA 0) (by rw [← zero85]; exact heap_alloc_new w1 _) (by rw [clsA_size]; exact HI.out) (by rw [clsA_size, clsA_size]) (clsA_one 256) ?_)
  rw [zero85]
  have hx2 := ext_tab hx1
  have ht := fun c hc => tab_at (w := w1) c hc
  have HT := Lib.hid ht
  clear ht
  generalize (w1.alloc (.cells (clsA 0) 148)).setRow w1.heap.size (clsA 256) = w2 at *
  go_loopw [10] (fun i wr => ∃ k : Nat, k ≤ s.size ∧ i = .int .i64 k ∧ ((s.data.toList.take k).all fun b => hasB bit b.toNat) = true ∧ w2 = wr) (fun i _ => s.size - (intOf i).toNat)
  case atStart => exact ⟨0, Nat.zero_le _, rfl, rfl, rfl⟩
  case round =>
    obtain ⟨k, hk, rfl, hall, rfl⟩ := hrel
    by_cases hlt : k < s.size
    · have hbt := bt_get s k hlt
      have h256 : (s[k].toNat : Int) < 256 := by rw [hbt]; have := bt_lt s k; omega
      have h000 : (0 : Int) ≤ (s[k].toNat : Int) := by omega
      have hc := HT.out s[k].toNat (by rw [hbt]; exact bt_lt s k)
      have hbit' := bitH bit hbit (bt s k) (bt_lt s k)
      have hsucc := all_take s (hasB bit) k hlt
      rw [hall] at hsucc
      cases hv : hasB bit (bt s k) with
      | true =>
        rw [hv] at hbit' hsucc
        rw [← hbt] at hbit'
        have HS := Lib.hid hsucc
        have HA := Lib.hid hall
        clear hsucc hall hv hbt
        generalize cls s[k].toNat = v at *
        simp only [Bool.not_true] at hbit'
        go_wp2
        go_roundw
        case rel => exact ⟨k + 1, by omega, by go_num, by rw [HS.out]; rfl, by trivial⟩
        case measure => simp [intOf]; omega
      | false =>
        have hfin := all_false s (hasB bit) k hlt hv
        rw [hv] at hbit'
        rw [← hbt] at hbit'
        have HF := Lib.hid hfin
        clear hsucc hall hv hbt hfin
        generalize cls s[k].toNat = v at *
        simp only [Bool.not_false] at hbit'
        go_wp2
        go_ret
        exact ⟨ret_bool HF.out.symm, hx2⟩
    · obtain rfl : k = s.size := by omega
      rw [List.take_of_length_le (by simp)] at hall
      have HA := Lib.hid hall
      clear hall
      go_wp2
      go_ret
      exact ⟨ret_bool HA.out.symm, hx2⟩
end Go.Proofs.YtemdgilifnhdpaaGreatDoor
