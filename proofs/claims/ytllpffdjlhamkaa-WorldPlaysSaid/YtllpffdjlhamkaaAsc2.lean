/-
Which texts are tokens and which are values of fields: the program's loops over the table of classes.
-/
import Derived.Test.YtllpffdjlhamkaaAsc1
set_option linter.unusedVariables false
set_option linter.unusedSimpArgs false
namespace Go.Proofs.Ytllpffdjlhamkaa
open Go.RowKit

theorem gd (l : List UInt8) (k : Nat) (d : UInt8) (h : k < l.length) : l.getD k d = l[k] := by simp [List.getD, h]
/-- A byte of a text. -/
def bt (s : ByteArray) (k : Nat) : Nat := (s.data.toList.getD k 0).toNat
theorem bt_get (s : ByteArray) (k : Nat) (h : k < s.size) : s[k].toNat = bt s k := by
  unfold bt
  have : k < s.data.toList.length := by simpa using h
  rw [gd _ _ _ this]; rfl
theorem bt_lt (s : ByteArray) (k : Nat) : bt s k < 256 := UInt8.toNat_lt _
theorem all_take (s : ByteArray) (p : Nat → Bool) (k : Nat) (h : k < s.size) : ((s.data.toList.take (k + 1)).all fun b => p b.toNat) = (((s.data.toList.take k).all fun b => p b.toNat) && p (bt s k)) := by
  have hl : k < s.data.toList.length := by simpa using h
  rw [List.take_succ_eq_append_getElem hl, List.all_append]
  unfold bt
  rw [gd _ _ _ hl]
  simp
theorem all_false (s : ByteArray) (p : Nat → Bool) (k : Nat) (h : k < s.size) (hp : p (bt s k) = false) : (s.data.toList.all fun b => p b.toNat) = false := by
  have hl : k < s.data.toList.length := by simpa using h
  rw [Bool.eq_false_iff]
  intro ha
  have := List.all_eq_true.1 ha _ (List.getElem_mem hl)
  unfold bt at hp
  rw [gd _ _ _ hl] at hp
  rw [hp] at this
  cases this
/-- What a bit of the table says. -/
def hasB (bit : Int) (c : Nat) : Bool := if bit = 1 then tokB c else if bit = 2 then valB c else uppB c
theorem bit1 : ∀ c, c < 256 → (bits .and .i64 (cls c) 1 == 0) = !tokB c := by decide +kernel
theorem bit2 : ∀ c, c < 256 → (bits .and .i64 (cls c) 2 == 0) = !valB c := by decide +kernel
theorem bit4 : ∀ c, c < 256 → (bits .and .i64 (cls c) 4 == 0) = !uppB c := by decide +kernel
theorem bitH (bit : Int) (hb : bit = 1 ∨ bit = 2 ∨ bit = 4) (c : Nat) (h : c < 256) : (bits .and .i64 (cls c) bit == 0) = !hasB bit c := by
  rcases hb with rfl | rfl | rfl
  · exact bit1 c h
  · exact bit2 c h
  · exact bit4 c h

end Go.Proofs.Ytllpffdjlhamkaa
