/-
Words for bytes: a slice of bytes that reads as a list, and the conversions between slices of bytes and texts. No program in sight.
-/
import Derived.Test.YtemdgilifnhdpaaGreatDoorBase
set_option linter.unusedVariables false
set_option linter.unusedSimpArgs false
namespace Go.Proofs.YtemdgilifnhdpaaGreatDoor
open Go.RowKit

/-- The cells of a list of bytes. -/
def bc (l : List UInt8) : List Value := l.map fun b => .int .u8 (b.toNat : Int)
@[simp] theorem bc_len (l : List UInt8) : (bc l).length = l.length := by simp [bc]
theorem bc_at (l : List UInt8) (k : Nat) (h : k < l.length) : (bc l)[k]? = some (.int .u8 (l[k].toNat : Int)) := by simp [bc, h]
theorem bc_app (a b : List UInt8) : bc (a ++ b) = bc a ++ bc b := by simp [bc]
theorem bc_take (a : List UInt8) (k : Nat) : (bc a).take k = bc (a.take k) := by simp [bc]
theorem bc_drop (a : List UInt8) (k : Nat) : (bc a).drop k = bc (a.drop k) := by simp [bc]
theorem bc_one (l : List UInt8) : ∀ u ∈ bc l, u.oneCell' = true := by
  intro u hu
  simp only [bc, List.mem_map] at hu
  obtain ⟨b, _, rfl⟩ := hu
  rfl
/-- The text of a list of bytes. -/
def str (l : List UInt8) : ByteArray := ⟨l.toArray⟩
@[simp] theorem str_data (l : List UInt8) : (str l).data.toList = l := rfl
@[simp] theorem str_toList (s : ByteArray) : str s.data.toList = s := by cases s; simp [str]
@[simp] theorem str_size (l : List UInt8) : (str l).size = l.length := by simp [str, ByteArray.size]

@[simp] theorem str_app (a b : List UInt8) : str a ++ str b = str (a ++ b) := by
  simp [str, ByteArray.mk_append_mk]
@[simp] theorem mk_app_str (a : Array UInt8) (b : List UInt8) : (⟨a⟩ : ByteArray) ++ str b = str (a.toList ++ b) := by
  rw [← str_app]; congr 1
@[simp] theorem str_app_mk (a : List UInt8) (b : Array UInt8) : str a ++ (⟨b⟩ : ByteArray) = str (a ++ b.toList) := by
  rw [← str_app]; congr 1
@[simp] theorem mk_app_mk (a b : Array UInt8) : (⟨a⟩ : ByteArray) ++ (⟨b⟩ : ByteArray) = str (a.toList ++ b.toList) := by
  rw [← str_app]; congr 1
theorem cat_ok {P : Program} (a b : ByteArray) (h : a.size + b.size ≤ 9223372036854775807) : ∀ w, (Op.stringOp .add a b).run P w = .ok (.string (a ++ b)) w := fun w => run_string_add_sum w a b h

section
variable {P : Program} (src dst e : TypeId)
/-- A text out of a slice of bytes. -/
theorem conv_bs (hs : P.underlying src = some (.slice e)) (he : P.underlying e = some (.int .u8)) (hd : P.underlying dst = some .string) {w : World} {A : Option Addr} {l : List UInt8} (h : Rd w A (bc l)) (n c : Nat) (hn : n = l.length) :
    (convert src dst (.slice A n c)).run P w = .ok (.string (str l)) w := by
  subst hn
  by_cases h0 : l = []
  · subst h0
    cases A with
    | none => exact run_convert_bytes_nil w src e hs he 0 c dst hd
    | some a => exact run_convert_bytes_back w src dst e a c [] hs he hd (fun j hj => by simp at hj)
  · obtain ⟨b, o, rfl, _, hc⟩ := h.at_ (by rw [bc_len]; exact List.length_pos_iff.2 h0)
    exact run_convert_bytes_back w src dst e ⟨b, o, none⟩ c l hs he hd (fun j hj => by rw [add_mk]; exact hc j _ (bc_at l j hj))
/-- A text of one byte. -/
theorem conv_one (hs : P.underlying src = some (.slice e)) (he : P.underlying e = some (.int .u8)) (hd : P.underlying dst = some .string) (x : Int) (hx : 0 ≤ x) (hx' : x < 256) (w : World) :
    (convert src dst (.slice (some ⟨w.heap.size, 0, none⟩) 1 1)).run P (w.alloc (.cells #[.int .u8 x] e)) = .ok (.string (str [UInt8.ofNat x.toNat])) (w.alloc (.cells #[.int .u8 x] e)) := by
  refine conv_bs src dst e hs he hd (l := [UInt8.ofNat x.toNat]) (.inr ⟨_, _, rfl, fun j u hj => ?_⟩) 1 1 rfl
  have hb : bc [UInt8.ofNat x.toNat] = [.int .u8 x] := by
    simp only [bc, List.map_cons, List.map_nil, UInt8.toNat_ofNat']
    rw [Nat.mod_eq_of_lt (by omega)]
    rw [Int.toNat_of_nonneg hx]
  rw [hb] at hj
  rw [Nat.zero_add]
  exact new_at w #[.int .u8 x] e j u (by simpa using hj)
end
end Go.Proofs.YtemdgilifnhdpaaGreatDoor
