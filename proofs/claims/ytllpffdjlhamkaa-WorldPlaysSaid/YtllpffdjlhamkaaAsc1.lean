/-
The table of classes of bytes that package ascii makes: its 256 numbers.
-/
import Derived.Test.YtllpffdjlhamkaaBytes
import Derived.Test.YtllpffdjlhamkaaShelf
import Derived.Laws.Tables
set_option linter.unusedVariables false
set_option linter.unusedSimpArgs false
namespace Go.Proofs.Ytllpffdjlhamkaa
open Go.RowKit

/-- The bytes that may stand in a token beside letters and digits. -/
def punct : List UInt8 := [33, 35, 36, 37, 38, 39, 42, 43, 45, 46, 94, 95, 96, 124, 126]
/-- Where such a byte stands; -1: nowhere. -/
def idxP (c : Nat) : Int := Lib.indexByte punct c.toUInt8
def alnumB (c : Nat) : Bool := (decide (97 ≤ c) && decide (c ≤ 122)) || (decide (65 ≤ c) && decide (c ≤ 90)) || (decide (48 ≤ c) && decide (c ≤ 57))
def tokB (c : Nat) : Bool := alnumB c || (decide (32 < c) && decide (c < 127) && decide (0 ≤ idxP c))
def valB (c : Nat) : Bool := decide (c = 9) || (decide (32 ≤ c) && decide (c ≠ 127))
def uppB (c : Nat) : Bool := decide (65 ≤ c) && decide (c ≤ 90)
def cls (c : Nat) : Int := (if tokB c then 1 else 0) + (if valB c then 2 else 0) + (if uppB c then 4 else 0)
/-- The first k numbers of the table; the others are 0 yet. -/
def clsA (k : Nat) : Array Value := ((List.range 256).map fun i => Value.int .i64 (if i < k then cls i else 0)).toArray
theorem clsA_size (k : Nat) : (clsA k).size = 256 := by simp [clsA]
theorem clsA_at (k i : Nat) (h : i < 256) : (clsA k)[i]? = some (.int .i64 (if i < k then cls i else 0)) := by simp [clsA, h]
theorem clsA_one (k : Nat) : (clsA k).all (·.oneCell') = true := by
  rw [Array.all_eq_true]
  intro i hi
  simp [clsA, Value.oneCell']
theorem clsA_set (k : Nat) (h : k < 256) : (clsA k).setIfInBounds k (.int .i64 (cls k)) = clsA (k + 1) := by
  apply Array.ext
  · simp [clsA_size]
  · intro i h1 h2
    have h3 : i < 256 := by simpa [clsA_size] using h1
    by_cases hik : k = i
    · subst hik
      simp [clsA, h3]
    · rw [Array.getElem_setIfInBounds_ne (by rw [clsA_size]; omega) hik]
      simp only [clsA, List.getElem_toArray, List.getElem_map, List.getElem_range]
      congr 1
      by_cases hlt : i < k
      · rw [if_pos hlt, if_pos (by omega)]
      · rw [if_neg hlt, if_neg (by omega)]

theorem IndexP_c (c : Nat) (hc : c < 256) (w : World) :
    Calls Try.prog 35 #[.string ⟨#[33, 35, 36, 37, 38, 39, 42, 43, 45, 46, 94, 95, 96, 124, 126]⟩, .int .u8 (c : Int)] w fun e w' => e = .returned (.int .i64 (idxP c)) ∧ w = w' :=
  (Try.strings_IndexByte _ _ _).mono fun e w' ⟨he, hw⟩ => ⟨by rw [he]; rfl, hw.symm⟩

/-- A store into a block that is known whole. -/
theorem blk_set {w : World} {g : Nat} {cs : Array Value} {t : TypeId} (h : w.heap[g]? = some (.cells cs t (0, 0))) (i : Nat) (v : Value) : (w.setCell ⟨g, i, none⟩ v).heap[g]? = some (.cells (cs.setIfInBounds i v) t (0, 0)) := by
  simp [World.setCell, Array.getElem?_modify, h]
theorem blk_oth {w : World} {g b : Nat} {o : Option Obj} (h : w.heap[g]? = o) (hb : g ≠ b) (i : Nat) (v : Value) : (w.setCell ⟨b, i, none⟩ v).heap[g]? = o := by
  rw [← h]; exact Below.heap_setCell w _ v g hb

/-- What the three stores of one round make of a number. -/
theorem idxP_lt : ∀ c, c < 256 → -1 ≤ idxP c ∧ idxP c < 15 := by decide +kernel

theorem Ext.row {a b : World} (h : Ext a b) {g : Nat} (hg : a.heap.size ≤ g) (cs : Array Value) : Ext a (b.setRow g cs) :=
  Below.trans h ⟨rfl, rfl, rfl, by simp [World.setRow], fun k hk => setRow_other _ _ _ _ (by omega)⟩
theorem clsA_same (k : Nat) (h : cls k = 0) : clsA (k + 1) = clsA k := by
  unfold clsA
  congr 1
  apply List.map_congr_left
  intro i _
  congr 1
  by_cases hik : i = k
  · subst hik; rw [if_pos (by omega), if_neg (by omega), h]
  · by_cases hlt : i < k
    · rw [if_pos hlt, if_pos (by omega)]
    · rw [if_neg hlt, if_neg (by omega)]
section
variable {w : World} {g k : Nat} {t : TypeId} {a b c : Value}
theorem st0 (h : w.heap[g]? = some (.cells (clsA k) t (0, 0))) (hc : cls k = 0) : w.heap[g]? = some (.cells (clsA (k + 1)) t (0, 0)) := by rw [clsA_same k hc]; exact h
theorem st1 (h : w.heap[g]? = some (.cells (clsA k) t (0, 0))) (hk : k < 256) (hc : a = .int .i64 (cls k)) : (w.setCell ⟨g, k, none⟩ a).heap[g]? = some (.cells (clsA (k + 1)) t (0, 0)) := by
  rw [blk_set h, hc, clsA_set k hk]
theorem st2 (h : w.heap[g]? = some (.cells (clsA k) t (0, 0))) (hk : k < 256) (hc : b = .int .i64 (cls k)) : ((w.setCell ⟨g, k, none⟩ a).setCell ⟨g, k, none⟩ b).heap[g]? = some (.cells (clsA (k + 1)) t (0, 0)) := by
  rw [blk_set (blk_set h _ _), Array.setIfInBounds_setIfInBounds, hc, clsA_set k hk]
theorem st3 (h : w.heap[g]? = some (.cells (clsA k) t (0, 0))) (hk : k < 256) (hc : c = .int .i64 (cls k)) : (((w.setCell ⟨g, k, none⟩ a).setCell ⟨g, k, none⟩ b).setCell ⟨g, k, none⟩ c).heap[g]? = some (.cells (clsA (k + 1)) t (0, 0)) := by
  rw [blk_set (blk_set (blk_set h _ _) _ _), Array.setIfInBounds_setIfInBounds, Array.setIfInBounds_setIfInBounds, hc, clsA_set k hk]
end
theorem cl_a : ∀ c, c < 256 → c ≤ 8 → cls c = 0 := by decide +kernel
theorem cl_c : ∀ c, c < 256 → 10 ≤ c → c ≤ 31 → cls c = 0 := by decide +kernel
theorem cl_p : ∀ c, c < 256 → 33 ≤ c → c ≤ 126 → 0 ≤ idxP c → cls c = 3 := by decide +kernel
theorem cl_q : ∀ c, c < 256 → (33 ≤ c ∧ c ≤ 47 ∨ 58 ≤ c ∧ c ≤ 64 ∨ 91 ≤ c ∧ c ≤ 96 ∨ 123 ≤ c ∧ c ≤ 126) → idxP c < 0 → cls c = 2 := by decide +kernel
theorem cl_d : ∀ c, c < 256 → 48 ≤ c → c ≤ 57 → cls c = 3 := by decide +kernel
theorem cl_u : ∀ c, c < 256 → 65 ≤ c → c ≤ 90 → cls c = 7 := by decide +kernel
theorem cl_l : ∀ c, c < 256 → 97 ≤ c → c ≤ 122 → cls c = 3 := by decide +kernel
theorem cl_h : ∀ c, c < 256 → 128 ≤ c → cls c = 2 := by decide +kernel


end Go.Proofs.Ytllpffdjlhamkaa
