/-
The table of classes of bytes that package ascii makes: its 256 numbers.
-/
import Derived.Test.YtemdgilifnhdpaaGreatDoorZac
import Derived.Test.YtemdgilifnhdpaaGreatDoorShelf
import Derived.Laws.Tables
set_option linter.unusedVariables false
set_option linter.unusedSimpArgs false
namespace Go.Proofs.YtemdgilifnhdpaaGreatDoor
open Go.RowKit

def punct : List UInt8 := [33, 35, 36, 37, 38, 39, 42, 43, 45, 46, 94, 95, 96, 124, 126]
def idxP (c : Nat) : Int := Lib.indexByte punct c.toUInt8
def alnumB (c : Nat) : Bool := (decide (97 ≤ c) && decide (c ≤ 122)) || (decide (65 ≤ c) && decide (c ≤ 90)) || (decide (48 ≤ c) && decide (c ≤ 57))
def tokB (c : Nat) : Bool := alnumB c || (decide (32 < c) && decide (c < 127) && decide (0 ≤ idxP c))
def valB (c : Nat) : Bool := decide (c = 9) || (decide (32 ≤ c) && decide (c ≠ 127))
def uppB (c : Nat) : Bool := decide (65 ≤ c) && decide (c ≤ 90)
def cls (c : Nat) : Int := (if tokB c then 1 else 0) + (if valB c then 2 else 0) + (if uppB c then 4 else 0)
def clsA (k : Nat) : Array Value := ((List.range 256).map fun i => Value.int .i64 (if i < k then cls i else 0)).toArray
theorem clsA_size (k : Nat) : (clsA k).size = 256 := by simp [clsA]
theorem clsA_at (k i : Nat) (h : i < 256) : (clsA k)[i]? = some (.int .i64 (if i < k then cls i else 0)) := by simp [clsA, h]
theorem clsA_one (k : Nat) : (clsA k).all (·.oneCell') = true := by
  rw [Array.all_eq_true]
  intro i hi
  simp [clsA, Value.oneCell']
theorem clsA_set (k : Nat) (h : k < 256) : (clsA k).setIfInBounds k (.int .i64 (cls k)) = clsA (k + 1) := by
  apply Array.ext
  · simp [clsA_size]
  · intro i h1 h2
    have h3 : i < 256 := by simpa [clsA_size] using h1
    by_cases hik : k = i
    · subst hik
      simp [clsA, h3]
    · rw [Array.getElem_setIfInBounds_ne (by rw [clsA_size]; omega) hik]
      simp only [clsA, List.getElem_toArray, List.getElem_map, List.getElem_range]
      congr 1
      by_cases hlt : i < k
      · rw [if_pos hlt, if_pos (by omega)]
      · rw [if_neg hlt, if_neg (by omega)]

theorem IndexP_c (c : Nat) (hc : c < 256) (w : World) :
    Calls Tryz.prog 88 #[.string ⟨#[33, 35, 36, 37, 38, 39, 42, 43, 45, 46, 94, 95, 96, 124, 126]⟩, .int .u8 (c : Int)] w fun e w' => e = .returned (.int .i64 (idxP c)) ∧ w = w' :=
  (Tryz.strings_IndexByte _ _ _).mono fun e w' ⟨he, hw⟩ => ⟨by rw [he]; rfl, hw.symm⟩

theorem blk_set {w : World} {g : Nat} {cs : Array Value} {t : TypeId} (h : w.heap[g]? = some (.cells cs t (0, 0))) (i : Nat) (v : Value) : (w.setCell ⟨g, i, none⟩ v).heap[g]? = some (.cells (cs.setIfInBounds i v) t (0, 0)) := by
  simp [World.setCell, Array.getElem?_modify, h]
theorem blk_oth {w : World} {g b : Nat} {o : Option Obj} (h : w.heap[g]? = o) (hb : g ≠ b) (i : Nat) (v : Value) : (w.setCell ⟨b, i, none⟩ v).heap[g]? = o := by
  rw [← h]; exact Below.heap_setCell w _ v g hb

theorem Ext.row {a b : World} (h : Ext a b) {g : Nat} (hg : a.heap.size ≤ g) (cs : Array Value) : Ext a (b.setRow g cs) :=
  Below.trans h ⟨rfl, rfl, rfl, by simp [World.setRow], fun k hk => setRow_other _ _ _ _ (by omega)⟩
theorem clsA_same (k : Nat) (h : cls k = 0) : clsA (k + 1) = clsA k := by
  unfold clsA
  congr 1
  apply List.map_congr_left
  intro i _
  congr 1
  by_cases hik : i = k
  · subst hik; rw [if_pos (by omega), if_neg (by omega), h]
  · by_cases hlt : i < k
    · rw [if_pos hlt, if_pos (by omega)]
    · rw [if_neg hlt, if_neg (by omega)]
section
variable {w : World} {g k : Nat} {t : TypeId} {a b c : Value}
theorem st0 (h : w.heap[g]? = some (.cells (clsA k) t (0, 0))) (hc : cls k = 0) : w.heap[g]? = some (.cells (clsA (k + 1)) t (0, 0)) := by rw [clsA_same k hc]; exact h
theorem st1 (h : w.heap[g]? = some (.cells (clsA k) t (0, 0))) (hk : k < 256) (hc : a = .int .i64 (cls k)) : (w.setCell ⟨g, k, none⟩ a).heap[g]? = some (.cells (clsA (k + 1)) t (0, 0)) := by
  rw [blk_set h, hc, clsA_set k hk]
theorem st2 (h : w.heap[g]? = some (.cells (clsA k) t (0, 0))) (hk : k < 256) (hc : b = .int .i64 (cls k)) : ((w.setCell ⟨g, k, none⟩ a).setCell ⟨g, k, none⟩ b).heap[g]? = some (.cells (clsA (k + 1)) t (0, 0)) := by
  rw [blk_set (blk_set h _ _), Array.setIfInBounds_setIfInBounds, hc, clsA_set k hk]
theorem st3 (h : w.heap[g]? = some (.cells (clsA k) t (0, 0))) (hk : k < 256) (hc : c = .int .i64 (cls k)) : (((w.setCell ⟨g, k, none⟩ a).setCell ⟨g, k, none⟩ b).setCell ⟨g, k, none⟩ c).heap[g]? = some (.cells (clsA (k + 1)) t (0, 0)) := by
  rw [blk_set (blk_set (blk_set h _ _) _ _), Array.setIfInBounds_setIfInBounds, Array.setIfInBounds_setIfInBounds, hc, clsA_set k hk]
end
theorem cl_a : ∀ c, c < 256 → c ≤ 8 → cls c = 0 := by decide +kernel
theorem cl_c : ∀ c, c < 256 → 10 ≤ c → c ≤ 31 → cls c = 0 := by decide +kernel
theorem cl_p : ∀ c, c < 256 → 33 ≤ c → c ≤ 126 → 0 ≤ idxP c → cls c = 3 := by decide +kernel
theorem cl_q : ∀ c, c < 256 → (33 ≤ c ∧ c ≤ 47 ∨ 58 ≤ c ∧ c ≤ 64 ∨ 91 ≤ c ∧ c ≤ 96 ∨ 123 ≤ c ∧ c ≤ 126) → idxP c < 0 → cls c = 2 := by decide +kernel
theorem cl_d : ∀ c, c < 256 → 48 ≤ c → c ≤ 57 → cls c = 3 := by decide +kernel
theorem cl_u : ∀ c, c < 256 → 65 ≤ c → c ≤ 90 → cls c = 7 := by decide +kernel
theorem cl_l : ∀ c, c < 256 → 97 ≤ c → c ≤ 122 → cls c = 3 := by decide +kernel
theorem cl_h : ∀ c, c < 256 → 128 ≤ c → cls c = 2 := by decide +kernel


theorem zero85 : Tryz.zeroCells148 = clsA 0 := by kernel_rfl
set_option maxRecDepth 100000 in
set_option maxHeartbeats 4000000 in
theorem classes_c (w : World) : Calls Tryz.prog 81 #[] w (Gives (.agg (clsA 256)) w) := by
  go_enter Tryz.func81, Tryz.ntmps81
  go_wp2_with fail
  rw [zero85]
  go_loopw [4] (fun i wr => ∃ k : Nat, k ≤ 256 ∧ i = .int .i64 k ∧ wr.heap[w.heap.size + 1]? = some (.cells (clsA k) 148 (0, 0)) ∧ wr.heap[w.heap.size]? = some (.cells (clsA 0) 148 (0, 0)) ∧ Ext w wr) (fun i _ => 256 - (intOf i).toNat)
  case atStart => exact ⟨0, by omega, rfl, heap_alloc2_new _ _ _, heap_alloc2_old _ _ _, by (repeat (first | exact Ext.rfl' _ | assumption | refine Ext.dr ?_ | refine Ext.al ?_ _ | refine Ext.st ?_ (by simp) _ | refine Ext.tr ?_ (by assumption)))⟩
  case round =>
    obtain ⟨k, hk, rfl, hg1, hg0, hext⟩ := hrel
    have c0 : k < 256 → wr.cell? ⟨w.heap.size + 1, k, none⟩ = some (.int .i64 0) := fun h => by rw [cell_of_row _ _ _ _ _ _ hg1, clsA_at _ _ h, if_neg (by omega)]
    have f0 := frozen_of_row _ _ k _ _ hg1
    have H1 := Lib.hid hg1
    have H0 := Lib.hid hg0
    clear hg1 hg0
    by_cases hlt : k < 256
    · have c0 := c0 hlt
      rcases (show k ≤ 8 ∨ k = 9 ∨ (10 ≤ k ∧ k ≤ 31) ∨ k = 32 ∨ (33 ≤ k ∧ k ≤ 47) ∨ (48 ≤ k ∧ k ≤ 57) ∨ (58 ≤ k ∧ k ≤ 64) ∨ (65 ≤ k ∧ k ≤ 90) ∨ (91 ≤ k ∧ k ≤ 96) ∨ (97 ≤ k ∧ k ≤ 122) ∨ (123 ≤ k ∧ k ≤ 126) ∨ k = 127 ∨ 128 ≤ k from by omega) with hiv | hiv | hiv | hiv | hiv | hiv | hiv | hiv | hiv | hiv | hiv | hiv | hiv
      · have hlo : 0 ≤ k := by omega
        have hhi : k ≤ 8 := by omega
        have hcl := Lib.hid (cl_a k hlt (by omega))
        have b1 : ((k : Int) == 9) = false := by rw [beq_eq_false_iff_ne]; omega
        have b2 : ((k : Int) == 127) = false := by rw [beq_eq_false_iff_ne]; omega
        have b3 : ((k : Int) != 127) = true := by rw [bne_iff_ne]; omega
        clear hiv
        go_wp2_with (go_at_call 88; refine (IndexP_c k (by omega) _).mono ?_; rintro e w1 ⟨rfl, rfl⟩)
        go_roundw
        case rel =>
          refine ⟨k + 1, by omega, by go_num, ?_, ?_, by (repeat (first | exact Ext.rfl' _ | assumption | refine Ext.dr ?_ | refine Ext.al ?_ _ | refine Ext.st ?_ (by simp) _ | refine Ext.tr ?_ (by assumption)))⟩
          · exact st0 H1.out hcl.out
          · first | exact H0.out | exact blk_oth H0.out (by omega) _ _ | exact blk_oth (blk_oth H0.out (by omega) _ _) (by omega) _ _ | exact blk_oth (blk_oth (blk_oth H0.out (by omega) _ _) (by omega) _ _) (by omega) _ _
        case measure => simp [intOf]; omega
      · obtain ⟨k', hk'⟩ : ∃ k' : Nat, k' = 9 := ⟨_, rfl⟩
        subst hiv
        go_wp2
        go_roundw
        case rel =>
          refine ⟨9 + 1, by omega, by first | rfl | go_num, ?_, ?_, by (repeat (first | exact Ext.rfl' _ | assumption | refine Ext.dr ?_ | refine Ext.al ?_ _ | refine Ext.st ?_ (by simp) _ | refine Ext.tr ?_ (by assumption)))⟩
          · exact st1 H1.out hlt rfl
          · first | exact H0.out | exact blk_oth H0.out (by omega) _ _
        case measure => simp [intOf]
      · have hlo : 10 ≤ k := by omega
        have hhi : k ≤ 31 := by omega
        have hcl := Lib.hid (cl_c k hlt (by omega) (by omega))
        have b1 : ((k : Int) == 9) = false := by rw [beq_eq_false_iff_ne]; omega
        have b2 : ((k : Int) == 127) = false := by rw [beq_eq_false_iff_ne]; omega
        have b3 : ((k : Int) != 127) = true := by rw [bne_iff_ne]; omega
        clear hiv
        go_wp2_with (go_at_call 88; refine (IndexP_c k (by omega) _).mono ?_; rintro e w1 ⟨rfl, rfl⟩)
        go_roundw
        case rel =>
          refine ⟨k + 1, by omega, by go_num, ?_, ?_, by (repeat (first | exact Ext.rfl' _ | assumption | refine Ext.dr ?_ | refine Ext.al ?_ _ | refine Ext.st ?_ (by simp) _ | refine Ext.tr ?_ (by assumption)))⟩
          · exact st0 H1.out hcl.out
          · first | exact H0.out | exact blk_oth H0.out (by omega) _ _ | exact blk_oth (blk_oth H0.out (by omega) _ _) (by omega) _ _ | exact blk_oth (blk_oth (blk_oth H0.out (by omega) _ _) (by omega) _ _) (by omega) _ _
        case measure => simp [intOf]; omega
      · obtain ⟨k', hk'⟩ : ∃ k' : Nat, k' = 32 := ⟨_, rfl⟩
        subst hiv
        go_wp2
        go_roundw
        case rel =>
          refine ⟨32 + 1, by omega, by first | rfl | go_num, ?_, ?_, by (repeat (first | exact Ext.rfl' _ | assumption | refine Ext.dr ?_ | refine Ext.al ?_ _ | refine Ext.st ?_ (by simp) _ | refine Ext.tr ?_ (by assumption)))⟩
          · exact st1 H1.out hlt rfl
          · first | exact H0.out | exact blk_oth H0.out (by omega) _ _
        case measure => simp [intOf]
      · have hlo : 33 ≤ k := by omega
        have hhi : k ≤ 47 := by omega
        by_cases hip : 0 ≤ idxP k
        · have hcl := Lib.hid (cl_p k hlt (by omega) (by omega) hip)
          have b1 : ((k : Int) == 9) = false := by rw [beq_eq_false_iff_ne]; omega
          have b2 : ((k : Int) == 127) = false := by rw [beq_eq_false_iff_ne]; omega
          have b3 : ((k : Int) != 127) = true := by rw [bne_iff_ne]; omega
          clear hiv
          go_wp2_with (go_at_call 88; refine (IndexP_c k (by omega) _).mono ?_; rintro e w1 ⟨rfl, rfl⟩)
          go_roundw
          case rel =>
            refine ⟨k + 1, by omega, by go_num, ?_, ?_, by (repeat (first | exact Ext.rfl' _ | assumption | refine Ext.dr ?_ | refine Ext.al ?_ _ | refine Ext.st ?_ (by simp) _ | refine Ext.tr ?_ (by assumption)))⟩
            · exact st2 H1.out hlt (by rw [hcl.out]; rfl)
            · first | exact H0.out | exact blk_oth H0.out (by omega) _ _ | exact blk_oth (blk_oth H0.out (by omega) _ _) (by omega) _ _ | exact blk_oth (blk_oth (blk_oth H0.out (by omega) _ _) (by omega) _ _) (by omega) _ _
          case measure => simp [intOf]; omega
        · have hcl := Lib.hid (cl_q k hlt (by omega) (by omega))
          have hip' : idxP k < 0 := by omega
          have b1 : ((k : Int) == 9) = false := by rw [beq_eq_false_iff_ne]; omega
          have b2 : ((k : Int) == 127) = false := by rw [beq_eq_false_iff_ne]; omega
          have b3 : ((k : Int) != 127) = true := by rw [bne_iff_ne]; omega
          clear hiv hip
          go_wp2_with (go_at_call 88; refine (IndexP_c k (by omega) _).mono ?_; rintro e w1 ⟨rfl, rfl⟩)
          go_roundw
          case rel =>
            refine ⟨k + 1, by omega, by go_num, ?_, ?_, by (repeat (first | exact Ext.rfl' _ | assumption | refine Ext.dr ?_ | refine Ext.al ?_ _ | refine Ext.st ?_ (by simp) _ | refine Ext.tr ?_ (by assumption)))⟩
            · exact st1 H1.out hlt (by rw [hcl.out]; rfl)
            · first | exact H0.out | exact blk_oth H0.out (by omega) _ _ | exact blk_oth (blk_oth H0.out (by omega) _ _) (by omega) _ _ | exact blk_oth (blk_oth (blk_oth H0.out (by omega) _ _) (by omega) _ _) (by omega) _ _
          case measure => simp [intOf]; omega
      · have hlo : 48 ≤ k := by omega
        have hhi : k ≤ 57 := by omega
        have hcl := Lib.hid (cl_d k hlt (by omega) (by omega))
        have b1 : ((k : Int) == 9) = false := by rw [beq_eq_false_iff_ne]; omega
        have b2 : ((k : Int) == 127) = false := by rw [beq_eq_false_iff_ne]; omega
        have b3 : ((k : Int) != 127) = true := by rw [bne_iff_ne]; omega
        clear hiv
        go_wp2_with (go_at_call 88; refine (IndexP_c k (by omega) _).mono ?_; rintro e w1 ⟨rfl, rfl⟩)
        go_roundw
        case rel =>
          refine ⟨k + 1, by omega, by go_num, ?_, ?_, by (repeat (first | exact Ext.rfl' _ | assumption | refine Ext.dr ?_ | refine Ext.al ?_ _ | refine Ext.st ?_ (by simp) _ | refine Ext.tr ?_ (by assumption)))⟩
          · exact st2 H1.out hlt (by rw [hcl.out]; rfl)
          · first | exact H0.out | exact blk_oth H0.out (by omega) _ _ | exact blk_oth (blk_oth H0.out (by omega) _ _) (by omega) _ _ | exact blk_oth (blk_oth (blk_oth H0.out (by omega) _ _) (by omega) _ _) (by omega) _ _
        case measure => simp [intOf]; omega
      · have hlo : 58 ≤ k := by omega
        have hhi : k ≤ 64 := by omega
        by_cases hip : 0 ≤ idxP k
        · have hcl := Lib.hid (cl_p k hlt (by omega) (by omega) hip)
          have b1 : ((k : Int) == 9) = false := by rw [beq_eq_false_iff_ne]; omega
          have b2 : ((k : Int) == 127) = false := by rw [beq_eq_false_iff_ne]; omega
          have b3 : ((k : Int) != 127) = true := by rw [bne_iff_ne]; omega
          clear hiv
          go_wp2_with (go_at_call 88; refine (IndexP_c k (by omega) _).mono ?_; rintro e w1 ⟨rfl, rfl⟩)
          go_roundw
          case rel =>
            refine ⟨k + 1, by omega, by go_num, ?_, ?_, by (repeat (first | exact Ext.rfl' _ | assumption | refine Ext.dr ?_ | refine Ext.al ?_ _ | refine Ext.st ?_ (by simp) _ | refine Ext.tr ?_ (by assumption)))⟩
            · exact st2 H1.out hlt (by rw [hcl.out]; rfl)
            · first | exact H0.out | exact blk_oth H0.out (by omega) _ _ | exact blk_oth (blk_oth H0.out (by omega) _ _) (by omega) _ _ | exact blk_oth (blk_oth (blk_oth H0.out (by omega) _ _) (by omega) _ _) (by omega) _ _
          case measure => simp [intOf]; omega
        · have hcl := Lib.hid (cl_q k hlt (by omega) (by omega))
          have hip' : idxP k < 0 := by omega
          have b1 : ((k : Int) == 9) = false := by rw [beq_eq_false_iff_ne]; omega
          have b2 : ((k : Int) == 127) = false := by rw [beq_eq_false_iff_ne]; omega
          have b3 : ((k : Int) != 127) = true := by rw [bne_iff_ne]; omega
          clear hiv hip
          go_wp2_with (go_at_call 88; refine (IndexP_c k (by omega) _).mono ?_; rintro e w1 ⟨rfl, rfl⟩)
          go_roundw
          case rel =>
            refine ⟨k + 1, by omega, by go_num, ?_, ?_, by (repeat (first | exact Ext.rfl' _ | assumption | refine Ext.dr ?_ | refine Ext.al ?_ _ | refine Ext.st ?_ (by simp) _ | refine Ext.tr ?_ (by assumption)))⟩
            · exact st1 H1.out hlt (by rw [hcl.out]; rfl)
            · first | exact H0.out | exact blk_oth H0.out (by omega) _ _ | exact blk_oth (blk_oth H0.out (by omega) _ _) (by omega) _ _ | exact blk_oth (blk_oth (blk_oth H0.out (by omega) _ _) (by omega) _ _) (by omega) _ _
          case measure => simp [intOf]; omega
      · have hlo : 65 ≤ k := by omega
        have hhi : k ≤ 90 := by omega
        have hcl := Lib.hid (cl_u k hlt (by omega) (by omega))
        have b1 : ((k : Int) == 9) = false := by rw [beq_eq_false_iff_ne]; omega
        have b2 : ((k : Int) == 127) = false := by rw [beq_eq_false_iff_ne]; omega
        have b3 : ((k : Int) != 127) = true := by rw [bne_iff_ne]; omega
        clear hiv
        go_wp2_with (go_at_call 88; refine (IndexP_c k (by omega) _).mono ?_; rintro e w1 ⟨rfl, rfl⟩)
        go_roundw
        case rel =>
          refine ⟨k + 1, by omega, by go_num, ?_, ?_, by (repeat (first | exact Ext.rfl' _ | assumption | refine Ext.dr ?_ | refine Ext.al ?_ _ | refine Ext.st ?_ (by simp) _ | refine Ext.tr ?_ (by assumption)))⟩
          · exact st3 H1.out hlt (by rw [hcl.out]; rfl)
          · first | exact H0.out | exact blk_oth H0.out (by omega) _ _ | exact blk_oth (blk_oth H0.out (by omega) _ _) (by omega) _ _ | exact blk_oth (blk_oth (blk_oth H0.out (by omega) _ _) (by omega) _ _) (by omega) _ _
        case measure => simp [intOf]; omega
      · have hlo : 91 ≤ k := by omega
        have hhi : k ≤ 96 := by omega
        by_cases hip : 0 ≤ idxP k
        · have hcl := Lib.hid (cl_p k hlt (by omega) (by omega) hip)
          have b1 : ((k : Int) == 9) = false := by rw [beq_eq_false_iff_ne]; omega
          have b2 : ((k : Int) == 127) = false := by rw [beq_eq_false_iff_ne]; omega
          have b3 : ((k : Int) != 127) = true := by rw [bne_iff_ne]; omega
          clear hiv
          go_wp2_with (go_at_call 88; refine (IndexP_c k (by omega) _).mono ?_; rintro e w1 ⟨rfl, rfl⟩)
          go_roundw
          case rel =>
            refine ⟨k + 1, by omega, by go_num, ?_, ?_, by (repeat (first | exact Ext.rfl' _ | assumption | refine Ext.dr ?_ | refine Ext.al ?_ _ | refine Ext.st ?_ (by simp) _ | refine Ext.tr ?_ (by assumption)))⟩
            · exact st2 H1.out hlt (by rw [hcl.out]; rfl)
            · first | exact H0.out | exact blk_oth H0.out (by omega) _ _ | exact blk_oth (blk_oth H0.out (by omega) _ _) (by omega) _ _ | exact blk_oth (blk_oth (blk_oth H0.out (by omega) _ _) (by omega) _ _) (by omega) _ _
          case measure => simp [intOf]; omega
        · have hcl := Lib.hid (cl_q k hlt (by omega) (by omega))
          have hip' : idxP k < 0 := by omega
          have b1 : ((k : Int) == 9) = false := by rw [beq_eq_false_iff_ne]; omega
          have b2 : ((k : Int) == 127) = false := by rw [beq_eq_false_iff_ne]; omega
          have b3 : ((k : Int) != 127) = true := by rw [bne_iff_ne]; omega
          clear hiv hip
          go_wp2_with (go_at_call 88; refine (IndexP_c k (by omega) _).mono ?_; rintro e w1 ⟨rfl, rfl⟩)
          go_roundw
          case rel =>
            refine ⟨k + 1, by omega, by go_num, ?_, ?_, by (repeat (first | exact Ext.rfl' _ | assumption | refine Ext.dr ?_ | refine Ext.al ?_ _ | refine Ext.st ?_ (by simp) _ | refine Ext.tr ?_ (by assumption)))⟩
            · exact st1 H1.out hlt (by rw [hcl.out]; rfl)
            · first | exact H0.out | exact blk_oth H0.out (by omega) _ _ | exact blk_oth (blk_oth H0.out (by omega) _ _) (by omega) _ _ | exact blk_oth (blk_oth (blk_oth H0.out (by omega) _ _) (by omega) _ _) (by omega) _ _
          case measure => simp [intOf]; omega
      · have hlo : 97 ≤ k := by omega
        have hhi : k ≤ 122 := by omega
        have hcl := Lib.hid (cl_l k hlt (by omega) (by omega))
        have b1 : ((k : Int) == 9) = false := by rw [beq_eq_false_iff_ne]; omega
        have b2 : ((k : Int) == 127) = false := by rw [beq_eq_false_iff_ne]; omega
        have b3 : ((k : Int) != 127) = true := by rw [bne_iff_ne]; omega
        clear hiv
        go_wp2_with (go_at_call 88; refine (IndexP_c k (by omega) _).mono ?_; rintro e w1 ⟨rfl, rfl⟩)
        go_roundw
        case rel =>
          refine ⟨k + 1, by omega, by go_num, ?_, ?_, by (repeat (first | exact Ext.rfl' _ | assumption | refine Ext.dr ?_ | refine Ext.al ?_ _ | refine Ext.st ?_ (by simp) _ | refine Ext.tr ?_ (by assumption)))⟩
          · exact st2 H1.out hlt (by rw [hcl.out]; rfl)
          · first | exact H0.out | exact blk_oth H0.out (by omega) _ _ | exact blk_oth (blk_oth H0.out (by omega) _ _) (by omega) _ _ | exact blk_oth (blk_oth (blk_oth H0.out (by omega) _ _) (by omega) _ _) (by omega) _ _
        case measure => simp [intOf]; omega
      · have hlo : 123 ≤ k := by omega
        have hhi : k ≤ 126 := by omega
        by_cases hip : 0 ≤ idxP k
        · have hcl := Lib.hid (cl_p k hlt (by omega) (by omega) hip)
          have b1 : ((k : Int) == 9) = false := by rw [beq_eq_false_iff_ne]; omega
          have b2 : ((k : Int) == 127) = false := by rw [beq_eq_false_iff_ne]; omega
          have b3 : ((k : Int) != 127) = true := by rw [bne_iff_ne]; omega
          clear hiv
          go_wp2_with (go_at_call 88; refine (IndexP_c k (by omega) _).mono ?_; rintro e w1 ⟨rfl, rfl⟩)
          go_roundw
          case rel =>
            refine ⟨k + 1, by omega, by go_num, ?_, ?_, by (repeat (first | exact Ext.rfl' _ | assumption | refine Ext.dr ?_ | refine Ext.al ?_ _ | refine Ext.st ?_ (by simp) _ | refine Ext.tr ?_ (by assumption)))⟩
            · exact st2 H1.out hlt (by rw [hcl.out]; rfl)
            · first | exact H0.out | exact blk_oth H0.out (by omega) _ _ | exact blk_oth (blk_oth H0.out (by omega) _ _) (by omega) _ _ | exact blk_oth (blk_oth (blk_oth H0.out (by omega) _ _) (by omega) _ _) (by omega) _ _
          case measure => simp [intOf]; omega
        · have hcl := Lib.hid (cl_q k hlt (by omega) (by omega))
          have hip' : idxP k < 0 := by omega
          have b1 : ((k : Int) == 9) = false := by rw [beq_eq_false_iff_ne]; omega
          have b2 : ((k : Int) == 127) = false := by rw [beq_eq_false_iff_ne]; omega
          have b3 : ((k : Int) != 127) = true := by rw [bne_iff_ne]; omega
          clear hiv hip
          go_wp2_with (go_at_call 88; refine (IndexP_c k (by omega) _).mono ?_; rintro e w1 ⟨rfl, rfl⟩)
          go_roundw
          case rel =>
            refine ⟨k + 1, by omega, by go_num, ?_, ?_, by (repeat (first | exact Ext.rfl' _ | assumption | refine Ext.dr ?_ | refine Ext.al ?_ _ | refine Ext.st ?_ (by simp) _ | refine Ext.tr ?_ (by assumption)))⟩
            · exact st1 H1.out hlt (by rw [hcl.out]; rfl)
            · first | exact H0.out | exact blk_oth H0.out (by omega) _ _ | exact blk_oth (blk_oth H0.out (by omega) _ _) (by omega) _ _ | exact blk_oth (blk_oth (blk_oth H0.out (by omega) _ _) (by omega) _ _) (by omega) _ _
          case measure => simp [intOf]; omega
      · obtain ⟨k', hk'⟩ : ∃ k' : Nat, k' = 127 := ⟨_, rfl⟩
        subst hiv
        go_wp2
        go_roundw
        case rel =>
          refine ⟨127 + 1, by omega, by first | rfl | go_num, ?_, ?_, by (repeat (first | exact Ext.rfl' _ | assumption | refine Ext.dr ?_ | refine Ext.al ?_ _ | refine Ext.st ?_ (by simp) _ | refine Ext.tr ?_ (by assumption)))⟩
          · exact st0 H1.out rfl
          · first | exact H0.out | exact blk_oth H0.out (by omega) _ _
        case measure => simp [intOf]
      · have hlo : 128 ≤ k := by omega
        have hhi : k ≤ 255 := by omega
        have hcl := Lib.hid (cl_h k hlt (by omega))
        have b1 : ((k : Int) == 9) = false := by rw [beq_eq_false_iff_ne]; omega
        have b2 : ((k : Int) == 127) = false := by rw [beq_eq_false_iff_ne]; omega
        have b3 : ((k : Int) != 127) = true := by rw [bne_iff_ne]; omega
        clear hiv
        go_wp2_with (go_at_call 88; refine (IndexP_c k (by omega) _).mono ?_; rintro e w1 ⟨rfl, rfl⟩)
        go_roundw
        case rel =>
          refine ⟨k + 1, by omega, by go_num, ?_, ?_, by (repeat (first | exact Ext.rfl' _ | assumption | refine Ext.dr ?_ | refine Ext.al ?_ _ | refine Ext.st ?_ (by simp) _ | refine Ext.tr ?_ (by assumption)))⟩
          · exact st1 H1.out hlt (by rw [hcl.out]; rfl)
          · first | exact H0.out | exact blk_oth H0.out (by omega) _ _ | exact blk_oth (blk_oth H0.out (by omega) _ _) (by omega) _ _ | exact blk_oth (blk_oth (blk_oth H0.out (by omega) _ _) (by omega) _ _) (by omega) _ _
        case measure => simp [intOf]; omega
    · obtain rfl : k = 256 := by omega
      clear c0
      have HS := Lib.hid (clsA_size 256)
      have HO := Lib.hid (clsA_one 256)
      have HS0 := Lib.hid (clsA_size 0)
      have hi85 : (Tryz.prog.info? 148).map (·.size) = some 256 := by kernel_rfl
      have HI := Lib.hid hi85
      generalize clsA 256 = C at *
      generalize clsA 0 = Z at *
      clear hi85
      go_wp2_with (first
        | (refine wpList_load_row rfl 148 (.tmp 1) rfl (w.heap.size + 1) rfl 148 C (0, 0) _ H1.out Tryz.underlying148 rfl (by rw [HS.out]; exact HI.out) ?_)
        | (refine wpList_store_row rfl 148 (.tmp 0) (.tmp 76) rfl w.heap.size C rfl rfl 148 Z H0.out (by rw [HS.out]; exact HI.out) (by rw [HS.out, HS0.out]) HO.out ?_))
      exact bodyPost_ret (v := .agg C) (results_cell_row rfl _ _ w.heap.size _ C (0, 0) _ rfl (setRow_heap _ _ _ _ _ _ H0.out) Tryz.underlying148 rfl (by rw [HS.out]; exact HI.out)) rfl ⟨rfl, Ext.row hext (Nat.le_refl _) _⟩
end Go.Proofs.YtemdgilifnhdpaaGreatDoor
