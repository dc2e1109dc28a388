/-
Package ranges and its reference, spans of bytes: what each inner function computes, up to Resolve's helpers.
-/
import Derived.Test.YteklakibcboepaaDoorProg
import Derived.Test.YteklakibcboepaaDoorBase
namespace Go.Proofs.YteklakibcboepaaDoor
open Go.RowKit

theorem slt_span : SlT Tryd.prog 29 42 (.agg #[.int .i64 0, .int .i64 0]) 2 16 := ⟨Tryd.underlying29, by kernel_rfl, rfl, by omega⟩
theorem slt_part : SlT Tryd.prog 25 37 (.agg #[.int .i64 0, .int .i64 0]) 2 16 := ⟨Tryd.underlying25, by kernel_rfl, rfl, by omega⟩
theorem slt_rpart : SlT Tryd.prog 31 24 (.agg #[.int .i64 0, .int .i64 0]) 2 16 := ⟨Tryd.underlying31, by kernel_rfl, rfl, by omega⟩

set_option maxRecDepth 100000 in
set_option maxHeartbeats 400000 in
theorem spans_c (w : World) (A : Option Addr) (n c : Nat) (ps : List (Int × Int)) (hn : ps.length = n) (h : Rd w A (pc ps)) (hb : n ≤ 8796093022207) :
    Calls Tryd.prog 12 #[.slice A n c] w (Ret (IsSlP ps) w) := by
  go_enter Tryd.func12, Tryd.ntmps12
  go_wp2
  go_loopw [3, 4] (fun v i wr => ∃ k : Nat, k ≤ n ∧ i = .int .i64 k ∧ wr.ownsRow w.heap.size 42 2 v k (pc (ps.take k)) ∧ Ext w wr) (fun _ i _ => n - (intOf i).toNat)
  case atStart => exact ⟨0, Nat.zero_le _, rfl, World.ownsRow_nil _ _ _ _, Ext.rfl' _⟩
  case round =>
    obtain ⟨k, hk, rfl, hown, hext⟩ := hrel
    by_cases hlt : k < n
    · obtain ⟨b, o, rfl, hbl, hS⟩ := h.pair (k := k) (by omega)
      have h01 := hS.out wr hext
      have h0 := h01.1
      have h1 := h01.2
      clear h01
      go_wp2
      go_region_held3 (fun w' => w'.cell? ⟨b, o + k * 2, none⟩ = some (.int .i64 ps[k].1) ∧ w'.cell? ⟨b, o + k * 2 + 1, none⟩ = some (.int .i64 ps[k].2)) (first | go_keep | exact hS.out _ hext')
        (first | (refine step_app slt_span (.tmp 11) (.tmp 23) rfl rfl rfl rfl (hext.al _).dr (own_dr (hown.alloc _)) (by rfl) (new_cells_dr wr #[.int .i64 ps[k].1, .int .i64 ps[k].2] 42) (by simp [Value.oneCell']) (by omega) (by simp only [maxLen]; omega) ?_; intro v' w' hown' hext' _))
      have HT := Lib.hid (pc_succ ps k (by omega))
      have HO := Lib.hid hown'
      have HX := Lib.hid hext'
      clear hown' hown h0 h1 hext hext'
      go_wp2
      go_roundw
      case rel => exact ⟨k + 1, by omega, by go_num, by rw [HT.out]; exact HO.out, HX.out⟩
      case measure => simp [intOf]; omega
    · obtain rfl : k = n := by omega
      go_wp2
      go_ret
      obtain ⟨A', c', rfl, _, hc', hr, _⟩ := Rd.of_own hown
      exact Ret.mk (IsSlP.mk hn.symm (by rw [List.take_of_length_le (by omega)] at hr; exact hr) hc') hext

/-- The kind of a span; -1: it may not be. -/
def kindOf (x y : Int) : Int :=
  if x < -1 ∨ y < -1 ∨ 1000000000000000000 < x ∨ 1000000000000000000 < y ∨ (x < 0 ∧ y < 0) ∨ (0 ≤ y ∧ y < x) then -1 else if x < 0 then 2 else if y < 0 then 1 else 0
set_option maxHeartbeats 400000 in
theorem kind_c (x y : Int) (w : World) : Calls Tryd.prog 57 #[.agg #[.int .i64 x, .int .i64 y]] w (Gives (.int .i64 (kindOf x y)) w) := by
  go_enter Tryd.func57, Tryd.ntmps57
  go_wp2
  all_goals go_ret
  all_goals exact ⟨ret_int (by unfold kindOf; (repeat' split) <;> omega), (Ext.rfl' _).al _⟩
set_option maxHeartbeats 400000 in
theorem right_c (x y : Int) (w : World) : Calls Tryd.prog 58 #[.agg #[.int .i64 x, .int .i64 y]] w (Gives (.bool (decide (kindOf x y ≠ -1))) w) := by
  go_enter Tryd.func58, Tryd.ntmps58
  go_wp2
  all_goals go_ret
  all_goals exact ⟨ret_bool (by unfold kindOf; (repeat' split) <;> simp <;> omega), (Ext.rfl' _).al _⟩

end Go.Proofs.YteklakibcboepaaDoor
