/-
A world: New, Now, Tick.
-/
import Derived.Test.YtllpffdjlhamkaaWd2
import Derived.BigRegion
import Derived.Carry
set_option linter.unusedVariables false
set_option linter.unusedSimpArgs false
namespace Go.Proofs.Ytllpffdjlhamkaa
open Go.RowKit

/-- A new world in two new blocks. -/
theorem WdAt.fresh (W : World) (o : Ow) (k : Nat) (now : Int) :
    WdAt ((W.alloc (.map #[] 0)).alloc (.cells #[.map (some W.heap.size), .int .i64 now, .int .i64 0] 38)) (fun b => if b = W.heap.size then k + 1 else if b = W.heap.size + 1 then k else o b) k (W.heap.size + 1) ⟨[], now, 0⟩ := by
  have e1 : (W.alloc (.map #[] 0)).heap.size = W.heap.size + 1 := by simp
  have r := heap_alloc_new (W.alloc (.map #[] 0)) (.cells #[.map (some W.heap.size), .int .i64 now, .int .i64 0] 38)
  rw [e1] at r
  refine ⟨by simp, W.heap.size, fun _ => (none, 0), r, by simp, (by simp; omega), ?_, fun x hx => by cases hx⟩
  exact (World.isM_made W Try.prog 9).same (Below.heap_alloc _ _ _ (by simp))
theorem WdAt.fresh_stp (W : World) (o : Ow) (k : Nat) (now : Int) :
    Stp (fun _ => False) W o ((W.alloc (.map #[] 0)).alloc (.cells #[.map (some W.heap.size), .int .i64 now, .int .i64 0] 38)) (fun b => if b = W.heap.size then k + 1 else if b = W.heap.size + 1 then k else o b) :=
  Stp.ext2 (by (repeat (first | exact Ext.rfl' _ | assumption | refine Ext.dr ?_ | refine Ext.drN ?_ _ | refine Ext.al ?_ _ | refine Ext.st ?_ (by simp) _ | refine Ext.tr ?_ (by assumption)))) (fun b hb => by rw [if_neg (by omega), if_neg (by omega)])
set_option maxRecDepth 100000 in
set_option maxHeartbeats 2000000 in
theorem wNew_yes (k : Nat) (now : Int) (h0 : 0 ≤ now) (h1 : now ≤ 253402300799) (w : World) (o : Ow) :
    Calls Try.prog 4 #[.int .i64 now] w (Turns (fun _ => False) w o fun v w' o' => ∃ p, v = .tuple #[.pointer (some ⟨p, 0, none⟩), .int .i64 0] ∧ WdAt w' o' k p ⟨[], now, 0⟩ ∧ w.heap.size ≤ p) := by
  have a1 : ¬ now < 0 := by omega
  have a2 : ¬ 253402300799 < now := by omega
  have hmm := @run_makeMap Try.prog
  go_enter Try.func4, Try.ntmps4
  go_wp2
  go_ret2
  exact Turns.mk _ rfl ⟨_, rfl, WdAt.fresh w o k now, Nat.le_succ _⟩ (WdAt.fresh_stp w o k now)
set_option maxRecDepth 100000 in
set_option maxHeartbeats 2000000 in
theorem wNew_no (now : Int) (h : now < 0 ∨ 253402300799 < now) (w : World) :
    Calls Try.prog 4 #[.int .i64 now] w (Gives (.tuple #[.pointer none, .int .i64 1]) w) := by
  by_cases a1 : now < 0
  · go_enter Try.func4, Try.ntmps4
    go_wp2
    go_ret2
    exact ⟨rfl, by (repeat (first | exact Ext.rfl' _ | assumption | refine Ext.dr ?_ | refine Ext.drN ?_ _ | refine Ext.al ?_ _ | refine Ext.st ?_ (by simp) _ | refine Ext.tr ?_ (by assumption)))⟩
  · have a2 : 253402300799 < now := by omega
    go_enter Try.func4, Try.ntmps4
    go_wp2
    go_ret2
    exact ⟨rfl, by (repeat (first | exact Ext.rfl' _ | assumption | refine Ext.dr ?_ | refine Ext.drN ?_ _ | refine Ext.al ?_ _ | refine Ext.st ?_ (by simp) _ | refine Ext.tr ?_ (by assumption)))⟩
set_option maxRecDepth 100000 in
set_option maxHeartbeats 2000000 in
theorem wNow_c (w : World) (o : Ow) (k p : Nat) (s : Wrl) (h : WdAt w o k p s) : Calls Try.prog 22 #[.pointer (some ⟨p, 0, none⟩)] w (Gives (.int .i64 s.now) w) := by
  obtain ⟨mb, pl, hh, _⟩ := h.row
  have c0 := hh.c0
  have HC := Lib.hid (fun w' (e : Ext w w') => (hh.ext e).c1)
  go_enter Try.func22, Try.ntmps22
  go_wp2_with (go_at_call 27; refine (none_no p mb _ c0).mono ?_; rintro e w1 ⟨rfl, hx1⟩; have c1 := HC.out w1 hx1)
  go_ret
  exact ⟨rfl, by (repeat (first | exact Ext.rfl' _ | assumption | refine Ext.dr ?_ | refine Ext.drN ?_ _ | refine Ext.al ?_ _ | refine Ext.st ?_ (by simp) _ | refine Ext.tr ?_ (by assumption)))⟩
set_option maxRecDepth 100000 in
set_option maxHeartbeats 4000000 in
theorem wTick_neg (w : World) (p mb : Nat) (n : Int) (hn : n < 0) (hc : w.cell? ⟨p, 0, none⟩ = some (.map (some mb))) : Calls Try.prog 10 #[.pointer (some ⟨p, 0, none⟩), .int .i64 n] w (Gives (.int .i64 1) w) := by
  go_enter Try.func10, Try.ntmps10
  go_wp2_with (go_at_call 27; refine (none_no p mb _ hc).mono ?_; rintro e w1 ⟨rfl, hx1⟩)
  go_ret
  exact ⟨rfl, by (repeat (first | exact Ext.rfl' _ | assumption | refine Ext.dr ?_ | refine Ext.drN ?_ _ | refine Ext.al ?_ _ | refine Ext.st ?_ (by simp) _ | refine Ext.tr ?_ (by assumption)))⟩
end Go.Proofs.Ytllpffdjlhamkaa
