/-
Static: no world, or one that nobody made, gives no answer; the law's own location; knows, as the evaluator runs it.
-/
import Derived.Test.YtemdgilifnhdpaaGreatDoorEvT
import Derived.Test.YtemdgilifnhdpaaGreatDoorTrn
set_option linter.unusedVariables false
set_option linter.unusedSimpArgs false
set_option linter.unusedVariables false
set_option linter.unusedSimpArgs false
namespace Go.Proofs.YtemdgilifnhdpaaGreatDoor
open Go.RowKit

/-- the location below a root, as its cells -/
def snLoc : Array Value := #[.string ⟨#[47]⟩, .int .i64 1, .string ⟨#[47, 102, 105, 108, 101, 115]⟩, .string ⟨#[]⟩, .int .i64 0, .int .i64 0, .string ⟨#[]⟩, .bool false, .int .i64 0, .int .i64 0, .int .i64 0, .string ⟨#[]⟩]
set_option maxRecDepth 100000 in
set_option maxHeartbeats 2000000 in
theorem snFiles_c (w : World) : Calls Tryz.prog 11 #[] w (Gives (.agg snLoc) w) := by
  go_enter Tryz.func11, Tryz.ntmps11
  go_wp2
  refine bodyPost_ret (v := .agg #[.string ⟨#[47]⟩, .int .i64 1, .string ⟨#[47, 102, 105, 108, 101, 115]⟩, .string ⟨#[]⟩, .int .i64 0, .int .i64 0, .string ⟨#[]⟩, .bool false, .int .i64 0, .int .i64 0, .int .i64 0, .string ⟨#[]⟩]) (by simp [results, Tryz.results11, go_sem]) rfl ⟨rfl, by (repeat (first | exact Ext.rfl' _ | assumption | refine Ext.dr ?_ | refine Ext.drN ?_ _ | refine Ext.al ?_ _ | refine Ext.st ?_ (by simp) _ | refine Ext.tr ?_ (by assumption)))⟩
set_option maxRecDepth 100000 in
set_option maxHeartbeats 2000000 in
theorem snOwnLoc_c (w : World) : Calls Tryz.prog 10 #[.agg snLoc] w (Gives (.agg snLoc) w) := by
  unfold snLoc
  go_enter Tryz.func10, Tryz.ntmps10
  go_wp2
  refine bodyPost_ret (v := .agg #[.string ⟨#[47]⟩, .int .i64 1, .string ⟨#[47, 102, 105, 108, 101, 115]⟩, .string ⟨#[]⟩, .int .i64 0, .int .i64 0, .string ⟨#[]⟩, .bool false, .int .i64 0, .int .i64 0, .int .i64 0, .string ⟨#[]⟩]) (by simp [results, Tryz.results10, go_sem]) rfl ⟨rfl, by (repeat (first | exact Ext.rfl' _ | assumption | refine Ext.dr ?_ | refine Ext.drN ?_ _ | refine Ext.al ?_ _ | refine Ext.st ?_ (by simp) _ | refine Ext.tr ?_ (by assumption)))⟩
set_option maxRecDepth 100000 in
set_option maxHeartbeats 2000000 in
theorem snUnmade_c (p : Nat) (w : World) (h : w.cell? ⟨p, 0, none⟩ = some (.map none)) : Calls Tryz.prog 49 #[.pointer (some ⟨p, 0, none⟩)] w (Gives (.bool true) w) := by
  have q53 : ∀ (w : World) (r : Option Nat), (binOp .eql 44 (.map r) (.map none)).run Tryz.prog w = .ok (.bool r.isNone) w := fun w r => run_eql_map_nil w _ _ _ r Tryz.underlying44
  go_enter Tryz.func49, Tryz.ntmps49
  go_wp2
  go_ret
  exact ⟨rfl, by (repeat (first | exact Ext.rfl' _ | assumption | refine Ext.dr ?_ | refine Ext.drN ?_ _ | refine Ext.al ?_ _ | refine Ext.st ?_ (by simp) _ | refine Ext.tr ?_ (by assumption)))⟩
set_option maxRecDepth 100000 in
set_option maxHeartbeats 2000000 in
theorem snFile_c (p : Nat) (s : ByteArray) (w : World) (h : w.cell? ⟨p, 0, none⟩ = some (.map none)) : Calls Tryz.prog 20 #[.pointer (some ⟨p, 0, none⟩), .string s] w (Gives (.tuple #[.agg #[.string ⟨#[]⟩, .slice none 0 0, .int .i64 0], .int .i64 0, .int .i64 1]) w) := by
  have HQ := Lib.hid (fun w' (e : Ext w w') => (e.cell (p := ⟨p, 0, none⟩) (lt_of_cell h)).trans h)
  clear h
  go_enter Tryz.func20, Tryz.ntmps20
  go_wp2_with (go_at_call 49; refine (snUnmade_c p _ (HQ.out _ (by (repeat (first | exact Ext.rfl' _ | assumption | refine Ext.dr ?_ | refine Ext.drN ?_ _ | refine Ext.al ?_ _ | refine Ext.st ?_ (by simp) _ | refine Ext.tr ?_ (by assumption)))))).mono ?_; rintro e w1 ⟨rfl, hx1⟩; have r0 := hx1.new 0 _ rfl; have r1 := hx1.new 1 _ rfl; have r2 := hx1.new 2 _ rfl; have f0 := hx1.newfr 0; have f1 := hx1.newfr 1; have f2 := hx1.newfr 2)
  refine bodyPost_ret (v := .tuple #[.agg #[.string ⟨#[]⟩, .slice none 0 0, .int .i64 0], .int .i64 0, .int .i64 1]) (by simp [results, Tryz.results20, go_sem, r0, r1, r2]) rfl ?_
  exact ⟨rfl, by (repeat (first | exact Ext.rfl' _ | assumption | refine Ext.dr ?_ | refine Ext.drN ?_ _ | refine Ext.al ?_ _ | refine Ext.st ?_ (by simp) _ | refine Ext.tr ?_ (by assumption)))⟩

/-! ### Serve on no world, and on an unmade one -/
/-- a request, as its cells -/
def snReqZ : Value := .agg #[.int .i64 0, .slice none 0 0, .slice none 0 0]
set_option maxRecDepth 100000 in
set_option maxHeartbeats 4000000 in
theorem snServe_nil (q : Array Value) (s : ByteArray) (w : World) : Calls Tryz.prog 9 #[.pointer none, .agg snLoc, .agg q, .string s] w (Gives (.tuple #[snReqZ, .int .i64 1]) w) := by
  unfold snLoc snReqZ
  go_enter Tryz.func9, Tryz.ntmps9
  go_wp2
  go_step3
  go_wp2
  refine bodyPost_ret (v := .tuple #[.agg #[.int .i64 0, .slice none 0 0, .slice none 0 0], .int .i64 1]) (by simp [results, Tryz.results9, go_sem]) rfl ⟨rfl, by (repeat (first | exact Ext.rfl' _ | assumption | refine Ext.dr ?_ | refine Ext.drN ?_ _ | refine Ext.al ?_ _ | refine Ext.st ?_ (by simp) _ | refine Ext.tr ?_ (by assumption)))⟩
set_option maxRecDepth 100000 in
set_option maxHeartbeats 4000000 in
theorem snServe_unmade (p : Nat) (q : Array Value) (s : ByteArray) (w : World) (h : w.cell? ⟨p, 0, none⟩ = some (.map none)) : Calls Tryz.prog 9 #[.pointer (some ⟨p, 0, none⟩), .agg snLoc, .agg q, .string s] w (Gives (.tuple #[snReqZ, .int .i64 1]) w) := by
  unfold snLoc snReqZ
  have HQ := Lib.hid (fun w' (e : Ext w w') => (e.cell (p := ⟨p, 0, none⟩) (lt_of_cell h)).trans h)
  clear h
  have hrow : (((w.alloc (.cells #[.string ⟨#[47]⟩, .int .i64 1, .string ⟨#[47, 102, 105, 108, 101, 115]⟩, .string ⟨#[]⟩, .int .i64 0, .int .i64 0, .string ⟨#[]⟩, .bool false, .int .i64 0, .int .i64 0, .int .i64 0, .string ⟨#[]⟩] 39)).alloc (.cells q 27)).alloc (.cells #[.int .i64 0, .slice none 0 0, .slice none 0 0] 34)).heap[w.heap.size + 1 + 1]? = some (.cells #[.int .i64 0, .slice none 0 0, .slice none 0 0] 34 (0, 0)) := by
    simpa using heap_alloc_new ((w.alloc (.cells #[.string ⟨#[47]⟩, .int .i64 1, .string ⟨#[47, 102, 105, 108, 101, 115]⟩, .string ⟨#[]⟩, .int .i64 0, .int .i64 0, .string ⟨#[]⟩, .bool false, .int .i64 0, .int .i64 0, .int .i64 0, .string ⟨#[]⟩] 39)).alloc (.cells q 27)) (.cells #[.int .i64 0, .slice none 0 0, .slice none 0 0] 34)
  have HR := Lib.hid (fun w' (e : Ext (((w.alloc (.cells #[.string ⟨#[47]⟩, .int .i64 1, .string ⟨#[47, 102, 105, 108, 101, 115]⟩, .string ⟨#[]⟩, .int .i64 0, .int .i64 0, .string ⟨#[]⟩, .bool false, .int .i64 0, .int .i64 0, .int .i64 0, .string ⟨#[]⟩] 39)).alloc (.cells q 27)).alloc (.cells #[.int .i64 0, .slice none 0 0, .slice none 0 0] 34)) w') => (show (w'.cell? ⟨w.heap.size + 1 + 1, 0, none⟩ = some (.int .i64 0) ∧ w'.frozen? ⟨w.heap.size + 1 + 1, 0, none⟩ = false) ∧ (w'.cell? ⟨w.heap.size + 1 + 1, 1, none⟩ = some (.slice none 0 0) ∧ w'.frozen? ⟨w.heap.size + 1 + 1, 1, none⟩ = false) ∧ (w'.cell? ⟨w.heap.size + 1 + 1, 2, none⟩ = some (.slice none 0 0) ∧ w'.frozen? ⟨w.heap.size + 1 + 1, 2, none⟩ = false) from by
    have h := (e.block _ (row_lt hrow)).trans hrow
    exact ⟨row_facts h 0 _ rfl, row_facts h 1 _ rfl, row_facts h 2 _ rfl⟩))
  clear hrow
  go_enter Tryz.func9, Tryz.ntmps9
  go_wp2
  go_step3
  go_wp2_with (go_at_call 20; refine (snFile_c p _ _ (HQ.out _ (by (repeat (first | exact Ext.rfl' _ | assumption | refine Ext.dr ?_ | refine Ext.drN ?_ _ | refine Ext.al ?_ _ | refine Ext.st ?_ (by simp) _ | refine Ext.tr ?_ (by assumption)))))).mono ?_; rintro e w1 ⟨rfl, hx1⟩; obtain ⟨⟨r0, f0⟩, ⟨r1, f1⟩, ⟨r2, f2⟩⟩ := HR.out (w1.alloc (.cells #[.string ⟨#[]⟩, .slice none 0 0, .int .i64 0] 24)) (by (repeat (first | exact Ext.rfl' _ | assumption | refine Ext.dr ?_ | refine Ext.drN ?_ _ | refine Ext.al ?_ _ | refine Ext.st ?_ (by simp) _ | refine Ext.tr ?_ (by assumption)))))
  have hle : w.heap.size ≤ w.heap.size + 1 + 1 := Nat.le_trans (Nat.le_succ _) (Nat.le_succ _)
  all_goals refine bodyPost_ret (v := .tuple #[.agg #[.int .i64 0, .slice none 0 0, .slice none 0 0], .int .i64 1]) (by simp [results, Tryz.results9, go_sem, r0, r1, r2]) rfl ⟨rfl, by (repeat (first | exact Ext.rfl' _ | assumption | refine Ext.dr ?_ | refine Ext.al ?_ _ | refine Ext.st ?_ hle _ | refine Ext.tr ?_ (by assumption)))⟩
set_option maxRecDepth 100000 in
set_option maxHeartbeats 0 in
theorem snKnows_run : Ev.isT (.bool true) (Ev.run Tryz.prog Ev.smB 100000 (.fn 15 [] Ev.h0E)) = true := by decide +kernel
theorem snKnows_c (W : World) (h : Ev.MxE W) : Calls Tryz.prog 15 #[] W (Gives (.bool true) W) :=
  (Ev.runs (ν := fun _ => .bool true) (fun _ => rfl) snKnows_run h (A := #[]) Ev.Rs.nil).mono fun e w' ⟨x, n, m, h1, h2, h3⟩ => ⟨by rw [h1, Ev.R_true h2], h3.toExt⟩
end Go.Proofs.YtemdgilifnhdpaaGreatDoor
