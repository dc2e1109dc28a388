/-
Package ranges: the three kinds of a span, and Resolve, as functions of lists of numbers.
-/
import Derived.Test.YtolfpfdmgelhhaaDoorRng1
set_option linter.unusedVariables false
set_option linter.unusedSimpArgs false
namespace Go.Proofs.YtolfpfdmgelhhaaDoor
open Go.RowKit

theorem agg2 {a b c d : Int} (h : a = c) (h' : b = d) : Value.agg #[.int .i64 a, .int .i64 b] = .agg #[.int .i64 c, .int .i64 d] := by rw [h, h']

set_option maxHeartbeats 400000 in
theorem both_c (n x y : Int) (hy : 0 ≤ y) (hy' : y ≤ 1000000000000000000) (w : World) :
    Calls Tryd.prog 100 #[.int .i64 n, .agg #[.int .i64 x, .int .i64 y]] w (Gives (.agg #[.int .i64 x, .int .i64 (min n (y + 1))]) w) := by
  by_cases h : y + 1 < n
  · go_enter Tryd.func100, Tryd.ntmps100
    go_wp2
    exact bodyPost_ret (v := .agg #[.int .i64 x, .int .i64 (y + 1)]) (by simp [results, Tryd.results100, go_sem]) rfl ⟨ret_val (agg2 rfl (by omega)), ((Ext.rfl' _).al _).al _⟩
  · go_enter Tryd.func100, Tryd.ntmps100
    go_wp2
    exact bodyPost_ret (v := .agg #[.int .i64 x, .int .i64 n]) (by simp [results, Tryd.results100, go_sem]) rfl ⟨ret_val (agg2 rfl (by omega)), ((Ext.rfl' _).al _).al _⟩
theorem open_c (n x y : Int) (w : World) :
    Calls Tryd.prog 101 #[.int .i64 n, .agg #[.int .i64 x, .int .i64 y]] w (Gives (.agg #[.int .i64 x, .int .i64 n]) w) := by
  go_enter Tryd.func101, Tryd.ntmps101
  go_wp2
  exact bodyPost_ret (v := .agg #[.int .i64 x, .int .i64 n]) (by simp [results, Tryd.results101, go_sem]) rfl ⟨rfl, ((Ext.rfl' _).al _).al _⟩
set_option maxHeartbeats 400000 in
theorem end_c (n x y : Int) (hn : 0 ≤ n) (hn' : n ≤ 1048576) (hy : 0 ≤ y) (hy' : y ≤ 1000000000000000000) (w : World) :
    Calls Tryd.prog 102 #[.int .i64 n, .agg #[.int .i64 x, .int .i64 y]] w (Gives (.agg #[.int .i64 (n - min n y), .int .i64 n]) w) := by
  by_cases h : y < n
  · go_enter Tryd.func102, Tryd.ntmps102
    go_wp2
    exact bodyPost_ret (v := .agg #[.int .i64 (n - y), .int .i64 n]) (by simp [results, Tryd.results102, go_sem]) rfl ⟨ret_val (agg2 (by omega) rfl), ((Ext.rfl' _).al _).al _⟩
  · go_enter Tryd.func102, Tryd.ntmps102
    go_wp2
    exact bodyPost_ret (v := .agg #[.int .i64 0, .int .i64 n]) (by simp [results, Tryd.results102, go_sem]) rfl ⟨ret_val (agg2 (by omega) rfl), ((Ext.rfl' _).al _).al _⟩
end Go.Proofs.YtolfpfdmgelhhaaDoor
