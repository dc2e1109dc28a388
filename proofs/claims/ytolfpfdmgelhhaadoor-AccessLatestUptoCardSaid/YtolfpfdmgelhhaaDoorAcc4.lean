/-
An entry's numbers and texts: where they stand.
-/
import Derived.Test.YtolfpfdmgelhhaaDoorSeg
set_option linter.unusedVariables false
set_option linter.unusedSimpArgs false
namespace Go.Proofs.YtolfpfdmgelhhaaDoor
open Go.RowKit Go.Shelf

attribute [local go_sem] Oper.semAt_some

theorem run_idx_arr {P : Program} {t e : TypeId} {n : Nat} {cs : Array Value} {k : IntKind} {i : Int} {v : Value} (h : P.underlying t = some (.array n e)) (ha : ∀ w, (isAgg e).run P w = .ok false w) (hs : ∀ w, (Go.sizeOf e).run P w = .ok 1 w) (h0 : 0 ≤ i) (h1 : i < (n : Int)) (hv : cs[i.toNat]? = some v) (w : World) :
    (Instr.index t (.agg cs) (.int k i)).run P w = .ok v w := by
  simp [Instr.index, run_underlying h, asIntOf, h0, h1, go_sem, part, ha, hs, hv]
set_option maxRecDepth 100000 in
set_option maxHeartbeats 2000000 in
theorem aNumbers_c (B : Nat) (w : World) :
    Calls Tryd.prog 73 #[.pointer (some ⟨B, 0, none⟩)] w (Gives (.agg #[.pointer (some ⟨B, 0, none⟩), .pointer (some ⟨B, 5, none⟩), .pointer (some ⟨B, 6, none⟩)]) w) := by
  go_enter Tryd.func73, Tryd.ntmps73
  go_wp2
  go_region
  all_goals go_wp2
  all_goals (
    obtain ⟨W1, hW1⟩ : ∃ W1, W1 = (w.alloc (.cells #[.pointer (some ⟨B, 0, none⟩), .pointer (some ⟨B, 5, none⟩), .pointer (some ⟨B, 6, none⟩)] 121)).drew := ⟨_, rfl⟩
    rw [← hW1]
    have r0 := fun j => new_at w #[.pointer (some ⟨B, 0, none⟩), .pointer (some ⟨B, 5, none⟩), .pointer (some ⟨B, 6, none⟩)] 121 j
    have r1 : W1.cell? ⟨w.heap.size, 0, none⟩ = some (.pointer (some ⟨B, 0, none⟩)) := by rw [hW1]; exact r0 0 _ rfl
    have r2 : W1.cell? ⟨w.heap.size, 1, none⟩ = some (.pointer (some ⟨B, 5, none⟩)) := by rw [hW1]; exact r0 1 _ rfl
    have r3 : W1.cell? ⟨w.heap.size, 2, none⟩ = some (.pointer (some ⟨B, 6, none⟩)) := by rw [hW1]; exact r0 2 _ rfl
    have hx : Ext w W1 := by rw [hW1]; (repeat (first | exact Ext.rfl' _ | assumption | refine Ext.dr ?_ | refine Ext.drN ?_ _ | refine Ext.al ?_ _ | refine Ext.st ?_ (by simp) _ | refine Ext.tr ?_ (by assumption)))
    clear r0 hW1
    exact bodyPost_ret (v := .agg #[.pointer (some ⟨B, 0, none⟩), .pointer (some ⟨B, 5, none⟩), .pointer (some ⟨B, 6, none⟩)]) (by simp [results, Tryd.results73, go_sem, r1, r2, r3]) rfl ⟨rfl, hx⟩)
theorem aTexts_c (B : Nat) (w : World) :
    Calls Tryd.prog 74 #[.pointer (some ⟨B, 0, none⟩)] w fun e w' => e = .returned (.func (.func 116) #[] #[.pointer (some ⟨w.heap.size, 0, none⟩)]) ∧ w' = w.alloc (.cells #[.pointer (some ⟨B, 0, none⟩)] 156) := by
  go_enter Tryd.func74, Tryd.ntmps74
  go_wp2
  go_ret
  exact ⟨rfl, rfl⟩
/-- The cells of an entry's texts. -/
def txA (i : Fin 5) : Nat := if i = 0 then 1 else if i = 1 then 2 else if i = 2 then 3 else if i = 3 then 4 else 7
def tx5 : List (Fin 5) := [0, 1, 2, 3, 4]
def encT (B : Nat) (i : Fin 5) : Array Value := #[.pointer (some ⟨B, txA i, none⟩)]
set_option maxRecDepth 100000 in
set_option maxHeartbeats 4000000 in
theorem txt_in (l Bn B n₀ : Nat) (J Jx : List (Fin 5) → World → Prop)
    (hJ : ∀ pre W W', J pre W → Ext W W' → J pre W')
    (hY : ∀ pre x W, J pre W → pre.length < 5 → YieldAt Fence.wide 6 Tryd.prog l (encT B x) W fun e W' =>
      (e = .returned (.bool true) ∧ J (pre ++ [x]) W' ∧ Below n₀ W W') ∨ (e = .returned (.bool false) ∧ Jx (pre ++ [x]) W'))
    (W : World) (hBn : W.cell? ⟨Bn, 0, none⟩ = some (.pointer (some ⟨B, 0, none⟩))) (h0 : J [] W) :
    CallsIn Fence.wide 7 Tryd.prog 116 #[.func (.yield l) #[] #[], .pointer (some ⟨Bn, 0, none⟩)] W fun e W' => (∃ v, e = .returned v) ∧
      ((∃ ys, ys = tx5 ∧ J ys W') ∨ (∃ pre, pre <+: tx5 ∧ Jx pre W')) := by
  refine callsIn_of_wp Tryd.func116 rfl trivial ?_ rfl
  simp only [Tryd.ntmps116, List.size_toArray, List.length_cons, List.length_nil, Nat.reduceAdd, Nat.reduceSub, Array.replicate_succ, Array.replicate_zero, List.push_toArray, List.append_toArray, List.nil_append, List.cons_append]
  gi_wp2
  gi_quiet (fail)
  gi_wp2
  gi_loopw [21] (fun sv wr => ∃ (k : Nat) (z : Int), sv = .int .i64 z ∧ z = (k : Int) ∧ k ≤ 5 ∧ J (tx5.take k) wr) (fun sv _ => 5 - (intOf sv).toNat)
  case atStart => exact ⟨0, 0, rfl, rfl, by omega, hJ _ _ _ h0 (by (repeat (first | exact Ext.rfl' _ | assumption | refine Ext.dr ?_ | refine Ext.drN ?_ _ | refine Ext.al ?_ _ | refine Ext.st ?_ (by simp) _ | refine Ext.tr ?_ (by assumption))))⟩
  case round =>
    obtain ⟨k, z, rfl, hz, hk, hJs⟩ := hrel
    have hk5 : k = 0 ∨ k = 1 ∨ k = 2 ∨ k = 3 ∨ k = 4 ∨ k = 5 := by omega
    clear hk
    rcases hk5 with rfl | rfl | rfl | rfl | rfl | rfl
    · obtain rfl : z = 0 := hz
      have ix := fun w => run_idx_arr (P := Tryd.prog) (t := 164) (e := 126) (n := 5) (cs := #[.pointer (some ⟨B, 1, none⟩), .pointer (some ⟨B, 2, none⟩), .pointer (some ⟨B, 3, none⟩), .pointer (some ⟨B, 4, none⟩), .pointer (some ⟨B, 7, none⟩)]) (k := .i64) (i := 0) (by kernel_rfl) (fun _ => rfl) (fun _ => rfl) (by decide) (by decide) rfl w
      obtain ⟨fn, tmps, assign, body, hy, hR⟩ := hY (tx5.take 0) 0 wr hJs (by decide)
      simp only [encT, show txA 0 = 1 from rfl] at hy
      gi_wp2
      refine hR.mono ?_
      rintro e W3 (⟨rfl, hJ3, hk3⟩ | ⟨rfl, hJx3⟩)
      · gi_wp2
        go_roundw
        case rel => exact ⟨0 + 1, 0 + 1, rfl, by omega, by omega, hJ3⟩
        case measure => simp [intOf]
      · gi_wp2
        refine bodyPost_ret (results_none rfl _ _ _) rfl ?_
        exact ⟨⟨_, rfl⟩, .inr ⟨_, by decide, hJx3⟩⟩
    · obtain rfl : z = 1 := hz
      have ix := fun w => run_idx_arr (P := Tryd.prog) (t := 164) (e := 126) (n := 5) (cs := #[.pointer (some ⟨B, 1, none⟩), .pointer (some ⟨B, 2, none⟩), .pointer (some ⟨B, 3, none⟩), .pointer (some ⟨B, 4, none⟩), .pointer (some ⟨B, 7, none⟩)]) (k := .i64) (i := 1) (by kernel_rfl) (fun _ => rfl) (fun _ => rfl) (by decide) (by decide) rfl w
      obtain ⟨fn, tmps, assign, body, hy, hR⟩ := hY (tx5.take 1) 1 wr hJs (by decide)
      simp only [encT, show txA 1 = 2 from rfl] at hy
      gi_wp2
      refine hR.mono ?_
      rintro e W3 (⟨rfl, hJ3, hk3⟩ | ⟨rfl, hJx3⟩)
      · gi_wp2
        go_roundw
        case rel => exact ⟨1 + 1, 1 + 1, rfl, by omega, by omega, hJ3⟩
        case measure => simp [intOf]
      · gi_wp2
        refine bodyPost_ret (results_none rfl _ _ _) rfl ?_
        exact ⟨⟨_, rfl⟩, .inr ⟨_, by decide, hJx3⟩⟩
    · obtain rfl : z = 2 := hz
      have ix := fun w => run_idx_arr (P := Tryd.prog) (t := 164) (e := 126) (n := 5) (cs := #[.pointer (some ⟨B, 1, none⟩), .pointer (some ⟨B, 2, none⟩), .pointer (some ⟨B, 3, none⟩), .pointer (some ⟨B, 4, none⟩), .pointer (some ⟨B, 7, none⟩)]) (k := .i64) (i := 2) (by kernel_rfl) (fun _ => rfl) (fun _ => rfl) (by decide) (by decide) rfl w
      obtain ⟨fn, tmps, assign, body, hy, hR⟩ := hY (tx5.take 2) 2 wr hJs (by decide)
      simp only [encT, show txA 2 = 3 from rfl] at hy
      gi_wp2
      refine hR.mono ?_
      rintro e W3 (⟨rfl, hJ3, hk3⟩ | ⟨rfl, hJx3⟩)
      · gi_wp2
        go_roundw
        case rel => exact ⟨2 + 1, 2 + 1, rfl, by omega, by omega, hJ3⟩
        case measure => simp [intOf]
      · gi_wp2
        refine bodyPost_ret (results_none rfl _ _ _) rfl ?_
        exact ⟨⟨_, rfl⟩, .inr ⟨_, by decide, hJx3⟩⟩
    · obtain rfl : z = 3 := hz
      have ix := fun w => run_idx_arr (P := Tryd.prog) (t := 164) (e := 126) (n := 5) (cs := #[.pointer (some ⟨B, 1, none⟩), .pointer (some ⟨B, 2, none⟩), .pointer (some ⟨B, 3, none⟩), .pointer (some ⟨B, 4, none⟩), .pointer (some ⟨B, 7, none⟩)]) (k := .i64) (i := 3) (by kernel_rfl) (fun _ => rfl) (fun _ => rfl) (by decide) (by decide) rfl w
      obtain ⟨fn, tmps, assign, body, hy, hR⟩ := hY (tx5.take 3) 3 wr hJs (by decide)
      simp only [encT, show txA 3 = 4 from rfl] at hy
      gi_wp2
      refine hR.mono ?_
      rintro e W3 (⟨rfl, hJ3, hk3⟩ | ⟨rfl, hJx3⟩)
      · gi_wp2
        go_roundw
        case rel => exact ⟨3 + 1, 3 + 1, rfl, by omega, by omega, hJ3⟩
        case measure => simp [intOf]
      · gi_wp2
        refine bodyPost_ret (results_none rfl _ _ _) rfl ?_
        exact ⟨⟨_, rfl⟩, .inr ⟨_, by decide, hJx3⟩⟩
    · obtain rfl : z = 4 := hz
      have ix := fun w => run_idx_arr (P := Tryd.prog) (t := 164) (e := 126) (n := 5) (cs := #[.pointer (some ⟨B, 1, none⟩), .pointer (some ⟨B, 2, none⟩), .pointer (some ⟨B, 3, none⟩), .pointer (some ⟨B, 4, none⟩), .pointer (some ⟨B, 7, none⟩)]) (k := .i64) (i := 4) (by kernel_rfl) (fun _ => rfl) (fun _ => rfl) (by decide) (by decide) rfl w
      obtain ⟨fn, tmps, assign, body, hy, hR⟩ := hY (tx5.take 4) 4 wr hJs (by decide)
      simp only [encT, show txA 4 = 7 from rfl] at hy
      gi_wp2
      refine hR.mono ?_
      rintro e W3 (⟨rfl, hJ3, hk3⟩ | ⟨rfl, hJx3⟩)
      · gi_wp2
        go_roundw
        case rel => exact ⟨4 + 1, 4 + 1, rfl, by omega, by omega, hJ3⟩
        case measure => simp [intOf]
      · gi_wp2
        refine bodyPost_ret (results_none rfl _ _ _) rfl ?_
        exact ⟨⟨_, rfl⟩, .inr ⟨_, by decide, hJx3⟩⟩
    · obtain rfl : z = 5 := hz
      gi_wp2
      refine bodyPost_end (results_none rfl _ _ _) rfl ?_
      exact ⟨⟨_, rfl⟩, .inl ⟨_, rfl, hJs⟩⟩
theorem txt_stops (Bn B n₀ : Nat) (w : World) (hBn : Bn < w.heap.size) (hc : w.cell? ⟨Bn, 0, none⟩ = some (.pointer (some ⟨B, 0, none⟩))) :
    SeqStopsK Fence.wide 7 Tryd.prog 116 #[.pointer (some ⟨Bn, 0, none⟩)] (encT B) (Below n₀) (fun ys => ys = tx5) (fun pre => pre <+: tx5) 5 w := fun l J Jx W hW hJ _ hY h0 =>
  txt_in l Bn B n₀ J Jx (fun pre A B hj hx => hJ pre A B none hj (grown_ext hx) (fun r e => by cases e)) hY W ((hW.cell (p := ⟨Bn, 0, none⟩) hBn).trans hc) h0
end Go.Proofs.YtolfpfdmgelhhaaDoor
