/-
Head's Feed: its deferred closure, where nothing was given up.
-/
import Derived.Test.YtppajpchibkneaaGreatDoorHd8
import Derived.Defers
import Derived.Recover
set_option linter.unusedVariables false
set_option linter.unusedSimpArgs false
namespace Go.Proofs.YtppajpchibkneaaGreatDoor
open Go.RowKit Go.Extern.Stop Go.Stop Go.Extern

set_option maxRecDepth 100000 in
theorem feedD_idle (p q r : Addr) (w : World) :
    CallsD Tryz.prog 32 #[.pointer (some p), .pointer (some q), .pointer (some r)] .returning w fun e u' w' => e = .returned (.tuple #[]) ∧ u' = .returning ∧ w' = w := by
  refine callsD_of_wpS Tryz.func32 rfl fun c₀ cs hu => ?_
  apply wpS_seq
  apply wpS_region
  simp [wpOpsS, go_sem, recoverD, hu, Tryz.ntmps32, Exit.thenS]
  apply wpS_seq
  apply wpS_region
  simp [wpOpsS, go_sem, Exit.thenS]
  refine wpS_cond (t := false) (by simp [Act.eval, Array.replicate]) ?_
  simp only [Bool.false_eq_true, if_false]
  refine wpS_of_wp (wp_skip ?_)
  cases c₀
  simp_all [bodyPostS, results, Tryz.results32, Exit.thenS]
set_option maxRecDepth 100000 in
set_option maxHeartbeats 1000000 in
theorem feedD_caught (P bv bq br : Nat) (e e0 e1 : Int) (b0 : Bool) (w : World) (hv : w.cell? ⟨bv, 0, none⟩ = some (.pointer (some ⟨P, 0, none⟩))) (hp : w.cell? ⟨P, 7, none⟩ = some (.int .i64 e0)) (hpf : w.frozen? ⟨P, 7, none⟩ = false)
    (hq : w.cell? ⟨bq, 0, none⟩ = some (.bool b0)) (hqf : w.frozen? ⟨bq, 0, none⟩ = false) (hr : w.cell? ⟨br, 0, none⟩ = some (.int .i64 e1)) (hrf : w.frozen? ⟨br, 0, none⟩ = false) (h1 : bv ≠ P) (h2 : bq ≠ P) (h3 : br ≠ P) (h4 : bq ≠ br) :
    CallsD Tryz.prog 32 #[.pointer (some ⟨bv, 0, none⟩), .pointer (some ⟨bq, 0, none⟩), .pointer (some ⟨br, 0, none⟩)] (.panicking [{ v := .iface 26 (.int .i64 e), recovered := false }]) w fun x u' w' => x = .returned (.tuple #[]) ∧ u' = .panicking [{ v := .iface 26 (.int .i64 e), recovered := true }] ∧
      w' = ((w.drew.setCell ⟨P, 7, none⟩ (.int .i64 e)).setCell ⟨bq, 0, none⟩ (.bool false)).setCell ⟨br, 0, none⟩ (.int .i64 e) := by
  refine callsD_of_wpS Tryz.func32 rfl fun c₀ cs hu => ?_
  apply wpS_seq
  apply wpS_region
  simp [wpOpsS, go_sem, recoverD, hu, Tryz.ntmps32, Exit.thenS]
  apply wpS_seq
  apply wpS_region
  simp [wpOpsS, go_sem, Exit.thenS]
  have hta : ∀ w', (Instr.typeAssert (.iface 26 (.int .i64 e)) 20 26 false).run Tryz.prog w' = .ok (.int .i64 e) w' := fun _ => by first | rfl | (simp [Instr.typeAssert, go_sem]; done)
  refine wpS_cond (t := true) (by simp [Act.eval, Array.replicate]) ?_
  simp only [if_true]
  refine wpS_of_wp ?_
  simp only [Array.replicate_succ, Array.replicate_zero, List.push_toArray, List.nil_append, List.cons_append, List.setIfInBounds_toArray, List.set_cons_zero, List.set_cons_succ, List.append_toArray]
  go_wp2
  go_region_with (fail)
  all_goals go_wp2
  all_goals cases c₀
  all_goals simp_all [bodyPostS, results, Tryz.results32, Exit.thenS]
end Go.Proofs.YtppajpchibkneaaGreatDoor
