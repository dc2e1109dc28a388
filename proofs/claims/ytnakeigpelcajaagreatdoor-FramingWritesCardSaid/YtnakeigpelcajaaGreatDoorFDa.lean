/-
Framing's feed: its deferred closure.
-/
import Derived.Test.YtnakeigpelcajaaGreatDoorFb3
import Derived.Test.YtnakeigpelcajaaGreatDoorFb5
import Derived.Test.YtnakeigpelcajaaGreatDoorFb6
import Derived.Defers
import Derived.Recover
import Derived.Test.YtnakeigpelcajaaGreatDoorFa2
set_option linter.unusedVariables false
set_option linter.unusedSimpArgs false
/-
Framing's feed: its deferred closure.
-/
section
namespace Go.Proofs.YtnakeigpelcajaaGreatDoor
open Go.RowKit Go.Extern.Stop Go.Stop Go.Extern

set_option maxRecDepth 100000 in
theorem goD_idle (p : Addr) (w : World) :
    CallsD Tryz.prog 33 #[.pointer (some p)] .returning w fun e u' w' => e = .returned (.tuple #[]) ∧ u' = .returning ∧ w' = w := by
  refine callsD_of_wpS Tryz.func33 rfl fun c₀ cs hu => ?_
  apply wpS_seq
  apply wpS_region
  simp [wpOpsS, go_sem, recoverD, hu, Tryz.ntmps33, Exit.thenS]
  apply wpS_seq
  apply wpS_region
  simp [wpOpsS, go_sem, Exit.thenS]
  refine wpS_cond (t := false) (by simp [Act.eval, Array.replicate]) ?_
  simp only [Bool.false_eq_true, if_false]
  refine wpS_of_wp (wp_skip ?_)
  cases c₀
  simp_all [bodyPostS, results, Tryz.results33, Exit.thenS]
set_option maxRecDepth 100000 in
set_option maxHeartbeats 1000000 in
theorem goD_caught (P bv : Nat) (e e0 : Int) (w : World) (hv : w.cell? ⟨bv, 0, none⟩ = some (.pointer (some ⟨P, 0, none⟩))) (hp : w.cell? ⟨P, 11, none⟩ = some (.int .i64 e0)) (hpf : w.frozen? ⟨P, 11, none⟩ = false) (h1 : bv ≠ P) :
    CallsD Tryz.prog 33 #[.pointer (some ⟨bv, 0, none⟩)] (.panicking [{ v := .iface 25 (.int .i64 e), recovered := false }]) w fun x u' w' => x = .returned (.tuple #[]) ∧ u' = .panicking [{ v := .iface 25 (.int .i64 e), recovered := true }] ∧
      w' = (w.setCell ⟨P, 11, none⟩ (.int .i64 e)).drew := by
  refine callsD_of_wpS Tryz.func33 rfl fun c₀ cs hu => ?_
  apply wpS_seq
  apply wpS_region
  simp [wpOpsS, go_sem, recoverD, hu, Tryz.ntmps33, Exit.thenS]
  apply wpS_seq
  apply wpS_region
  simp [wpOpsS, go_sem, Exit.thenS]
  have hta : ∀ w', (Instr.typeAssert (.iface 25 (.int .i64 e)) 20 25 false).run Tryz.prog w' = .ok (.int .i64 e) w' := fun _ => by first | rfl | (simp [Instr.typeAssert, go_sem]; done)
  refine wpS_cond (t := true) (by simp [Act.eval, Array.replicate]) ?_
  simp only [if_true]
  refine wpS_of_wp ?_
  simp only [Array.replicate_succ, Array.replicate_zero, List.push_toArray, List.nil_append, List.cons_append, List.setIfInBounds_toArray, List.set_cons_zero, List.set_cons_succ, List.append_toArray]
  go_wp2
  go_region_with (fail)
  all_goals go_wp2
  all_goals cases c₀
  all_goals simp_all [bodyPostS, results, Tryz.results33, Exit.thenS]
end Go.Proofs.YtnakeigpelcajaaGreatDoor
end

/-
Framing's feed: a byte by the state; a reader that is shut.
-/
section
namespace Go.Proofs.YtnakeigpelcajaaGreatDoor
open Go.RowKit Go.Extern.Stop Go.Stop Go.Extern

theorem Stp.setNew {K : Nat → Prop} {w w' : World} {o o' : Ow} (h : Stp K w o w' o') (b off : Nat) (u : Value) (hb : w.heap.size ≤ b) : Stp K w o (w'.setCell ⟨b, off, none⟩ u) o' :=
  ⟨h.os, h.tape, h.output, by have := h.size; simpa using this, h.own, fun i hi hk => (Below.heap_setCell w' ⟨b, off, none⟩ u i (by show i ≠ b; omega)).trans (h.keep i hi hk)⟩
/-- The function of a state. -/
def stepN (n : Nat) : Nat := if n = 0 then 35 else if n = 1 then 36 else if n = 2 then 37 else if n = 3 then 38 else 39
/-- A byte, by the state. -/
theorem fStep_c (k P : Nat) (hk : 0 < k) (s : Rst) (hs : Rok s) (c : UInt8) (w : World) (o : Ow) (h : FsAt w o k P s) (hG : GlF w o) :
    Calls Tryz.prog (stepN s.state) #[.pointer (some ⟨P, 0, none⟩), .int .u8 (c.toNat : Int)] w (TurnsF k w o P (takeF s c)) := by
  have h4 := hs.st
  unfold stepN takeF
  by_cases k0 : s.state = 0
  · rw [if_pos k0, if_pos k0]
    by_cases hm : s.all < s.most
    · exact fPlain_yes k P s c hm hs.bl hs.mo w o h
    · exact fPlain_no k P s c hm w o h
  · rw [if_neg k0, if_neg k0]
    by_cases k1 : s.state = 1
    · rw [if_pos k1, if_pos k1]
      exact fSize_c k P hk s c hs.ln hs.al hs.mo w o h hG
    · rw [if_neg k1, if_neg k1]
      by_cases k2 : s.state = 2
      · rw [if_pos k2, if_pos k2]
        exact fData_c k P s c (hs.l2 k2).1 (hs.l2 k2).2 hs.bl hs.mo w o h
      · rw [if_neg k2, if_neg k2]
        by_cases k3 : s.state = 3
        · rw [if_pos k3, if_pos k3]
          exact fBehind_c k P s c (hs.l3 k3) w o h
        · rw [if_neg k3, if_neg k3]
          exact fTrailer_c k P s c hs.ln w o h
set_option maxRecDepth 100000 in
set_option maxHeartbeats 4000000 in
theorem fGo_shut (k P : Nat) (s : Rst) (hs : s.done = true ∨ s.e ≠ 0) (b : List UInt8) (B : Option Addr) (n d : Nat) (w : World) (o : Ow) (h : FsAt w o k P s) :
    Calls Tryz.prog 26 #[.pointer (some ⟨P, 0, none⟩), .slice B n d] w (Turns (KF k) w o fun v w' o' => v = .int .i64 ((goF s b).2 : Int) ∧ FsAt w' o' k P (goF s b).1) := by
  have HQ := Lib.hid (show goF s b = (s, 0) from if_pos hs)
  have HE := Lib.hid h
  obtain ⟨A, m, D, l, C, g, hr, h1⟩ := h.row
  have c10 := fun x => (hr.ext ((Ext.rfl' w).al x)).c10
  have c11 := fun x => (hr.ext ((Ext.rfl' w).al x)).c11
  have hP : P < w.heap.size := row_lt hr
  clear hr h1 h
  obtain ⟨dn, hdn⟩ : ∃ x, x = s.done := ⟨_, rfl⟩
  obtain ⟨er, her⟩ : ∃ x, x = s.e := ⟨_, rfl⟩
  rw [← hdn] at c10 hs
  rw [← her] at c11 hs
  clear hdn her
  cases dn with
  | true =>
    clear hs
    go_enter_defers Tryz.func26, Tryz.ntmps26
    go_wp2
    refine ⟨.int .i64 0, by simp [results, Tryz.results26, go_sem], ?_⟩
    exact Turns.mk o rfl ⟨by rw [HQ.out]; rfl, by rw [HQ.out]; exact HE.out.ext (by (repeat (first | exact Ext.rfl' _ | assumption | refine Ext.dr ?_ | refine Ext.drN ?_ _ | refine Ext.al ?_ _ | refine Ext.st ?_ (by simp) _ | refine Ext.tr ?_ (by assumption))))⟩ (Stp.ext (by (repeat (first | exact Ext.rfl' _ | assumption | refine Ext.dr ?_ | refine Ext.drN ?_ _ | refine Ext.al ?_ _ | refine Ext.st ?_ (by simp) _ | refine Ext.tr ?_ (by assumption)))))
  | false =>
    have hne : (er != 0) = true := by rw [bne_iff_ne]; simpa using hs
    clear hs
    go_enter_defers Tryz.func26, Tryz.ntmps26
    go_wp2
    refine ⟨.int .i64 0, by simp [results, Tryz.results26, go_sem], ?_⟩
    exact Turns.mk o rfl ⟨by rw [HQ.out]; rfl, by rw [HQ.out]; exact HE.out.ext (by (repeat (first | exact Ext.rfl' _ | assumption | refine Ext.dr ?_ | refine Ext.drN ?_ _ | refine Ext.al ?_ _ | refine Ext.st ?_ (by simp) _ | refine Ext.tr ?_ (by assumption))))⟩ (Stp.ext (by (repeat (first | exact Ext.rfl' _ | assumption | refine Ext.dr ?_ | refine Ext.drN ?_ _ | refine Ext.al ?_ _ | refine Ext.st ?_ (by simp) _ | refine Ext.tr ?_ (by assumption)))))
end Go.Proofs.YtnakeigpelcajaaGreatDoor
end
