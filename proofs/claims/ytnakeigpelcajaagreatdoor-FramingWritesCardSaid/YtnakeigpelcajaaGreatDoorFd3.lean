/-
Framing's feed: bytes for a reader that may go on.
-/
import Derived.Test.YtnakeigpelcajaaGreatDoorFDa
set_option linter.unusedVariables false
set_option linter.unusedSimpArgs false
namespace Go.Proofs.YtnakeigpelcajaaGreatDoor
open Go.RowKit Go.Extern.Stop Go.Stop Go.Extern

theorem Rd.byte {w : World} {B : Option Addr} {l : List UInt8} (h : Rd w B (bc l)) {j : Nat} (hj : j < l.length) : ∃ g f, B = some ⟨g, f, none⟩ ∧ w.cell? ⟨g, f + j, none⟩ = some (.int .u8 (l[j].toNat : Int)) := by
  obtain ⟨g, f, hB, _, hc⟩ := h.at_ (by rw [bc_len]; omega)
  exact ⟨g, f, hB, hc j _ (bc_at l j hj)⟩
theorem rst_e {s : Rst} (h : s.e = 0) : { s with e := 0 } = s := by
  obtain ⟨a, b, c, d, e, f, g, h1, i, j, k, l⟩ := s
  dsimp only at h
  subst h
  rfl
theorem goF_fin {s z : Rst} {b : List UInt8} {u : Nat} (HQ : goF s b = ({ (runF (readyF s).1 b).1 with e := (runF (readyF s).1 b).2.2 }, (runF (readyF s).1 b).2.1)) (hr : runF (readyF s).1 b = (z, u, 0)) (he : z.e = 0) : goF s b = (z, u) := by
  rw [HQ, hr]
  dsimp only
  rw [rst_e he]
theorem goF_err {s z : Rst} {b : List UInt8} {u : Nat} {e : Int} (HQ : goF s b = ({ (runF (readyF s).1 b).1 with e := (runF (readyF s).1 b).2.2 }, (runF (readyF s).1 b).2.1)) (hr : runF (readyF s).1 b = (z, u, e)) : goF s b = ({ z with e := e }, u) := by
  rw [HQ, hr]
theorem FsAt.er {w : World} {o : Ow} {k P : Nat} {s : Rst} (h : FsAt w o k P s) (e : Int) : FsAt (w.setCell ⟨P, 11, none⟩ (.int .i64 e)) o k P { s with e := e } :=
  h.put 11 _ rfl rfl rfl (fun _ _ _ _ _ _ => rfl)
/-- The steps' array. -/
def stepsC (P : Nat) : Array Value := #[.func (.func 35) #[.pointer (some ⟨P, 0, none⟩)] #[], .func (.func 36) #[.pointer (some ⟨P, 0, none⟩)] #[], .func (.func 37) #[.pointer (some ⟨P, 0, none⟩)] #[], .func (.func 38) #[.pointer (some ⟨P, 0, none⟩)] #[], .func (.func 39) #[.pointer (some ⟨P, 0, none⟩)] #[]]
set_option maxRecDepth 100000 in
set_option maxHeartbeats 4000000 in
theorem fGo_bad (k P : Nat) (hk : 0 < k) (s : Rst) (hs : Rok s) (hd0 : s.done = false) (hbad : (readyF s).2 ≠ 0) (b : List UInt8) (B : Option Addr) (n d : Nat) (hn : n = b.length) (w : World) (o : Ow) (h : FsAt w o k P s) (hG : GlF w o) :
    Calls Tryz.prog 26 #[.pointer (some ⟨P, 0, none⟩), .slice B n d] w (Turns (KF k) w o fun v w' o' => v = .int .i64 ((goF s b).2 : Int) ∧ FsAt w' o' k P (goF s b).1) := by
  have HQ := Lib.hid (show goF s b = ({ (readyF s).1 with e := (readyF s).2 }, 0) from by unfold goF; rw [if_neg (by rw [hd0, hs.e0]; simp)]; dsimp only; rw [if_pos hbad])
  have HE := Lib.hid h
  have HG := Lib.hid hG
  have HN := Lib.hid hn
  obtain ⟨A, m, D, l, C, g, hr, h1⟩ := h.row
  have c10 := fun x => (hr.ext ((Ext.rfl' w).al x)).c10
  have c11 := fun x => (hr.ext ((Ext.rfl' w).al x)).c11
  have hP : P < w.heap.size := row_lt hr
  rw [hd0] at c10
  rw [hs.e0] at c11
  have HS := Lib.hid hs
  clear hr h1 h hG hn hd0 hs
  have hmf : ∀ (fn : Fn) (first cap : Array Value) (w : World), (Instr.makeFunc fn first cap).run Tryz.prog w = .ok (.func fn first cap) w := fun _ _ _ _ => rfl
  obtain ⟨o1, ho1⟩ : ∃ o1 : Ow, o1 = fun x => if x < w.heap.size then o x else k + 4 := ⟨_, rfl⟩
  have x1 : Ext w (w.alloc (.cells #[.pointer (some ⟨P, 0, none⟩)] 38)) := (Ext.rfl' w).al _
  have t0 : Stp (KF k) w o (w.alloc (.cells #[.pointer (some ⟨P, 0, none⟩)] 38)) o1 := Stp.ext2 x1 (fun b hb => by rw [ho1]; exact if_pos hb)
  have hv0 := heap_alloc_new w (.cells #[.pointer (some ⟨P, 0, none⟩)] 38)
  have how : o1 w.heap.size = k + 4 := by rw [ho1]; exact if_neg (by omega)
  have HE1 := HE.out.stp (K := fun _ => False) (Stp.ext2 (o' := o1) x1 (fun b hb => by rw [ho1]; exact if_pos hb)) (fun x => x) (fun x => x) (fun x => x) (fun x => x)
  have CR := fReady_c k P s _ o1 HE1
  obtain ⟨V, hV⟩ : ∃ V, V = w.heap.size := ⟨_, rfl⟩
  obtain ⟨W0, hW0⟩ : ∃ W, W = w.alloc (.cells #[.pointer (some ⟨P, 0, none⟩)] 38) := ⟨_, rfl⟩
  rw [← hW0] at CR t0 hv0 HE1
  rw [← hV] at hv0 how
  have hVlt : V < W0.heap.size := by rw [hW0, hV]; simp
  have k4 : ¬ KF k (k + 4) := by unfold KF; omega
  have HV0 := Lib.hid (fun w' o' (t : Stp (KF k) W0 o1 w' o') => show w'.heap[V]? = some (.cells #[.pointer (some ⟨P, 0, none⟩)] 38 (0, 0)) ∧ o' V = k + 4 ∧ V < w'.heap.size from
    ⟨(t.keep V hVlt (by rw [how]; exact k4)).trans hv0, (t.own V hVlt).trans how, row_lt ((t.keep V hVlt (by rw [how]; exact k4)).trans hv0)⟩)
  have T00 := Lib.hid t0
  have HVV := Lib.hid hV
  clear ho1 x1 t0 hv0 how HE1 hVlt HE
  obtain ⟨q0, hq0⟩ : ∃ q, q = readyF s := ⟨_, rfl⟩
  rw [← hq0] at CR HQ
  have HQ0 := Lib.hid hq0
  rw [← hq0] at hbad
  have CR2 := Lib.hid (CR.mono (R' := fun r w' => r = .panicked [{ v := .iface 25 (.int .i64 q0.2), recovered := false }] ∧ ∃ o', FsAt w' o' k P q0.1 ∧ Stp (KF k) W0 o1 w' o') (by rintro r w' ⟨rfl, h⟩; exact ⟨goneF_no hbad, h⟩))
  clear CR hq0 hbad
  have HW0 := Lib.hid hW0
  go_enter_defers Tryz.func26, Tryz.ntmps26
  go_wp2_with (go_at_call 34; rw [← HW0.out]; refine (CR2.out).mono ?_; rintro e w2 ⟨rfl, o2, hp2, st2⟩)
  rw [← HVV.out]
  obtain ⟨A2, m2, D2, l2, C2, g2, hr2, _⟩ := hp2.row
  obtain ⟨hv2, how2, hlt2⟩ := HV0.out w2 o2 st2
  have hv := HVV.out
  refine leaves_cons (f := 33) (args := #[.pointer (some ⟨V, 0, none⟩)]) (by simp) (by simp [go_sem]) ?_
  refine (goD_caught P V q0.2 q0.1.e w2 (row_facts hv2 0 _ rfl).1 hr2.c11 (hr2.fz 11 (by decide)) (by omega)).mono ?_
  rintro e u' w'' ⟨rfl, rfl, rfl⟩
  refine ⟨.int .i64 0, by simp [results, Tryz.results26, go_sem], ?_⟩
  exact Turns.mk o2 rfl ⟨by rw [HQ.out]; rfl, by rw [HQ.out]; exact (hp2.er q0.2).ext (by (repeat (first | exact Ext.rfl' _ | assumption | refine Ext.dr ?_ | refine Ext.drN ?_ _ | refine Ext.al ?_ _ | refine Ext.st ?_ (by simp) _ | refine Ext.tr ?_ (by assumption))))⟩ (((T00.out.tr st2).tr (setF_stp 11 (.int .i64 q0.2) hp2.own)).tr (Stp.ext (by (repeat (first | exact Ext.rfl' _ | assumption | refine Ext.dr ?_ | refine Ext.drN ?_ _ | refine Ext.al ?_ _ | refine Ext.st ?_ (by simp) _ | refine Ext.tr ?_ (by assumption))))))
end Go.Proofs.YtnakeigpelcajaaGreatDoor
