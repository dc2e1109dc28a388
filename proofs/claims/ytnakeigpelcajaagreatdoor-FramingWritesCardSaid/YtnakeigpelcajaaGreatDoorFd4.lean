/-
Framing's feed: bytes for a reader that goes on.
-/
import Derived.Test.YtnakeigpelcajaaGreatDoorFd3
set_option linter.unusedVariables false
set_option linter.unusedSimpArgs false
namespace Go.Proofs.YtnakeigpelcajaaGreatDoor
open Go.RowKit Go.Extern.Stop Go.Stop Go.Extern

set_option maxRecDepth 100000 in
set_option maxHeartbeats 8000000 in
theorem fGo_on (k P : Nat) (hk : 0 < k) (s : Rst) (hs : Rok s) (hd0 : s.done = false) (hgood : (readyF s).2 = 0) (b : List UInt8) (B : Option Addr) (n d : Nat) (hn : n = b.length) (hb : n ≤ 4611686018427387904) (w : World) (o : Ow) (h : FsAt w o k P s) (hG : GlF w o) (hB : Rd w B (bc b)) (hBo : b ≠ [] → ∀ a, B = some a → a.block < w.heap.size → ¬ KF k (o a.block)) :
    Calls Tryz.prog 26 #[.pointer (some ⟨P, 0, none⟩), .slice B n d] w (Turns (KF k) w o fun v w' o' => v = .int .i64 ((goF s b).2 : Int) ∧ FsAt w' o' k P (goF s b).1) := by
  have HQ := Lib.hid (show goF s b = ({ (runF (readyF s).1 b).1 with e := (runF (readyF s).1 b).2.2 }, (runF (readyF s).1 b).2.1) from by unfold goF; rw [if_neg (by rw [hd0, hs.e0]; simp)]; dsimp only; rw [if_neg (by rw [hgood]; simp)])
  have HB := Lib.hid hB
  have HBO := Lib.hid hBo
  clear hB hBo
  have HE := Lib.hid h
  have HG := Lib.hid hG
  have HN := Lib.hid hn
  obtain ⟨A, m, D, l, C, g, hr, h1⟩ := h.row
  have c10 := fun x => (hr.ext ((Ext.rfl' w).al x)).c10
  have c11 := fun x => (hr.ext ((Ext.rfl' w).al x)).c11
  have hP : P < w.heap.size := row_lt hr
  rw [hd0] at c10
  rw [hs.e0] at c11
  have HS := Lib.hid hs
  clear hr h1 h hG hn hd0 hs
  have hmf : ∀ (fn : Fn) (first cap : Array Value) (w : World), (Instr.makeFunc fn first cap).run Tryz.prog w = .ok (.func fn first cap) w := fun _ _ _ _ => rfl
  obtain ⟨o1, ho1⟩ : ∃ o1 : Ow, o1 = fun x => if x < w.heap.size then o x else k + 4 := ⟨_, rfl⟩
  have x1 : Ext w (w.alloc (.cells #[.pointer (some ⟨P, 0, none⟩)] 38)) := (Ext.rfl' w).al _
  have t0 : Stp (KF k) w o (w.alloc (.cells #[.pointer (some ⟨P, 0, none⟩)] 38)) o1 := Stp.ext2 x1 (fun b hb => by rw [ho1]; exact if_pos hb)
  have hv0 := heap_alloc_new w (.cells #[.pointer (some ⟨P, 0, none⟩)] 38)
  have how : o1 w.heap.size = k + 4 := by rw [ho1]; exact if_neg (by omega)
  have HE1 := HE.out.stp (K := fun _ => False) (Stp.ext2 (o' := o1) x1 (fun b hb => by rw [ho1]; exact if_pos hb)) (fun x => x) (fun x => x) (fun x => x) (fun x => x)
  have CR := fReady_c k P s _ o1 HE1
  obtain ⟨V, hV⟩ : ∃ V, V = w.heap.size := ⟨_, rfl⟩
  obtain ⟨W0, hW0⟩ : ∃ W, W = w.alloc (.cells #[.pointer (some ⟨P, 0, none⟩)] 38) := ⟨_, rfl⟩
  rw [← hW0] at CR t0 hv0 HE1
  rw [← hV] at hv0 how
  have hVlt : V < W0.heap.size := by rw [hW0, hV]; simp
  have k4 : ¬ KF k (k + 4) := by unfold KF; omega
  have HV0 := Lib.hid (fun w' o' (t : Stp (KF k) W0 o1 w' o') => show w'.heap[V]? = some (.cells #[.pointer (some ⟨P, 0, none⟩)] 38 (0, 0)) ∧ o' V = k + 4 ∧ V < w'.heap.size from
    ⟨(t.keep V hVlt (by rw [how]; exact k4)).trans hv0, (t.own V hVlt).trans how, row_lt ((t.keep V hVlt (by rw [how]; exact k4)).trans hv0)⟩)
  have T00 := Lib.hid t0
  have HVV := Lib.hid hV
  clear ho1 x1 t0 hv0 how HE1 hVlt HE
  obtain ⟨q0, hq0⟩ : ∃ q, q = readyF s := ⟨_, rfl⟩
  rw [← hq0] at CR HQ
  have HQ0 := Lib.hid hq0
  rw [← hq0] at hgood
  have HOK0 := Lib.hid (show Rok q0.1 from by rw [hq0]; exact ready_okF HS.out)
  have CR2 := Lib.hid (CR.mono (R' := fun r w' => r = .returned (.tuple #[]) ∧ ∃ o', FsAt w' o' k P q0.1 ∧ Stp (KF k) W0 o1 w' o') (by rintro r w' ⟨rfl, h⟩; exact ⟨by rw [hgood]; rfl, h⟩))
  clear CR hq0 hgood
  have HW0 := Lib.hid hW0
  clear hV hW0
  go_enter_defers Tryz.func26, Tryz.ntmps26
  go_wp2_with (go_at_call 34; rw [← HW0.out]; refine (CR2.out).mono ?_; rintro e w2 ⟨rfl, o2, hp2, st2⟩; rw [← HVV.out]; obtain ⟨hv2, how2, hlt2⟩ := HV0.out w2 o2 st2; have v0 := (row_facts hv2 0 _ rfl).1; clear c10 c11)
  obtain ⟨U, hU⟩ : ∃ U, U = w2.heap.size := ⟨_, rfl⟩
  obtain ⟨W1, hW1⟩ : ∃ W, W = w2.alloc (.cells (stepsC P) 66) := ⟨_, rfl⟩
  have hW1' := hW1
  unfold stepsC at hW1'
  rw [← hW1', ← hU]
  obtain ⟨o3, ho3⟩ : ∃ o3 : Ow, o3 = fun x => if x < w2.heap.size then o2 x else k + 4 := ⟨_, rfl⟩
  have x3 : Ext w2 W1 := by rw [hW1]; exact (Ext.rfl' w2).al _
  have t3 : Stp (KF k) w2 o2 W1 o3 := Stp.ext2 x3 (fun b hb => by rw [ho3]; exact if_pos hb)
  have T0 := Lib.hid ((T00.out.tr st2).tr t3)
  have bV := (x3.block V hlt2).trans hv2
  have bU : W1.heap[U]? = some (.cells (stepsC P) 66 (0, 0)) := by rw [hW1, hU]; exact heap_alloc_new w2 _
  have oV : o3 V = k + 4 := by rw [ho3]; exact (if_pos hlt2).trans how2
  have oU : o3 U = k + 4 := by rw [ho3, hU]; exact if_neg (by omega)
  have HV := Lib.hid (fun w' o' (t : Stp (KF k) W1 o3 w' o') => show w'.cell? ⟨V, 0, none⟩ = some (.pointer (some ⟨P, 0, none⟩)) ∧ w'.heap[U]? = some (.cells (stepsC P) 66 (0, 0)) from
    ⟨(row_facts ((t.keep V (row_lt bV) (by rw [oV]; exact k4)).trans bV) 0 _ rfl).1, (t.keep U (row_lt bU) (by rw [oU]; exact k4)).trans bU⟩)
  have RB := Lib.hid (fun w' o' (t : Stp (KF k) W1 o3 w' o') => show Rd w' B (bc b) from by
    by_cases h0 : b = []
    · exact .inl (by rw [h0]; rfl)
    · exact HB.out.stp (T0.out.tr t) (HBO.out h0))
  have HE1 := Lib.hid (hp2.stp (K := fun _ => False) (Stp.ext2 (o' := o3) x3 (fun b hb => by rw [ho3]; exact if_pos hb)) (fun x => x) (fun x => x) (fun x => x) (fun x => x))
  have HG1 := Lib.hid (HG.out.stp T0.out (by unfold KF; omega))
  have hPV : P < V := by rw [HVV.out]; exact hP
  clear v0 hv2 how2 hlt2 hU hW1 hW1' ho3 x3 t3 bV bU oV oU hp2 st2 HV0 T00 HVV HB HBO CR2 HW0 hmf
  go_loopw [4, 35] (fun u i wr => ∃ (j : Nat) (o' : Ow) (sj : Rst), u = .int .i64 (j : Int) ∧ i = .int .i64 (j : Int) ∧ j ≤ n ∧ FsAt wr o' k P sj ∧ Rok sj ∧ Stp (KF k) W1 o3 wr o' ∧ Hid (runF q0.1 b = ((runF sj (b.drop j)).1, j + (runF sj (b.drop j)).2.1, (runF sj (b.drop j)).2.2))) (fun _ i _ => n - (intOf i).toNat)
  case atStart => exact ⟨0, o3, q0.1, rfl, rfl, Nat.zero_le _, HE1.out, HOK0.out, Stp.rfl', Lib.hid (by simp)⟩
  case round =>
    obtain ⟨j, o', sj, rfl, rfl, hj, hp, hok, hst, HRUN⟩ := hrel
    obtain ⟨v0, vU⟩ := HV.out wr o' hst
    have u0 : wr.cell? ⟨U, 0, none⟩ = some (.func (.func 35) #[.pointer (some ⟨P, 0, none⟩)] #[]) := (row_facts vU 0 _ rfl).1
    have u1 : wr.cell? ⟨U, 1, none⟩ = some (.func (.func 36) #[.pointer (some ⟨P, 0, none⟩)] #[]) := (row_facts vU 1 _ rfl).1
    have u2 : wr.cell? ⟨U, 2, none⟩ = some (.func (.func 37) #[.pointer (some ⟨P, 0, none⟩)] #[]) := (row_facts vU 2 _ rfl).1
    have u3 : wr.cell? ⟨U, 3, none⟩ = some (.func (.func 38) #[.pointer (some ⟨P, 0, none⟩)] #[]) := (row_facts vU 3 _ rfl).1
    have u4 : wr.cell? ⟨U, 4, none⟩ = some (.func (.func 39) #[.pointer (some ⟨P, 0, none⟩)] #[]) := (row_facts vU 4 _ rfl).1
    obtain ⟨A2, m2, D2, l2, C2, g2, hr2, _⟩ := hp.row
    have c10 := hr2.c10
    have HC4 := Lib.hid hr2.c4
    have HST := Lib.hid hst
    have HP := Lib.hid hp
    have HOKJ := Lib.hid hok
    clear vU hr2
    by_cases hlt : j < n
    · obtain ⟨g, f, rfl, hcb⟩ := (RB.out wr o' hst).byte (j := j) (by rw [← HN.out]; exact hlt)
      have hj0 : (0 : Int) ≤ (j : Int) := by omega
      have hj1 : (j : Int) < (n : Int) := by omega
      have hj2 : IntKind.i64.wrap ((j : Int) + 1) = ((j + 1 : Nat) : Int) := by rw [IntKind.wrap_i64]; omega
      cases hdn : sj.done with
      | true =>
        rw [hdn] at c10
        have HFIN := Lib.hid (goF_fin (z := sj) (u := j) (by rw [← HQ0.out]; exact HQ.out) (by rw [← HQ0.out, HRUN.out, runF_done hdn]; rfl) HOKJ.out.e0)
        clear hdn hp hok hst
        go_wp2
        refine leaves_cons (f := 33) (args := #[.pointer (some ⟨V, 0, none⟩)]) (by simp) (by simp [go_sem]) ?_
        refine (goD_idle _ _).mono ?_
        rintro e u' w'' ⟨rfl, rfl, rfl⟩
        refine ⟨.int .i64 (j : Int), by simp [results, Tryz.results26, go_sem], ?_⟩
        exact Turns.mk o' rfl ⟨by rw [HFIN.out], by rw [HFIN.out]; exact HP.out.ext (by (repeat (first | exact Ext.rfl' _ | assumption | refine Ext.dr ?_ | refine Ext.drN ?_ _ | refine Ext.al ?_ _ | refine Ext.st ?_ (by simp) _ | refine Ext.tr ?_ (by assumption))))⟩ (T0.out.tr (HST.out.tr (Stp.ext (by (repeat (first | exact Ext.rfl' _ | assumption | refine Ext.dr ?_ | refine Ext.drN ?_ _ | refine Ext.al ?_ _ | refine Ext.st ?_ (by simp) _ | refine Ext.tr ?_ (by assumption)))))))
      | false =>
        rw [hdn] at c10
        have HDN := Lib.hid hdn
        have hdr : b.drop j = b[j]'(by rw [← HN.out]; exact hlt) :: b.drop (j + 1) := List.drop_eq_getElem_cons _
        obtain ⟨c, hc⟩ : ∃ c, c = b[j]'(by rw [← HN.out]; exact hlt) := ⟨_, rfl⟩
        rw [← hc] at hcb hdr
        have CTT := fStep_c k P hk sj hok c wr o' hp (HG1.out.stp hst (by unfold KF; omega))
        have HDR := Lib.hid hdr
        have hst4 := hok.st
        obtain ⟨q, hq⟩ : ∃ q, q = takeF sj c := ⟨_, rfl⟩
        rw [← hq] at CTT
        have HTQ := Lib.hid hq
        have HOK2 := Lib.hid (show Rok q.1 from by rw [hq]; exact take_okF hok)
        have CTT := Lib.hid CTT
        clear hdn hc hdr hp hok hst hq
        rcases (show sj.state = 0 ∨ sj.state = 1 ∨ sj.state = 2 ∨ sj.state = 3 ∨ sj.state = 4 by omega) with hst0 | hst0 | hst0 | hst0 | hst0
        · clear hst4
          have CT : Calls Tryz.prog 35 #[.pointer (some ⟨P, 0, none⟩), .int .u8 (c.toNat : Int)] wr (TurnsF k wr o' P q) := by have h := CTT.out; rw [hst0] at h; exact h
          have c4 : wr.cell? ⟨P, 4, none⟩ = some (.int .i64 0) := by rw [HC4.out, hst0]; rfl
          obtain ⟨cN, hcN⟩ : ∃ x, x = c.toNat := ⟨_, rfl⟩
          rw [← hcN] at CT hcb
          clear hcN hst0
          by_cases h0 : q.2 = 0
          · have CT2 := Lib.hid (CT.mono (R' := fun r w' => r = .returned (.tuple #[]) ∧ ∃ o'', FsAt w' o'' k P q.1 ∧ Stp (KF k) wr o' w' o'') (by rintro r w' ⟨rfl, h⟩; exact ⟨by rw [h0]; rfl, h⟩))
            have HRN := Lib.hid (show runF q0.1 b = ((runF q.1 (b.drop (j + 1))).1, j + 1 + (runF q.1 (b.drop (j + 1))).2.1, (runF q.1 (b.drop (j + 1))).2.2) from by rw [HRUN.out, HDR.out, runF_cons, ← HTQ.out, if_neg (by rw [HDN.out]; decide), if_neg (by rw [h0]; simp)]; simp only [Prod.mk.injEq, true_and, and_true]; omega)
            clear h0 CT
            go_wp2_with (go_at_call 35; refine (CT2.out).mono ?_; rintro e w2 ⟨rfl, o2, hp2, st2⟩; have st3 := HST.out.tr st2; obtain ⟨y0, yU⟩ := HV.out w2 o2 st3; have HP2 := Lib.hid hp2; have HST3 := Lib.hid st3; clear hp2 st2 st3 v0 u0 u1 u2 u3 u4 c4 c10 hcb)
            go_roundw
            case rel => exact ⟨j + 1, o2, q.1, by go_num, by go_num, by omega, HP2.out, HOK2.out, HST3.out, HRN⟩
            case measure => simp [intOf]; omega
          · have CT2 := Lib.hid (CT.mono (R' := fun r w' => r = .panicked [{ v := .iface 25 (.int .i64 q.2), recovered := false }] ∧ ∃ o'', FsAt w' o'' k P q.1 ∧ Stp (KF k) wr o' w' o'') (by rintro r w' ⟨rfl, h⟩; exact ⟨goneF_no h0, h⟩))
            have H0 := Lib.hid h0
            clear h0 CT
            go_wp2_with (go_at_call 35; refine (CT2.out).mono ?_; rintro e w2 ⟨rfl, o2, hp2, st2⟩)
            have st3 := HST.out.tr st2
            obtain ⟨y0, yU⟩ := HV.out w2 o2 st3
            obtain ⟨A2, m2, D2, l2, C2, g2, hr2, _⟩ := hp2.row
            refine leaves_cons (f := 33) (args := #[.pointer (some ⟨V, 0, none⟩)]) (by simp) (by simp [go_sem]) ?_
            refine (goD_caught P V q.2 q.1.e w2 y0 hr2.c11 (hr2.fz 11 (by decide)) (by omega)).mono ?_
            rintro e u' w'' ⟨rfl, rfl, rfl⟩
            refine ⟨.int .i64 ((j : Int) + 1), by simp [results, Tryz.results26, go_sem], ?_⟩
            have hfin := goF_err (z := q.1) (u := j + 1) (e := q.2) (by rw [← HQ0.out]; exact HQ.out) (by rw [← HQ0.out, HRUN.out, HDR.out, runF_cons, ← HTQ.out, if_neg (by rw [HDN.out]; decide), if_pos H0.out])
            exact Turns.mk o2 rfl ⟨by rw [hfin]; simp, by rw [hfin]; exact (hp2.er q.2).ext (by (repeat (first | exact Ext.rfl' _ | assumption | refine Ext.dr ?_ | refine Ext.drN ?_ _ | refine Ext.al ?_ _ | refine Ext.st ?_ (by simp) _ | refine Ext.tr ?_ (by assumption))))⟩ (((T0.out.tr st3).tr (setF_stp 11 (.int .i64 q.2) hp2.own)).tr (Stp.ext (by (repeat (first | exact Ext.rfl' _ | assumption | refine Ext.dr ?_ | refine Ext.drN ?_ _ | refine Ext.al ?_ _ | refine Ext.st ?_ (by simp) _ | refine Ext.tr ?_ (by assumption))))))
        · clear hst4
          have CT : Calls Tryz.prog 36 #[.pointer (some ⟨P, 0, none⟩), .int .u8 (c.toNat : Int)] wr (TurnsF k wr o' P q) := by have h := CTT.out; rw [hst0] at h; exact h
          have c4 : wr.cell? ⟨P, 4, none⟩ = some (.int .i64 1) := by rw [HC4.out, hst0]; rfl
          obtain ⟨cN, hcN⟩ : ∃ x, x = c.toNat := ⟨_, rfl⟩
          rw [← hcN] at CT hcb
          clear hcN hst0
          by_cases h0 : q.2 = 0
          · have CT2 := Lib.hid (CT.mono (R' := fun r w' => r = .returned (.tuple #[]) ∧ ∃ o'', FsAt w' o'' k P q.1 ∧ Stp (KF k) wr o' w' o'') (by rintro r w' ⟨rfl, h⟩; exact ⟨by rw [h0]; rfl, h⟩))
            have HRN := Lib.hid (show runF q0.1 b = ((runF q.1 (b.drop (j + 1))).1, j + 1 + (runF q.1 (b.drop (j + 1))).2.1, (runF q.1 (b.drop (j + 1))).2.2) from by rw [HRUN.out, HDR.out, runF_cons, ← HTQ.out, if_neg (by rw [HDN.out]; decide), if_neg (by rw [h0]; simp)]; simp only [Prod.mk.injEq, true_and, and_true]; omega)
            clear h0 CT
            go_wp2_with (go_at_call 36; refine (CT2.out).mono ?_; rintro e w2 ⟨rfl, o2, hp2, st2⟩; have st3 := HST.out.tr st2; obtain ⟨y0, yU⟩ := HV.out w2 o2 st3; have HP2 := Lib.hid hp2; have HST3 := Lib.hid st3; clear hp2 st2 st3 v0 u0 u1 u2 u3 u4 c4 c10 hcb)
            go_roundw
            case rel => exact ⟨j + 1, o2, q.1, by go_num, by go_num, by omega, HP2.out, HOK2.out, HST3.out, HRN⟩
            case measure => simp [intOf]; omega
          · have CT2 := Lib.hid (CT.mono (R' := fun r w' => r = .panicked [{ v := .iface 25 (.int .i64 q.2), recovered := false }] ∧ ∃ o'', FsAt w' o'' k P q.1 ∧ Stp (KF k) wr o' w' o'') (by rintro r w' ⟨rfl, h⟩; exact ⟨goneF_no h0, h⟩))
            have H0 := Lib.hid h0
            clear h0 CT
            go_wp2_with (go_at_call 36; refine (CT2.out).mono ?_; rintro e w2 ⟨rfl, o2, hp2, st2⟩)
            have st3 := HST.out.tr st2
            obtain ⟨y0, yU⟩ := HV.out w2 o2 st3
            obtain ⟨A2, m2, D2, l2, C2, g2, hr2, _⟩ := hp2.row
            refine leaves_cons (f := 33) (args := #[.pointer (some ⟨V, 0, none⟩)]) (by simp) (by simp [go_sem]) ?_
            refine (goD_caught P V q.2 q.1.e w2 y0 hr2.c11 (hr2.fz 11 (by decide)) (by omega)).mono ?_
            rintro e u' w'' ⟨rfl, rfl, rfl⟩
            refine ⟨.int .i64 ((j : Int) + 1), by simp [results, Tryz.results26, go_sem], ?_⟩
            have hfin := goF_err (z := q.1) (u := j + 1) (e := q.2) (by rw [← HQ0.out]; exact HQ.out) (by rw [← HQ0.out, HRUN.out, HDR.out, runF_cons, ← HTQ.out, if_neg (by rw [HDN.out]; decide), if_pos H0.out])
            exact Turns.mk o2 rfl ⟨by rw [hfin]; simp, by rw [hfin]; exact (hp2.er q.2).ext (by (repeat (first | exact Ext.rfl' _ | assumption | refine Ext.dr ?_ | refine Ext.drN ?_ _ | refine Ext.al ?_ _ | refine Ext.st ?_ (by simp) _ | refine Ext.tr ?_ (by assumption))))⟩ (((T0.out.tr st3).tr (setF_stp 11 (.int .i64 q.2) hp2.own)).tr (Stp.ext (by (repeat (first | exact Ext.rfl' _ | assumption | refine Ext.dr ?_ | refine Ext.drN ?_ _ | refine Ext.al ?_ _ | refine Ext.st ?_ (by simp) _ | refine Ext.tr ?_ (by assumption))))))
        · clear hst4
          have CT : Calls Tryz.prog 37 #[.pointer (some ⟨P, 0, none⟩), .int .u8 (c.toNat : Int)] wr (TurnsF k wr o' P q) := by have h := CTT.out; rw [hst0] at h; exact h
          have c4 : wr.cell? ⟨P, 4, none⟩ = some (.int .i64 2) := by rw [HC4.out, hst0]; rfl
          obtain ⟨cN, hcN⟩ : ∃ x, x = c.toNat := ⟨_, rfl⟩
          rw [← hcN] at CT hcb
          clear hcN hst0
          by_cases h0 : q.2 = 0
          · have CT2 := Lib.hid (CT.mono (R' := fun r w' => r = .returned (.tuple #[]) ∧ ∃ o'', FsAt w' o'' k P q.1 ∧ Stp (KF k) wr o' w' o'') (by rintro r w' ⟨rfl, h⟩; exact ⟨by rw [h0]; rfl, h⟩))
            have HRN := Lib.hid (show runF q0.1 b = ((runF q.1 (b.drop (j + 1))).1, j + 1 + (runF q.1 (b.drop (j + 1))).2.1, (runF q.1 (b.drop (j + 1))).2.2) from by rw [HRUN.out, HDR.out, runF_cons, ← HTQ.out, if_neg (by rw [HDN.out]; decide), if_neg (by rw [h0]; simp)]; simp only [Prod.mk.injEq, true_and, and_true]; omega)
            clear h0 CT
            go_wp2_with (go_at_call 37; refine (CT2.out).mono ?_; rintro e w2 ⟨rfl, o2, hp2, st2⟩; have st3 := HST.out.tr st2; obtain ⟨y0, yU⟩ := HV.out w2 o2 st3; have HP2 := Lib.hid hp2; have HST3 := Lib.hid st3; clear hp2 st2 st3 v0 u0 u1 u2 u3 u4 c4 c10 hcb)
            go_roundw
            case rel => exact ⟨j + 1, o2, q.1, by go_num, by go_num, by omega, HP2.out, HOK2.out, HST3.out, HRN⟩
            case measure => simp [intOf]; omega
          · have CT2 := Lib.hid (CT.mono (R' := fun r w' => r = .panicked [{ v := .iface 25 (.int .i64 q.2), recovered := false }] ∧ ∃ o'', FsAt w' o'' k P q.1 ∧ Stp (KF k) wr o' w' o'') (by rintro r w' ⟨rfl, h⟩; exact ⟨goneF_no h0, h⟩))
            have H0 := Lib.hid h0
            clear h0 CT
            go_wp2_with (go_at_call 37; refine (CT2.out).mono ?_; rintro e w2 ⟨rfl, o2, hp2, st2⟩)
            have st3 := HST.out.tr st2
            obtain ⟨y0, yU⟩ := HV.out w2 o2 st3
            obtain ⟨A2, m2, D2, l2, C2, g2, hr2, _⟩ := hp2.row
            refine leaves_cons (f := 33) (args := #[.pointer (some ⟨V, 0, none⟩)]) (by simp) (by simp [go_sem]) ?_
            refine (goD_caught P V q.2 q.1.e w2 y0 hr2.c11 (hr2.fz 11 (by decide)) (by omega)).mono ?_
            rintro e u' w'' ⟨rfl, rfl, rfl⟩
            refine ⟨.int .i64 ((j : Int) + 1), by simp [results, Tryz.results26, go_sem], ?_⟩
            have hfin := goF_err (z := q.1) (u := j + 1) (e := q.2) (by rw [← HQ0.out]; exact HQ.out) (by rw [← HQ0.out, HRUN.out, HDR.out, runF_cons, ← HTQ.out, if_neg (by rw [HDN.out]; decide), if_pos H0.out])
            exact Turns.mk o2 rfl ⟨by rw [hfin]; simp, by rw [hfin]; exact (hp2.er q.2).ext (by (repeat (first | exact Ext.rfl' _ | assumption | refine Ext.dr ?_ | refine Ext.drN ?_ _ | refine Ext.al ?_ _ | refine Ext.st ?_ (by simp) _ | refine Ext.tr ?_ (by assumption))))⟩ (((T0.out.tr st3).tr (setF_stp 11 (.int .i64 q.2) hp2.own)).tr (Stp.ext (by (repeat (first | exact Ext.rfl' _ | assumption | refine Ext.dr ?_ | refine Ext.drN ?_ _ | refine Ext.al ?_ _ | refine Ext.st ?_ (by simp) _ | refine Ext.tr ?_ (by assumption))))))
        · clear hst4
          have CT : Calls Tryz.prog 38 #[.pointer (some ⟨P, 0, none⟩), .int .u8 (c.toNat : Int)] wr (TurnsF k wr o' P q) := by have h := CTT.out; rw [hst0] at h; exact h
          have c4 : wr.cell? ⟨P, 4, none⟩ = some (.int .i64 3) := by rw [HC4.out, hst0]; rfl
          obtain ⟨cN, hcN⟩ : ∃ x, x = c.toNat := ⟨_, rfl⟩
          rw [← hcN] at CT hcb
          clear hcN hst0
          by_cases h0 : q.2 = 0
          · have CT2 := Lib.hid (CT.mono (R' := fun r w' => r = .returned (.tuple #[]) ∧ ∃ o'', FsAt w' o'' k P q.1 ∧ Stp (KF k) wr o' w' o'') (by rintro r w' ⟨rfl, h⟩; exact ⟨by rw [h0]; rfl, h⟩))
            have HRN := Lib.hid (show runF q0.1 b = ((runF q.1 (b.drop (j + 1))).1, j + 1 + (runF q.1 (b.drop (j + 1))).2.1, (runF q.1 (b.drop (j + 1))).2.2) from by rw [HRUN.out, HDR.out, runF_cons, ← HTQ.out, if_neg (by rw [HDN.out]; decide), if_neg (by rw [h0]; simp)]; simp only [Prod.mk.injEq, true_and, and_true]; omega)
            clear h0 CT
            go_wp2_with (go_at_call 38; refine (CT2.out).mono ?_; rintro e w2 ⟨rfl, o2, hp2, st2⟩; have st3 := HST.out.tr st2; obtain ⟨y0, yU⟩ := HV.out w2 o2 st3; have HP2 := Lib.hid hp2; have HST3 := Lib.hid st3; clear hp2 st2 st3 v0 u0 u1 u2 u3 u4 c4 c10 hcb)
            go_roundw
            case rel => exact ⟨j + 1, o2, q.1, by go_num, by go_num, by omega, HP2.out, HOK2.out, HST3.out, HRN⟩
            case measure => simp [intOf]; omega
          · have CT2 := Lib.hid (CT.mono (R' := fun r w' => r = .panicked [{ v := .iface 25 (.int .i64 q.2), recovered := false }] ∧ ∃ o'', FsAt w' o'' k P q.1 ∧ Stp (KF k) wr o' w' o'') (by rintro r w' ⟨rfl, h⟩; exact ⟨goneF_no h0, h⟩))
            have H0 := Lib.hid h0
            clear h0 CT
            go_wp2_with (go_at_call 38; refine (CT2.out).mono ?_; rintro e w2 ⟨rfl, o2, hp2, st2⟩)
            have st3 := HST.out.tr st2
            obtain ⟨y0, yU⟩ := HV.out w2 o2 st3
            obtain ⟨A2, m2, D2, l2, C2, g2, hr2, _⟩ := hp2.row
            refine leaves_cons (f := 33) (args := #[.pointer (some ⟨V, 0, none⟩)]) (by simp) (by simp [go_sem]) ?_
            refine (goD_caught P V q.2 q.1.e w2 y0 hr2.c11 (hr2.fz 11 (by decide)) (by omega)).mono ?_
            rintro e u' w'' ⟨rfl, rfl, rfl⟩
            refine ⟨.int .i64 ((j : Int) + 1), by simp [results, Tryz.results26, go_sem], ?_⟩
            have hfin := goF_err (z := q.1) (u := j + 1) (e := q.2) (by rw [← HQ0.out]; exact HQ.out) (by rw [← HQ0.out, HRUN.out, HDR.out, runF_cons, ← HTQ.out, if_neg (by rw [HDN.out]; decide), if_pos H0.out])
            exact Turns.mk o2 rfl ⟨by rw [hfin]; simp, by rw [hfin]; exact (hp2.er q.2).ext (by (repeat (first | exact Ext.rfl' _ | assumption | refine Ext.dr ?_ | refine Ext.drN ?_ _ | refine Ext.al ?_ _ | refine Ext.st ?_ (by simp) _ | refine Ext.tr ?_ (by assumption))))⟩ (((T0.out.tr st3).tr (setF_stp 11 (.int .i64 q.2) hp2.own)).tr (Stp.ext (by (repeat (first | exact Ext.rfl' _ | assumption | refine Ext.dr ?_ | refine Ext.drN ?_ _ | refine Ext.al ?_ _ | refine Ext.st ?_ (by simp) _ | refine Ext.tr ?_ (by assumption))))))
        · clear hst4
          have CT : Calls Tryz.prog 39 #[.pointer (some ⟨P, 0, none⟩), .int .u8 (c.toNat : Int)] wr (TurnsF k wr o' P q) := by have h := CTT.out; rw [hst0] at h; exact h
          have c4 : wr.cell? ⟨P, 4, none⟩ = some (.int .i64 4) := by rw [HC4.out, hst0]; rfl
          obtain ⟨cN, hcN⟩ : ∃ x, x = c.toNat := ⟨_, rfl⟩
          rw [← hcN] at CT hcb
          clear hcN hst0
          by_cases h0 : q.2 = 0
          · have CT2 := Lib.hid (CT.mono (R' := fun r w' => r = .returned (.tuple #[]) ∧ ∃ o'', FsAt w' o'' k P q.1 ∧ Stp (KF k) wr o' w' o'') (by rintro r w' ⟨rfl, h⟩; exact ⟨by rw [h0]; rfl, h⟩))
            have HRN := Lib.hid (show runF q0.1 b = ((runF q.1 (b.drop (j + 1))).1, j + 1 + (runF q.1 (b.drop (j + 1))).2.1, (runF q.1 (b.drop (j + 1))).2.2) from by rw [HRUN.out, HDR.out, runF_cons, ← HTQ.out, if_neg (by rw [HDN.out]; decide), if_neg (by rw [h0]; simp)]; simp only [Prod.mk.injEq, true_and, and_true]; omega)
            clear h0 CT
            go_wp2_with (go_at_call 39; refine (CT2.out).mono ?_; rintro e w2 ⟨rfl, o2, hp2, st2⟩; have st3 := HST.out.tr st2; obtain ⟨y0, yU⟩ := HV.out w2 o2 st3; have HP2 := Lib.hid hp2; have HST3 := Lib.hid st3; clear hp2 st2 st3 v0 u0 u1 u2 u3 u4 c4 c10 hcb)
            go_roundw
            case rel => exact ⟨j + 1, o2, q.1, by go_num, by go_num, by omega, HP2.out, HOK2.out, HST3.out, HRN⟩
            case measure => simp [intOf]; omega
          · have CT2 := Lib.hid (CT.mono (R' := fun r w' => r = .panicked [{ v := .iface 25 (.int .i64 q.2), recovered := false }] ∧ ∃ o'', FsAt w' o'' k P q.1 ∧ Stp (KF k) wr o' w' o'') (by rintro r w' ⟨rfl, h⟩; exact ⟨goneF_no h0, h⟩))
            have H0 := Lib.hid h0
            clear h0 CT
            go_wp2_with (go_at_call 39; refine (CT2.out).mono ?_; rintro e w2 ⟨rfl, o2, hp2, st2⟩)
            have st3 := HST.out.tr st2
            obtain ⟨y0, yU⟩ := HV.out w2 o2 st3
            obtain ⟨A2, m2, D2, l2, C2, g2, hr2, _⟩ := hp2.row
            refine leaves_cons (f := 33) (args := #[.pointer (some ⟨V, 0, none⟩)]) (by simp) (by simp [go_sem]) ?_
            refine (goD_caught P V q.2 q.1.e w2 y0 hr2.c11 (hr2.fz 11 (by decide)) (by omega)).mono ?_
            rintro e u' w'' ⟨rfl, rfl, rfl⟩
            refine ⟨.int .i64 ((j : Int) + 1), by simp [results, Tryz.results26, go_sem], ?_⟩
            have hfin := goF_err (z := q.1) (u := j + 1) (e := q.2) (by rw [← HQ0.out]; exact HQ.out) (by rw [← HQ0.out, HRUN.out, HDR.out, runF_cons, ← HTQ.out, if_neg (by rw [HDN.out]; decide), if_pos H0.out])
            exact Turns.mk o2 rfl ⟨by rw [hfin]; simp, by rw [hfin]; exact (hp2.er q.2).ext (by (repeat (first | exact Ext.rfl' _ | assumption | refine Ext.dr ?_ | refine Ext.drN ?_ _ | refine Ext.al ?_ _ | refine Ext.st ?_ (by simp) _ | refine Ext.tr ?_ (by assumption))))⟩ (((T0.out.tr st3).tr (setF_stp 11 (.int .i64 q.2) hp2.own)).tr (Stp.ext (by (repeat (first | exact Ext.rfl' _ | assumption | refine Ext.dr ?_ | refine Ext.drN ?_ _ | refine Ext.al ?_ _ | refine Ext.st ?_ (by simp) _ | refine Ext.tr ?_ (by assumption))))))
    · have hjn : j = n := by omega
      subst hjn
      have HFIN := Lib.hid (goF_fin (z := sj) (u := j) (by rw [← HQ0.out]; exact HQ.out) (by rw [← HQ0.out, HRUN.out, show b.drop j = [] from by rw [HN.out]; simp]; simp [runF]) HOKJ.out.e0)
      clear hst hp hok
      go_wp2
      refine leaves_cons (f := 33) (args := #[.pointer (some ⟨V, 0, none⟩)]) (by simp) (by simp [go_sem]) ?_
      refine (goD_idle _ _).mono ?_
      rintro e u' w'' ⟨rfl, rfl, rfl⟩
      refine ⟨.int .i64 (j : Int), by simp [results, Tryz.results26, go_sem], ?_⟩
      exact Turns.mk o' rfl ⟨by rw [HFIN.out], by rw [HFIN.out]; exact HP.out.ext (by (repeat (first | exact Ext.rfl' _ | assumption | refine Ext.dr ?_ | refine Ext.drN ?_ _ | refine Ext.al ?_ _ | refine Ext.st ?_ (by simp) _ | refine Ext.tr ?_ (by assumption))))⟩ (T0.out.tr (HST.out.tr (Stp.ext (by (repeat (first | exact Ext.rfl' _ | assumption | refine Ext.dr ?_ | refine Ext.drN ?_ _ | refine Ext.al ?_ _ | refine Ext.st ?_ (by simp) _ | refine Ext.tr ?_ (by assumption)))))))
/-- A reader that was made: done, given up, or one that may go on. -/
theorem fGo_c (k P : Nat) (hk : 0 < k) (s : Rst) (hs : s.done = true ∨ s.e ≠ 0 ∨ Rok s) (b : List UInt8) (B : Option Addr) (n d : Nat) (hn : n = b.length) (hb : n ≤ 4611686018427387904) (w : World) (o : Ow) (h : FsAt w o k P s) (hG : GlF w o) (hB : Rd w B (bc b)) (hBo : b ≠ [] → ∀ a, B = some a → a.block < w.heap.size → ¬ KF k (o a.block)) :
    Calls Tryz.prog 26 #[.pointer (some ⟨P, 0, none⟩), .slice B n d] w (Turns (KF k) w o fun v w' o' => v = .int .i64 ((goF s b).2 : Int) ∧ FsAt w' o' k P (goF s b).1) := by
  cases hd : s.done with
  | true => exact fGo_shut k P s (.inl hd) b B n d w o h
  | false =>
    rcases hs with h1 | h1 | h1
    · rw [hd] at h1; cases h1
    · exact fGo_shut k P s (.inr h1) b B n d w o h
    · by_cases hr : (readyF s).2 = 0
      · exact fGo_on k P hk s h1 hd hr b B n d hn hb w o h hG hB hBo
      · exact fGo_bad k P hk s h1 hd hr b B n d hn w o h hG
end Go.Proofs.YtnakeigpelcajaaGreatDoor
