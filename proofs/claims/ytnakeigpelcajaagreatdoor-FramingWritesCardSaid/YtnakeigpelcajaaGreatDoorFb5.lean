/-
Framing's reader: a byte behind a chunk; what is known without a byte.
-/
import Derived.Test.YtnakeigpelcajaaGreatDoorFb1
import Derived.RegionDies
import Derived.BigRegion
set_option linter.unusedVariables false
set_option linter.unusedSimpArgs false
namespace Go.Proofs.YtnakeigpelcajaaGreatDoor
open Go.RowKit

set_option maxRecDepth 100000 in
set_option maxHeartbeats 4000000 in
theorem fBehind_no (k P : Nat) (s : Rst) (c : UInt8) (hl : s.left = 1 ∨ s.left = 2) (hc : c ≠ (if s.left = 2 then 13 else 10)) (w : World) (o : Ow) (h : FsAt w o k P s) :
    Calls Tryz.prog 38 #[.pointer (some ⟨P, 0, none⟩), .int .u8 (c.toNat : Int)] w (TurnsF k w o P (behindF s c)) := by
  have hq : behindF s c = (s, 45) := if_neg hc
  have HQ := Lib.hid hq
  obtain ⟨A, m, B, d, C, g, hr, h1, h2, h3, h4, h5, h6⟩ := h.row
  have c0 := hr.c0
  have c1 := hr.c1
  have c2 := hr.c2
  have c3 := hr.c3
  have c4 := hr.c4
  have c5 := hr.c5
  have c10 := hr.c10
  have f4 := hr.fz 4 (by decide)
  have f5 := hr.fz 5 (by decide)
  have f10 := hr.fz 10 (by decide)
  have HE := Lib.hid h
  have HR := Lib.hid hr
  clear hr h1 h2 h3 h4 h5 h6 h
  obtain ⟨b, hb⟩ : ∃ b, b = c.toNat := ⟨_, rfl⟩
  have h256 := UInt8.toNat_lt c
  rw [← hb] at h256 ⊢
  have cw : ∀ x, (w.alloc x).cell? ⟨P, 5, none⟩ = w.cell? ⟨P, 5, none⟩ := fun x => (((Ext.rfl' w).al x).cell (lt_of_cell c5))
  have cv : ∀ x, (w.alloc x).cell? ⟨P, 4, none⟩ = w.cell? ⟨P, 4, none⟩ := fun x => (((Ext.rfl' w).al x).cell (lt_of_cell c4))
  rw [c5] at cw
  rw [c4] at cv
  have fw : ∀ x, (w.alloc x).frozen? ⟨P, 5, none⟩ = false := fun x => (HR.out.ext ((Ext.rfl' w).al x)).fz 5 (by decide)
  have fv : ∀ x, (w.alloc x).frozen? ⟨P, 4, none⟩ = false := fun x => (HR.out.ext ((Ext.rfl' w).al x)).fz 4 (by decide)
  obtain ⟨R, hR⟩ : ∃ R, R = behindF s c := ⟨_, rfl⟩
  rw [← hR] at HQ ⊢
  rcases hl with hl | hl
  · rw [hl] at c5 cw
    rw [if_neg (by omega)] at hc
    have d8 : ((b : Int) == 10) = false := by rw [beq_eq_false_iff_ne]; intro e; exact hc (UInt8.toNat_inj.1 (by rw [← hb]; show b = 10; omega))
    clear hc hb hR hl hq
    go_enter Tryz.func38, Tryz.ntmps38
    go_wp2_with (first | (go_at_call 56; refine (fdemand_c _ _ _).mono ?_; rintro e w6 ⟨hy, hn, rfl⟩; first | (obtain rfl := hy rfl; clear hy hn) | (obtain rfl := hn rfl; clear hy hn) | (obtain rfl := hy d8; clear hy hn) | (obtain rfl := hn d8; clear hy hn)))
    simp only [bodyPost]
    rw [HQ.out]
    exact ⟨trivial, rfl, o, HE.out.ext (by (repeat (first | exact Ext.rfl' _ | assumption | refine Ext.dr ?_ | refine Ext.drN ?_ _ | refine Ext.al ?_ _ | refine Ext.st ?_ (by simp) _ | refine Ext.tr ?_ (by assumption)))), Stp.ext (by (repeat (first | exact Ext.rfl' _ | assumption | refine Ext.dr ?_ | refine Ext.drN ?_ _ | refine Ext.al ?_ _ | refine Ext.st ?_ (by simp) _ | refine Ext.tr ?_ (by assumption))))⟩
  · rw [hl] at c5 cw
    rw [if_pos hl] at hc
    have d8 : ((b : Int) == 13) = false := by rw [beq_eq_false_iff_ne]; intro e; exact hc (UInt8.toNat_inj.1 (by rw [← hb]; show b = 13; omega))
    clear hc hb hR hl hq
    go_enter Tryz.func38, Tryz.ntmps38
    go_wp2_with (first | (go_at_call 56; refine (fdemand_c _ _ _).mono ?_; rintro e w6 ⟨hy, hn, rfl⟩; first | (obtain rfl := hy rfl; clear hy hn) | (obtain rfl := hn rfl; clear hy hn) | (obtain rfl := hy d8; clear hy hn) | (obtain rfl := hn d8; clear hy hn)))
    simp only [bodyPost]
    rw [HQ.out]
    exact ⟨trivial, rfl, o, HE.out.ext (by (repeat (first | exact Ext.rfl' _ | assumption | refine Ext.dr ?_ | refine Ext.drN ?_ _ | refine Ext.al ?_ _ | refine Ext.st ?_ (by simp) _ | refine Ext.tr ?_ (by assumption)))), Stp.ext (by (repeat (first | exact Ext.rfl' _ | assumption | refine Ext.dr ?_ | refine Ext.drN ?_ _ | refine Ext.al ?_ _ | refine Ext.st ?_ (by simp) _ | refine Ext.tr ?_ (by assumption))))⟩
set_option maxRecDepth 100000 in
set_option maxHeartbeats 4000000 in
theorem fBehind_yes (k P : Nat) (s : Rst) (c : UInt8) (hl : s.left = 1 ∨ s.left = 2) (hc : c = (if s.left = 2 then 13 else 10)) (w : World) (o : Ow) (h : FsAt w o k P s) :
    Calls Tryz.prog 38 #[.pointer (some ⟨P, 0, none⟩), .int .u8 (c.toNat : Int)] w (TurnsF k w o P (behindF s c)) := by
  obtain ⟨A, m, B, d, C, g, hr, h1, h2, h3, h4, h5, h6⟩ := h.row
  have c0 := hr.c0
  have c1 := hr.c1
  have c2 := hr.c2
  have c3 := hr.c3
  have c4 := hr.c4
  have c5 := hr.c5
  have c10 := hr.c10
  have f4 := hr.fz 4 (by decide)
  have f5 := hr.fz 5 (by decide)
  have f10 := hr.fz 10 (by decide)
  have HE := Lib.hid h
  have HR := Lib.hid hr
  clear hr h1 h2 h3 h4 h5 h6 h
  obtain ⟨b, hb⟩ : ∃ b, b = c.toNat := ⟨_, rfl⟩
  have h256 := UInt8.toNat_lt c
  rw [← hb] at h256 ⊢
  have cw : ∀ x, (w.alloc x).cell? ⟨P, 5, none⟩ = w.cell? ⟨P, 5, none⟩ := fun x => (((Ext.rfl' w).al x).cell (lt_of_cell c5))
  have cv : ∀ x, (w.alloc x).cell? ⟨P, 4, none⟩ = w.cell? ⟨P, 4, none⟩ := fun x => (((Ext.rfl' w).al x).cell (lt_of_cell c4))
  rw [c5] at cw
  rw [c4] at cv
  have fw : ∀ x, (w.alloc x).frozen? ⟨P, 5, none⟩ = false := fun x => (HR.out.ext ((Ext.rfl' w).al x)).fz 5 (by decide)
  have fv : ∀ x, (w.alloc x).frozen? ⟨P, 4, none⟩ = false := fun x => (HR.out.ext ((Ext.rfl' w).al x)).fz 4 (by decide)
  rcases hl with hl | hl
  · have HQ := Lib.hid (show behindF s c = ({ s with left := 0, state := 1 }, 0) from by unfold behindF; rw [if_pos hc, if_pos hl])
    obtain ⟨R, hR⟩ : ∃ R, R = behindF s c := ⟨_, rfl⟩
    rw [← hR] at HQ ⊢
    rw [hl] at c5 cw
    rw [if_neg (by omega)] at hc
    obtain rfl : b = 10 := by rw [hb, hc]; rfl
    clear hc hb hR hl
    go_enter Tryz.func38, Tryz.ntmps38
    go_wp2_with (first | (go_at_call 56; refine (fdemand_c _ _ _).mono ?_; rintro e w6 ⟨hy, hn, rfl⟩; first | (obtain rfl := hy rfl; clear hy hn) | (obtain rfl := hn rfl; clear hy hn) | (obtain rfl := hy d8; clear hy hn) | (obtain rfl := hn d8; clear hy hn)))
    go_end0
    rw [HQ.out]
    have e0 := HE.out.ext (w' := w.alloc (.cells #[.int .u8 0, .int .u8 10, .int .u8 13] 89)) (by (repeat (first | exact Ext.rfl' _ | assumption | refine Ext.dr ?_ | refine Ext.drN ?_ _ | refine Ext.al ?_ _ | refine Ext.st ?_ (by simp) _ | refine Ext.tr ?_ (by assumption))))
    have e1 := e0.put (s' := { s with left := 0 }) 5 (.int .i64 0) rfl rfl rfl (fun _ _ _ _ _ _ => rfl)
    exact ⟨rfl, o, e1.put 4 _ rfl rfl rfl (fun _ _ _ _ _ _ => rfl), ((Stp.ext (by (repeat (first | exact Ext.rfl' _ | assumption | refine Ext.dr ?_ | refine Ext.drN ?_ _ | refine Ext.al ?_ _ | refine Ext.st ?_ (by simp) _ | refine Ext.tr ?_ (by assumption))))).tr (setF_stp 5 _ HE.out.own)).tr (setF_stp 4 _ HE.out.own)⟩
  · have HQ := Lib.hid (show behindF s c = ({ s with left := 1 }, 0) from by unfold behindF; rw [if_pos hc, if_neg (by omega), hl])
    obtain ⟨R, hR⟩ : ∃ R, R = behindF s c := ⟨_, rfl⟩
    rw [← hR] at HQ ⊢
    rw [hl] at c5 cw
    rw [if_pos hl] at hc
    obtain rfl : b = 13 := by rw [hb, hc]; rfl
    clear hc hb hR hl
    go_enter Tryz.func38, Tryz.ntmps38
    go_wp2_with (first | (go_at_call 56; refine (fdemand_c _ _ _).mono ?_; rintro e w6 ⟨hy, hn, rfl⟩; first | (obtain rfl := hy rfl; clear hy hn) | (obtain rfl := hn rfl; clear hy hn) | (obtain rfl := hy d8; clear hy hn) | (obtain rfl := hn d8; clear hy hn)))
    go_end0
    rw [HQ.out]
    have e0 := HE.out.ext (w' := w.alloc (.cells #[.int .u8 0, .int .u8 10, .int .u8 13] 89)) (by (repeat (first | exact Ext.rfl' _ | assumption | refine Ext.dr ?_ | refine Ext.drN ?_ _ | refine Ext.al ?_ _ | refine Ext.st ?_ (by simp) _ | refine Ext.tr ?_ (by assumption))))
    exact ⟨rfl, o, e0.put 5 _ rfl rfl rfl (fun _ _ _ _ _ _ => rfl), (Stp.ext (by (repeat (first | exact Ext.rfl' _ | assumption | refine Ext.dr ?_ | refine Ext.drN ?_ _ | refine Ext.al ?_ _ | refine Ext.st ?_ (by simp) _ | refine Ext.tr ?_ (by assumption))))).tr (setF_stp 5 _ HE.out.own)⟩
/-- A byte behind a chunk. -/
theorem fBehind_c (k P : Nat) (s : Rst) (c : UInt8) (hl : s.left = 1 ∨ s.left = 2) (w : World) (o : Ow) (h : FsAt w o k P s) :
    Calls Tryz.prog 38 #[.pointer (some ⟨P, 0, none⟩), .int .u8 (c.toNat : Int)] w (TurnsF k w o P (behindF s c)) := by
  by_cases hc : c = (if s.left = 2 then 13 else 10)
  · exact fBehind_yes k P s c hl hc w o h
  · exact fBehind_no k P s c hl hc w o h
set_option maxRecDepth 100000 in
set_option maxHeartbeats 4000000 in
/-- What is known without a byte. -/
theorem fReady_c (k P : Nat) (s : Rst) (w : World) (o : Ow) (h : FsAt w o k P s) :
    Calls Tryz.prog 34 #[.pointer (some ⟨P, 0, none⟩)] w (TurnsF k w o P (readyF s)) := by
  obtain ⟨A, m, B, d, C, g, hr, h1, h2, h3, h4, h5, h6⟩ := h.row
  have c0 := hr.c0
  have c1 := hr.c1
  have c2 := hr.c2
  have c3 := hr.c3
  have c4 := hr.c4
  have c5 := hr.c5
  have c10 := hr.c10
  have f4 := hr.fz 4 (by decide)
  have f5 := hr.fz 5 (by decide)
  have f10 := hr.fz 10 (by decide)
  have HE := Lib.hid h
  have HR := Lib.hid hr
  clear hr h1 h2 h3 h4 h5 h6 h
  obtain ⟨R, hR⟩ : ∃ R, R = readyF s := ⟨_, rfl⟩
  rw [← hR]
  by_cases k0 : s.kind = 0
  · have HQ := Lib.hid (show R = ({ s with done := true }, 0) from by rw [hR]; exact if_pos k0)
    have d0 : ((s.kind : Int) == 0) = true := by rw [k0]; rfl
    clear k0 hR
    go_enter Tryz.func34, Tryz.ntmps34
    go_wp2
    go_end0
    rw [HQ.out]
    exact ⟨rfl, o, HE.out.put 10 _ rfl rfl rfl (fun _ _ _ _ _ _ => rfl), setF_stp 10 _ HE.out.own⟩
  · have d0 : ((s.kind : Int) == 0) = false := by rw [beq_eq_false_iff_ne]; omega
    by_cases k1 : s.kind = 1
    · have d1 : ((s.kind : Int) == 1) = true := by rw [k1]; rfl
      by_cases k2 : s.n ≤ s.most
      · have HQ := Lib.hid (show R = ({ s with done := ((s.all : Int) == (s.n : Int)) }, 0) from by
          rw [hR]; unfold readyF; rw [if_neg k0, if_pos k1, if_pos k2]
          have e : decide (s.all = s.n) = ((s.all : Int) == (s.n : Int)) := by rw [Bool.eq_iff_iff]; simp; omega
          rw [e])
        have d8 : decide (s.n ≤ s.most) = true := decide_eq_true k2
        clear k0 k1 k2 hR
        go_enter Tryz.func34, Tryz.ntmps34
        go_wp2
        go_region_with (first | (go_at_call 56; refine (fdemand_c _ _ _).mono ?_; rintro e w6 ⟨hy, hn, rfl⟩; first | (obtain rfl := hy rfl; clear hy hn) | (obtain rfl := hn rfl; clear hy hn) | (obtain rfl := hy d8; clear hy hn) | (obtain rfl := hn d8; clear hy hn)))
        all_goals go_wp2
        all_goals go_region
        all_goals go_end0
        all_goals (
          rw [HQ.out]
          exact ⟨rfl, o, (HE.out.put (s' := { s with done := ((s.all : Int) == (s.n : Int)) }) 10 (.bool ((s.all : Int) == (s.n : Int))) rfl rfl rfl (fun _ _ _ _ _ _ => rfl)).ext (by (repeat (first | exact Ext.rfl' _ | assumption | refine Ext.dr ?_ | refine Ext.drN ?_ _ | refine Ext.al ?_ _ | refine Ext.st ?_ (by simp) _ | refine Ext.tr ?_ (by assumption)))), (setF_stp 10 (.bool ((s.all : Int) == (s.n : Int))) HE.out.own).tr (Stp.ext (by (repeat (first | exact Ext.rfl' _ | assumption | refine Ext.dr ?_ | refine Ext.drN ?_ _ | refine Ext.al ?_ _ | refine Ext.st ?_ (by simp) _ | refine Ext.tr ?_ (by assumption)))))⟩)
      · have HQ := Lib.hid (show R = (s, 6) from by rw [hR]; unfold readyF; rw [if_neg k0, if_pos k1, if_neg k2])
        have d8 : decide (s.n ≤ s.most) = false := decide_eq_false k2
        clear k0 k1 k2 hR
        go_enter Tryz.func34, Tryz.ntmps34
        go_wp2
        go_region_dies
        all_goals go_wp2_with (first | (go_at_call 56; refine (fdemand_c _ _ _).mono ?_; rintro e w6 ⟨hy, hn, rfl⟩; first | (obtain rfl := hy rfl; clear hy hn) | (obtain rfl := hn rfl; clear hy hn) | (obtain rfl := hy d8; clear hy hn) | (obtain rfl := hn d8; clear hy hn)))
        all_goals simp only [bodyPost]
        all_goals rw [HQ.out]
        all_goals exact ⟨trivial, rfl, o, HE.out.ext (by (repeat (first | exact Ext.rfl' _ | assumption | refine Ext.dr ?_ | refine Ext.drN ?_ _ | refine Ext.al ?_ _ | refine Ext.st ?_ (by simp) _ | refine Ext.tr ?_ (by assumption)))), Stp.ext (by (repeat (first | exact Ext.rfl' _ | assumption | refine Ext.dr ?_ | refine Ext.drN ?_ _ | refine Ext.al ?_ _ | refine Ext.st ?_ (by simp) _ | refine Ext.tr ?_ (by assumption))))⟩
    · have HQ := Lib.hid (show R = (s, 0) from by rw [hR]; unfold readyF; rw [if_neg k0, if_neg k1])
      have d1 : ((s.kind : Int) == 1) = false := by rw [beq_eq_false_iff_ne]; omega
      clear k0 k1 hR
      go_enter Tryz.func34, Tryz.ntmps34
      go_wp2
      go_end0
      rw [HQ.out]
      exact ⟨rfl, o, HE.out.ext (by (repeat (first | exact Ext.rfl' _ | assumption | refine Ext.dr ?_ | refine Ext.drN ?_ _ | refine Ext.al ?_ _ | refine Ext.st ?_ (by simp) _ | refine Ext.tr ?_ (by assumption)))), Stp.ext (by (repeat (first | exact Ext.rfl' _ | assumption | refine Ext.dr ?_ | refine Ext.drN ?_ _ | refine Ext.al ?_ _ | refine Ext.st ?_ (by simp) _ | refine Ext.tr ?_ (by assumption))))⟩
end Go.Proofs.YtnakeigpelcajaaGreatDoor
