/-
Framing's reader: a byte of a plain body, of a chunk, behind a chunk; what is known without a byte.
-/
import Derived.Test.YtnakeigpelcajaaGreatDoorFb1
import Derived.RegionDies
import Derived.BigRegion
set_option linter.unusedVariables false
set_option linter.unusedSimpArgs false
namespace Go.Proofs.YtnakeigpelcajaaGreatDoor
open Go.RowKit

theorem Frow.put {w : World} {P : Nat} {s s' : Rst} {A B C : Option Addr} {c d g : Nat} (h : Frow w P s A c B d C g) (i : Nat) (u : Value) (he : (s.cells A c B d C g).setIfInBounds i u = s'.cells A c B d C g) : Frow (w.setCell ⟨P, i, none⟩ u) P s' A c B d C g := h.set i u he
set_option maxRecDepth 100000 in
set_option maxHeartbeats 4000000 in
theorem fPlain_no (k P : Nat) (s : Rst) (c : UInt8) (hm : ¬ s.all < s.most) (w : World) (o : Ow) (h : FsAt w o k P s) :
    Calls Tryz.prog 35 #[.pointer (some ⟨P, 0, none⟩), .int .u8 (c.toNat : Int)] w (TurnsF k w o P (plainF s c)) := by
  obtain ⟨A, m, B, d, C, g, hr, h1, h2, h3, h4, h5, h6⟩ := h.row
  have c0 := hr.c0
  have c1 := hr.c1
  have c2 := hr.c2
  have c3 := hr.c3
  have c4 := hr.c4
  have c5 := hr.c5
  have c12 := hr.c12
  have f3 := hr.fz 3 (by decide)
  have f4 := hr.fz 4 (by decide)
  have f5 := hr.fz 5 (by decide)
  have f10 := hr.fz 10 (by decide)
  have f12 := hr.fz 12 (by decide)
  have HE := Lib.hid h
  have HR := Lib.hid hr
  have HS := Lib.hid (And.intro h1 h2)
  have HF := Lib.hid (And.intro h3 h4)
  have HB := Lib.hid h5
  have HBN := Lib.hid h6
  obtain ⟨b, hb⟩ : ∃ b, b = c.toNat := ⟨_, rfl⟩
  have h256 := UInt8.toNat_lt c
  rw [← hb] at h256 ⊢
  clear hr h1 h2 h3 h4 h5 h6 h
  have HQ := Lib.hid (show plainF s c = (s, 6) from if_neg hm)
  have d8 : decide (s.all < s.most) = false := decide_eq_false hm
  clear hb hm
  go_enter Tryz.func35, Tryz.ntmps35
  go_wp2
  go_region_dies
  all_goals go_wp2_with (first | (go_at_call 56; refine (fdemand_c _ _ _).mono ?_; rintro e w6 ⟨hy, hn, rfl⟩; first | (obtain rfl := hy rfl; clear hy hn) | (obtain rfl := hn rfl; clear hy hn) | (obtain rfl := hy d8; clear hy hn) | (obtain rfl := hn d8; clear hy hn)))
  all_goals simp only [bodyPost]
  all_goals rw [HQ.out]
  all_goals exact ⟨trivial, rfl, o, HE.out.ext (by (repeat (first | exact Ext.rfl' _ | assumption | refine Ext.dr ?_ | refine Ext.drN ?_ _ | refine Ext.al ?_ _ | refine Ext.st ?_ (by simp) _ | refine Ext.tr ?_ (by assumption)))), Stp.ext (by (repeat (first | exact Ext.rfl' _ | assumption | refine Ext.dr ?_ | refine Ext.drN ?_ _ | refine Ext.al ?_ _ | refine Ext.st ?_ (by simp) _ | refine Ext.tr ?_ (by assumption))))⟩
set_option maxRecDepth 100000 in
set_option maxHeartbeats 4000000 in
theorem fPlain_yes (k P : Nat) (s : Rst) (c : UInt8) (hm : s.all < s.most) (hbl : s.body.length ≤ s.all) (hmo : s.most ≤ 1048576) (w : World) (o : Ow) (h : FsAt w o k P s) :
    Calls Tryz.prog 35 #[.pointer (some ⟨P, 0, none⟩), .int .u8 (c.toNat : Int)] w (TurnsF k w o P (plainF s c)) := by
  obtain ⟨A, m, B, d, C, g, hr, h1, h2, h3, h4, h5, h6⟩ := h.row
  have c0 := hr.c0
  have c1 := hr.c1
  have c2 := hr.c2
  have c3 := hr.c3
  have c4 := hr.c4
  have c5 := hr.c5
  have c12 := hr.c12
  have f3 := hr.fz 3 (by decide)
  have f4 := hr.fz 4 (by decide)
  have f5 := hr.fz 5 (by decide)
  have f10 := hr.fz 10 (by decide)
  have f12 := hr.fz 12 (by decide)
  have HE := Lib.hid h
  have HR := Lib.hid hr
  have HS := Lib.hid (And.intro h1 h2)
  have HF := Lib.hid (And.intro h3 h4)
  have HB := Lib.hid h5
  have HBN := Lib.hid h6
  obtain ⟨b, hb⟩ : ∃ b, b = c.toNat := ⟨_, rfl⟩
  have h256 := UInt8.toNat_lt c
  rw [← hb] at h256 ⊢
  clear hr h1 h2 h3 h4 h5 h6 h
  obtain ⟨n1, hn1⟩ : ∃ n, n = s.all + 1 := ⟨_, rfl⟩
  have s1 : IntKind.i64.wrap ((s.all : Int) + 1) = (n1 : Int) := by rw [IntKind.wrap_i64]; omega
  have t1 : Stp (fun i => i = k) w o (w.setCell ⟨P, 3, none⟩ (.int .i64 (n1 : Int))) o := Stp.set P 3 _ (fun _ => HE.out.own)
  have HR1 := Lib.hid (HR.out.set 3 (.int .i64 (n1 : Int)) (s' := { s with all := n1 }) rfl)
  have HB1 := Lib.hid (HB.out.stp t1 (by omega))
  have HS1 := Lib.hid (HS.out.1.stp t1 (by omega))
  have HF1 := Lib.hid (HF.out.1.stp t1 (by omega))
  have HBC := Lib.hid (show bc (s.body ++ [c]) = bc s.body ++ [.int .u8 (b : Int)] from by rw [hb]; simp [bc])
  have NC := Lib.hid (new_cells (w.setCell ⟨P, 3, none⟩ (.int .i64 (n1 : Int))) #[.int .u8 (b : Int)] 5)
  have hz : (w.setCell ⟨P, 3, none⟩ (.int .i64 (n1 : Int))).heap.size = w.heap.size := by simp
  have ND := Lib.hid (new_cells_dr (w.setCell ⟨P, 3, none⟩ (.int .i64 (n1 : Int))) #[.int .u8 (b : Int)] 5)
  rw [hz] at NC ND
  clear hb HB t1 hz
  have d8 : decide (s.all < s.most) = true := decide_eq_true hm
  by_cases hk1 : s.kind = 1
  · have d1 : ((s.kind : Int) == 1) = true := by rw [hk1]; rfl
    have HQ := Lib.hid (show plainF s c = ({ s with all := n1, body := s.body ++ [c], done := ((n1 : Int) == (s.n : Int)) }, 0) from by
      unfold plainF; rw [if_pos hm, hn1]
      have e : (decide (s.kind = 1) && decide (s.all + 1 = s.n)) = (((s.all + 1 : Nat) : Int) == (s.n : Int)) := by rw [hk1, Bool.eq_iff_iff]; simp; omega
      rw [e])
    clear hk1 hn1
    go_enter Tryz.func35, Tryz.ntmps35
    go_wp2
    go_region_with (first | (go_at_call 56; refine (fdemand_c _ _ _).mono ?_; rintro e w6 ⟨hy, hn, rfl⟩; first | (obtain rfl := hy rfl; clear hy hn) | (obtain rfl := hn rfl; clear hy hn) | (obtain rfl := hy d8; clear hy hn) | (obtain rfl := hn d8; clear hy hn)))
    all_goals go_wp2_with (first | (at_builtin; refine wpL_put slt_u8 (.tmp 25) (.tmp 27) rfl rfl rfl rfl (HB1.out.ext (by (repeat (first | exact Ext.rfl' _ | assumption | refine Ext.dr ?_ | refine Ext.drN ?_ _ | refine Ext.al ?_ _ | refine Ext.st ?_ (by simp) _ | refine Ext.tr ?_ (by assumption))))) HBN.out (Src.ofSlice (size := 1) _ Tryz.underlying22 ⟨w.heap.size, 0, none⟩ 1 1 [.int .u8 (b : Int)] (by simp) ND.out (by simp [Value.oneCell'])) (by omega) (by simp only [maxLen]; omega) ?_; intro A7 c7 w7 o7 hs7 hst7 hn7; have st7 : Stp (fun i => i = k + 3) (w.setCell ⟨P, 3, none⟩ (.int .i64 (n1 : Int))) o w7 o7 := (Stp.ext (by (repeat (first | exact Ext.rfl' _ | assumption | refine Ext.dr ?_ | refine Ext.drN ?_ _ | refine Ext.al ?_ _ | refine Ext.st ?_ (by simp) _ | refine Ext.tr ?_ (by assumption))))).tr hst7; have hr7 : Frow w7 P { s with all := n1 } A m B d C g := HR1.out.stp st7 (by rw [HE.out.own]; omega); have k0 := hr7.c0; have k1 := hr7.c1; have k3 := hr7.c3; have k5 := hr7.c5; have k4 := hr7.c4; have k10 := hr7.c10; have k12 := hr7.c12; have g4 := hr7.fz 4 (by decide); have g5 := hr7.fz 5 (by decide); have g10 := hr7.fz 10 (by decide); have g12 := hr7.fz 12 (by decide); clear c0 c1 c2 c3 c4 c5 c12 f3 f4 f5 f10 f12))
    all_goals go_region
    all_goals go_end0
    all_goals (
      rw [HQ.out]
      have hp7 : o7 P = k := by rw [st7.own P (row_lt HR1.out)]; exact HE.out.own
      have hlen : (s.body ++ [c]).length = s.body.length + 1 := by simp
      have stf : Stp (fun i => i = k) w7 o7 ((w7.setCell ⟨P, 12, none⟩ (.slice A7 (s.body.length + 1) c7)).setCell ⟨P, 10, none⟩ (.bool ((n1 : Int) == (s.n : Int)))) o7 := (Stp.set P 12 _ (fun _ => hp7)).tr (Stp.set P 10 _ (fun _ => hp7))
      refine ⟨rfl, o7, FsAt.ext (w := (w7.setCell ⟨P, 12, none⟩ (.slice A7 (s.body.length + 1) c7)).setCell ⟨P, 10, none⟩ (.bool ((n1 : Int) == (s.n : Int)))) ⟨hp7, A, m, B, d, A7, c7, ?_, (HS1.out.stp st7 (by omega)).stp stf (by omega), HS.out.2, (HF1.out.stp st7 (by omega)).stp stf (by omega), HF.out.2, ?_, hn7⟩ (by (repeat (first | exact Ext.rfl' _ | assumption | refine Ext.dr ?_ | refine Ext.drN ?_ _ | refine Ext.al ?_ _ | refine Ext.st ?_ (by simp) _ | refine Ext.tr ?_ (by assumption)))), ((setF_stp 3 _ HE.out.own).tr ((st7.mono fun i hi => .inr (.inr (.inr hi))).tr (stf.mono fun i hi => .inl hi))).tr (Stp.ext (by (repeat (first | exact Ext.rfl' _ | assumption | refine Ext.dr ?_ | refine Ext.drN ?_ _ | refine Ext.al ?_ _ | refine Ext.st ?_ (by simp) _ | refine Ext.tr ?_ (by assumption)))))⟩
      · exact (hr7.set 12 _ (s' := { s with all := n1, body := s.body ++ [c] }) (A' := A) (B' := B) (C' := A7) (c' := m) (d' := d) (g' := c7) (by simp [Rst.cells])).put 10 _ (by simp [Rst.cells])
      · rw [hlen, HBC.out]
        exact hs7.stp stf (by omega))
  · have d1 : ((s.kind : Int) == 1) = false := by rw [beq_eq_false_iff_ne]; omega
    have HQ := Lib.hid (show plainF s c = ({ s with all := n1, body := s.body ++ [c], done := false }, 0) from by
      unfold plainF; rw [if_pos hm, hn1]
      rw [decide_eq_false hk1]; rfl)
    clear hk1 hn1
    go_enter Tryz.func35, Tryz.ntmps35
    go_wp2
    go_region_with (first | (go_at_call 56; refine (fdemand_c _ _ _).mono ?_; rintro e w6 ⟨hy, hn, rfl⟩; first | (obtain rfl := hy rfl; clear hy hn) | (obtain rfl := hn rfl; clear hy hn) | (obtain rfl := hy d8; clear hy hn) | (obtain rfl := hn d8; clear hy hn)))
    all_goals go_wp2_with (first | (at_builtin; refine wpL_put slt_u8 (.tmp 25) (.tmp 27) rfl rfl rfl rfl (HB1.out.ext (by (repeat (first | exact Ext.rfl' _ | assumption | refine Ext.dr ?_ | refine Ext.drN ?_ _ | refine Ext.al ?_ _ | refine Ext.st ?_ (by simp) _ | refine Ext.tr ?_ (by assumption))))) HBN.out (Src.ofSlice (size := 1) _ Tryz.underlying22 ⟨w.heap.size, 0, none⟩ 1 1 [.int .u8 (b : Int)] (by simp) ND.out (by simp [Value.oneCell'])) (by omega) (by simp only [maxLen]; omega) ?_; intro A7 c7 w7 o7 hs7 hst7 hn7; have st7 : Stp (fun i => i = k + 3) (w.setCell ⟨P, 3, none⟩ (.int .i64 (n1 : Int))) o w7 o7 := (Stp.ext (by (repeat (first | exact Ext.rfl' _ | assumption | refine Ext.dr ?_ | refine Ext.drN ?_ _ | refine Ext.al ?_ _ | refine Ext.st ?_ (by simp) _ | refine Ext.tr ?_ (by assumption))))).tr hst7; have hr7 : Frow w7 P { s with all := n1 } A m B d C g := HR1.out.stp st7 (by rw [HE.out.own]; omega); have k0 := hr7.c0; have k1 := hr7.c1; have k3 := hr7.c3; have k5 := hr7.c5; have k4 := hr7.c4; have k10 := hr7.c10; have k12 := hr7.c12; have g4 := hr7.fz 4 (by decide); have g5 := hr7.fz 5 (by decide); have g10 := hr7.fz 10 (by decide); have g12 := hr7.fz 12 (by decide); clear c0 c1 c2 c3 c4 c5 c12 f3 f4 f5 f10 f12))
    all_goals go_region
    all_goals go_end0
    all_goals (
      rw [HQ.out]
      have hp7 : o7 P = k := by rw [st7.own P (row_lt HR1.out)]; exact HE.out.own
      have hlen : (s.body ++ [c]).length = s.body.length + 1 := by simp
      have stf : Stp (fun i => i = k) w7 o7 ((w7.setCell ⟨P, 12, none⟩ (.slice A7 (s.body.length + 1) c7)).setCell ⟨P, 10, none⟩ (.bool false)) o7 := (Stp.set P 12 _ (fun _ => hp7)).tr (Stp.set P 10 _ (fun _ => hp7))
      refine ⟨rfl, o7, FsAt.ext (w := (w7.setCell ⟨P, 12, none⟩ (.slice A7 (s.body.length + 1) c7)).setCell ⟨P, 10, none⟩ (.bool false)) ⟨hp7, A, m, B, d, A7, c7, ?_, (HS1.out.stp st7 (by omega)).stp stf (by omega), HS.out.2, (HF1.out.stp st7 (by omega)).stp stf (by omega), HF.out.2, ?_, hn7⟩ (by (repeat (first | exact Ext.rfl' _ | assumption | refine Ext.dr ?_ | refine Ext.drN ?_ _ | refine Ext.al ?_ _ | refine Ext.st ?_ (by simp) _ | refine Ext.tr ?_ (by assumption)))), ((setF_stp 3 _ HE.out.own).tr ((st7.mono fun i hi => .inr (.inr (.inr hi))).tr (stf.mono fun i hi => .inl hi))).tr (Stp.ext (by (repeat (first | exact Ext.rfl' _ | assumption | refine Ext.dr ?_ | refine Ext.drN ?_ _ | refine Ext.al ?_ _ | refine Ext.st ?_ (by simp) _ | refine Ext.tr ?_ (by assumption)))))⟩
      · exact (hr7.set 12 _ (s' := { s with all := n1, body := s.body ++ [c] }) (A' := A) (B' := B) (C' := A7) (c' := m) (d' := d) (g' := c7) (by simp [Rst.cells])).put 10 _ (by simp [Rst.cells])
      · rw [hlen, HBC.out]
        exact hs7.stp stf (by omega))
set_option maxRecDepth 100000 in
set_option maxHeartbeats 4000000 in
theorem fData_c (k P : Nat) (s : Rst) (c : UInt8) (hl1 : 1 ≤ s.left) (hl2 : s.all + s.left ≤ s.most) (hbl : s.body.length ≤ s.all) (hmo : s.most ≤ 1048576) (w : World) (o : Ow) (h : FsAt w o k P s) :
    Calls Tryz.prog 37 #[.pointer (some ⟨P, 0, none⟩), .int .u8 (c.toNat : Int)] w (TurnsF k w o P (dataF s c)) := by
  obtain ⟨A, m, B, d, C, g, hr, h1, h2, h3, h4, h5, h6⟩ := h.row
  have c0 := hr.c0
  have c1 := hr.c1
  have c2 := hr.c2
  have c3 := hr.c3
  have c4 := hr.c4
  have c5 := hr.c5
  have c12 := hr.c12
  have f3 := hr.fz 3 (by decide)
  have f4 := hr.fz 4 (by decide)
  have f5 := hr.fz 5 (by decide)
  have f10 := hr.fz 10 (by decide)
  have f12 := hr.fz 12 (by decide)
  have HE := Lib.hid h
  have HR := Lib.hid hr
  have HS := Lib.hid (And.intro h1 h2)
  have HF := Lib.hid (And.intro h3 h4)
  have HB := Lib.hid h5
  have HBN := Lib.hid h6
  obtain ⟨b, hb⟩ : ∃ b, b = c.toNat := ⟨_, rfl⟩
  have h256 := UInt8.toNat_lt c
  rw [← hb] at h256 ⊢
  clear hr h1 h2 h3 h4 h5 h6 h
  obtain ⟨n1, hn1⟩ : ∃ n, n = s.all + 1 := ⟨_, rfl⟩
  have s1 : IntKind.i64.wrap ((s.all : Int) + 1) = (n1 : Int) := by rw [IntKind.wrap_i64]; omega
  have t1 : Stp (fun i => i = k) w o (w.setCell ⟨P, 3, none⟩ (.int .i64 (n1 : Int))) o := Stp.set P 3 _ (fun _ => HE.out.own)
  have HR1 := Lib.hid (HR.out.set 3 (.int .i64 (n1 : Int)) (s' := { s with all := n1 }) rfl)
  have HB1 := Lib.hid (HB.out.stp t1 (by omega))
  have HS1 := Lib.hid (HS.out.1.stp t1 (by omega))
  have HF1 := Lib.hid (HF.out.1.stp t1 (by omega))
  have HBC := Lib.hid (show bc (s.body ++ [c]) = bc s.body ++ [.int .u8 (b : Int)] from by rw [hb]; simp [bc])
  have NC := Lib.hid (new_cells (w.setCell ⟨P, 3, none⟩ (.int .i64 (n1 : Int))) #[.int .u8 (b : Int)] 5)
  have hz : (w.setCell ⟨P, 3, none⟩ (.int .i64 (n1 : Int))).heap.size = w.heap.size := by simp
  have ND := Lib.hid (new_cells_dr (w.setCell ⟨P, 3, none⟩ (.int .i64 (n1 : Int))) #[.int .u8 (b : Int)] 5)
  rw [hz] at NC ND
  clear hb HB t1 hz
  obtain ⟨n2, hn2⟩ : ∃ n, n = s.left - 1 := ⟨_, rfl⟩
  have s2 : IntKind.i64.wrap ((s.left : Int) - 1) = (n2 : Int) := by rw [IntKind.wrap_i64]; omega
  by_cases hk1 : s.left = 1
  · have HQ := Lib.hid (show dataF s c = ({ s with all := n1, body := s.body ++ [c], state := 3, left := 2 }, 0) from by unfold dataF; rw [if_pos hk1, hn1])
    obtain rfl : n2 = 0 := by omega
    clear hn1 hn2 hk1
    go_enter Tryz.func37, Tryz.ntmps37
    go_wp2_with (first
      | (at_builtin; refine wpL_put slt_u8 (.tmp 15) (.tmp 17) rfl rfl rfl rfl (HB1.out.ext (by (repeat (first | exact Ext.rfl' _ | assumption | refine Ext.dr ?_ | refine Ext.drN ?_ _ | refine Ext.al ?_ _ | refine Ext.st ?_ (by simp) _ | refine Ext.tr ?_ (by assumption))))) HBN.out (Src.ofSlice (size := 1) _ Tryz.underlying22 ⟨w.heap.size, 0, none⟩ 1 1 [.int .u8 (b : Int)] (by simp) NC.out (by simp [Value.oneCell'])) (by omega) (by simp only [maxLen]; omega) ?_; intro A7 c7 w7 o7 hs7 hst7 hn7; have st7 : Stp (fun i => i = k + 3) (w.setCell ⟨P, 3, none⟩ (.int .i64 (n1 : Int))) o w7 o7 := (Stp.ext (by (repeat (first | exact Ext.rfl' _ | assumption | refine Ext.dr ?_ | refine Ext.drN ?_ _ | refine Ext.al ?_ _ | refine Ext.st ?_ (by simp) _ | refine Ext.tr ?_ (by assumption))))).tr hst7; have hr7 : Frow w7 P { s with all := n1 } A m B d C g := HR1.out.stp st7 (by rw [HE.out.own]; omega); have k0 := hr7.c0; have k1 := hr7.c1; have k3 := hr7.c3; have k5 := hr7.c5; have k4 := hr7.c4; have k10 := hr7.c10; have k12 := hr7.c12; have g4 := hr7.fz 4 (by decide); have g5 := hr7.fz 5 (by decide); have g10 := hr7.fz 10 (by decide); have g12 := hr7.fz 12 (by decide); clear c0 c1 c2 c3 c4 c5 c12 f3 f4 f5 f10 f12))
    go_end0
    rw [HQ.out]
    have hp7 : o7 P = k := by rw [st7.own P (row_lt HR1.out)]; exact HE.out.own
    have hlen : (s.body ++ [c]).length = s.body.length + 1 := by simp
    have stf : Stp (fun i => i = k) w7 o7 ((((w7.setCell ⟨P, 12, none⟩ (.slice A7 (s.body.length + 1) c7)).setCell ⟨P, 5, none⟩ (.int .i64 ((0 : Nat) : Int))).setCell ⟨P, 4, none⟩ (.int .i64 3)).setCell ⟨P, 5, none⟩ (.int .i64 2)) o7 := (((Stp.set P 12 _ (fun _ => hp7)).tr (Stp.set P 5 _ (fun _ => hp7))).tr (Stp.set P 4 _ (fun _ => hp7))).tr (Stp.set P 5 _ (fun _ => hp7))
    refine ⟨rfl, o7, ⟨hp7, A, m, B, d, A7, c7, ?_, (HS1.out.stp st7 (by omega)).stp stf (by omega), HS.out.2, (HF1.out.stp st7 (by omega)).stp stf (by omega), HF.out.2, ?_, hn7⟩, (setF_stp 3 _ HE.out.own).tr ((st7.mono fun i hi => .inr (.inr (.inr hi))).tr (stf.mono fun i hi => .inl hi))⟩
    · exact (((hr7.set 12 _ (s' := { s with all := n1, body := s.body ++ [c] }) (A' := A) (B' := B) (C' := A7) (c' := m) (d' := d) (g' := c7) (by simp [Rst.cells])).put 5 _ (s' := { s with all := n1, body := s.body ++ [c], left := 0 }) (by simp [Rst.cells])).put 4 _ (s' := { s with all := n1, body := s.body ++ [c], left := 0, state := 3 }) (by simp [Rst.cells])).put 5 _ (by simp [Rst.cells])
    · rw [hlen, HBC.out]
      exact hs7.stp stf (by omega)
  · have HQ := Lib.hid (show dataF s c = ({ s with all := n1, body := s.body ++ [c], left := n2 }, 0) from by unfold dataF; rw [if_neg hk1, hn1, hn2])
    have d1 : ((n2 : Int) == 0) = false := by rw [beq_eq_false_iff_ne]; omega
    clear hn1 hn2 hk1
    go_enter Tryz.func37, Tryz.ntmps37
    go_wp2_with (first
      | (at_builtin; refine wpL_put slt_u8 (.tmp 15) (.tmp 17) rfl rfl rfl rfl (HB1.out.ext (by (repeat (first | exact Ext.rfl' _ | assumption | refine Ext.dr ?_ | refine Ext.drN ?_ _ | refine Ext.al ?_ _ | refine Ext.st ?_ (by simp) _ | refine Ext.tr ?_ (by assumption))))) HBN.out (Src.ofSlice (size := 1) _ Tryz.underlying22 ⟨w.heap.size, 0, none⟩ 1 1 [.int .u8 (b : Int)] (by simp) NC.out (by simp [Value.oneCell'])) (by omega) (by simp only [maxLen]; omega) ?_; intro A7 c7 w7 o7 hs7 hst7 hn7; have st7 : Stp (fun i => i = k + 3) (w.setCell ⟨P, 3, none⟩ (.int .i64 (n1 : Int))) o w7 o7 := (Stp.ext (by (repeat (first | exact Ext.rfl' _ | assumption | refine Ext.dr ?_ | refine Ext.drN ?_ _ | refine Ext.al ?_ _ | refine Ext.st ?_ (by simp) _ | refine Ext.tr ?_ (by assumption))))).tr hst7; have hr7 : Frow w7 P { s with all := n1 } A m B d C g := HR1.out.stp st7 (by rw [HE.out.own]; omega); have k0 := hr7.c0; have k1 := hr7.c1; have k3 := hr7.c3; have k5 := hr7.c5; have k4 := hr7.c4; have k10 := hr7.c10; have k12 := hr7.c12; have g4 := hr7.fz 4 (by decide); have g5 := hr7.fz 5 (by decide); have g10 := hr7.fz 10 (by decide); have g12 := hr7.fz 12 (by decide); clear c0 c1 c2 c3 c4 c5 c12 f3 f4 f5 f10 f12))
    go_end0
    rw [HQ.out]
    have hp7 : o7 P = k := by rw [st7.own P (row_lt HR1.out)]; exact HE.out.own
    have hlen : (s.body ++ [c]).length = s.body.length + 1 := by simp
    have stf : Stp (fun i => i = k) w7 o7 ((w7.setCell ⟨P, 12, none⟩ (.slice A7 (s.body.length + 1) c7)).setCell ⟨P, 5, none⟩ (.int .i64 (n2 : Int))) o7 := (Stp.set P 12 _ (fun _ => hp7)).tr (Stp.set P 5 _ (fun _ => hp7))
    refine ⟨rfl, o7, ⟨hp7, A, m, B, d, A7, c7, ?_, (HS1.out.stp st7 (by omega)).stp stf (by omega), HS.out.2, (HF1.out.stp st7 (by omega)).stp stf (by omega), HF.out.2, ?_, hn7⟩, (setF_stp 3 _ HE.out.own).tr ((st7.mono fun i hi => .inr (.inr (.inr hi))).tr (stf.mono fun i hi => .inl hi))⟩
    · exact (hr7.set 12 _ (s' := { s with all := n1, body := s.body ++ [c] }) (A' := A) (B' := B) (C' := A7) (c' := m) (d' := d) (g' := c7) (by simp [Rst.cells])).put 5 _ (by simp [Rst.cells])
    · rw [hlen, HBC.out]
      exact hs7.stp stf (by omega)
end Go.Proofs.YtnakeigpelcajaaGreatDoor
