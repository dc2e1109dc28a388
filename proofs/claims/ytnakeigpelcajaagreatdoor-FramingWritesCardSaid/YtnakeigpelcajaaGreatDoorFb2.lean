/-
Framing's text: a byte of a line.
-/
import Derived.Test.YtnakeigpelcajaaGreatDoorFb1
set_option linter.unusedVariables false
set_option linter.unusedSimpArgs false
namespace Go.Proofs.YtnakeigpelcajaaGreatDoor
open Go.RowKit

/-- It tells of a line, or it gives up with a number. -/
def GoneT (l : Option (List UInt8)) (e : Int) : Ending := if e = 0 then .returned (.tuple #[.string (str (l.getD [])), .bool l.isSome]) else .panicked [{ v := .iface 25 (.int .i64 e), recovered := false }]
def TxtF (k : Nat) (w : World) (o : Ow) (P : Nat) (q : Rst × Option (List UInt8) × Int) (r : Ending) (w' : World) : Prop := r = GoneT q.2.1 q.2.2 ∧ ∃ o', FsAt w' o' k P q.1 ∧ Stp (KF k) w o w' o'
set_option maxRecDepth 100000 in
set_option maxHeartbeats 4000000 in
theorem fText_cr (k P : Nat) (s : Rst) (c : UInt8) (hcr : s.cr = false) (hc : c = 13) (w : World) (o : Ow) (h : FsAt w o k P s) :
    Calls Tryz.prog 57 #[.pointer (some ⟨P, 0, none⟩), .int .u8 (c.toNat : Int)] w (TxtF k w o P (textF s c)) := by
  obtain ⟨A, m, B, d, C, g, hr, h1, h2, h3, h4, h5, h6⟩ := h.row
  have c6 := hr.c6
  have c7 := hr.c7
  have f6 := hr.fz 6 (by decide)
  have f7 := hr.fz 7 (by decide)
  have HE := Lib.hid h
  have HR := Lib.hid hr
  have HS := Lib.hid h1
  have HN := Lib.hid h2
  have HF := Lib.hid (And.intro h3 h4)
  have HB := Lib.hid (And.intro h5 h6)
  obtain ⟨b, hb⟩ : ∃ b, b = c.toNat := ⟨_, rfl⟩
  have h256 := UInt8.toNat_lt c
  rw [← hb] at h256 ⊢
  clear hr h1 h2 h3 h4 h5 h6 h
  have HQ := Lib.hid (show textF s c = ({ s with cr := true }, none, 0) from by unfold textF; rw [if_neg (by rw [hcr]; decide), if_pos hc])
  rw [hcr] at c7
  obtain rfl : b = 13 := by rw [hb, hc]; rfl
  clear hb
  go_enter Tryz.func57, Tryz.ntmps57
  go_wp2_with (first
    | (go_at_call 56; refine (fdemand_c _ _ _).mono ?_; rintro e w6 ⟨hy, hn, rfl⟩; first | (obtain rfl := hy rfl; clear hy hn) | (obtain rfl := hn rfl; clear hy hn) | (obtain rfl := hy d8; clear hy hn) | (obtain rfl := hn d8; clear hy hn))
    | (at_builtin; refine wpL_put slt_u8 (.tmp 55) (.tmp 57) rfl rfl rfl rfl (HS.out.ext (Ext.al (Ext.rfl' _) _)) HN.out (Src.ofSlice (size := 1) _ Tryz.underlying22 ⟨w.heap.size, 0, none⟩ 1 1 [.int .u8 (b : Int)] (by simp) NC.out (by simp [Value.oneCell'])) (by omega) (by simp only [maxLen]; omega) ?_; intro A7 c7 w7 o7 hs7 hst7 hn7; have st7 := (Stp.ext ((Ext.rfl' w).al _)).tr hst7; have hr7 : Frow w7 P s A m B d C g := HR.out.stp st7 (by rw [HE.out.own]; omega); have k6 := hr7.c6; have g6 := hr7.fz 6 (by decide); clear c6 f6 f7))
  go_ret2
  rw [HQ.out]
  exact ⟨rfl, o, HE.out.put 7 _ rfl rfl rfl (fun _ _ _ _ _ _ => rfl), setF_stp 7 _ HE.out.own⟩
set_option maxRecDepth 100000 in
set_option maxHeartbeats 4000000 in
theorem fText_nolf (k P : Nat) (s : Rst) (c : UInt8) (hcr : s.cr = true) (hc : c ≠ 10) (w : World) (o : Ow) (h : FsAt w o k P s) :
    Calls Tryz.prog 57 #[.pointer (some ⟨P, 0, none⟩), .int .u8 (c.toNat : Int)] w (TxtF k w o P (textF s c)) := by
  obtain ⟨A, m, B, d, C, g, hr, h1, h2, h3, h4, h5, h6⟩ := h.row
  have c6 := hr.c6
  have c7 := hr.c7
  have f6 := hr.fz 6 (by decide)
  have f7 := hr.fz 7 (by decide)
  have HE := Lib.hid h
  have HR := Lib.hid hr
  have HS := Lib.hid h1
  have HN := Lib.hid h2
  have HF := Lib.hid (And.intro h3 h4)
  have HB := Lib.hid (And.intro h5 h6)
  obtain ⟨b, hb⟩ : ∃ b, b = c.toNat := ⟨_, rfl⟩
  have h256 := UInt8.toNat_lt c
  rw [← hb] at h256 ⊢
  clear hr h1 h2 h3 h4 h5 h6 h
  have HQ := Lib.hid (show textF s c = (s, none, 22) from by unfold textF; rw [if_pos hcr, if_neg hc])
  rw [hcr] at c7
  have d1 : ((b : Int) == 10) = false := by rw [beq_eq_false_iff_ne]; intro e; exact hc (UInt8.toNat_inj.1 (by rw [← hb]; show b = 10; omega))
  clear hb hc
  go_enter Tryz.func57, Tryz.ntmps57
  go_wp2_with (first
    | (go_at_call 56; refine (fdemand_c _ _ _).mono ?_; rintro e w6 ⟨hy, hn, rfl⟩; first | (obtain rfl := hy rfl; clear hy hn) | (obtain rfl := hn rfl; clear hy hn) | (obtain rfl := hy d8; clear hy hn) | (obtain rfl := hn d8; clear hy hn))
    | (at_builtin; refine wpL_put slt_u8 (.tmp 55) (.tmp 57) rfl rfl rfl rfl (HS.out.ext (Ext.al (Ext.rfl' _) _)) HN.out (Src.ofSlice (size := 1) _ Tryz.underlying22 ⟨w.heap.size, 0, none⟩ 1 1 [.int .u8 (b : Int)] (by simp) NC.out (by simp [Value.oneCell'])) (by omega) (by simp only [maxLen]; omega) ?_; intro A7 c7 w7 o7 hs7 hst7 hn7; have st7 := (Stp.ext ((Ext.rfl' w).al _)).tr hst7; have hr7 : Frow w7 P s A m B d C g := HR.out.stp st7 (by rw [HE.out.own]; omega); have k6 := hr7.c6; have g6 := hr7.fz 6 (by decide); clear c6 f6 f7))
  simp only [bodyPost]
  rw [HQ.out]
  exact ⟨trivial, rfl, o, HE.out.ext (by (repeat (first | exact Ext.rfl' _ | assumption | refine Ext.dr ?_ | refine Ext.drN ?_ _ | refine Ext.al ?_ _ | refine Ext.st ?_ (by simp) _ | refine Ext.tr ?_ (by assumption)))), Stp.ext (by (repeat (first | exact Ext.rfl' _ | assumption | refine Ext.dr ?_ | refine Ext.drN ?_ _ | refine Ext.al ?_ _ | refine Ext.st ?_ (by simp) _ | refine Ext.tr ?_ (by assumption))))⟩
set_option maxRecDepth 100000 in
set_option maxHeartbeats 4000000 in
theorem fText_lf (k P : Nat) (s : Rst) (c : UInt8) (hcr : s.cr = true) (hc : c = 10) (w : World) (o : Ow) (h : FsAt w o k P s) :
    Calls Tryz.prog 57 #[.pointer (some ⟨P, 0, none⟩), .int .u8 (c.toNat : Int)] w (TxtF k w o P (textF s c)) := by
  obtain ⟨A, m, B, d, C, g, hr, h1, h2, h3, h4, h5, h6⟩ := h.row
  have c6 := hr.c6
  have c7 := hr.c7
  have f6 := hr.fz 6 (by decide)
  have f7 := hr.fz 7 (by decide)
  have HE := Lib.hid h
  have HR := Lib.hid hr
  have HS := Lib.hid h1
  have HN := Lib.hid h2
  have HF := Lib.hid (And.intro h3 h4)
  have HB := Lib.hid (And.intro h5 h6)
  obtain ⟨b, hb⟩ : ∃ b, b = c.toNat := ⟨_, rfl⟩
  have h256 := UInt8.toNat_lt c
  rw [← hb] at h256 ⊢
  clear hr h1 h2 h3 h4 h5 h6 h
  have HQ := Lib.hid (show textF s c = ({ s with cr := false, line := [] }, some s.line, 0) from by unfold textF; rw [if_pos hcr, if_pos hc])
  rw [hcr] at c7
  obtain rfl : b = 10 := by rw [hb, hc]; rfl
  have t1 : Stp (fun i => i = k) w o (w.setCell ⟨P, 7, none⟩ (.bool false)) o := Stp.set P 7 _ (fun _ => HE.out.own)
  have CV := conv_bs 22 9 5 Tryz.underlying22 Tryz.underlying5 Tryz.underlying9 ((HS.out.stp t1 (by omega)).rd) s.line.length m rfl
  have HL := Lib.hid (show GoneT (some s.line) 0 = .returned (.tuple #[.string (str s.line), .bool true]) from rfl)
  obtain ⟨sl, hsl⟩ : ∃ q, q = str s.line := ⟨_, rfl⟩
  rw [← hsl] at CV HL
  have T1 := Lib.hid t1
  clear hb hsl hc t1
  go_enter Tryz.func57, Tryz.ntmps57
  go_wp2_with (first
    | (go_at_call 56; refine (fdemand_c _ _ _).mono ?_; rintro e w6 ⟨hy, hn, rfl⟩; first | (obtain rfl := hy rfl; clear hy hn) | (obtain rfl := hn rfl; clear hy hn) | (obtain rfl := hy d8; clear hy hn) | (obtain rfl := hn d8; clear hy hn))
    | (at_builtin; refine wpL_put slt_u8 (.tmp 55) (.tmp 57) rfl rfl rfl rfl (HS.out.ext (Ext.al (Ext.rfl' _) _)) HN.out (Src.ofSlice (size := 1) _ Tryz.underlying22 ⟨w.heap.size, 0, none⟩ 1 1 [.int .u8 (b : Int)] (by simp) NC.out (by simp [Value.oneCell'])) (by omega) (by simp only [maxLen]; omega) ?_; intro A7 c7 w7 o7 hs7 hst7 hn7; have st7 := (Stp.ext ((Ext.rfl' w).al _)).tr hst7; have hr7 : Frow w7 P s A m B d C g := HR.out.stp st7 (by rw [HE.out.own]; omega); have k6 := hr7.c6; have g6 := hr7.fz 6 (by decide); clear c6 f6 f7))
  go_ret2
  rw [HQ.out]
  refine ⟨HL.out.symm, o, ?_, (setF_stp 7 _ HE.out.own).tr (setF_stp 6 _ HE.out.own)⟩
  have t2 : Stp (fun i => i = k) w o ((w.setCell ⟨P, 7, none⟩ (.bool false)).setCell ⟨P, 6, none⟩ (.slice none 0 0)) o := T1.out.tr (Stp.set P 6 _ (fun _ => HE.out.own))
  exact ⟨HE.out.own, none, 0, B, d, C, g, (HR.out.set 7 (.bool false) (s' := { s with cr := false }) rfl).set 6 _ rfl, Sl.nil_ _ _ _ _ _, fun _ => rfl, HF.out.1.stp t2 (by omega), HF.out.2, HB.out.1.stp t2 (by omega), HB.out.2⟩
set_option maxRecDepth 100000 in
set_option maxHeartbeats 4000000 in
theorem fText_bad (k P : Nat) (s : Rst) (c : UInt8) (hcr : s.cr = false) (hc : c ≠ 13) (hv : valB c.toNat = false) (w : World) (o : Ow) (h : FsAt w o k P s) :
    Calls Tryz.prog 57 #[.pointer (some ⟨P, 0, none⟩), .int .u8 (c.toNat : Int)] w (TxtF k w o P (textF s c)) := by
  obtain ⟨A, m, B, d, C, g, hr, h1, h2, h3, h4, h5, h6⟩ := h.row
  have c6 := hr.c6
  have c7 := hr.c7
  have f6 := hr.fz 6 (by decide)
  have f7 := hr.fz 7 (by decide)
  have HE := Lib.hid h
  have HR := Lib.hid hr
  have HS := Lib.hid h1
  have HN := Lib.hid h2
  have HF := Lib.hid (And.intro h3 h4)
  have HB := Lib.hid (And.intro h5 h6)
  obtain ⟨b, hb⟩ : ∃ b, b = c.toNat := ⟨_, rfl⟩
  have h256 := UInt8.toNat_lt c
  rw [← hb] at h256 ⊢
  clear hr h1 h2 h3 h4 h5 h6 h
  have HQ := Lib.hid (show textF s c = (s, none, 22) from by unfold textF; rw [if_neg (by rw [hcr]; decide), if_neg hc, if_neg (by rw [hv]; decide)])
  rw [hcr] at c7
  have d1 : ((b : Int) == 13) = false := by rw [beq_eq_false_iff_ne]; intro e; exact hc (UInt8.toNat_inj.1 (by rw [← hb]; show b = 13; omega))
  rw [← hb] at hv
  unfold valB at hv
  simp only [Bool.or_eq_false_iff, Bool.and_eq_false_iff, decide_eq_false_iff_not] at hv
  have d2 : ((b : Int) == 9) = false := by rw [beq_eq_false_iff_ne]; omega
  clear hb hc HS HN HF
  by_cases k1 : b < 32
  · have d3 : ¬ (32 : Int) ≤ (b : Int) := by omega
    clear hv
    go_enter Tryz.func57, Tryz.ntmps57
    go_wp2_with (first
      | (go_at_call 56; refine (fdemand_c _ _ _).mono ?_; rintro e w6 ⟨hy, hn, rfl⟩; first | (obtain rfl := hy rfl; clear hy hn) | (obtain rfl := hn rfl; clear hy hn) | (obtain rfl := hy d8; clear hy hn) | (obtain rfl := hn d8; clear hy hn))
      | (at_builtin; refine wpL_put slt_u8 (.tmp 55) (.tmp 57) rfl rfl rfl rfl (HS.out.ext (Ext.al (Ext.rfl' _) _)) HN.out (Src.ofSlice (size := 1) _ Tryz.underlying22 ⟨w.heap.size, 0, none⟩ 1 1 [.int .u8 (b : Int)] (by simp) NC.out (by simp [Value.oneCell'])) (by omega) (by simp only [maxLen]; omega) ?_; intro A7 c7 w7 o7 hs7 hst7 hn7; have st7 := (Stp.ext ((Ext.rfl' w).al _)).tr hst7; have hr7 : Frow w7 P s A m B d C g := HR.out.stp st7 (by rw [HE.out.own]; omega); have k6 := hr7.c6; have g6 := hr7.fz 6 (by decide); clear c6 f6 f7))
    simp only [bodyPost]
    rw [HQ.out]
    exact ⟨trivial, rfl, o, HE.out.ext (by (repeat (first | exact Ext.rfl' _ | assumption | refine Ext.dr ?_ | refine Ext.drN ?_ _ | refine Ext.al ?_ _ | refine Ext.st ?_ (by simp) _ | refine Ext.tr ?_ (by assumption)))), Stp.ext (by (repeat (first | exact Ext.rfl' _ | assumption | refine Ext.dr ?_ | refine Ext.drN ?_ _ | refine Ext.al ?_ _ | refine Ext.st ?_ (by simp) _ | refine Ext.tr ?_ (by assumption))))⟩
  · have d3 : (32 : Int) ≤ (b : Int) := by omega
    have k4 : b = 127 := by omega
    have d4 : ((b : Int) != 127) = false := by rw [k4]; rfl
    clear hv k4
    go_enter Tryz.func57, Tryz.ntmps57
    go_wp2_with (first
      | (go_at_call 56; refine (fdemand_c _ _ _).mono ?_; rintro e w6 ⟨hy, hn, rfl⟩; first | (obtain rfl := hy rfl; clear hy hn) | (obtain rfl := hn rfl; clear hy hn) | (obtain rfl := hy d8; clear hy hn) | (obtain rfl := hn d8; clear hy hn))
      | (at_builtin; refine wpL_put slt_u8 (.tmp 55) (.tmp 57) rfl rfl rfl rfl (HS.out.ext (Ext.al (Ext.rfl' _) _)) HN.out (Src.ofSlice (size := 1) _ Tryz.underlying22 ⟨w.heap.size, 0, none⟩ 1 1 [.int .u8 (b : Int)] (by simp) NC.out (by simp [Value.oneCell'])) (by omega) (by simp only [maxLen]; omega) ?_; intro A7 c7 w7 o7 hs7 hst7 hn7; have st7 := (Stp.ext ((Ext.rfl' w).al _)).tr hst7; have hr7 : Frow w7 P s A m B d C g := HR.out.stp st7 (by rw [HE.out.own]; omega); have k6 := hr7.c6; have g6 := hr7.fz 6 (by decide); clear c6 f6 f7))
    simp only [bodyPost]
    rw [HQ.out]
    exact ⟨trivial, rfl, o, HE.out.ext (by (repeat (first | exact Ext.rfl' _ | assumption | refine Ext.dr ?_ | refine Ext.drN ?_ _ | refine Ext.al ?_ _ | refine Ext.st ?_ (by simp) _ | refine Ext.tr ?_ (by assumption)))), Stp.ext (by (repeat (first | exact Ext.rfl' _ | assumption | refine Ext.dr ?_ | refine Ext.drN ?_ _ | refine Ext.al ?_ _ | refine Ext.st ?_ (by simp) _ | refine Ext.tr ?_ (by assumption))))⟩
set_option maxRecDepth 100000 in
set_option maxHeartbeats 4000000 in
theorem fText_room (k P : Nat) (s : Rst) (c : UInt8) (hcr : s.cr = false) (hc : c ≠ 13) (hv : valB c.toNat = true) (hl : ¬ s.line.length < 8192) (w : World) (o : Ow) (h : FsAt w o k P s) :
    Calls Tryz.prog 57 #[.pointer (some ⟨P, 0, none⟩), .int .u8 (c.toNat : Int)] w (TxtF k w o P (textF s c)) := by
  obtain ⟨A, m, B, d, C, g, hr, h1, h2, h3, h4, h5, h6⟩ := h.row
  have c6 := hr.c6
  have c7 := hr.c7
  have f6 := hr.fz 6 (by decide)
  have f7 := hr.fz 7 (by decide)
  have HE := Lib.hid h
  have HR := Lib.hid hr
  have HS := Lib.hid h1
  have HN := Lib.hid h2
  have HF := Lib.hid (And.intro h3 h4)
  have HB := Lib.hid (And.intro h5 h6)
  obtain ⟨b, hb⟩ : ∃ b, b = c.toNat := ⟨_, rfl⟩
  have h256 := UInt8.toNat_lt c
  rw [← hb] at h256 ⊢
  clear hr h1 h2 h3 h4 h5 h6 h
  have HQ := Lib.hid (show textF s c = (s, none, 44) from by unfold textF; rw [if_neg (by rw [hcr]; decide), if_neg hc, if_pos hv, if_neg hl])
  rw [hcr] at c7
  have d1 : ((b : Int) == 13) = false := by rw [beq_eq_false_iff_ne]; intro e; exact hc (UInt8.toNat_inj.1 (by rw [← hb]; show b = 13; omega))
  rw [← hb] at hv
  unfold valB at hv
  simp only [Bool.or_eq_true, Bool.and_eq_true, decide_eq_true_eq] at hv
  have d8 : decide ((s.line.length : Int) < 8192) = false := decide_eq_false (by omega)
  clear hb hc HS HN HF
  by_cases k1 : b = 9
  · subst k1
    clear d1 hv
    go_enter Tryz.func57, Tryz.ntmps57
    go_wp2_with (first
      | (go_at_call 56; refine (fdemand_c _ _ _).mono ?_; rintro e w6 ⟨hy, hn, rfl⟩; first | (obtain rfl := hy rfl; clear hy hn) | (obtain rfl := hn rfl; clear hy hn) | (obtain rfl := hy d8; clear hy hn) | (obtain rfl := hn d8; clear hy hn))
      | (at_builtin; refine wpL_put slt_u8 (.tmp 55) (.tmp 57) rfl rfl rfl rfl (HS.out.ext (Ext.al (Ext.rfl' _) _)) HN.out (Src.ofSlice (size := 1) _ Tryz.underlying22 ⟨w.heap.size, 0, none⟩ 1 1 [.int .u8 (b : Int)] (by simp) NC.out (by simp [Value.oneCell'])) (by omega) (by simp only [maxLen]; omega) ?_; intro A7 c7 w7 o7 hs7 hst7 hn7; have st7 := (Stp.ext ((Ext.rfl' w).al _)).tr hst7; have hr7 : Frow w7 P s A m B d C g := HR.out.stp st7 (by rw [HE.out.own]; omega); have k6 := hr7.c6; have g6 := hr7.fz 6 (by decide); clear c6 f6 f7))
    simp only [bodyPost]
    rw [HQ.out]
    exact ⟨trivial, rfl, o, HE.out.ext (by (repeat (first | exact Ext.rfl' _ | assumption | refine Ext.dr ?_ | refine Ext.drN ?_ _ | refine Ext.al ?_ _ | refine Ext.st ?_ (by simp) _ | refine Ext.tr ?_ (by assumption)))), Stp.ext (by (repeat (first | exact Ext.rfl' _ | assumption | refine Ext.dr ?_ | refine Ext.drN ?_ _ | refine Ext.al ?_ _ | refine Ext.st ?_ (by simp) _ | refine Ext.tr ?_ (by assumption))))⟩
  · have d2 : ((b : Int) == 9) = false := by rw [beq_eq_false_iff_ne]; omega
    have d3 : (32 : Int) ≤ (b : Int) := by omega
    have d4 : ((b : Int) != 127) = true := by rw [bne_iff_ne]; omega
    clear hv k1
    go_enter Tryz.func57, Tryz.ntmps57
    go_wp2_with (first
      | (go_at_call 56; refine (fdemand_c _ _ _).mono ?_; rintro e w6 ⟨hy, hn, rfl⟩; first | (obtain rfl := hy rfl; clear hy hn) | (obtain rfl := hn rfl; clear hy hn) | (obtain rfl := hy d8; clear hy hn) | (obtain rfl := hn d8; clear hy hn))
      | (at_builtin; refine wpL_put slt_u8 (.tmp 55) (.tmp 57) rfl rfl rfl rfl (HS.out.ext (Ext.al (Ext.rfl' _) _)) HN.out (Src.ofSlice (size := 1) _ Tryz.underlying22 ⟨w.heap.size, 0, none⟩ 1 1 [.int .u8 (b : Int)] (by simp) NC.out (by simp [Value.oneCell'])) (by omega) (by simp only [maxLen]; omega) ?_; intro A7 c7 w7 o7 hs7 hst7 hn7; have st7 := (Stp.ext ((Ext.rfl' w).al _)).tr hst7; have hr7 : Frow w7 P s A m B d C g := HR.out.stp st7 (by rw [HE.out.own]; omega); have k6 := hr7.c6; have g6 := hr7.fz 6 (by decide); clear c6 f6 f7))
    simp only [bodyPost]
    rw [HQ.out]
    exact ⟨trivial, rfl, o, HE.out.ext (by (repeat (first | exact Ext.rfl' _ | assumption | refine Ext.dr ?_ | refine Ext.drN ?_ _ | refine Ext.al ?_ _ | refine Ext.st ?_ (by simp) _ | refine Ext.tr ?_ (by assumption)))), Stp.ext (by (repeat (first | exact Ext.rfl' _ | assumption | refine Ext.dr ?_ | refine Ext.drN ?_ _ | refine Ext.al ?_ _ | refine Ext.st ?_ (by simp) _ | refine Ext.tr ?_ (by assumption))))⟩
set_option maxRecDepth 100000 in
set_option maxHeartbeats 4000000 in
theorem fText_good (k P : Nat) (s : Rst) (c : UInt8) (hcr : s.cr = false) (hc : c ≠ 13) (hv : valB c.toNat = true) (hl : s.line.length < 8192) (w : World) (o : Ow) (h : FsAt w o k P s) :
    Calls Tryz.prog 57 #[.pointer (some ⟨P, 0, none⟩), .int .u8 (c.toNat : Int)] w (TxtF k w o P (textF s c)) := by
  obtain ⟨A, m, B, d, C, g, hr, h1, h2, h3, h4, h5, h6⟩ := h.row
  have c6 := hr.c6
  have c7 := hr.c7
  have f6 := hr.fz 6 (by decide)
  have f7 := hr.fz 7 (by decide)
  have HE := Lib.hid h
  have HR := Lib.hid hr
  have HS := Lib.hid h1
  have HN := Lib.hid h2
  have HF := Lib.hid (And.intro h3 h4)
  have HB := Lib.hid (And.intro h5 h6)
  obtain ⟨b, hb⟩ : ∃ b, b = c.toNat := ⟨_, rfl⟩
  have h256 := UInt8.toNat_lt c
  rw [← hb] at h256 ⊢
  clear hr h1 h2 h3 h4 h5 h6 h
  have HQ := Lib.hid (show textF s c = ({ s with line := s.line ++ [c] }, none, 0) from by unfold textF; rw [if_neg (by rw [hcr]; decide), if_neg hc, if_pos hv, if_pos hl])
  rw [hcr] at c7
  have d1 : ((b : Int) == 13) = false := by rw [beq_eq_false_iff_ne]; intro e; exact hc (UInt8.toNat_inj.1 (by rw [← hb]; show b = 13; omega))
  rw [← hb] at hv
  unfold valB at hv
  simp only [Bool.or_eq_true, Bool.and_eq_true, decide_eq_true_eq] at hv
  have d8 : decide ((s.line.length : Int) < 8192) = true := decide_eq_true (by omega)
  have HBC := Lib.hid (show bc (s.line ++ [c]) = bc s.line ++ [.int .u8 (b : Int)] from by rw [hb]; simp [bc])
  have NC := Lib.hid (new_cells w #[.int .u8 (b : Int)] 5)
  clear hb hc
  by_cases k1 : b = 9
  · have d2 : ((b : Int) == 9) = true := by rw [k1]; rfl
    clear d1 hv k1
    go_enter Tryz.func57, Tryz.ntmps57
    go_wp2_with (first
      | (go_at_call 56; refine (fdemand_c _ _ _).mono ?_; rintro e w6 ⟨hy, hn, rfl⟩; first | (obtain rfl := hy rfl; clear hy hn) | (obtain rfl := hn rfl; clear hy hn) | (obtain rfl := hy d8; clear hy hn) | (obtain rfl := hn d8; clear hy hn))
      | (at_builtin; refine wpL_put slt_u8 (.tmp 55) (.tmp 57) rfl rfl rfl rfl (HS.out.ext (Ext.al (Ext.rfl' _) _)) HN.out (Src.ofSlice (size := 1) _ Tryz.underlying22 ⟨w.heap.size, 0, none⟩ 1 1 [.int .u8 (b : Int)] (by simp) NC.out (by simp [Value.oneCell'])) (by omega) (by simp only [maxLen]; omega) ?_; intro A7 c7 w7 o7 hs7 hst7 hn7; have st7 := (Stp.ext ((Ext.rfl' w).al _)).tr hst7; have hr7 : Frow w7 P s A m B d C g := HR.out.stp st7 (by rw [HE.out.own]; omega); have k6 := hr7.c6; have g6 := hr7.fz 6 (by decide); clear c6 f6 f7))
    go_ret2
    rw [HQ.out]
    have hp7 : o7 P = k := by rw [st7.own P (row_lt HR.out)]; exact HE.out.own
    have stf : Stp (fun i => i = k) w7 o7 (w7.setCell ⟨P, 6, none⟩ (.slice A7 (s.line.length + 1) c7)) o7 := Stp.set P 6 _ (fun _ => hp7)
    have hlen : (s.line ++ [c]).length = s.line.length + 1 := by simp
    refine ⟨rfl, o7, ⟨hp7, A7, c7, B, d, C, g, ?_, ?_, hn7, (HF.out.1.stp st7 (by omega)).stp stf (by omega), HF.out.2, (HB.out.1.stp st7 (by omega)).stp stf (by omega), HB.out.2⟩, (st7.mono fun i hi => .inr (.inl hi)).tr (stf.mono fun i hi => .inl hi)⟩
    · exact hr7.set 6 _ (by simp [Rst.cells])
    · rw [hlen, HBC.out]
      exact hs7.stp stf (by omega)
  · have d2 : ((b : Int) == 9) = false := by rw [beq_eq_false_iff_ne]; omega
    have d3 : (32 : Int) ≤ (b : Int) := by omega
    have d4 : ((b : Int) != 127) = true := by rw [bne_iff_ne]; omega
    clear hv k1
    go_enter Tryz.func57, Tryz.ntmps57
    go_wp2_with (first
      | (go_at_call 56; refine (fdemand_c _ _ _).mono ?_; rintro e w6 ⟨hy, hn, rfl⟩; first | (obtain rfl := hy rfl; clear hy hn) | (obtain rfl := hn rfl; clear hy hn) | (obtain rfl := hy d8; clear hy hn) | (obtain rfl := hn d8; clear hy hn))
      | (at_builtin; refine wpL_put slt_u8 (.tmp 55) (.tmp 57) rfl rfl rfl rfl (HS.out.ext (Ext.al (Ext.rfl' _) _)) HN.out (Src.ofSlice (size := 1) _ Tryz.underlying22 ⟨w.heap.size, 0, none⟩ 1 1 [.int .u8 (b : Int)] (by simp) NC.out (by simp [Value.oneCell'])) (by omega) (by simp only [maxLen]; omega) ?_; intro A7 c7 w7 o7 hs7 hst7 hn7; have st7 := (Stp.ext ((Ext.rfl' w).al _)).tr hst7; have hr7 : Frow w7 P s A m B d C g := HR.out.stp st7 (by rw [HE.out.own]; omega); have k6 := hr7.c6; have g6 := hr7.fz 6 (by decide); clear c6 f6 f7))
    go_ret2
    rw [HQ.out]
    have hp7 : o7 P = k := by rw [st7.own P (row_lt HR.out)]; exact HE.out.own
    have stf : Stp (fun i => i = k) w7 o7 (w7.setCell ⟨P, 6, none⟩ (.slice A7 (s.line.length + 1) c7)) o7 := Stp.set P 6 _ (fun _ => hp7)
    have hlen : (s.line ++ [c]).length = s.line.length + 1 := by simp
    refine ⟨rfl, o7, ⟨hp7, A7, c7, B, d, C, g, ?_, ?_, hn7, (HF.out.1.stp st7 (by omega)).stp stf (by omega), HF.out.2, (HB.out.1.stp st7 (by omega)).stp stf (by omega), HB.out.2⟩, (st7.mono fun i hi => .inr (.inl hi)).tr (stf.mono fun i hi => .inl hi)⟩
    · exact hr7.set 6 _ (by simp [Rst.cells])
    · rw [hlen, HBC.out]
      exact hs7.stp stf (by omega)
/-- A byte of a line. -/
theorem fText_c (k P : Nat) (s : Rst) (c : UInt8) (hl8 : s.line.length ≤ 8192) (w : World) (o : Ow) (h : FsAt w o k P s) :
    Calls Tryz.prog 57 #[.pointer (some ⟨P, 0, none⟩), .int .u8 (c.toNat : Int)] w (TxtF k w o P (textF s c)) := by
  cases hcr : s.cr with
  | true =>
    by_cases hc : c = 10
    · exact fText_lf k P s c hcr hc w o h
    · exact fText_nolf k P s c hcr hc w o h
  | false =>
    by_cases hc : c = 13
    · exact fText_cr k P s c hcr hc w o h
    · cases hv : valB c.toNat with
      | false => exact fText_bad k P s c hcr hc hv w o h
      | true =>
        by_cases hl : s.line.length < 8192
        · exact fText_good k P s c hcr hc hv hl w o h
        · exact fText_room k P s c hcr hc hv hl w o h
end Go.Proofs.YtnakeigpelcajaaGreatDoor
