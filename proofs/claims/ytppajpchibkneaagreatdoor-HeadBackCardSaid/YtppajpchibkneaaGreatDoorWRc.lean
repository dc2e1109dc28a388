/-
WriteResponse, the program's and the reference's.
-/
import Derived.Test.YtppajpchibkneaaGreatDoorWr9
import Derived.Lib.ItoaLen
set_option linter.unusedVariables false
set_option linter.unusedSimpArgs false
/-
WriteResponse, the program's and the reference's.
-/
section
namespace Go.Proofs.YtppajpchibkneaaGreatDoor
open Go.RowKit

theorem rea_len (st : Int) : (reaL st).length ≤ 100 := by
  unfold reaL
  split
  · rename_i p hp
    have hm := List.mem_of_find?_eq_some hp
    have : ∀ p ∈ rsT, p.2.2.length ≤ 100 := by decide +kernel
    exact this p hm
  · simp
set_option maxRecDepth 100000 in
set_option maxHeartbeats 4000000 in
theorem hWriteRsp_c (st : Int) (fs : List Fld) (A : Option Addr) (n c : Nat) (h0 : -9223372036854775808 ≤ st) (h1 : st ≤ 9223372036854775807) (hn : fs.length = n) (hb : n ≤ 8796093022206) (hsz : ∀ p ∈ fs, p.1.length ≤ 140737488351232 ∧ p.2.length ≤ 140737488351232) (w : World) (h : Rd w A (fc fs)) (hP : Pow w) (hM : Mx w) :
    Calls Tryz.prog 7 #[.int .i64 st, .slice A n c] w (Ret (IsBy (rsW st fs)) w) := by
  obtain ⟨R, hR⟩ : ∃ R, R = rsW st fs := ⟨_, rfl⟩
  rw [← hR]
  have HP := Lib.hid hP
  have HM := Lib.hid hM
  have HA := Lib.hid h
  clear hP h hM
  by_cases c1 : st < 100
  · have HV := Lib.hid (show R = ([], 43) from by rw [hR]; unfold rsW; rw [if_neg (by omega)])
    clear hR
    go_enter Tryz.func7, Tryz.ntmps7
    go_wp2
    go_ret2
    rw [HV.out]
    exact Ret.mk ⟨none, 0, rfl, .inl rfl⟩ (Ext.rfl' _)
  by_cases c2 : 599 < st
  · have HV := Lib.hid (show R = ([], 43) from by rw [hR]; unfold rsW; rw [if_neg (by omega)])
    clear hR
    go_enter Tryz.func7, Tryz.ntmps7
    go_wp2
    go_ret2
    rw [HV.out]
    exact Ret.mk ⟨none, 0, rfl, .inl rfl⟩ (Ext.rfl' _)
  have HV := Lib.hid (show R = wrH (rsF st) fs from by rw [hR]; unfold rsW; rw [if_pos (by omega)])
  have hil := Lib.itoa_length_le st h0 h1
  have hrl := rea_len st
  have hfl : (rsF st).length ≤ 140737488400000 := by unfold rsF; simp; omega
  have CW := fun w h => hWrite_c (rsF st) fs A n c hn hb hfl hsz w h
  obtain ⟨s1, hs1⟩ : ∃ s, s = str ([72, 84, 84, 80, 47, 49, 46, 49, 32] ++ Lib.itoa st) := ⟨_, rfl⟩
  obtain ⟨s2, hs2⟩ : ∃ s, s = str ([72, 84, 84, 80, 47, 49, 46, 49, 32] ++ (Lib.itoa st ++ [32])) := ⟨_, rfl⟩
  obtain ⟨s3, hs3⟩ : ∃ s, s = str (rsF st) := ⟨_, rfl⟩
  obtain ⟨sd, hsd⟩ : ∃ s, s = decB st := ⟨_, rfl⟩
  obtain ⟨sr, hsr⟩ : ∃ s, s = str (reaL st) := ⟨_, rfl⟩
  have E1 : ∀ w, (Op.stringOp .add ⟨#[72, 84, 84, 80, 47, 49, 46, 49, 32]⟩ sd).run Tryz.prog w = .ok (.string s1) w := fun w => by
    rw [hsd, hs1]
    unfold decB
    rw [cat_ok _ _ (by rw [str_size]; show 9 + _ ≤ _; omega) w]
    simp
  have E2 : ∀ w, (Op.stringOp .add s1 ⟨#[32]⟩).run Tryz.prog w = .ok (.string s2) w := fun w => by rw [hs1, hs2, cat_ok _ _ (by rw [str_size]; show _ + 1 ≤ _; simp; omega) w]; simp
  have E3 : ∀ w, (Op.stringOp .add s2 sr).run Tryz.prog w = .ok (.string s3) w := fun w => by rw [hs2, hs3, hsr, cat_ok _ _ (by rw [str_size, str_size]; simp; omega) w]; simp [rsF]
  have CD := Lib.hid (fun (w : World) (hP : Pow w) => (by have := Digits_c st w hP h0 h1; rw [← hsd] at this; exact this : Calls Tryz.prog 22 #[.int .i64 st] w (Gives (.string sd) w)))
  have CR := Lib.hid (fun (w : World) (hM : Mx w) (hP : Pow w) => (by have := hReason_c st h0 h1 w hM hP; rw [← hsr] at this; exact this : Calls Tryz.prog 10 #[.int .i64 st] w (Gives (.string sr) w)))
  rw [← hs3] at CW
  have CW := Lib.hid CW
  clear hR hs1 hs2 hs3 hsd hsr hil hfl hrl
  go_enter Tryz.func7, Tryz.ntmps7
  go_wp2_with (first
    | (go_at_call 22; refine (CD.out _ (HP.out.ext (by (repeat (first | exact Ext.rfl' _ | assumption | refine Ext.dr ?_ | refine Ext.drN ?_ _ | refine Ext.al ?_ _ | refine Ext.st ?_ (by simp) _ | refine Ext.tr ?_ (by assumption)))))).mono ?_; rintro e w2 ⟨rfl, hx2⟩)
    | (go_at_call 10; refine (CR.out _ (HM.out.ext (by (repeat (first | exact Ext.rfl' _ | assumption | refine Ext.dr ?_ | refine Ext.drN ?_ _ | refine Ext.al ?_ _ | refine Ext.st ?_ (by simp) _ | refine Ext.tr ?_ (by assumption))))) (HP.out.ext (by (repeat (first | exact Ext.rfl' _ | assumption | refine Ext.dr ?_ | refine Ext.drN ?_ _ | refine Ext.al ?_ _ | refine Ext.st ?_ (by simp) _ | refine Ext.tr ?_ (by assumption)))))).mono ?_; rintro e w3 ⟨rfl, hx3⟩)
    | (go_at_call 21; refine (CW.out _ (HA.out.ext (by (repeat (first | exact Ext.rfl' _ | assumption | refine Ext.dr ?_ | refine Ext.drN ?_ _ | refine Ext.al ?_ _ | refine Ext.st ?_ (by simp) _ | refine Ext.tr ?_ (by assumption)))))).mono ?_; rintro e w6 ⟨v, rfl, ⟨A6, c7, rfl, hr6⟩, hx6⟩))
  go_ret2
  rw [HV.out]
  exact Ret.mk ⟨A6, c7, rfl, hr6⟩ (hx2.tr (hx3.tr hx6))
set_option maxRecDepth 100000 in
set_option maxHeartbeats 4000000 in
theorem rhWriteRsp_c (st : Int) (fs : List Fld) (A : Option Addr) (n c : Nat) (h0 : -9223372036854775808 ≤ st) (h1 : st ≤ 9223372036854775807) (hn : fs.length = n) (hb : n ≤ 8796093022206) (hsz : ∀ p ∈ fs, p.1.length ≤ 140737488351232 ∧ p.2.length ≤ 140737488351232) (w : World) (h : Rd w A (fc fs)) (hP : Pow w) (hM : Mx w) :
    Calls Tryz.prog 8 #[.int .i64 st, .slice A n c] w (Ret (IsBy (rsW st fs)) w) := by
  obtain ⟨R, hR⟩ : ∃ R, R = rsW st fs := ⟨_, rfl⟩
  rw [← hR]
  have HP := Lib.hid hP
  have HM := Lib.hid hM
  have HA := Lib.hid h
  clear hP h hM
  by_cases c1 : st < 100
  · have HV := Lib.hid (show R = ([], 43) from by rw [hR]; unfold rsW; rw [if_neg (by omega)])
    clear hR
    go_enter Tryz.func8, Tryz.ntmps8
    go_wp2
    go_ret2
    rw [HV.out]
    exact Ret.mk ⟨none, 0, rfl, .inl rfl⟩ (Ext.rfl' _)
  by_cases c2 : 599 < st
  · have HV := Lib.hid (show R = ([], 43) from by rw [hR]; unfold rsW; rw [if_neg (by omega)])
    clear hR
    go_enter Tryz.func8, Tryz.ntmps8
    go_wp2
    go_ret2
    rw [HV.out]
    exact Ret.mk ⟨none, 0, rfl, .inl rfl⟩ (Ext.rfl' _)
  have HV := Lib.hid (show R = wrH (rsF st) fs from by rw [hR]; unfold rsW; rw [if_pos (by omega)])
  have hil := Lib.itoa_length_le st h0 h1
  have hrl := rea_len st
  have hfl : (rsF st).length ≤ 140737488400000 := by unfold rsF; simp; omega
  have CW := fun w h => rhLines_c (rsF st) fs A n c hn hb hfl hsz w h
  obtain ⟨s1, hs1⟩ : ∃ s, s = str ([72, 84, 84, 80, 47, 49, 46, 49, 32] ++ Lib.itoa st) := ⟨_, rfl⟩
  obtain ⟨s2, hs2⟩ : ∃ s, s = str ([72, 84, 84, 80, 47, 49, 46, 49, 32] ++ (Lib.itoa st ++ [32])) := ⟨_, rfl⟩
  obtain ⟨s3, hs3⟩ : ∃ s, s = str (rsF st) := ⟨_, rfl⟩
  obtain ⟨sd, hsd⟩ : ∃ s, s = decB st := ⟨_, rfl⟩
  obtain ⟨sr, hsr⟩ : ∃ s, s = str (reaL st) := ⟨_, rfl⟩
  have E1 : ∀ w, (Op.stringOp .add ⟨#[72, 84, 84, 80, 47, 49, 46, 49, 32]⟩ sd).run Tryz.prog w = .ok (.string s1) w := fun w => by
    rw [hsd, hs1]
    unfold decB
    rw [cat_ok _ _ (by rw [str_size]; show 9 + _ ≤ _; omega) w]
    simp
  have E2 : ∀ w, (Op.stringOp .add s1 ⟨#[32]⟩).run Tryz.prog w = .ok (.string s2) w := fun w => by rw [hs1, hs2, cat_ok _ _ (by rw [str_size]; show _ + 1 ≤ _; simp; omega) w]; simp
  have E3 : ∀ w, (Op.stringOp .add s2 sr).run Tryz.prog w = .ok (.string s3) w := fun w => by rw [hs2, hs3, hsr, cat_ok _ _ (by rw [str_size, str_size]; simp; omega) w]; simp [rsF]
  have CD := Lib.hid (fun (w : World) (hP : Pow w) => (by have := rDigits_c st w h0 h1; rw [← hsd] at this; exact this : Calls Tryz.prog 26 #[.int .i64 st] w (Gives (.string sd) w)))
  have CR := Lib.hid (fun (w : World) (hM : Mx w) (hP : Pow w) => (by have := rhReason_c st w; rw [← hsr] at this; exact this : Calls Tryz.prog 11 #[.int .i64 st] w (Gives (.string sr) w)))
  rw [← hs3] at CW
  have CW := Lib.hid CW
  clear hR hs1 hs2 hs3 hsd hsr hil hfl hrl
  go_enter Tryz.func8, Tryz.ntmps8
  go_wp2_with (first
    | (go_at_call 26; refine (CD.out _ (HP.out.ext (by (repeat (first | exact Ext.rfl' _ | assumption | refine Ext.dr ?_ | refine Ext.drN ?_ _ | refine Ext.al ?_ _ | refine Ext.st ?_ (by simp) _ | refine Ext.tr ?_ (by assumption)))))).mono ?_; rintro e w2 ⟨rfl, hx2⟩)
    | (go_at_call 11; refine (CR.out _ (HM.out.ext (by (repeat (first | exact Ext.rfl' _ | assumption | refine Ext.dr ?_ | refine Ext.drN ?_ _ | refine Ext.al ?_ _ | refine Ext.st ?_ (by simp) _ | refine Ext.tr ?_ (by assumption))))) (HP.out.ext (by (repeat (first | exact Ext.rfl' _ | assumption | refine Ext.dr ?_ | refine Ext.drN ?_ _ | refine Ext.al ?_ _ | refine Ext.st ?_ (by simp) _ | refine Ext.tr ?_ (by assumption)))))).mono ?_; rintro e w3 ⟨rfl, hx3⟩)
    | (go_at_call 25; refine (CW.out _ (HA.out.ext (by (repeat (first | exact Ext.rfl' _ | assumption | refine Ext.dr ?_ | refine Ext.drN ?_ _ | refine Ext.al ?_ _ | refine Ext.st ?_ (by simp) _ | refine Ext.tr ?_ (by assumption)))))).mono ?_; rintro e w6 ⟨v, rfl, ⟨A6, c7, rfl, hr6⟩, hx6⟩))
  go_ret2
  rw [HV.out]
  exact Ret.mk ⟨A6, c7, rfl, hr6⟩ (hx2.tr (hx3.tr hx6))
end Go.Proofs.YtppajpchibkneaaGreatDoor
end

/-
Any request and any response as bytes: the law as a walk.
-/
section
namespace Go.Proofs.YtppajpchibkneaaGreatDoor
open Go.RowKit

set_option maxRecDepth 100000 in
set_option maxHeartbeats 4000000 in
theorem HeadWrites_w (w : World) (hM : Mx w) (hE : ErrR w) (hP : Pow w) (m t : List UInt8) (mi st : Int) (fs : List Fld) (A : Option Addr) (n c : Nat) (hn : fs.length = n) (hb : n ≤ 8796093022206) (hm : m.length ≤ 140737488351232) (ht : t.length ≤ 140737488351232) (hsz : ∀ p ∈ fs, p.1.length ≤ 140737488351232 ∧ p.2.length ≤ 140737488351232) (h0 : -9223372036854775808 ≤ st) (h1 : st ≤ 9223372036854775807) (h : Rd w A (fc fs)) :
    Calls Tryz.prog 3 #[.agg #[.string (str m), .string (str t), .int .i64 mi, .slice A n c], .int .i64 st] w (Gives (.bool true) w) := by
  have HM := Lib.hid hM
  have HER := Lib.hid hE
  have HP := Lib.hid hP
  have HA := Lib.hid h
  have C1 := Lib.hid (fun w h hP => hWriteReq_c m t mi fs A n c hn hb hm ht hsz w h hP)
  have C2 := Lib.hid (fun w h hP => rhWriteReq_c m t mi fs A n c hn hb hm ht hsz w h hP)
  have C3 := Lib.hid (fun w h hP hM => hWriteRsp_c st fs A n c h0 h1 hn hb hsz w h hP hM)
  have C4 := Lib.hid (fun w h hP hM => rhWriteRsp_c st fs A n c h0 h1 hn hb hsz w h hP hM)
  have C5 := Lib.hid (fun w hM hP => hReason_c st h0 h1 w hM hP)
  have C6 := Lib.hid (fun w => rhReason_c st w)
  obtain ⟨⟨l1, e1⟩, hr1⟩ : ∃ r, r = rqW m t mi fs := ⟨_, rfl⟩
  obtain ⟨⟨l2, e2⟩, hr2⟩ : ∃ r, r = rsW st fs := ⟨_, rfl⟩
  obtain ⟨sr, hsr⟩ : ∃ s, s = str (reaL st) := ⟨_, rfl⟩
  rw [← hr1] at C1 C2
  rw [← hr2] at C3 C4
  rw [← hsr] at C5 C6
  obtain ⟨sm, hsm⟩ : ∃ s, s = str m := ⟨_, rfl⟩
  obtain ⟨sx, hsx⟩ : ∃ s, s = str t := ⟨_, rfl⟩
  rw [← hsm, ← hsx] at C1 C2 ⊢
  obtain ⟨q1, hq1⟩ : ∃ s, s = str l1 := ⟨_, rfl⟩
  obtain ⟨q2, hq2⟩ : ∃ s, s = str l2 := ⟨_, rfl⟩
  have CV1 := Lib.hid (fun (w : World) (A : Option Addr) (k : Nat) (h : Rd w A (bc l1)) => (by have := conv_bs 25 9 5 Tryz.underlying25 Tryz.underlying5 Tryz.underlying9 h l1.length k rfl; rw [← hq1] at this; exact this : (convert 25 9 (.slice A l1.length k)).run Tryz.prog w = .ok (.string q1) w))
  have CV2 := Lib.hid (fun (w : World) (A : Option Addr) (k : Nat) (h : Rd w A (bc l2)) => (by have := conv_bs 25 9 5 Tryz.underlying25 Tryz.underlying5 Tryz.underlying9 h l2.length k rfl; rw [← hq2] at this; exact this : (convert 25 9 (.slice A l2.length k)).run Tryz.prog w = .ok (.string q2) w))
  clear hM hE hP h hn hb hm ht hsz hr1 hr2 hsr hsm hsx hq1 hq2
  have hks := Lib.hid (fun w' (e : Ext (w.alloc (.cells #[.string sm, .string sx, .int .i64 mi, .slice A n c] 24)) w') => (show w'.cell? ⟨w.heap.size, 0, none⟩ = some (.string sm) ∧ w'.cell? ⟨w.heap.size, 1, none⟩ = some (.string sx) ∧ w'.cell? ⟨w.heap.size, 2, none⟩ = some (.int .i64 mi) ∧ w'.cell? ⟨w.heap.size, 3, none⟩ = some (.slice A n c) from ⟨e.new 0 _ rfl, e.new 1 _ rfl, e.new 2 _ rfl, e.new 3 _ rfl⟩))
  have xa := Lib.hid ((Ext.rfl' w).al (.cells #[.string sm, .string sx, .int .i64 mi, .slice A n c] 24))
  go_enter Tryz.func3, Tryz.ntmps3
  go_wp2_with (first
    | (go_at_call 5; refine (C1.out _ (HA.out.ext (by (repeat (first | exact Ext.rfl' _ | assumption | refine Ext.dr ?_ | refine Ext.drN ?_ _ | refine Ext.al ?_ _ | refine Ext.st ?_ (by simp) _ | refine Ext.tr ?_ (by assumption))))) (HP.out.ext (by (repeat (first | exact Ext.rfl' _ | assumption | refine Ext.dr ?_ | refine Ext.drN ?_ _ | refine Ext.al ?_ _ | refine Ext.st ?_ (by simp) _ | refine Ext.tr ?_ (by assumption)))))).mono ?_; rintro e w1 ⟨v, rfl, ⟨A1, c1, rfl, hr1⟩, x1⟩; obtain ⟨t0, t1, t2, t3⟩ := hks.out w1 x1)
    | (go_at_call 6; refine (C2.out _ (HA.out.ext (xa.out.tr x1)) (HP.out.ext (xa.out.tr x1))).mono ?_; rintro e w2 ⟨v, rfl, ⟨A2, c2, rfl, hr2⟩, x2⟩; obtain ⟨g0, g1, g2, g3⟩ := hks.out w2 (x1.tr x2); clear t0 t1 t2 t3)
    | (go_at_call 7; refine (C3.out _ (HA.out.ext (xa.out.tr (x1.tr x2))) (HP.out.ext (xa.out.tr (x1.tr x2))) (HM.out.ext (xa.out.tr (x1.tr x2)))).mono ?_; rintro e w3 ⟨v, rfl, ⟨A3, c3, rfl, hr3⟩, x3⟩; obtain ⟨f0, f1, f2, f3⟩ := hks.out w3 (x1.tr (x2.tr x3)); clear g0 g1 g2 g3)
    | (go_at_call 8; refine (C4.out _ (HA.out.ext (xa.out.tr (x1.tr (x2.tr x3)))) (HP.out.ext (xa.out.tr (x1.tr (x2.tr x3)))) (HM.out.ext (xa.out.tr (x1.tr (x2.tr x3))))).mono ?_; rintro e w4 ⟨v, rfl, ⟨A4, c4, rfl, hr4⟩, x4⟩; dsimp only at hr1 hr2 hr3 hr4; have xx := Lib.hid (xa.out.tr (x1.tr (x2.tr (x3.tr x4)))); have v1 := CV1.out w4 A1 c1 (hr1.ext (x2.tr (x3.tr x4))); have v2 := CV1.out w4 A2 c2 (hr2.ext (x3.tr x4)); have v3 := CV2.out w4 A3 c3 (hr3.ext x4); have v4 := CV2.out w4 A4 c4 hr4; clear f0 f1 f2 f3)
    | (go_at_call 9; refine (num11_c _ _).mono ?_; rintro e w9 ⟨rfl, rfl⟩)
    | (go_at_call 10; refine (C5.out _ (HM.out.ext xx.out) (HP.out.ext xx.out)).mono ?_; rintro e w5 ⟨rfl, x5⟩)
    | (go_at_call 11; refine (C6.out _).mono ?_; rintro e w6 ⟨rfl, x6⟩)
    | (go_at_call 12; refine (knows11_c _ (HM.out.ext (xx.out.tr (x5.tr x6))) (HER.out.ext (xx.out.tr (x5.tr x6)))).mono ?_; rintro e w7 ⟨rfl, x7⟩))
  go_ret
  exact ⟨rfl, xx.out.tr (x5.tr (x6.tr x7))⟩
end Go.Proofs.YtppajpchibkneaaGreatDoor
end
