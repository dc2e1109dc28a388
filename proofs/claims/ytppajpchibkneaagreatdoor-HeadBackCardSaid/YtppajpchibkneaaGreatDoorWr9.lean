/-
WriteRequest and WriteResponse, the program's and the reference's.
-/
import Derived.Test.YtppajpchibkneaaGreatDoorWr5
import Derived.Test.YtppajpchibkneaaGreatDoorWRb
set_option linter.unusedVariables false
set_option linter.unusedSimpArgs false
namespace Go.Proofs.YtppajpchibkneaaGreatDoor
open Go.RowKit

set_option maxRecDepth 100000 in
set_option maxHeartbeats 4000000 in
theorem rhTarget_c (l : List UInt8) (hs : l.length ≤ maxLen) (w : World) :
    Calls Tryz.prog 24 #[.string (str l)] w (Gives (.bool (tgH l)) w) := by
  unfold maxLen at hs
  obtain ⟨R, hR⟩ : ∃ R, R = tgH l := ⟨_, rfl⟩
  rw [← hR]
  have HR := Lib.hid hR
  clear hR
  go_enter Tryz.func24, Tryz.ntmps24
  go_wp2
  go_loopw [3] (fun i wr => ∃ k : Nat, i = .int .i64 (k : Int) ∧ k ≤ l.length ∧ (∀ j (hj : j < l.length), j < k → tgB l[j] = true) ∧ Ext w wr) (fun i _ => l.length - (intOf i).toNat)
  case atStart => exact ⟨0, rfl, Nat.zero_le _, fun j _ h => by omega, Ext.rfl' _⟩
  case round =>
    obtain ⟨k, rfl, hk, hno, hx⟩ := hrel
    have HNO := Lib.hid hno
    clear hno
    by_cases hlt : k < l.length
    · have h256 := UInt8.toNat_lt l[k]
      have hk0 : (0 : Int) ≤ (k : Int) := by omega
      have hk1 : (k : Int) < (l.length : Int) := by omega
      have HT := Lib.hid (fun hb => tg_no hlt hb)
      have HD := Lib.hid (show tgB l[k] = (decide (32 < l[k].toNat) && decide (l[k].toNat < 127)) from rfl)
      obtain ⟨b, hb⟩ : ∃ b, b = l[k].toNat := ⟨_, rfl⟩
      have HB := Lib.hid hb
      rw [← hb] at h256
      have hg := hb.symm
      clear hb
      by_cases c1 : b < 33
      · have c2 : (b : Int) < 33 := by omega
        have HV := Lib.hid (show R = false by rw [HR.out]; exact HT.out (by rw [HD.out, ← HB.out, decide_eq_false (by omega)]; rfl))
        go_wp2
        go_ret
        exact ⟨ret_bool HV.out.symm, hx⟩
      · have c2 : ¬ (b : Int) < 33 := by omega
        by_cases c3 : 126 < b
        · have c4 : (126 : Int) < (b : Int) := by omega
          have HV := Lib.hid (show R = false by rw [HR.out]; exact HT.out (by rw [HD.out, ← HB.out, decide_eq_true (by omega), decide_eq_false (by omega)]; rfl))
          go_wp2
          go_ret
          exact ⟨ret_bool HV.out.symm, hx⟩
        · have c4 : ¬ (126 : Int) < (b : Int) := by omega
          have HV := Lib.hid (show tgB l[k] = true by rw [HD.out, ← HB.out, decide_eq_true (by omega), decide_eq_true (by omega)]; rfl)
          go_wp2
          go_roundw
          case rel => exact ⟨k + 1, by go_num, by omega, fun j hj h2 => (by
            rcases Nat.lt_or_ge j k with h3 | h3
            · exact HNO.out j hj h3
            · obtain rfl : j = k := by omega
              exact HV.out), hx⟩
          case measure => simp [intOf]; omega
    · have hk1 : ¬ (k : Int) < (l.length : Int) := by omega
      have hall := tg_all (fun j hj => HNO.out j hj (by omega))
      by_cases h0 : l = []
      · have HV := Lib.hid (show R = false by rw [HR.out, h0]; rfl)
        subst h0
        have hk0 : k = 0 := by simpa using hk
        subst hk0
        clear hk1 hlt hk hall
        rw [show str ([] : List UInt8) = ⟨#[]⟩ from rfl]
        go_wp2
        go_ret
        exact ⟨ret_bool HV.out.symm, hx⟩
      · have HV := Lib.hid (show R = true by rw [HR.out]; unfold tgH; rw [hall]; simp [h0])
        have e1 : l.isEmpty = false := by rw [List.isEmpty_eq_false_iff]; exact h0
        have e2 : (str l).toList.isEmpty = false := by rw [Lib.toList_data]; exact e1
        clear hall h0
        go_wp2
        go_ret
        exact ⟨ret_bool HV.out.symm, hx⟩
/-- A request as bytes, or why not. -/
def rqF (m t : List UInt8) (mi : Int) : List UInt8 := m ++ (32 :: (t ++ ([32, 72, 84, 84, 80, 47, 49, 46] ++ Lib.itoa mi)))
def rqW (m t : List UInt8) (mi : Int) (fs : List Fld) : List UInt8 × Int :=
  if (tokL m && decide (m.length ≤ 32) && tgH t && decide (0 ≤ mi) && decide (mi ≤ 9)) = true then wrH (rqF m t mi) fs else ([], 43)
/-- A response as bytes, or why not. -/
def rsF (st : Int) : List UInt8 := [72, 84, 84, 80, 47, 49, 46, 49, 32] ++ (Lib.itoa st ++ (32 :: reaL st))
def rsW (st : Int) (fs : List Fld) : List UInt8 × Int := if 100 ≤ st ∧ st ≤ 599 then wrH (rsF st) fs else ([], 43)
theorem rqW_no {m t : List UInt8} {mi : Int} {fs : List Fld} (h : (tokL m && decide (m.length ≤ 32) && tgH t && decide (0 ≤ mi) && decide (mi ≤ 9)) = false) : rqW m t mi fs = ([], 43) := by
  unfold rqW; rw [h]; rfl
theorem itoa_small : ∀ (mi : Int), 0 ≤ mi → mi ≤ 9 → (Lib.itoa mi).length = 1 := by
  intro mi h0 h1
  have : ∀ k : Fin 10, (Lib.itoa ((k.val : Nat) : Int)).length = 1 := by decide +kernel
  have h2 := this ⟨mi.toNat, by omega⟩
  have h3 : ((mi.toNat : Nat) : Int) = mi := by omega
  rw [h3] at h2
  exact h2
set_option maxRecDepth 100000 in
set_option maxHeartbeats 4000000 in
theorem hWriteReq_c (m t : List UInt8) (mi : Int) (fs : List Fld) (A : Option Addr) (n c : Nat) (hn : fs.length = n) (hb : n ≤ 8796093022206) (hm : m.length ≤ 140737488351232) (ht : t.length ≤ 140737488351232) (hsz : ∀ p ∈ fs, p.1.length ≤ 140737488351232 ∧ p.2.length ≤ 140737488351232) (w : World) (h : Rd w A (fc fs)) (hP : Pow w) :
    Calls Tryz.prog 5 #[.agg #[.string (str m), .string (str t), .int .i64 mi, .slice A n c]] w (Ret (IsBy (rqW m t mi fs)) w) := by
  obtain ⟨R, hR⟩ : ∃ R, R = rqW m t mi fs := ⟨_, rfl⟩
  rw [← hR]
  have HR := Lib.hid hR
  clear hR
  have HP := Lib.hid hP
  have HA := Lib.hid h
  have CT := fun w => Token_h m (by unfold maxLen; omega) w
  have CG := fun w => hTarget_c t (by omega) w
  have NO := Lib.hid (fun (hf : (tokL m && decide (m.length ≤ 32) && tgH t && decide (0 ≤ mi) && decide (mi ≤ 9)) = false) => (show R = ([], 43) from by rw [HR.out]; exact rqW_no hf))
  clear hP h
  cases hvt : tokL m with
  | false =>
    rw [hvt] at CT
    have CT := Lib.hid CT
    have HV := Lib.hid (NO.out (by rw [hvt]; rfl))
    clear hvt
    go_enter Tryz.func5, Tryz.ntmps5
    go_wp2_with (first
      | (go_at_call 19; refine (CT.out _).mono ?_; rintro e w2 ⟨rfl, hx2⟩))
    go_ret2
    rw [HV.out]
    exact Ret.mk ⟨none, 0, rfl, .inl rfl⟩ (by (repeat (first | exact Ext.rfl' _ | assumption | refine Ext.dr ?_ | refine Ext.drN ?_ _ | refine Ext.al ?_ _ | refine Ext.st ?_ (by simp) _ | refine Ext.tr ?_ (by assumption))))
  | true =>
  rw [hvt] at CT
  have CT := Lib.hid CT
  by_cases c1 : 32 < m.length
  · have c2 : (32 : Int) < (m.length : Int) := by omega
    have HV := Lib.hid (NO.out (by rw [hvt, decide_eq_false (show ¬ m.length ≤ 32 by omega)]; rfl))
    clear hvt
    go_enter Tryz.func5, Tryz.ntmps5
    go_wp2_with (first
      | (go_at_call 19; refine (CT.out _).mono ?_; rintro e w2 ⟨rfl, hx2⟩; have t0 := hx2.new 0 _ rfl; have t1 := hx2.new 1 _ rfl; have t2 := hx2.new 2 _ rfl))
    go_ret2
    rw [HV.out]
    exact Ret.mk ⟨none, 0, rfl, .inl rfl⟩ (by (repeat (first | exact Ext.rfl' _ | assumption | refine Ext.dr ?_ | refine Ext.drN ?_ _ | refine Ext.al ?_ _ | refine Ext.st ?_ (by simp) _ | refine Ext.tr ?_ (by assumption))))
  have c2 : ¬ (32 : Int) < (m.length : Int) := by omega
  have d1 : decide (m.length ≤ 32) = true := decide_eq_true (by omega)
  rw [hvt, d1] at NO
  cases hvg : tgH t with
  | false =>
    rw [hvg] at CG
    have CG := Lib.hid CG
    have HV := Lib.hid (NO.out (by rw [hvg]; rfl))
    clear hvt hvg d1
    go_enter Tryz.func5, Tryz.ntmps5
    go_wp2_with (first
      | (go_at_call 19; refine (CT.out _).mono ?_; rintro e w2 ⟨rfl, hx2⟩; have t0 := hx2.new 0 _ rfl; have t1 := hx2.new 1 _ rfl; have t2 := hx2.new 2 _ rfl)
      | (go_at_call 20; refine (CG.out _).mono ?_; rintro e w3 ⟨rfl, hx3⟩))
    go_ret2
    rw [HV.out]
    exact Ret.mk ⟨none, 0, rfl, .inl rfl⟩ (by (repeat (first | exact Ext.rfl' _ | assumption | refine Ext.dr ?_ | refine Ext.drN ?_ _ | refine Ext.al ?_ _ | refine Ext.st ?_ (by simp) _ | refine Ext.tr ?_ (by assumption))))
  | true =>
  rw [hvg] at CG
  have CG := Lib.hid CG
  rw [hvg] at NO
  by_cases c3 : mi < 0
  · have HV := Lib.hid (NO.out (by rw [decide_eq_false (show ¬ 0 ≤ mi by omega)]; rfl))
    clear hvt hvg d1
    go_enter Tryz.func5, Tryz.ntmps5
    go_wp2_with (first
      | (go_at_call 19; refine (CT.out _).mono ?_; rintro e w2 ⟨rfl, hx2⟩; have t0 := hx2.new 0 _ rfl; have t1 := hx2.new 1 _ rfl; have t2 := hx2.new 2 _ rfl)
      | (go_at_call 20; refine (CG.out _).mono ?_; rintro e w3 ⟨rfl, hx3⟩; have g2 := (hx3.cell (lt_of_cell t2)).trans t2))
    go_ret2
    rw [HV.out]
    exact Ret.mk ⟨none, 0, rfl, .inl rfl⟩ (by (repeat (first | exact Ext.rfl' _ | assumption | refine Ext.dr ?_ | refine Ext.drN ?_ _ | refine Ext.al ?_ _ | refine Ext.st ?_ (by simp) _ | refine Ext.tr ?_ (by assumption))))
  have c4 : ¬ mi < 0 := c3
  by_cases c5 : 9 < mi
  · have HV := Lib.hid (NO.out (by rw [decide_eq_false (show ¬ mi ≤ 9 by omega)]; simp))
    clear hvt hvg d1
    go_enter Tryz.func5, Tryz.ntmps5
    go_wp2_with (first
      | (go_at_call 19; refine (CT.out _).mono ?_; rintro e w2 ⟨rfl, hx2⟩; have t0 := hx2.new 0 _ rfl; have t1 := hx2.new 1 _ rfl; have t2 := hx2.new 2 _ rfl)
      | (go_at_call 20; refine (CG.out _).mono ?_; rintro e w3 ⟨rfl, hx3⟩; have g2 := (hx3.cell (lt_of_cell t2)).trans t2))
    go_ret2
    rw [HV.out]
    exact Ret.mk ⟨none, 0, rfl, .inl rfl⟩ (by (repeat (first | exact Ext.rfl' _ | assumption | refine Ext.dr ?_ | refine Ext.drN ?_ _ | refine Ext.al ?_ _ | refine Ext.st ?_ (by simp) _ | refine Ext.tr ?_ (by assumption))))
  have HV := Lib.hid (show R = wrH (rqF m t mi) fs from by
    have h0 : rqW m t mi fs = wrH (rqF m t mi) fs := by
      unfold rqW
      rw [hvt, d1, hvg, decide_eq_true (show 0 ≤ mi by omega), decide_eq_true (show mi ≤ 9 by omega)]
      rfl
    rw [← h0]; exact HR.out)
  have hil := itoa_small mi (by omega) (by omega)
  have hfl : (rqF m t mi).length ≤ 140737488400000 := by unfold rqF; simp; omega
  have CW := fun w h => hWrite_c (rqF m t mi) fs A n c hn hb hfl hsz w h
  obtain ⟨s1, hs1⟩ : ∃ s, s = str (m ++ [32]) := ⟨_, rfl⟩
  obtain ⟨s2, hs2⟩ : ∃ s, s = str (m ++ [32] ++ t) := ⟨_, rfl⟩
  obtain ⟨s3, hs3⟩ : ∃ s, s = str (m ++ [32] ++ t ++ [32, 72, 84, 84, 80, 47, 49, 46]) := ⟨_, rfl⟩
  obtain ⟨s4, hs4⟩ : ∃ s, s = str (rqF m t mi) := ⟨_, rfl⟩
  obtain ⟨sd, hsd⟩ : ∃ s, s = decB mi := ⟨_, rfl⟩
  obtain ⟨sm, hsm⟩ : ∃ s, s = str m := ⟨_, rfl⟩
  obtain ⟨sx, hsx⟩ : ∃ s, s = str t := ⟨_, rfl⟩
  have hmz : sm.size = m.length := by rw [hsm]; exact str_size m
  have E1 : ∀ w, (Op.stringOp .add sm ⟨#[32]⟩).run Tryz.prog w = .ok (.string s1) w := fun w => by rw [hsm, hs1, cat_ok _ _ (by rw [str_size]; show m.length + 1 ≤ _; omega) w]; simp
  have E2 : ∀ w, (Op.stringOp .add s1 sx).run Tryz.prog w = .ok (.string s2) w := fun w => by rw [hsx, hs1, hs2, cat_ok _ _ (by rw [str_size, str_size]; simp; omega) w]; simp
  have E3 : ∀ w, (Op.stringOp .add s2 ⟨#[32, 72, 84, 84, 80, 47, 49, 46]⟩).run Tryz.prog w = .ok (.string s3) w := fun w => by rw [hs2, hs3, cat_ok _ _ (by rw [str_size]; show (m ++ [32] ++ t).length + 8 ≤ _; simp; omega) w]; simp
  have E4 : ∀ w, (Op.stringOp .add s3 sd).run Tryz.prog w = .ok (.string s4) w := fun w => by
    rw [hsd, hs3, hs4]
    unfold decB
    rw [cat_ok _ _ (by rw [str_size, str_size]; simp; omega) w]
    simp [rqF]
  have CD := Lib.hid (fun (w : World) (hP : Pow w) => (by have := Digits_c mi w hP (by omega) (by omega); rw [← hsd] at this; exact this : Calls Tryz.prog 22 #[.int .i64 mi] w (Gives (.string sd) w)))
  rw [← hs4] at CW
  rw [← hsm] at CT ⊢
  rw [← hsx] at CG ⊢
  have CW := Lib.hid CW
  have HMZ := Lib.hid hmz
  have c6 : ¬ (32 : Int) < (sm.size : Int) := by omega
  have hks := Lib.hid (fun w' (e : Ext (w.alloc (.cells #[.string sm, .string sx, .int .i64 mi, .slice A n c] 24)) w') => (show w'.cell? ⟨w.heap.size, 0, none⟩ = some (.string sm) ∧ w'.cell? ⟨w.heap.size, 1, none⟩ = some (.string sx) ∧ w'.cell? ⟨w.heap.size, 2, none⟩ = some (.int .i64 mi) ∧ w'.cell? ⟨w.heap.size, 3, none⟩ = some (.slice A n c) from ⟨e.new 0 _ rfl, e.new 1 _ rfl, e.new 2 _ rfl, e.new 3 _ rfl⟩))
  clear hvt hvg d1 hs1 hs2 hs3 hs4 hsd hsm hsx hmz hil hfl c1 c2 c3
  go_enter Tryz.func5, Tryz.ntmps5
  go_wp2_with (first
    | (go_at_call 19; refine (CT.out _).mono ?_; rintro e w2 ⟨rfl, hx2⟩; obtain ⟨t0, t1, t2, t3⟩ := hks.out w2 hx2)
    | (go_at_call 20; refine (CG.out _).mono ?_; rintro e w3 ⟨rfl, hx3⟩; have xx3 := hx2.tr hx3; obtain ⟨g0, g1, g2, g3⟩ := hks.out w3 xx3; clear t0 t1 t2 t3))
  go_region_held3 (fun w' => w'.cell? ⟨w.heap.size, 0, none⟩ = some (.string sm) ∧ w'.cell? ⟨w.heap.size, 1, none⟩ = some (.string sx) ∧ w'.cell? ⟨w.heap.size, 2, none⟩ = some (.int .i64 mi) ∧ w'.cell? ⟨w.heap.size, 3, none⟩ = some (.slice A n c)) (exact hks.out _ (xx3.tr (by (repeat (first | exact Ext.rfl' _ | assumption | refine Ext.dr ?_ | refine Ext.drN ?_ _ | refine Ext.al ?_ _ | refine Ext.st ?_ (by simp) _ | refine Ext.tr ?_ (by assumption)))))) (first
    | (go_at_call 22; refine (CD.out _ (HP.out.ext (Ext.tr ((Ext.rfl' w).al _) (xx3.tr (by (repeat (first | exact Ext.rfl' _ | assumption | refine Ext.dr ?_ | refine Ext.drN ?_ _ | refine Ext.al ?_ _ | refine Ext.st ?_ (by simp) _ | refine Ext.tr ?_ (by assumption)))))))).mono ?_; rintro e w5 ⟨rfl, hx5⟩)
    | (go_at_call 21; refine (CW.out _ (HA.out.ext (Ext.tr ((Ext.rfl' w).al _) (xx3.tr (by (repeat (first | exact Ext.rfl' _ | assumption | refine Ext.dr ?_ | refine Ext.drN ?_ _ | refine Ext.al ?_ _ | refine Ext.st ?_ (by simp) _ | refine Ext.tr ?_ (by assumption)))))))).mono ?_; rintro e w6 ⟨v, rfl, ⟨A6, c7, rfl, hr6⟩, hx6⟩))
  all_goals go_wp2
  all_goals (
    go_ret2
    rw [HV.out]
    exact Ret.mk ⟨A6, c7, rfl, hr6⟩ (Ext.tr ((Ext.rfl' w).al _) (xx3.tr (Ext.tr (by (repeat (first | exact Ext.rfl' _ | assumption | refine Ext.dr ?_ | refine Ext.drN ?_ _ | refine Ext.al ?_ _ | refine Ext.st ?_ (by simp) _ | refine Ext.tr ?_ (by assumption)))) hx6))))
set_option maxRecDepth 100000 in
set_option maxHeartbeats 4000000 in
theorem rhWriteReq_c (m t : List UInt8) (mi : Int) (fs : List Fld) (A : Option Addr) (n c : Nat) (hn : fs.length = n) (hb : n ≤ 8796093022206) (hm : m.length ≤ 140737488351232) (ht : t.length ≤ 140737488351232) (hsz : ∀ p ∈ fs, p.1.length ≤ 140737488351232 ∧ p.2.length ≤ 140737488351232) (w : World) (h : Rd w A (fc fs)) (hP : Pow w) :
    Calls Tryz.prog 6 #[.agg #[.string (str m), .string (str t), .int .i64 mi, .slice A n c]] w (Ret (IsBy (rqW m t mi fs)) w) := by
  obtain ⟨R, hR⟩ : ∃ R, R = rqW m t mi fs := ⟨_, rfl⟩
  rw [← hR]
  have HR := Lib.hid hR
  clear hR
  have HP := Lib.hid hP
  have HA := Lib.hid h
  have CT := fun w => rToken_h m (by unfold maxLen; omega) w
  have CG := fun w => rhTarget_c t (by unfold maxLen; omega) w
  have NO := Lib.hid (fun (hf : (tokL m && decide (m.length ≤ 32) && tgH t && decide (0 ≤ mi) && decide (mi ≤ 9)) = false) => (show R = ([], 43) from by rw [HR.out]; exact rqW_no hf))
  clear hP h
  cases hvt : tokL m with
  | false =>
    rw [hvt] at CT
    have CT := Lib.hid CT
    have HV := Lib.hid (NO.out (by rw [hvt]; rfl))
    clear hvt
    go_enter Tryz.func6, Tryz.ntmps6
    go_wp2_with (first
      | (go_at_call 23; refine (CT.out _).mono ?_; rintro e w2 ⟨rfl, hx2⟩))
    go_ret2
    rw [HV.out]
    exact Ret.mk ⟨none, 0, rfl, .inl rfl⟩ (by (repeat (first | exact Ext.rfl' _ | assumption | refine Ext.dr ?_ | refine Ext.drN ?_ _ | refine Ext.al ?_ _ | refine Ext.st ?_ (by simp) _ | refine Ext.tr ?_ (by assumption))))
  | true =>
  rw [hvt] at CT
  have CT := Lib.hid CT
  by_cases c1 : 32 < m.length
  · have c2 : (32 : Int) < (m.length : Int) := by omega
    have HV := Lib.hid (NO.out (by rw [hvt, decide_eq_false (show ¬ m.length ≤ 32 by omega)]; rfl))
    clear hvt
    go_enter Tryz.func6, Tryz.ntmps6
    go_wp2_with (first
      | (go_at_call 23; refine (CT.out _).mono ?_; rintro e w2 ⟨rfl, hx2⟩; have t0 := hx2.new 0 _ rfl; have t1 := hx2.new 1 _ rfl; have t2 := hx2.new 2 _ rfl))
    go_ret2
    rw [HV.out]
    exact Ret.mk ⟨none, 0, rfl, .inl rfl⟩ (by (repeat (first | exact Ext.rfl' _ | assumption | refine Ext.dr ?_ | refine Ext.drN ?_ _ | refine Ext.al ?_ _ | refine Ext.st ?_ (by simp) _ | refine Ext.tr ?_ (by assumption))))
  have c2 : ¬ (32 : Int) < (m.length : Int) := by omega
  have d1 : decide (m.length ≤ 32) = true := decide_eq_true (by omega)
  rw [hvt, d1] at NO
  cases hvg : tgH t with
  | false =>
    rw [hvg] at CG
    have CG := Lib.hid CG
    have HV := Lib.hid (NO.out (by rw [hvg]; rfl))
    clear hvt hvg d1
    go_enter Tryz.func6, Tryz.ntmps6
    go_wp2_with (first
      | (go_at_call 23; refine (CT.out _).mono ?_; rintro e w2 ⟨rfl, hx2⟩; have t0 := hx2.new 0 _ rfl; have t1 := hx2.new 1 _ rfl; have t2 := hx2.new 2 _ rfl)
      | (go_at_call 24; refine (CG.out _).mono ?_; rintro e w3 ⟨rfl, hx3⟩))
    go_ret2
    rw [HV.out]
    exact Ret.mk ⟨none, 0, rfl, .inl rfl⟩ (by (repeat (first | exact Ext.rfl' _ | assumption | refine Ext.dr ?_ | refine Ext.drN ?_ _ | refine Ext.al ?_ _ | refine Ext.st ?_ (by simp) _ | refine Ext.tr ?_ (by assumption))))
  | true =>
  rw [hvg] at CG
  have CG := Lib.hid CG
  rw [hvg] at NO
  by_cases c3 : mi < 0
  · have HV := Lib.hid (NO.out (by rw [decide_eq_false (show ¬ 0 ≤ mi by omega)]; rfl))
    clear hvt hvg d1
    go_enter Tryz.func6, Tryz.ntmps6
    go_wp2_with (first
      | (go_at_call 23; refine (CT.out _).mono ?_; rintro e w2 ⟨rfl, hx2⟩; have t0 := hx2.new 0 _ rfl; have t1 := hx2.new 1 _ rfl; have t2 := hx2.new 2 _ rfl)
      | (go_at_call 24; refine (CG.out _).mono ?_; rintro e w3 ⟨rfl, hx3⟩; have g2 := (hx3.cell (lt_of_cell t2)).trans t2))
    go_ret2
    rw [HV.out]
    exact Ret.mk ⟨none, 0, rfl, .inl rfl⟩ (by (repeat (first | exact Ext.rfl' _ | assumption | refine Ext.dr ?_ | refine Ext.drN ?_ _ | refine Ext.al ?_ _ | refine Ext.st ?_ (by simp) _ | refine Ext.tr ?_ (by assumption))))
  have c4 : ¬ mi < 0 := c3
  by_cases c5 : 9 < mi
  · have HV := Lib.hid (NO.out (by rw [decide_eq_false (show ¬ mi ≤ 9 by omega)]; simp))
    clear hvt hvg d1
    go_enter Tryz.func6, Tryz.ntmps6
    go_wp2_with (first
      | (go_at_call 23; refine (CT.out _).mono ?_; rintro e w2 ⟨rfl, hx2⟩; have t0 := hx2.new 0 _ rfl; have t1 := hx2.new 1 _ rfl; have t2 := hx2.new 2 _ rfl)
      | (go_at_call 24; refine (CG.out _).mono ?_; rintro e w3 ⟨rfl, hx3⟩; have g2 := (hx3.cell (lt_of_cell t2)).trans t2))
    go_ret2
    rw [HV.out]
    exact Ret.mk ⟨none, 0, rfl, .inl rfl⟩ (by (repeat (first | exact Ext.rfl' _ | assumption | refine Ext.dr ?_ | refine Ext.drN ?_ _ | refine Ext.al ?_ _ | refine Ext.st ?_ (by simp) _ | refine Ext.tr ?_ (by assumption))))
  have HV := Lib.hid (show R = wrH (rqF m t mi) fs from by
    have h0 : rqW m t mi fs = wrH (rqF m t mi) fs := by
      unfold rqW
      rw [hvt, d1, hvg, decide_eq_true (show 0 ≤ mi by omega), decide_eq_true (show mi ≤ 9 by omega)]
      rfl
    rw [← h0]; exact HR.out)
  have hil := itoa_small mi (by omega) (by omega)
  have hfl : (rqF m t mi).length ≤ 140737488400000 := by unfold rqF; simp; omega
  have CW := fun w h => rhLines_c (rqF m t mi) fs A n c hn hb hfl hsz w h
  obtain ⟨s1, hs1⟩ : ∃ s, s = str (m ++ [32]) := ⟨_, rfl⟩
  obtain ⟨s2, hs2⟩ : ∃ s, s = str (m ++ [32] ++ t) := ⟨_, rfl⟩
  obtain ⟨s3, hs3⟩ : ∃ s, s = str (m ++ [32] ++ t ++ [32, 72, 84, 84, 80, 47, 49, 46]) := ⟨_, rfl⟩
  obtain ⟨s4, hs4⟩ : ∃ s, s = str (rqF m t mi) := ⟨_, rfl⟩
  obtain ⟨sd, hsd⟩ : ∃ s, s = decB mi := ⟨_, rfl⟩
  obtain ⟨sm, hsm⟩ : ∃ s, s = str m := ⟨_, rfl⟩
  obtain ⟨sx, hsx⟩ : ∃ s, s = str t := ⟨_, rfl⟩
  have hmz : sm.size = m.length := by rw [hsm]; exact str_size m
  have E1 : ∀ w, (Op.stringOp .add sm ⟨#[32]⟩).run Tryz.prog w = .ok (.string s1) w := fun w => by rw [hsm, hs1, cat_ok _ _ (by rw [str_size]; show m.length + 1 ≤ _; omega) w]; simp
  have E2 : ∀ w, (Op.stringOp .add s1 sx).run Tryz.prog w = .ok (.string s2) w := fun w => by rw [hsx, hs1, hs2, cat_ok _ _ (by rw [str_size, str_size]; simp; omega) w]; simp
  have E3 : ∀ w, (Op.stringOp .add s2 ⟨#[32, 72, 84, 84, 80, 47, 49, 46]⟩).run Tryz.prog w = .ok (.string s3) w := fun w => by rw [hs2, hs3, cat_ok _ _ (by rw [str_size]; show (m ++ [32] ++ t).length + 8 ≤ _; simp; omega) w]; simp
  have E4 : ∀ w, (Op.stringOp .add s3 sd).run Tryz.prog w = .ok (.string s4) w := fun w => by
    rw [hsd, hs3, hs4]
    unfold decB
    rw [cat_ok _ _ (by rw [str_size, str_size]; simp; omega) w]
    simp [rqF]
  have CD := Lib.hid (fun (w : World) (hP : Pow w) => (by have := rDigits_c mi w (by omega) (by omega); rw [← hsd] at this; exact this : Calls Tryz.prog 26 #[.int .i64 mi] w (Gives (.string sd) w)))
  rw [← hs4] at CW
  rw [← hsm] at CT ⊢
  rw [← hsx] at CG ⊢
  have CW := Lib.hid CW
  have HMZ := Lib.hid hmz
  have c6 : ¬ (32 : Int) < (sm.size : Int) := by omega
  have hks := Lib.hid (fun w' (e : Ext (w.alloc (.cells #[.string sm, .string sx, .int .i64 mi, .slice A n c] 24)) w') => (show w'.cell? ⟨w.heap.size, 0, none⟩ = some (.string sm) ∧ w'.cell? ⟨w.heap.size, 1, none⟩ = some (.string sx) ∧ w'.cell? ⟨w.heap.size, 2, none⟩ = some (.int .i64 mi) ∧ w'.cell? ⟨w.heap.size, 3, none⟩ = some (.slice A n c) from ⟨e.new 0 _ rfl, e.new 1 _ rfl, e.new 2 _ rfl, e.new 3 _ rfl⟩))
  clear hvt hvg d1 hs1 hs2 hs3 hs4 hsd hsm hsx hmz hil hfl c1 c2 c3
  go_enter Tryz.func6, Tryz.ntmps6
  go_wp2_with (first
    | (go_at_call 23; refine (CT.out _).mono ?_; rintro e w2 ⟨rfl, hx2⟩; obtain ⟨t0, t1, t2, t3⟩ := hks.out w2 hx2)
    | (go_at_call 24; refine (CG.out _).mono ?_; rintro e w3 ⟨rfl, hx3⟩; have xx3 := hx2.tr hx3; obtain ⟨g0, g1, g2, g3⟩ := hks.out w3 xx3; clear t0 t1 t2 t3))
  go_region_held3 (fun w' => w'.cell? ⟨w.heap.size, 0, none⟩ = some (.string sm) ∧ w'.cell? ⟨w.heap.size, 1, none⟩ = some (.string sx) ∧ w'.cell? ⟨w.heap.size, 2, none⟩ = some (.int .i64 mi) ∧ w'.cell? ⟨w.heap.size, 3, none⟩ = some (.slice A n c)) (exact hks.out _ (xx3.tr (by (repeat (first | exact Ext.rfl' _ | assumption | refine Ext.dr ?_ | refine Ext.drN ?_ _ | refine Ext.al ?_ _ | refine Ext.st ?_ (by simp) _ | refine Ext.tr ?_ (by assumption)))))) (first
    | (go_at_call 26; refine (CD.out _ (HP.out.ext (Ext.tr ((Ext.rfl' w).al _) (xx3.tr (by (repeat (first | exact Ext.rfl' _ | assumption | refine Ext.dr ?_ | refine Ext.drN ?_ _ | refine Ext.al ?_ _ | refine Ext.st ?_ (by simp) _ | refine Ext.tr ?_ (by assumption)))))))).mono ?_; rintro e w5 ⟨rfl, hx5⟩)
    | (go_at_call 25; refine (CW.out _ (HA.out.ext (Ext.tr ((Ext.rfl' w).al _) (xx3.tr (by (repeat (first | exact Ext.rfl' _ | assumption | refine Ext.dr ?_ | refine Ext.drN ?_ _ | refine Ext.al ?_ _ | refine Ext.st ?_ (by simp) _ | refine Ext.tr ?_ (by assumption)))))))).mono ?_; rintro e w6 ⟨v, rfl, ⟨A6, c7, rfl, hr6⟩, hx6⟩))
  all_goals go_wp2
  all_goals (
    go_ret2
    rw [HV.out]
    exact Ret.mk ⟨A6, c7, rfl, hr6⟩ (Ext.tr ((Ext.rfl' w).al _) (xx3.tr (Ext.tr (by (repeat (first | exact Ext.rfl' _ | assumption | refine Ext.dr ?_ | refine Ext.drN ?_ _ | refine Ext.al ?_ _ | refine Ext.st ?_ (by simp) _ | refine Ext.tr ?_ (by assumption)))) hx6))))
end Go.Proofs.YtppajpchibkneaaGreatDoor
