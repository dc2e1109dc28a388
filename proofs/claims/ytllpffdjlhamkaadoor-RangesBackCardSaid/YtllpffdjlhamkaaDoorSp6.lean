/-
Parts that are sent in one are found again: RangesBack as a walk.
-/
import Derived.Test.YtllpffdjlhamkaaDoorSp5
import Derived.Test.YtllpffdjlhamkaaDoorMul8
import Derived.Test.YtllpffdjlhamkaaDoorRGb
set_option linter.unusedVariables false
set_option linter.unusedSimpArgs false
namespace Go.Proofs.YtllpffdjlhamkaaDoor
open Go.RowKit

theorem gh_plain (N : Nat) (h : N < 18446744073709551616) : plainL (ghL N) = true := by
  have h1 : (Lib.decDigits N).length ≤ 20 := by rw [Lib.decDigits_length]; exact Lib.nDigits_le20 N h
  have h2 : alL (Lib.decDigits N) = true := by
    unfold alL
    rw [List.all_eq_true]
    intro x hx
    have := List.all_eq_true.1 (decL_all N).1 x hx
    revert this
    unfold isDig alB
    revert x
    intro x _
    have := UInt8.toNat_lt x
    simp only [Bool.and_eq_true, Bool.or_eq_true, decide_eq_true_eq]
    intro h3
    unfold digV at h3
    split at h3 <;> omega
  unfold plainL ghL
  unfold alL at h2 ⊢
  rw [List.all_append, h2]
  simp [alB]
  omega
theorem res_good (ps : List (Int × Int)) (n : Int) (h : (resolveL ps n).2 = 0) : (∀ q ∈ (resolveL ps n).1, goodP n q) ∧ (resolveL ps n).1.length ≤ 16 := by
  unfold resolveL at h ⊢
  split
  · exact ⟨fun q hq => (by cases hq), by simp⟩
  · rename_i h1
    split
    · exact ⟨fun q hq => (by cases hq), by simp⟩
    · split
      · exact ⟨fun q hq => (by cases hq), by simp⟩
      · split
        · exact ⟨fun q hq => (by cases hq), by simp⟩
        · exact ⟨keep_good ps, by have := keep_len n ps; show (keepP n ps).length ≤ 16; omega⟩
theorem mp_cases (b kd bd : List UInt8) (ps : List (Int × Int)) (h : ∀ q ∈ ps, goodP b.length q) : (mpL b ps kd bd).2 ≠ 0 ∧ (mpL b ps kd bd).1 = [] ∨ ((mpL b ps kd bd) = (fullM b bd kd ps, 0) ∧ valueOk kd = true ∧ (fullM b bd kd ps).length ≤ 1048576) := by
  have h0 : okPs b.length ps := fun q hq => by have := h q hq; unfold goodP at this; unfold okPt; omega
  by_cases h1 : valueOk kd = true ∧ plainL bd = true
  · by_cases h2 : (fullM b bd kd ps).length ≤ 1048576
    · exact .inr ⟨mp_good h0 h1 h2, h1.1, h2⟩
    · rw [mp_big h0 h1 (by omega)]; exact .inl ⟨by decide, rfl⟩
  · rw [mp_arg h1]; exact .inl ⟨by decide, rfl⟩
set_option maxRecDepth 100000 in
set_option maxHeartbeats 8000000 in
theorem RangesBack_w (w : World) (hP : Pow w) (hE : ErrR w) (hM : Mx w) (b kd : List UInt8) (ps : List (Int × Int)) (B A : Option Addr) (n c m d : Nat) (hn : n = b.length) (hm : ps.length = m) (hmb : m ≤ 8796093022207) (hnb : n ≤ 140737488355328) (hnc : n ≤ c) (hB0 : B = none → c = 0) (hk : kd.length ≤ 140737488355328)
    (hB : Rd w B (bc b)) (hA : Rd w A (pc ps)) : Calls Tryd.prog 3 #[.slice B n c, .slice A m d, .string (str kd)] w (Gives (.bool true) w) := by
  have HP := Lib.hid (fun w' (e : Ext w w') => hP.ext e)
  have CK := Lib.hid (fun w' (e : Ext w w') => knows17_c w' (hP.ext e))
  obtain ⟨sK, hsK⟩ : ∃ s, s = str kd := ⟨_, rfl⟩
  have szK : sK.size = kd.length := by rw [hsK, str_size]
  rw [← hsK]
  have HSK := Lib.hid hsK
  clear hsK
  by_cases h1 : 20000 < n
  · have i1 : (20000 : Int) < (n : Int) := by omega
    clear hn hm
    go_enter Tryd.func3, Tryd.ntmps3
    go_wp2_with (first
      | (go_at_call 4; refine (CK.out _ (by (repeat (first | exact Ext.rfl' _ | assumption | refine Ext.dr ?_ | refine Ext.drN ?_ _ | refine Ext.al ?_ _ | refine Ext.st ?_ (by simp) _ | refine Ext.tr ?_ (by assumption))))).mono ?_; rintro e w1 ⟨rfl, hx1⟩))
    go_ret
    exact ⟨rfl, by (repeat (first | exact Ext.rfl' _ | assumption | refine Ext.dr ?_ | refine Ext.drN ?_ _ | refine Ext.al ?_ _ | refine Ext.st ?_ (by simp) _ | refine Ext.tr ?_ (by assumption)))⟩
  have i1 : ¬ (20000 : Int) < (n : Int) := by omega
  by_cases h2 : 1000 < kd.length
  · have i2 : (1000 : Int) < (kd.length : Int) := by omega
    clear hn hm
    go_enter Tryd.func3, Tryd.ntmps3
    go_wp2_with (first
      | (go_at_call 4; refine (CK.out _ (by (repeat (first | exact Ext.rfl' _ | assumption | refine Ext.dr ?_ | refine Ext.drN ?_ _ | refine Ext.al ?_ _ | refine Ext.st ?_ (by simp) _ | refine Ext.tr ?_ (by assumption))))).mono ?_; rintro e w1 ⟨rfl, hx1⟩))
    go_ret
    exact ⟨rfl, by (repeat (first | exact Ext.rfl' _ | assumption | refine Ext.dr ?_ | refine Ext.drN ?_ _ | refine Ext.al ?_ _ | refine Ext.st ?_ (by simp) _ | refine Ext.tr ?_ (by assumption)))⟩
  have i2 : ¬ (1000 : Int) < (kd.length : Int) := by omega
  have CS := Lib.hid (fun w' (e : Ext w w') => spans_c w' A m d ps hm (hA.ext e) hmb)
  have CR := fun w' A1 c1 (h : Rd w' A1 (pc ps)) => Resolve_c w' A1 m c1 ps (n : Int) hm (by simp only [maxLen]; omega) h (by omega) (by omega)
  have hrg := res_good ps (n : Int)
  obtain ⟨⟨qs, e0⟩, hqs⟩ : ∃ R, R = resolveL ps (n : Int) := ⟨_, rfl⟩
  rw [← hqs] at CR hrg
  unfold IsSlPN at CR
  dsimp only at CR hrg
  have CR := Lib.hid CR
  obtain ⟨NB, hNB, hfree, hall⟩ := free_num b (by omega)
  have CB := Lib.hid (fun w' (e : Ext w w') => Boundary_c b B n c NB hn hnc hB0 (by omega) (by rw [hn]; exact hNB) hfree hall w' (hM.ext e) (hP.ext e) (hB.ext e))
  have hpl := gh_plain NB (by omega)
  have hghl : (ghL NB).length ≤ 60 := by unfold plainL at hpl; simp at hpl; omega
  have hno : ¬ HasW b ([45, 45] ++ ghL NB) := hfree
  obtain ⟨bd, hbd⟩ : ∃ bd, bd = ghL NB := ⟨_, rfl⟩
  rw [← hbd] at CB hpl hghl hno
  obtain ⟨k, hkq⟩ : ∃ k, k = qs.length := ⟨_, rfl⟩
  rw [← hkq] at CR hrg
  have HRG := Lib.hid hrg
  have HKQ := Lib.hid hkq
  have HN := Lib.hid hn
  have HM := Lib.hid hm
  have HB := Lib.hid hB
  have HE := Lib.hid (fun w' (e : Ext w w') => hE.ext e)
  have HMX := Lib.hid (fun w' (e : Ext w w') => hM.ext e)
  have HPL := Lib.hid hpl
  have HNO := Lib.hid hno
  have hkb : kd.length ≤ 1048576 := by omega
  obtain ⟨sB, hsB⟩ : ∃ s, s = str bd := ⟨_, rfl⟩
  rw [← hsB] at CB
  have HSB := Lib.hid hsB
  clear hqs hrg hbd hfree hall hNB hpl hno hkq hn hm hB hA hsB hP hE hM
  by_cases he0 : e0 = 0
  · subst he0
    by_cases hk0 : k = 0
    · have z0 : ((k : Int) == 0) = true := by rw [beq_iff_eq]; omega
      go_enter Tryd.func3, Tryd.ntmps3
      go_wp2_with (first
        | (go_at_call 4; refine (CK.out _ (by (repeat (first | exact Ext.rfl' _ | assumption | refine Ext.dr ?_ | refine Ext.drN ?_ _ | refine Ext.al ?_ _ | refine Ext.st ?_ (by simp) _ | refine Ext.tr ?_ (by assumption))))).mono ?_; rintro e w1 ⟨rfl, hx1⟩)
        | (go_at_call 6; refine (CS.out _ (by (repeat (first | exact Ext.rfl' _ | assumption | refine Ext.dr ?_ | refine Ext.drN ?_ _ | refine Ext.al ?_ _ | refine Ext.st ?_ (by simp) _ | refine Ext.tr ?_ (by assumption))))).mono ?_; rintro e w2 ⟨v, rfl, ⟨A1, c1, rfl, hr1, _⟩, hx2⟩; rw [HM.out])
        | (go_at_call 5; refine (CR.out _ _ _ hr1).mono ?_; rintro e w3 ⟨v, rfl, ⟨A2, c2, rfl, hr2, _⟩, hx3⟩)
        | (go_at_call 7; refine (num17_c _ _).mono ?_; rintro e w4 ⟨rfl, rfl⟩))
      go_ret
      exact ⟨rfl, by (repeat (first | exact Ext.rfl' _ | assumption | refine Ext.dr ?_ | refine Ext.drN ?_ _ | refine Ext.al ?_ _ | refine Ext.st ?_ (by simp) _ | refine Ext.tr ?_ (by assumption)))⟩
    · have z0 : ((k : Int) == 0) = false := by rw [beq_eq_false_iff_ne]; omega
      obtain ⟨hgood, hk16⟩ := HRG.out rfl
      have hgood' : ∀ q ∈ qs, goodP b.length q := by rw [← HN.out]; exact hgood
      have CM := fun w' A2 c2 (e : Ext w w') (h : Rd w' A2 (pc qs)) => Multipart_c b qs kd bd B A2 n c k c2 HN.out HKQ.out.symm hnc (by have := HN.out; omega) (by omega) hkb (by omega) w' (HP.out w' e) (HB.out.ext e) h
      rw [← HSK.out, ← HSB.out] at CM
      have hmpc := mp_cases b kd bd qs hgood'
      obtain ⟨⟨mr, me⟩, hmr⟩ : ∃ R, R = mpL b qs kd bd := ⟨_, rfl⟩
      rw [← hmr] at CM hmpc
      unfold IsMP at CM
      dsimp only at CM hmpc
      have CM := Lib.hid CM
      clear hmr
      rcases hmpc with ⟨hme, rfl⟩ | ⟨hmr2, hvk, hfl⟩
      · have z1 : (me != 0) = true := by rw [bne_iff_ne]; exact hme
        clear hme
        go_enter Tryd.func3, Tryd.ntmps3
        go_wp2_with (first
          | (go_at_call 4; refine (CK.out _ (by (repeat (first | exact Ext.rfl' _ | assumption | refine Ext.dr ?_ | refine Ext.drN ?_ _ | refine Ext.al ?_ _ | refine Ext.st ?_ (by simp) _ | refine Ext.tr ?_ (by assumption))))).mono ?_; rintro e w1 ⟨rfl, hx1⟩)
          | (go_at_call 6; refine (CS.out _ (by (repeat (first | exact Ext.rfl' _ | assumption | refine Ext.dr ?_ | refine Ext.drN ?_ _ | refine Ext.al ?_ _ | refine Ext.st ?_ (by simp) _ | refine Ext.tr ?_ (by assumption))))).mono ?_; rintro e w2 ⟨v, rfl, ⟨A1, c1, rfl, hr1, _⟩, hx2⟩; rw [HM.out])
          | (go_at_call 5; refine (CR.out _ _ _ hr1).mono ?_; rintro e w3 ⟨v, rfl, ⟨A2, c2, rfl, hr2, _⟩, hx3⟩)
          | (go_at_call 7; refine (num17_c _ _).mono ?_; rintro e w4 ⟨rfl, rfl⟩)
          | (go_at_call 8; refine (CB.out _ (by (repeat (first | exact Ext.rfl' _ | assumption | refine Ext.dr ?_ | refine Ext.drN ?_ _ | refine Ext.al ?_ _ | refine Ext.st ?_ (by simp) _ | refine Ext.tr ?_ (by assumption))))).mono ?_; rintro e w5 ⟨rfl, hx5⟩)
          | (go_at_call 9; refine (CM.out _ _ _ (by (repeat (first | exact Ext.rfl' _ | assumption | refine Ext.dr ?_ | refine Ext.drN ?_ _ | refine Ext.al ?_ _ | refine Ext.st ?_ (by simp) _ | refine Ext.tr ?_ (by assumption)))) (hr2.ext (by (repeat (first | exact Ext.rfl' _ | assumption | refine Ext.dr ?_ | refine Ext.drN ?_ _ | refine Ext.al ?_ _ | refine Ext.st ?_ (by simp) _ | refine Ext.tr ?_ (by assumption)))))).mono ?_; rintro e w6 ⟨v, rfl, ⟨A6, c6, rfl, hr6⟩, hx6⟩))
        go_ret
        exact ⟨rfl, by (repeat (first | exact Ext.rfl' _ | assumption | refine Ext.dr ?_ | refine Ext.drN ?_ _ | refine Ext.al ?_ _ | refine Ext.st ?_ (by simp) _ | refine Ext.tr ?_ (by assumption)))⟩
      · injection hmr2 with hm1 hm2
        subst hm2
        rw [hm1] at CM
        obtain ⟨nM, hnM⟩ : ∃ nM, nM = (fullM b bd kd qs).length := ⟨_, rfl⟩
        rw [← hnM] at CM
        have CSp := fun w' A6 c6 (e : Ext w w') (h : Rd w' A6 (bc (fullM b bd kd qs))) => Split_c b bd kd qs hgood' hvk HPL.out HNO.out hfl (by have := HN.out; omega) A6 nM c6 hnM w' (HMX.out w' e) (HE.out w' e) (HP.out w' e) h
        unfold SplitV at CSp
        rw [← HSB.out, ← HKQ.out, if_neg hk0, ← HN.out] at CSp
        have CSp := Lib.hid CSp
        have CH1 := fun w' => has17_c kd bd (by omega) (by omega) w'
        rw [← HSK.out, ← HSB.out] at CH1
        have CH1 := Lib.hid CH1
        obtain ⟨sb, hsb⟩ : ∃ s, s = str b := ⟨_, rfl⟩
        obtain ⟨sM, hsM⟩ : ∃ s, s = str ([45, 45] ++ bd) := ⟨_, rfl⟩
        have cc1 : ∀ w, (Op.stringOp .add ⟨#[45, 45]⟩ sB).run Tryd.prog w = .ok (.string sM) w := fun w => by rw [HSB.out, hsM]; exact cat2 [45, 45] bd (by simp; omega) w
        have CH2 := fun w' => has17_c b ([45, 45] ++ bd) (by have := HN.out; omega) (by simp; omega) w'
        rw [← hsb, ← hsM] at CH2
        have CH2 := Lib.hid CH2
        have cvb := fun w' (e : Ext w w') => conv_bs (P := Tryd.prog) 22 9 5 Tryd.underlying22 Tryd.underlying5 Tryd.underlying9 (HB.out.ext e) n c HN.out
        rw [← hsb] at cvb
        have CVB := Lib.hid cvb
        have HNM := Lib.hid hnM
        have HGD := Lib.hid hgood'
        have hkk : ¬ k = 0 := hk0
        clear hm1 hnM hsb hsM cvb hgood' hgood hvk hfl
        go_enter Tryd.func3, Tryd.ntmps3
        go_upto_block 0 with (first
          | (go_at_call 4; refine (CK.out _ (by (repeat (first | exact Ext.rfl' _ | assumption | refine Ext.dr ?_ | refine Ext.drN ?_ _ | refine Ext.al ?_ _ | refine Ext.st ?_ (by simp) _ | refine Ext.tr ?_ (by assumption))))).mono ?_; rintro e w1 ⟨rfl, hx1⟩)
          | (go_at_call 6; refine (CS.out _ (by (repeat (first | exact Ext.rfl' _ | assumption | refine Ext.dr ?_ | refine Ext.drN ?_ _ | refine Ext.al ?_ _ | refine Ext.st ?_ (by simp) _ | refine Ext.tr ?_ (by assumption))))).mono ?_; rintro e w2 ⟨v, rfl, ⟨A1, c1, rfl, hr1, _⟩, hx2⟩; rw [HM.out])
          | (go_at_call 5; refine (CR.out _ _ _ hr1).mono ?_; rintro e w3 ⟨v, rfl, ⟨A2, c2, rfl, hr2, _⟩, hx3⟩)
          | (go_at_call 7; refine (num17_c _ _).mono ?_; rintro e w4 ⟨rfl, rfl⟩)
          | (go_at_call 8; refine (CB.out _ (by (repeat (first | exact Ext.rfl' _ | assumption | refine Ext.dr ?_ | refine Ext.drN ?_ _ | refine Ext.al ?_ _ | refine Ext.st ?_ (by simp) _ | refine Ext.tr ?_ (by assumption))))).mono ?_; rintro e w5 ⟨rfl, hx5⟩)
          | (go_at_call 9; refine (CM.out _ _ _ (by (repeat (first | exact Ext.rfl' _ | assumption | refine Ext.dr ?_ | refine Ext.drN ?_ _ | refine Ext.al ?_ _ | refine Ext.st ?_ (by simp) _ | refine Ext.tr ?_ (by assumption)))) (hr2.ext (by (repeat (first | exact Ext.rfl' _ | assumption | refine Ext.dr ?_ | refine Ext.drN ?_ _ | refine Ext.al ?_ _ | refine Ext.st ?_ (by simp) _ | refine Ext.tr ?_ (by assumption)))))).mono ?_; rintro e w6 ⟨v, rfl, ⟨A6, c6, rfl, hr6⟩, hx6⟩)
          | (go_at_call 10; refine (CSp.out _ _ _ (by (repeat (first | exact Ext.rfl' _ | assumption | refine Ext.dr ?_ | refine Ext.drN ?_ _ | refine Ext.al ?_ _ | refine Ext.st ?_ (by simp) _ | refine Ext.tr ?_ (by assumption)))) hr6).mono ?_; rintro e w7 ⟨v, rfl, ⟨P, cP, L, cL, vs, rfl, hrp, hrl, o, hv⟩, hx7⟩)
          | (go_at_call 11; refine (CH1.out _).mono ?_; rintro e w8 ⟨v, rfl, ⟨t, rfl, _⟩, hx8⟩; clear CH1))
        · go_ret
          exact ⟨rfl, by (repeat (first | exact Ext.rfl' _ | assumption | refine Ext.dr ?_ | refine Ext.drN ?_ _ | refine Ext.al ?_ _ | refine Ext.st ?_ (by simp) _ | refine Ext.tr ?_ (by assumption)))⟩
        have x8 : Ext w w8 := by (repeat (first | exact Ext.rfl' _ | assumption | refine Ext.dr ?_ | refine Ext.drN ?_ _ | refine Ext.al ?_ _ | refine Ext.st ?_ (by simp) _ | refine Ext.tr ?_ (by assumption)))
        have HRP := Lib.hid (hrp.ext hx8)
        have HRLx := Lib.hid (hrl.ext hx8)
        have HR2 := Lib.hid (hr2.ext (((hx5.tr hx6).tr hx7).tr hx8))
        have HV := Lib.hid hv
        have HX7 := Lib.hid hx8
        clear hrp hrl hr2 hv hr1 hr6 hx1 hx2 hx3 hx5 hx6 hx7 hx8
        go_wp2
        go_loopw [16] (fun v16 wr => ∃ i : Nat, i ≤ k ∧ v16 = .int .i64 (i : Int) ∧ Ext w8 wr) (fun v16 _ => k - (intOf v16).toNat)
        case atStart => exact ⟨0, Nat.zero_le _, rfl, by (repeat (first | exact Ext.rfl' _ | assumption | refine Ext.dr ?_ | refine Ext.drN ?_ _ | refine Ext.al ?_ _ | refine Ext.st ?_ (by simp) _ | refine Ext.tr ?_ (by assumption)))⟩
        case round =>
          obtain ⟨i, hi, rfl, hx⟩ := hrel
          by_cases hik : i < k
          · have hil : i < qs.length := by rw [← HKQ.out]; exact hik
            obtain ⟨b1, f1, rfl, hb1, hS1⟩ := HRLx.out.pair (k := i) hil
            obtain ⟨b2, f2, rfl, hb2, hS2⟩ := HR2.out.pair (k := i) hil
            obtain ⟨A', c', hv1, hv2, _⟩ := HV.out.2 i hil
            obtain ⟨b3, f3, rfl, hb3, hc3⟩ := HRP.out.at_ (by rw [HV.out.1]; omega)
            have t3 := hc3 i _ hv1
            have hgq := HGD.out _ (List.getElem_mem hil)
            obtain ⟨q, hq⟩ : ∃ q, q = qs[i] := ⟨_, rfl⟩
            rw [← hq] at hS1 hS2 t3 hv2 hgq
            obtain ⟨X, hX⟩ : ∃ X : Nat, q.1 = (X : Int) := ⟨q.1.toNat, by unfold goodP at hgq; omega⟩
            obtain ⟨Y, hY⟩ : ∃ Y : Nat, q.2 = (Y : Int) := ⟨q.2.toNat, by unfold goodP at hgq; omega⟩
            have hXY : X ≤ Y := by unfold goodP at hgq; omega
            have hYb : Y ≤ b.length := by unfold goodP at hgq; omega
            have hbm : bodyM b q = (b.take Y).drop X := by unfold bodyM; rw [hX, hY, Int.toNat_natCast, Int.toNat_natCast]
            rw [hX, hY] at hS1 hS2
            rw [hbm] at t3 hv2
            have hlb : ((b.take Y).drop X).length = Y - X := by rw [List.length_drop, List.length_take]; omega
            obtain ⟨B', hB', hBd⟩ := cut_part b B n c X Y w HB.out hXY hYb (by have := HN.out; omega)
            obtain ⟨body, hbody⟩ : ∃ z, z = (b.take Y).drop X := ⟨_, rfl⟩
            rw [← hbody] at t3 hv2 hlb hBd
            rw [hlb] at t3
            obtain ⟨L1, hL1⟩ : ∃ L1, L1 = Y - X := ⟨_, rfl⟩
            obtain ⟨cX, hcX⟩ : ∃ cX, cX = c - X := ⟨_, rfl⟩
            rw [← hL1] at t3 hlb
            rw [← hL1, ← hcX] at hB'
            have x8r : Ext w8 wr := hx
            have cvp := fun w' (e : Ext wr w') => conv_bs (P := Tryd.prog) 22 9 5 Tryd.underlying22 Tryd.underlying5 Tryd.underlying9 ((hv2.ext (HX7.out.tr x8r)).ext e) L1 c' hlb.symm
            have cvc := fun w' (e : Ext wr w') => conv_bs (P := Tryd.prog) 22 9 5 Tryd.underlying22 Tryd.underlying5 Tryd.underlying9 ((hBd.ext (x8.tr x8r)).ext e) L1 cX hlb.symm
            obtain ⟨sq, hsq⟩ : ∃ s, s = str body := ⟨_, rfl⟩
            rw [← hsq] at cvp cvc
            have F : Hid (∀ w', Ext wr w' → (w'.cell? ⟨b1, f1 + i * 2, none⟩ = some (.int .i64 (X : Int)) ∧ w'.cell? ⟨b1, f1 + i * 2 + 1, none⟩ = some (.int .i64 (Y : Int)) ∧ w'.cell? ⟨b2, f2 + i * 2, none⟩ = some (.int .i64 (X : Int)) ∧ w'.cell? ⟨b2, f2 + i * 2 + 1, none⟩ = some (.int .i64 (Y : Int)) ∧ w'.cell? ⟨b3, f3 + i, none⟩ = some (.slice A' L1 c') ∧ (convert 22 9 (.slice A' L1 c')).run Tryd.prog w' = .ok (.string sq) w' ∧ (convert 22 9 (.slice B' L1 cX)).run Tryd.prog w' = .ok (.string sq) w')) := Lib.hid fun w' e => by
              have g1 := hS1.out w' (x8r.tr e)
              have g2 := hS2.out w' (x8r.tr e)
              exact ⟨g1.1, g1.2, g2.1, g2.2, ((x8r.tr e).cell (p := ⟨b3, f3 + i, none⟩) hb3).trans t3, cvp w' e, cvc w' e⟩
            obtain ⟨u1, u2, u3, u4, u5, u6, u7⟩ := F.out wr (Ext.rfl' _)
            have k0 : (0 : Int) ≤ (i : Int) := by omega
            have k1 : (i : Int) < (k : Int) := by omega
            have k2 : (0 : Int) ≤ (X : Int) := by omega
            have k3 : (X : Int) ≤ (Y : Int) := by omega
            have k4 : (Y : Int) ≤ (c : Int) := by have := HN.out; omega
            clear hS1 hS2 hv1 hv2 hc3 t3 hgq hq hX hY hbm hbody hlb hL1 hcX hsq cvp cvc hBd
            go_wp2
            go_region_held3 (fun w' => w'.cell? ⟨b1, f1 + i * 2, none⟩ = some (.int .i64 (X : Int)) ∧ w'.cell? ⟨b1, f1 + i * 2 + 1, none⟩ = some (.int .i64 (Y : Int)) ∧ w'.cell? ⟨b2, f2 + i * 2, none⟩ = some (.int .i64 (X : Int)) ∧ w'.cell? ⟨b2, f2 + i * 2 + 1, none⟩ = some (.int .i64 (Y : Int)) ∧ w'.cell? ⟨b3, f3 + i, none⟩ = some (.slice A' L1 c') ∧ (convert 22 9 (.slice A' L1 c')).run Tryd.prog w' = .ok (.string sq) w' ∧ (convert 22 9 (.slice B' L1 cX)).run Tryd.prog w' = .ok (.string sq) w') (exact F.out _ (by (repeat (first | exact Ext.rfl' _ | assumption | refine Ext.dr ?_ | refine Ext.drN ?_ _ | refine Ext.al ?_ _ | refine Ext.st ?_ (by simp) _ | refine Ext.tr ?_ (by assumption))))) (fail)
            go_wp2
            go_roundw
            case rel => exact ⟨i + 1, by omega, by go_num, by (repeat (first | exact Ext.rfl' _ | assumption | refine Ext.dr ?_ | refine Ext.drN ?_ _ | refine Ext.al ?_ _ | refine Ext.st ?_ (by simp) _ | refine Ext.tr ?_ (by assumption)))⟩
            case measure => simp [intOf]; omega
          · obtain rfl : i = k := by omega
            have cv := CVB.out wr (x8.tr hx)
            go_wp2_with (first
              | (go_at_call 11; refine (CH2.out _).mono ?_; rintro e w9 ⟨v, rfl, ⟨t9, rfl, ht9⟩, hx9⟩; obtain rfl : t9 = false := (by cases t9; rfl; exact absurd (ht9 rfl) HNO.out)))
            go_ret
            exact ⟨rfl, by (repeat (first | exact Ext.rfl' _ | assumption | refine Ext.dr ?_ | refine Ext.drN ?_ _ | refine Ext.al ?_ _ | refine Ext.st ?_ (by simp) _ | refine Ext.tr ?_ (by assumption)))⟩
  · have z1 : (e0 != 0) = true := by rw [bne_iff_ne]; exact he0
    clear he0
    go_enter Tryd.func3, Tryd.ntmps3
    go_wp2_with (first
      | (go_at_call 4; refine (CK.out _ (by (repeat (first | exact Ext.rfl' _ | assumption | refine Ext.dr ?_ | refine Ext.drN ?_ _ | refine Ext.al ?_ _ | refine Ext.st ?_ (by simp) _ | refine Ext.tr ?_ (by assumption))))).mono ?_; rintro e w1 ⟨rfl, hx1⟩)
      | (go_at_call 6; refine (CS.out _ (by (repeat (first | exact Ext.rfl' _ | assumption | refine Ext.dr ?_ | refine Ext.drN ?_ _ | refine Ext.al ?_ _ | refine Ext.st ?_ (by simp) _ | refine Ext.tr ?_ (by assumption))))).mono ?_; rintro e w2 ⟨v, rfl, ⟨A1, c1, rfl, hr1, _⟩, hx2⟩; rw [HM.out])
      | (go_at_call 5; refine (CR.out _ _ _ hr1).mono ?_; rintro e w3 ⟨v, rfl, ⟨A2, c2, rfl, hr2, _⟩, hx3⟩)
      | (go_at_call 7; refine (num17_c _ _).mono ?_; rintro e w4 ⟨rfl, rfl⟩))
    go_ret
    exact ⟨rfl, by (repeat (first | exact Ext.rfl' _ | assumption | refine Ext.dr ?_ | refine Ext.drN ?_ _ | refine Ext.al ?_ _ | refine Ext.st ?_ (by simp) _ | refine Ext.tr ?_ (by assumption)))⟩
end Go.Proofs.YtllpffdjlhamkaaDoor
