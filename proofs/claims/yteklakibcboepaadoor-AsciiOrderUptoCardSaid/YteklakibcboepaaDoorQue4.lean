/-
The law AsciiOrder as a walk: it answers true.
-/
import Derived.Test.YteklakibcboepaaDoorQue3
set_option linter.unusedVariables false
set_option linter.unusedSimpArgs false
namespace Go.Proofs.YteklakibcboepaaDoor
open Go.RowKit

set_option maxRecDepth 100000 in
set_option maxHeartbeats 8000000 in
theorem AsciiOrder_w (W : World) (hE : ErrR W) (A B : Option Addr) (n m c d : Nat) (ps : List (List UInt8)) (ts : List Int) (hn : n = ps.length) (hm : m = ts.length) (hA : RdBB W A ps) (hB : Rd W B (ic ts))
    (htot : totS ps ≤ 1099511627776) (hnm : n ≤ 1099511627776) (hmm : m ≤ 1099511627776) (hts : ∀ t ∈ ts, -9223372036854775808 ≤ t ∧ t ≤ 9223372036854775807) :
    Calls Tryd.prog 10 #[.slice A n c, .slice B m d] W (Gives (.bool true) W) := by
  subst hn hm
  have HE := Lib.hid hE
  clear hE
  have hms : maxLen = 9223372036854775807 := rfl
  obtain ⟨lim, hlim⟩ : ∃ lim : Nat, lim = 1048576 := ⟨_, rfl⟩
  have hli : (lim : Int) = 1048576 := by omega
  have NQ := NewQueue_c 1 lim (by omega) (by omega)
  rw [hli] at NQ
  have HLI := Lib.hid hli
  have HLM := Lib.hid hlim
  clear hli hlim
  go_enter Tryd.func10, Tryd.ntmps10
  go_wp2_with (first
    | (go_at_call 49; refine (NQ W (fun _ => 0)).mono ?_; rintro e w1 ⟨v, o1, rfl, ⟨p, rfl, hq1, hp⟩, hst1⟩)
    | (go_at_call 44; refine (num01_c _ _).mono ?_; rintro e w2 ⟨rfl, rfl⟩)
    | (go_at_call 30; refine (knows01_c _ (HE.out.ext hst1.noExt)).mono ?_; rintro e w3 ⟨rfl, hx3⟩))
  go_loopw [7, 8, 9] (fun vi vo vk wr => ∃ k : Nat, vk = .int .i64 (k : Int) ∧ k ≤ max ps.length ts.length ∧ OrdAt lim W wr p vi vo (totS (ps.take k))) (fun _ _ vk _ => max ps.length ts.length - (intOf vk).toNat)
  case atStart => exact ⟨0, rfl, Nat.zero_le _, o1, [], [], [], IsB.nil_ _ _ _, IsB.nil_ _ _ _, hq1.ext hx3, rfl, Nat.zero_le _, (hst1.mono fun _ x => x.elim).tr (Stp.ext hx3)⟩
  case round =>
    clear NQ hq1 hst1 hx3
    obtain ⟨k, rfl, hk, hat⟩ := hrel
    have hext := hat.toExt
    have htk := totS_le ps (k + 1)
    have htk0 := totS_le ps k
    by_cases hp1 : k < ps.length
    · obtain ⟨o2, lin, lout, lq, ⟨Ai, ci, rfl, hsi, hni⟩, ⟨Ao, co, rfl, hso, hno⟩, hq, heq, hle, hst⟩ := hat
      have hki : (k : Int) + 1 ≤ 9223372036854775807 := by omega
      obtain ⟨b, f, D, dd, rfl, hb, hS, hR⟩ := hA.row hp1
      have a0 := hS.out wr hext
      have hbw := hext.lt hb
      have htk1 := totS_succ ps k hp1
      obtain ⟨P, hP⟩ : ∃ P, P = ps[k] := ⟨_, rfl⟩
      have hS' : Hid (∀ w', Ext W w' → w'.cell? ⟨b, f + k, none⟩ = some (.slice D P.length dd)) := by rw [hP]; exact hS
      rw [← hP] at a0 hR htk1
      have hPl : P.length ≤ 1099511627776 := by omega
      have hp1' : (k : Int) < (ps.length : Int) := by omega
      have hk0 : (0 : Int) ≤ (k : Int) := by omega
      have HR := Lib.hid hR
      have HQ := Lib.hid hq
      have HI := Lib.hid hsi
      have HT := Lib.hid hst
      have hlin : lin.length ≤ 1099511627776 := by omega
      clear hS hR hq hsi hP
      by_cases hfit : P.length ≤ lim - lq.length
      · have e0 : putE lim lq P = 0 := if_pos hfit
        have e1 : putL lim lq P = lq ++ P := if_pos hfit
        by_cases hp2 : k < ts.length
        · obtain ⟨b', f', rfl, hb', hS9⟩ := hB.num hp2
          have ht9 := hts _ (List.getElem_mem hp2)
          obtain ⟨t, ht⟩ : ∃ t, t = ts[k] := ⟨_, rfl⟩
          rw [← ht] at hS9 ht9
          have hp2' : (k : Int) < (ts.length : Int) := by omega
          have ht90 := ht9.1
          have ht91 := ht9.2
          have hlo9 : lout.length ≤ 1099511627776 := by have := congrArg List.length heq; rw [List.length_append] at this; omega
          clear ht ht9
          have HL := Lib.hid heq
          clear heq
          go_wp2_with (first
            | (at_builtin; refine wpL_fresh slt_u8 (.tmp 44) (.tmp 48) rfl rfl (o := o2) 5 rfl rfl (Sl.src Tryd.underlying44 (HR.out.ext (hext.tr (by (repeat (first | exact Ext.rfl' _ | assumption | refine Ext.dr ?_ | refine Ext.drN ?_ _ | refine Ext.al ?_ _ | refine Ext.st ?_ (by simp) _ | refine Ext.tr ?_ (by assumption)))))) (by simp) (by omega) (bc_one _) dd) (by omega) (by omega) ?_; intro A5 c5 w5 o5 hs5 hst5 hn5; have st5 : Stp (fun _ => False) wr o2 w5 o5 := (Stp.ext (by (repeat (first | exact Ext.rfl' _ | assumption | refine Ext.dr ?_ | refine Ext.drN ?_ _ | refine Ext.al ?_ _ | refine Ext.st ?_ (by simp) _ | refine Ext.tr ?_ (by assumption))))).tr hst5; have q5 := HQ.out.stp st5 (fun x => x) (fun x => x))
            | (go_at_call 50; refine (qPut_c 1 p lim lq P A5 _ c5 rfl w5 o5 q5 hs5.rd (by omega)).mono ?_; rintro e w6 ⟨v6, o6, rfl, ⟨rfl, hq6⟩, hst6⟩; rw [e0]; rw [e1] at hq6; have st6 : Stp (KQ 1) wr o2 w6 o6 := (st5.mono (fun _ x => x.elim)).tr hst6; have hx6 : Ext W w6 := (HT.out.tr (st6.mono (fun i hi => by unfold KQ at hi; omega))).toExt (fun _ _ h => h rfl); have a6 := hS'.out w6 hx6; have hs6 := HI.out.stp st6 (by unfold KQ; omega); have hso6 := hso.stp st6 (by unfold KQ; omega); try have a96 := hS9.out w6 hx6)
            | (go_at_call 44; refine (num01_c _ _).mono ?_; rintro e w2 ⟨rfl, rfl⟩)
            | (at_builtin; refine wpL_put slt_u8 (.tmp 54) (.tmp 58) rfl rfl rfl rfl hs6 hni (Sl.src Tryd.underlying44 (HR.out.ext hx6) (by simp) (by omega) (bc_one _) dd) (by omega) (by omega) ?_; intro A7 c7 w7 o7 hs7 hst7 hn7; have st7 : Stp (fun i => i ≠ 0) wr o2 w7 o7 := (st6.mono (fun i hi => by unfold KQ at hi; omega)).tr (hst7.mono (fun i hi => by omega)); try have a97 := hS9.out w7 ((HT.out.tr st7).toExt (fun _ _ h => h rfl)))
            )
          have hin9 : IsB 3 (lin ++ P) (.slice A7 (lin.length + P.length) c7) w7 o7 := ⟨A7, c7, by rw [List.length_append], by rw [List.length_append, bc_app]; exact hs7, hn7⟩
          have hso9 := hso6.stp hst7 (by omega)
          have hq9 := hq6.stp hst7 (by omega) (by omega)
          have heq9 : lin ++ P = lout ++ (lq ++ P) := by rw [HL.out, List.append_assoc]
          have hle9 : (lin ++ P).length ≤ totS (ps.take (k + 1)) := by rw [List.length_append, htk1]; omega
          have hst9 := HT.out.tr st7
          clear hs7 hs6 hso6 hq6
          obtain ⟨T9, hT9⟩ : ∃ T, T = ((lq ++ P)).take t.toNat := ⟨_, rfl⟩
          obtain ⟨D9, hD9⟩ : ∃ T, T = ((lq ++ P)).drop t.toNat := ⟨_, rfl⟩
          have hTD : (lq ++ P) = T9 ++ D9 := by rw [hT9, hD9, List.take_append_drop]
          have hT9l : T9.length ≤ 1048576 := by
            have h1 := hq9.le
            have h2 := HLM.out
            have h3 : T9.length ≤ ((lq ++ P)).length := by rw [hT9, List.length_take]; omega
            omega
          have CT := qTake_c 5 1 p lim (by omega) ((lq ++ P)) t _ _ hq9 ht90 ht91
          rw [← hT9, ← hD9] at CT
          have CT := Lib.hid CT
          have HI9 := Lib.hid hin9
          have HO9 := Lib.hid hso9
          have HT9 := Lib.hid hst9
          have HE9 := Lib.hid heq9
          have HL9 := Lib.hid hle9
          have HTD := Lib.hid hTD
          clear hq9 hin9 hso9 hst9 heq9 hle9 hT9 hD9 hTD
          go_wp2_with (first
            | (go_at_call 51; refine CT.out.mono ?_; rintro e w10 ⟨v10, o10, rfl, ⟨⟨A10, c10, rfl, hs10, hn10⟩, hq10⟩, hst10⟩; have ho10 := HO9.out.stp hst10 (by omega))
            | (at_builtin; refine wpL_put slt_u8 (.tmp 64) (.tmp 70) rfl rfl rfl rfl ho10 hno (Sl.src Tryd.underlying44 hs10.rd (by simp) (by omega) (bc_one _) c10) (by omega) (by omega) ?_; intro A11 c11 w11 o11 hs11 hst11 hn11))
          go_roundw
          case rel =>
            exact ⟨k + 1, by go_num, by omega, o11, (lin ++ P), lout ++ T9, D9, (HI9.out.stp hst10 (by omega)).stp hst11 (by omega), ⟨A11, c11, by rw [List.length_append], by rw [List.length_append, bc_app]; exact hs11, hn11⟩, hq10.stp hst11 (by omega) (by omega), by rw [HE9.out, List.append_assoc, HTD.out], HL9.out, (HT9.out.tr (hst10.mono (fun i hi => by omega))).tr (hst11.mono (fun i hi => by omega))⟩
          case measure => simp [intOf]; omega
        · have hp2' : ¬ (k : Int) < (ts.length : Int) := by omega
          have HL := Lib.hid heq
          clear heq
          go_wp2_with (first
            | (at_builtin; refine wpL_fresh slt_u8 (.tmp 44) (.tmp 48) rfl rfl (o := o2) 5 rfl rfl (Sl.src Tryd.underlying44 (HR.out.ext (hext.tr (by (repeat (first | exact Ext.rfl' _ | assumption | refine Ext.dr ?_ | refine Ext.drN ?_ _ | refine Ext.al ?_ _ | refine Ext.st ?_ (by simp) _ | refine Ext.tr ?_ (by assumption)))))) (by simp) (by omega) (bc_one _) dd) (by omega) (by omega) ?_; intro A5 c5 w5 o5 hs5 hst5 hn5; have st5 : Stp (fun _ => False) wr o2 w5 o5 := (Stp.ext (by (repeat (first | exact Ext.rfl' _ | assumption | refine Ext.dr ?_ | refine Ext.drN ?_ _ | refine Ext.al ?_ _ | refine Ext.st ?_ (by simp) _ | refine Ext.tr ?_ (by assumption))))).tr hst5; have q5 := HQ.out.stp st5 (fun x => x) (fun x => x))
            | (go_at_call 50; refine (qPut_c 1 p lim lq P A5 _ c5 rfl w5 o5 q5 hs5.rd (by omega)).mono ?_; rintro e w6 ⟨v6, o6, rfl, ⟨rfl, hq6⟩, hst6⟩; rw [e0]; rw [e1] at hq6; have st6 : Stp (KQ 1) wr o2 w6 o6 := (st5.mono (fun _ x => x.elim)).tr hst6; have hx6 : Ext W w6 := (HT.out.tr (st6.mono (fun i hi => by unfold KQ at hi; omega))).toExt (fun _ _ h => h rfl); have a6 := hS'.out w6 hx6; have hs6 := HI.out.stp st6 (by unfold KQ; omega); have hso6 := hso.stp st6 (by unfold KQ; omega); try have a96 := hS9.out w6 hx6)
            | (go_at_call 44; refine (num01_c _ _).mono ?_; rintro e w2 ⟨rfl, rfl⟩)
            | (at_builtin; refine wpL_put slt_u8 (.tmp 54) (.tmp 58) rfl rfl rfl rfl hs6 hni (Sl.src Tryd.underlying44 (HR.out.ext hx6) (by simp) (by omega) (bc_one _) dd) (by omega) (by omega) ?_; intro A7 c7 w7 o7 hs7 hst7 hn7; have st7 : Stp (fun i => i ≠ 0) wr o2 w7 o7 := (st6.mono (fun i hi => by unfold KQ at hi; omega)).tr (hst7.mono (fun i hi => by omega)); try have a97 := hS9.out w7 ((HT.out.tr st7).toExt (fun _ _ h => h rfl)))
            )
          have hat9 : OrdAt lim W w7 p (.slice A7 (lin.length + P.length) c7) (.slice Ao lout.length co) (totS (ps.take (k + 1))) := ⟨o7, lin ++ P, lout, lq ++ P, ⟨A7, c7, by rw [List.length_append], by rw [List.length_append, bc_app]; exact hs7, hn7⟩, ⟨Ao, co, rfl, hso6.stp hst7 (by omega), hno⟩, hq6.stp hst7 (by omega) (by omega), by rw [HL.out, List.append_assoc], by rw [List.length_append, htk1]; omega, HT.out.tr st7⟩
          go_roundw
          case rel => exact ⟨k + 1, by go_num, by omega, hat9⟩
          case measure => simp [intOf]; omega
      · have e0 : putE lim lq P = 6 := if_neg hfit
        have e1 : putL lim lq P = lq := if_neg hfit
        by_cases hp2 : k < ts.length
        · obtain ⟨b', f', rfl, hb', hS9⟩ := hB.num hp2
          have ht9 := hts _ (List.getElem_mem hp2)
          obtain ⟨t, ht⟩ : ∃ t, t = ts[k] := ⟨_, rfl⟩
          rw [← ht] at hS9 ht9
          have hp2' : (k : Int) < (ts.length : Int) := by omega
          have ht90 := ht9.1
          have ht91 := ht9.2
          have hlo9 : lout.length ≤ 1099511627776 := by have := congrArg List.length heq; rw [List.length_append] at this; omega
          clear ht ht9
          have HL := Lib.hid heq
          clear heq
          go_wp2_with (first
            | (at_builtin; refine wpL_fresh slt_u8 (.tmp 44) (.tmp 48) rfl rfl (o := o2) 5 rfl rfl (Sl.src Tryd.underlying44 (HR.out.ext (hext.tr (by (repeat (first | exact Ext.rfl' _ | assumption | refine Ext.dr ?_ | refine Ext.drN ?_ _ | refine Ext.al ?_ _ | refine Ext.st ?_ (by simp) _ | refine Ext.tr ?_ (by assumption)))))) (by simp) (by omega) (bc_one _) dd) (by omega) (by omega) ?_; intro A5 c5 w5 o5 hs5 hst5 hn5; have st5 : Stp (fun _ => False) wr o2 w5 o5 := (Stp.ext (by (repeat (first | exact Ext.rfl' _ | assumption | refine Ext.dr ?_ | refine Ext.drN ?_ _ | refine Ext.al ?_ _ | refine Ext.st ?_ (by simp) _ | refine Ext.tr ?_ (by assumption))))).tr hst5; have q5 := HQ.out.stp st5 (fun x => x) (fun x => x))
            | (go_at_call 50; refine (qPut_c 1 p lim lq P A5 _ c5 rfl w5 o5 q5 hs5.rd (by omega)).mono ?_; rintro e w6 ⟨v6, o6, rfl, ⟨rfl, hq6⟩, hst6⟩; rw [e0]; rw [e1] at hq6; have st6 : Stp (KQ 1) wr o2 w6 o6 := (st5.mono (fun _ x => x.elim)).tr hst6; have hx6 : Ext W w6 := (HT.out.tr (st6.mono (fun i hi => by unfold KQ at hi; omega))).toExt (fun _ _ h => h rfl); have a6 := hS'.out w6 hx6; have hs6 := HI.out.stp st6 (by unfold KQ; omega); have hso6 := hso.stp st6 (by unfold KQ; omega); try have a96 := hS9.out w6 hx6)
            | (go_at_call 44; refine (num01_c _ _).mono ?_; rintro e w2 ⟨rfl, rfl⟩)
            | (at_builtin; refine wpL_put slt_u8 (.tmp 54) (.tmp 58) rfl rfl rfl rfl hs6 hni (Sl.src Tryd.underlying44 (HR.out.ext hx6) (by simp) (by omega) (bc_one _) dd) (by omega) (by omega) ?_; intro A7 c7 w7 o7 hs7 hst7 hn7; have st7 : Stp (fun i => i ≠ 0) wr o2 w7 o7 := (st6.mono (fun i hi => by unfold KQ at hi; omega)).tr (hst7.mono (fun i hi => by omega)); try have a97 := hS9.out w7 ((HT.out.tr st7).toExt (fun _ _ h => h rfl)))
            )
          have hin9 : IsB 3 lin (.slice Ai lin.length ci) w6 o6 := ⟨Ai, ci, rfl, hs6, hni⟩
          have hso9 := hso6
          have hq9 := hq6
          have heq9 := HL.out
          have hle9 : lin.length ≤ totS (ps.take (k + 1)) := by omega
          have hst9 := HT.out.tr (st6.mono (fun i hi => by unfold KQ at hi; omega))
          clear hs6 hso6 hq6
          obtain ⟨T9, hT9⟩ : ∃ T, T = (lq).take t.toNat := ⟨_, rfl⟩
          obtain ⟨D9, hD9⟩ : ∃ T, T = (lq).drop t.toNat := ⟨_, rfl⟩
          have hTD : lq = T9 ++ D9 := by rw [hT9, hD9, List.take_append_drop]
          have hT9l : T9.length ≤ 1048576 := by
            have h1 := hq9.le
            have h2 := HLM.out
            have h3 : T9.length ≤ (lq).length := by rw [hT9, List.length_take]; omega
            omega
          have CT := qTake_c 5 1 p lim (by omega) (lq) t _ _ hq9 ht90 ht91
          rw [← hT9, ← hD9] at CT
          have CT := Lib.hid CT
          have HI9 := Lib.hid hin9
          have HO9 := Lib.hid hso9
          have HT9 := Lib.hid hst9
          have HE9 := Lib.hid heq9
          have HL9 := Lib.hid hle9
          have HTD := Lib.hid hTD
          clear hq9 hin9 hso9 hst9 heq9 hle9 hT9 hD9 hTD
          go_wp2_with (first
            | (go_at_call 51; refine CT.out.mono ?_; rintro e w10 ⟨v10, o10, rfl, ⟨⟨A10, c10, rfl, hs10, hn10⟩, hq10⟩, hst10⟩; have ho10 := HO9.out.stp hst10 (by omega))
            | (at_builtin; refine wpL_put slt_u8 (.tmp 64) (.tmp 70) rfl rfl rfl rfl ho10 hno (Sl.src Tryd.underlying44 hs10.rd (by simp) (by omega) (bc_one _) c10) (by omega) (by omega) ?_; intro A11 c11 w11 o11 hs11 hst11 hn11))
          go_roundw
          case rel =>
            exact ⟨k + 1, by go_num, by omega, o11, lin, lout ++ T9, D9, (HI9.out.stp hst10 (by omega)).stp hst11 (by omega), ⟨A11, c11, by rw [List.length_append], by rw [List.length_append, bc_app]; exact hs11, hn11⟩, hq10.stp hst11 (by omega) (by omega), by rw [HE9.out, List.append_assoc, HTD.out], HL9.out, (HT9.out.tr (hst10.mono (fun i hi => by omega))).tr (hst11.mono (fun i hi => by omega))⟩
          case measure => simp [intOf]; omega
        · have hp2' : ¬ (k : Int) < (ts.length : Int) := by omega
          have HL := Lib.hid heq
          clear heq
          go_wp2_with (first
            | (at_builtin; refine wpL_fresh slt_u8 (.tmp 44) (.tmp 48) rfl rfl (o := o2) 5 rfl rfl (Sl.src Tryd.underlying44 (HR.out.ext (hext.tr (by (repeat (first | exact Ext.rfl' _ | assumption | refine Ext.dr ?_ | refine Ext.drN ?_ _ | refine Ext.al ?_ _ | refine Ext.st ?_ (by simp) _ | refine Ext.tr ?_ (by assumption)))))) (by simp) (by omega) (bc_one _) dd) (by omega) (by omega) ?_; intro A5 c5 w5 o5 hs5 hst5 hn5; have st5 : Stp (fun _ => False) wr o2 w5 o5 := (Stp.ext (by (repeat (first | exact Ext.rfl' _ | assumption | refine Ext.dr ?_ | refine Ext.drN ?_ _ | refine Ext.al ?_ _ | refine Ext.st ?_ (by simp) _ | refine Ext.tr ?_ (by assumption))))).tr hst5; have q5 := HQ.out.stp st5 (fun x => x) (fun x => x))
            | (go_at_call 50; refine (qPut_c 1 p lim lq P A5 _ c5 rfl w5 o5 q5 hs5.rd (by omega)).mono ?_; rintro e w6 ⟨v6, o6, rfl, ⟨rfl, hq6⟩, hst6⟩; rw [e0]; rw [e1] at hq6; have st6 : Stp (KQ 1) wr o2 w6 o6 := (st5.mono (fun _ x => x.elim)).tr hst6; have hx6 : Ext W w6 := (HT.out.tr (st6.mono (fun i hi => by unfold KQ at hi; omega))).toExt (fun _ _ h => h rfl); have a6 := hS'.out w6 hx6; have hs6 := HI.out.stp st6 (by unfold KQ; omega); have hso6 := hso.stp st6 (by unfold KQ; omega); try have a96 := hS9.out w6 hx6)
            | (go_at_call 44; refine (num01_c _ _).mono ?_; rintro e w2 ⟨rfl, rfl⟩)
            | (at_builtin; refine wpL_put slt_u8 (.tmp 54) (.tmp 58) rfl rfl rfl rfl hs6 hni (Sl.src Tryd.underlying44 (HR.out.ext hx6) (by simp) (by omega) (bc_one _) dd) (by omega) (by omega) ?_; intro A7 c7 w7 o7 hs7 hst7 hn7; have st7 : Stp (fun i => i ≠ 0) wr o2 w7 o7 := (st6.mono (fun i hi => by unfold KQ at hi; omega)).tr (hst7.mono (fun i hi => by omega)); try have a97 := hS9.out w7 ((HT.out.tr st7).toExt (fun _ _ h => h rfl)))
            )
          have hat9 : OrdAt lim W w6 p (.slice Ai lin.length ci) (.slice Ao lout.length co) (totS (ps.take (k + 1))) := ⟨o6, lin, lout, lq, ⟨Ai, ci, rfl, hs6, hni⟩, ⟨Ao, co, rfl, hso6, hno⟩, hq6, HL.out, by omega, HT.out.tr (st6.mono (fun i hi => by unfold KQ at hi; omega))⟩
          go_roundw
          case rel => exact ⟨k + 1, by go_num, by omega, hat9⟩
          case measure => simp [intOf]; omega
    · have hp1' : ¬ (k : Int) < (ps.length : Int) := by omega
      have hki : (k : Int) + 1 ≤ 9223372036854775807 := by omega
      have hk0 : (0 : Int) ≤ (k : Int) := by omega
      obtain ⟨o2, lin, lout, lq, ⟨Ai, ci, rfl, hsi, hni⟩, ⟨Ao, co, rfl, hso, hno⟩, hq, heq, hle, hst⟩ := hat
      by_cases hp2 : k < ts.length
      · obtain ⟨b', f', rfl, hb', hS9⟩ := hB.num hp2
        have ht9 := hts _ (List.getElem_mem hp2)
        obtain ⟨t, ht⟩ : ∃ t, t = ts[k] := ⟨_, rfl⟩
        rw [← ht] at hS9 ht9
        have hp2' : (k : Int) < (ts.length : Int) := by omega
        have ht90 := ht9.1
        have ht91 := ht9.2
        have hlo9 : lout.length ≤ 1099511627776 := by have := congrArg List.length heq; rw [List.length_append] at this; omega
        clear ht ht9
        have a96 := hS9.out wr hext
        have hin9 : IsB 3 lin (.slice Ai lin.length ci) wr o2 := ⟨Ai, ci, rfl, hsi, hni⟩
        have hso9 := hso
        have hq9 := hq
        have heq9 := heq
        have hle9 : lin.length ≤ totS (ps.take (k + 1)) := by rw [List.take_of_length_le (by omega)] at hle ⊢; exact hle
        have hst9 := hst
        clear hsi hso hq hst heq
        obtain ⟨T9, hT9⟩ : ∃ T, T = (lq).take t.toNat := ⟨_, rfl⟩
        obtain ⟨D9, hD9⟩ : ∃ T, T = (lq).drop t.toNat := ⟨_, rfl⟩
        have hTD : lq = T9 ++ D9 := by rw [hT9, hD9, List.take_append_drop]
        have hT9l : T9.length ≤ 1048576 := by
          have h1 := hq9.le
          have h2 := HLM.out
          have h3 : T9.length ≤ (lq).length := by rw [hT9, List.length_take]; omega
          omega
        have CT := qTake_c 5 1 p lim (by omega) (lq) t _ _ hq9 ht90 ht91
        rw [← hT9, ← hD9] at CT
        have CT := Lib.hid CT
        have HI9 := Lib.hid hin9
        have HO9 := Lib.hid hso9
        have HT9 := Lib.hid hst9
        have HE9 := Lib.hid heq9
        have HL9 := Lib.hid hle9
        have HTD := Lib.hid hTD
        clear hq9 hin9 hso9 hst9 heq9 hle9 hT9 hD9 hTD
        go_wp2_with (first
          | (go_at_call 51; refine CT.out.mono ?_; rintro e w10 ⟨v10, o10, rfl, ⟨⟨A10, c10, rfl, hs10, hn10⟩, hq10⟩, hst10⟩; have ho10 := HO9.out.stp hst10 (by omega))
          | (at_builtin; refine wpL_put slt_u8 (.tmp 64) (.tmp 70) rfl rfl rfl rfl ho10 hno (Sl.src Tryd.underlying44 hs10.rd (by simp) (by omega) (bc_one _) c10) (by omega) (by omega) ?_; intro A11 c11 w11 o11 hs11 hst11 hn11))
        go_roundw
        case rel =>
          exact ⟨k + 1, by go_num, by omega, o11, lin, lout ++ T9, D9, (HI9.out.stp hst10 (by omega)).stp hst11 (by omega), ⟨A11, c11, by rw [List.length_append], by rw [List.length_append, bc_app]; exact hs11, hn11⟩, hq10.stp hst11 (by omega) (by omega), by rw [HE9.out, List.append_assoc, HTD.out], HL9.out, (HT9.out.tr (hst10.mono (fun i hi => by omega))).tr (hst11.mono (fun i hi => by omega))⟩
        case measure => simp [intOf]; omega
      · have hp2' : ¬ (k : Int) < (ts.length : Int) := by omega
        have HS := Lib.hid hsi
        have HO := Lib.hid hso
        have HQ := Lib.hid hq
        have HT := Lib.hid hst
        have HL := Lib.hid heq
        have hlin : lin.length ≤ 1099511627776 := by omega
        have hll : lout.length + lq.length = lin.length := by rw [heq, List.length_append]
        have hqle := hq.le
        have CP := fun w o hq => qPeek_c 5 1 p lim lq (lim : Int) w o hq (by omega) (by have := HLM.out; omega)
        rw [Int.toNat_natCast, List.take_of_length_le hqle, HLI.out] at CP
        have CP := Lib.hid CP
        clear hsi hso hq hst heq
        go_upto_region 14 with (first
          | (go_at_call 52; refine (CP.out _ o2 HQ.out).mono ?_; rintro e w10 ⟨v10, o10, rfl, ⟨A10, c10, rfl, hs10, hn10⟩, hst10⟩; have cv1 := conv_bs (P := Tryd.prog) 44 9 5 Tryd.underlying44 Tryd.underlying5 Tryd.underlying9 (HS.out.rd.ext hst10.noExt) lin.length ci rfl; have cv2 := conv_bs (P := Tryd.prog) 44 9 5 Tryd.underlying44 Tryd.underlying5 Tryd.underlying9 (HO.out.rd.ext hst10.noExt) lout.length co rfl; have cv3 := conv_bs (P := Tryd.prog) 44 9 5 Tryd.underlying44 Tryd.underlying5 Tryd.underlying9 hs10.rd lq.length c10 rfl)
          | (go_at_call 53; refine (qLen_c _ o10 1 p lim lq (HQ.out.stp hst10 (fun x => x) (fun x => x))).mono ?_; rintro e w11 ⟨rfl, rfl⟩))
        obtain ⟨s1, hs1⟩ : ∃ s, s = str lin := ⟨_, rfl⟩
        obtain ⟨s2, hs2⟩ : ∃ s, s = str lout := ⟨_, rfl⟩
        obtain ⟨s3, hs3⟩ : ∃ s, s = str lq := ⟨_, rfl⟩
        have cc : ∀ w, (Op.stringOp .add s2 s3).run Tryd.prog w = .ok (.string s1) w := by
          intro w
          rw [cat_ok s2 s3 (by rw [hs2, hs3, str_size, str_size]; omega), hs1, hs2, hs3, HL.out, str_app]
        rw [← hs1] at cv1
        rw [← hs2] at cv2
        rw [← hs3] at cv3
        clear hs1 hs2 hs3
        go_wp2_with (go_at_call 53; refine (qLen_c _ o10 1 p lim lq (HQ.out.stp hst10 (fun x => x) (fun x => x))).mono ?_; rintro e w11 ⟨rfl, rfl⟩)
        go_ret
        exact ⟨rfl, (HT.out.toExt (fun _ _ h => h rfl)).tr hst10.noExt⟩
end Go.Proofs.YteklakibcboepaaDoor
