/-
What is put later has a greater version: one order of a kind, in the law's own words.
-/
import Derived.Test.YtnakeigpelcajaaWo1
import Derived.Test.YtnakeigpelcajaaWn2
set_option linter.unusedVariables false
set_option linter.unusedSimpArgs false
namespace Go.Proofs.Ytnakeigpelcajaa
open Go.RowKit

set_option maxRecDepth 100000 in
set_option maxHeartbeats 16000000 in
theorem WorldVersions_yes (w : World) (a : Int) (h0 : 0 ≤ a) (h1 : a ≤ 253402300799) (A : Option Addr) (c : Nat) (xs : List OpW) (hA : RdOpW w A xs) (hxs : xs.length ≤ 140737488351232) :
    Calls Try.prog 3 #[.int .i64 a, .slice A xs.length c] w (Gives (.bool true) w) := by
  have HA := Lib.hid hA
  clear hA
  obtain ⟨N, hN⟩ : ∃ N, N = xs.length := ⟨_, rfl⟩
  rw [← hN]
  have HN := Lib.hid hN
  have hNb : N ≤ 140737488351232 := by omega
  clear hN hxs
  go_enter Try.func3, Try.ntmps3
  go_wp2_with (first
    | (go_at_call 7; refine (wNew_yes 1 a h0 h1 _ (fun _ => 0)).mono ?_; rintro e w1 ⟨v, o1, rfl, ⟨p, rfl, h1, hp1⟩, st1⟩; have H1 := Lib.hid h1; have ST1 := Lib.hid (st1.mono (L := fun i => i ≠ 0) fun _ h => h.elim); clear st1 h1)
    | (go_at_call 9; refine (knows13_c _).mono ?_; rintro e w2 ⟨rfl, hx2⟩; have H2 := Lib.hid (H1.out.ext hx2); have ST2 := Lib.hid (ST1.out.tr (Stp.ext hx2)))
    | (go_at_call 10; refine (wNow_c _ o1 1 p _ H2.out).mono ?_; rintro e w3 ⟨rfl, hx3⟩; have H3 := Lib.hid (H2.out.ext hx3); have ST3 := Lib.hid (ST2.out.tr (Stp.ext hx3)))
    | (go_at_call 8; refine (num13_c _ _).mono ?_; rintro e w8 ⟨rfl, rfl⟩))
  go_loopw [7, 8, 9] (fun v7 v8 v9 wr => ∃ (k las : Nat) (s : Wrl) (o : Ow), k ≤ N ∧ v7 = .int .i64 (las : Int) ∧ v8 = .int .i64 s.now ∧ v9 = .int .i64 (k : Int) ∧ WdAt wr o 1 p s ∧ Wok s ∧ las ≤ s.ver ∧ s.ver ≤ k ∧ Stp (fun i => i ≠ 0) w (fun _ => 0) wr o) (fun _ _ i _ => N - (intOf i).toNat)
  case atStart => exact ⟨0, 0, ⟨[], a, 0⟩, o1, Nat.zero_le _, rfl, rfl, rfl, H3.out, (newW_ok (s := ⟨[], a, 0⟩) (now := a) (by unfold newW wlast; rw [if_neg (by omega)])).1, Nat.le_refl _, Nat.le_refl _, ST3.out⟩
  case round =>
    obtain ⟨k, las, s, o, hk, rfl, rfl, rfl, hs, hok, hlv, hvk, hst⟩ := hrel
    have HS := Lib.hid hs
    have HOK := Lib.hid hok
    have HST := Lib.hid hst
    by_cases hkn : k < N
    · have hx : Ext w wr := hst.toExt (fun _ _ => by simp)
      obtain ⟨b, f, rfl, hbl, g0, g1, g2, g3⟩ := (HA.out.ext hx).row (k := k) (by rw [← HN.out]; exact hkn)
      obtain ⟨x, hxk⟩ : ∃ x, x = xs[k]'(by rw [← HN.out]; exact hkn) := ⟨_, rfl⟩
      rw [← hxk] at g0 g1 g2 g3
      obtain ⟨hrB, hml, ⟨hn0, hn1⟩, hpl⟩ := HA.out.each x (by rw [hxk]; exact List.getElem_mem _)
      have hk0 : (0 : Int) ≤ (k : Int) := by omega
      have hk1 : (k : Int) < (N : Int) := by omega
      have F : Hid (∀ w', Ext w w' → (w'.cell? ⟨b, f + k * 4 + 2, none⟩ = some (.string (str x.path)) ∧ w'.cell? ⟨b, f + k * 4 + 3, none⟩ = some (.slice x.B x.mm.length x.d))) := Lib.hid (fun w' e => by
        have := (HA.out.ext e).cells (k := k) (by rw [← HN.out]; exact hkn)
        rw [← hxk] at this
        exact this.2.2)
      clear hs hok hst hxk
      obtain ⟨kd, n, l, B, d, mm⟩ := x
      dsimp only at g0 g1 g2 g3 hrB hml hn0 hn1 hpl
      by_cases hz : kd = 0
      · subst hz
        have x0 : Ext wr (wr.drew.alloc (.cells #[] 5)) := by (repeat (first | exact Ext.rfl' _ | assumption | refine Ext.dr ?_ | refine Ext.drN ?_ _ | refine Ext.al ?_ _ | refine Ext.st ?_ (by simp) _ | refine Ext.tr ?_ (by assumption)))
        obtain ⟨A5, c5, w5, o5, hr5, hs5, st5, hn5⟩ := run_copy 8 wr.drew o mm B mm.length d rfl (hrB.ext (hx.tr (by (repeat (first | exact Ext.rfl' _ | assumption | refine Ext.dr ?_ | refine Ext.drN ?_ _ | refine Ext.al ?_ _ | refine Ext.st ?_ (by simp) _ | refine Ext.tr ?_ (by assumption)))))) hml 30
        have hr5 : (Builtin.append_ #[30, 30] 30 #[.slice (some ⟨wr.heap.size, 0, none⟩) 0 0, .slice B mm.length d]).run Try.prog (wr.alloc (.cells #[] 5)).drew = .ok (.slice A5 mm.length c5) w5 := hr5
        have X5 : Ext wr w5 := (show Ext wr wr.drew by (repeat (first | exact Ext.rfl' _ | assumption | refine Ext.dr ?_ | refine Ext.drN ?_ _ | refine Ext.al ?_ _ | refine Ext.st ?_ (by simp) _ | refine Ext.tr ?_ (by assumption)))).tr st5.noExt
        have stw : Stp (fun _ => False) wr o w5 o5 := (Stp.ext (show Ext wr wr.drew by (repeat (first | exact Ext.rfl' _ | assumption | refine Ext.dr ?_ | refine Ext.drN ?_ _ | refine Ext.al ?_ _ | refine Ext.st ?_ (by simp) _ | refine Ext.tr ?_ (by assumption))))).tr st5
        have H5 := HS.out.stp stw (fun x => x) (fun x => x) (fun x => x)
        have CP := wPut_c w5 o5 1 p s H5 HOK.out l mm (by omega) A5 mm.length c5 rfl (by omega) hs5.rd hn5 (hs5.away (by omega)) (by omega)
        have STW : Hid (Stp (fun i => i ≠ 0) w (fun _ => 0) w5 o5) := Lib.hid (HST.out.tr (stw.mono fun _ h => h.elim))
        have X55 : Ext w w5 := STW.out.toExt (fun _ _ => by simp)
        by_cases hpe : (putW s l mm).2 = 0
        · rw [hpe] at CP
          have CPH := Lib.hid CP
          have HPE := Lib.hid hpe
          have hap : ¬ ((s.ver : Int) + 1) ≤ (las : Int) := by omega
          clear hpe CP h0 h1 hn0 hn1
          go_wp2
          go_region_held3 (fun w' => w'.cell? ⟨b, f + k * 4 + 2, none⟩ = some (.string (str l)) ∧ w'.cell? ⟨b, f + k * 4 + 3, none⟩ = some (.slice B mm.length d)) ((apply F.out; (repeat (first | exact Ext.rfl' _ | assumption | refine Ext.dr ?_ | refine Ext.drN ?_ _ | refine Ext.al ?_ _ | refine Ext.st ?_ (by simp) _ | refine Ext.tr ?_ (by assumption))))) (first
            | (refine step_run (.tmp 66) (.tmp 71) rfl rfl rfl rfl hr5 ?_)
            | (go_at_call 11; refine CPH.out.mono ?_; rintro e w6 ⟨v, o6, rfl, ⟨rfl, h6⟩, st6⟩; have ST6 : Hid (Stp (fun i => i ≠ 0) w (fun _ => 0) w6 o6) := Lib.hid (STW.out.tr (st6.mono fun i hi => by unfold KW at hi; omega)); have X6 : Ext w w6 := ST6.out.toExt (fun _ _ => by simp); have H6 := Lib.hid h6; clear h6 st6)
            | (go_at_call 8; refine (num13_c _ _).mono ?_; rintro e w8 ⟨rfl, rfl⟩))
          have hok6 := putW_ok HOK.out l mm
          have CF := wFile_some 9 w6 o6 1 p _ H6.out hok6.1 l (by omega) _ (putW_some HPE.out)
          dsimp only at CF
          have HM := Lib.hid hok6
          have hv1 : (((s.ver + 1 : Nat)) : Int) = (s.ver : Int) + 1 := by push_cast; rfl
          rw [hv1] at CF
          clear hok6 hv1
          obtain ⟨nw, hnw⟩ : ∃ nw, nw = s.now := ⟨_, rfl⟩
          have HNW := Lib.hid hnw
          rw [← hnw] at CF ⊢
          clear hnw
          go_wp2_with (first
            | (go_at_call 12; refine CF.mono ?_; clear CF; rintro e w7 ⟨v, o7, rfl, ⟨A7, c7, rfl, hs7, hn7⟩, st7⟩; have H7 := Lib.hid (H6.out.stp st7 (fun x => x) (fun x => x) (fun x => x)); have ST7 := Lib.hid (ST6.out.tr (st7.mono (L := fun i => i ≠ 0) fun _ h => h.elim)))
            | (go_at_call 8; refine (num13_c _ _).mono ?_; rintro e w8 ⟨rfl, rfl⟩))
          have hd1 : decide ((s.ver : Int) + 1 ≤ (las : Int)) = false := decide_eq_false (by omega)
          have hd2 : decide (s.ver + 1 ≤ las) = false := decide_eq_false (by omega)
          have hd3 : ¬ s.ver + 1 ≤ las := by omega
          have W9 : ∀ (W : World), Ext w7 W → Calls Try.prog 10 #[.pointer (some ⟨p, 0, none⟩)] W (Gives (.int .i64 nw) W) := fun W e => by
            have := wNow_c W o7 1 p _ (H7.out.ext e)
            rw [HM.out.2.1, ← HNW.out] at this
            exact this
          have W9 := Lib.hid W9
          have F7 := Lib.hid (fun w' (e : Ext (w7.alloc (.cells #[.string (str l), .slice A7 mm.length c7, .int .i64 nw] 35)) w') => e.new 2 _ rfl)
          go_region_held3 (fun w' => w'.cell? ⟨w7.heap.size, 2, none⟩ = some (.int .i64 nw)) ((apply F7.out; (repeat (first | exact Ext.rfl' _ | assumption | refine Ext.dr ?_ | refine Ext.drN ?_ _ | refine Ext.al ?_ _ | refine Ext.st ?_ (by simp) _ | refine Ext.tr ?_ (by assumption))))) (first
            | (go_at_call 10; refine (W9.out _ (by (repeat (first | exact Ext.rfl' _ | assumption | refine Ext.dr ?_ | refine Ext.drN ?_ _ | refine Ext.al ?_ _ | refine Ext.st ?_ (by simp) _ | refine Ext.tr ?_ (by assumption))))).mono ?_; rintro e w9 ⟨rfl, hx9⟩)
            | (go_at_call 8; refine (num13_c _ _).mono ?_; rintro e w8 ⟨rfl, rfl⟩))
          go_wp2_with (first
            | (go_at_call 10; refine (W9.out _ (by (repeat (first | exact Ext.rfl' _ | assumption | refine Ext.dr ?_ | refine Ext.drN ?_ _ | refine Ext.al ?_ _ | refine Ext.st ?_ (by simp) _ | refine Ext.tr ?_ (by assumption))))).mono ?_; rintro e wa ⟨rfl, hxa⟩))
          have hvz : (putW s l mm).1.ver = s.ver + 1 := by rw [putW_zero HPE.out]
          exact ⟨⟨k + 1, s.ver + 1, (putW s l mm).1, o7, by omega, by push_cast; rfl, by rw [HM.out.2.1, ← HNW.out], by go_num, H7.out.ext (by (repeat (first | exact Ext.rfl' _ | assumption | refine Ext.dr ?_ | refine Ext.drN ?_ _ | refine Ext.al ?_ _ | refine Ext.st ?_ (by simp) _ | refine Ext.tr ?_ (by assumption)))), HM.out.1, by omega, by omega, ST7.out.tr (Stp.ext (by (repeat (first | exact Ext.rfl' _ | assumption | refine Ext.dr ?_ | refine Ext.drN ?_ _ | refine Ext.al ?_ _ | refine Ext.st ?_ (by simp) _ | refine Ext.tr ?_ (by assumption)))))⟩, by simp [intOf]; omega⟩
        · obtain ⟨pe, hpe2⟩ : ∃ pe, pe = (putW s l mm).2 := ⟨_, rfl⟩
          rw [← hpe2] at hpe CP
          have CPH := Lib.hid CP
          have hp0 : (pe == 0) = false := by rw [beq_eq_false_iff_ne]; exact hpe
          have HM := Lib.hid (putW_ok HOK.out l mm)
          have W9 : ∀ (W : World) (o6 : Ow), WdAt W o6 1 p (putW s l mm).1 → Calls Try.prog 10 #[.pointer (some ⟨p, 0, none⟩)] W (Gives (.int .i64 s.now) W) := fun W o6 h => by
            have := wNow_c W o6 1 p _ h
            rw [HM.out.2.1] at this
            exact this
          have W9 := Lib.hid W9
          clear hpe hpe2 CP h0 h1 hn0 hn1
          go_wp2
          go_region_held3 (fun w' => w'.cell? ⟨b, f + k * 4 + 2, none⟩ = some (.string (str l)) ∧ w'.cell? ⟨b, f + k * 4 + 3, none⟩ = some (.slice B mm.length d)) ((apply F.out; (repeat (first | exact Ext.rfl' _ | assumption | refine Ext.dr ?_ | refine Ext.drN ?_ _ | refine Ext.al ?_ _ | refine Ext.st ?_ (by simp) _ | refine Ext.tr ?_ (by assumption))))) (first
            | (refine step_run (.tmp 66) (.tmp 71) rfl rfl rfl rfl hr5 ?_)
            | (go_at_call 11; refine CPH.out.mono ?_; rintro e w6 ⟨v, o6, rfl, ⟨rfl, h6⟩, st6⟩; have ST6 : Hid (Stp (fun i => i ≠ 0) w (fun _ => 0) w6 o6) := Lib.hid (STW.out.tr (st6.mono fun i hi => by unfold KW at hi; omega)); have X6 : Ext w w6 := ST6.out.toExt (fun _ _ => by simp); have H6 := Lib.hid h6; clear h6 st6)
            | (go_at_call 8; refine (num13_c _ _).mono ?_; rintro e w8 ⟨rfl, rfl⟩))
          go_wp2_with (first
            | (go_at_call 10; refine (W9.out _ o6 (H6.out.ext (by (repeat (first | exact Ext.rfl' _ | assumption | refine Ext.dr ?_ | refine Ext.drN ?_ _ | refine Ext.al ?_ _ | refine Ext.st ?_ (by simp) _ | refine Ext.tr ?_ (by assumption)))))).mono ?_; rintro e wa ⟨rfl, hxa⟩))
          exact ⟨⟨k + 1, las, (putW s l mm).1, o6, by omega, rfl, by rw [HM.out.2.1], by go_num, H6.out.ext (by (repeat (first | exact Ext.rfl' _ | assumption | refine Ext.dr ?_ | refine Ext.drN ?_ _ | refine Ext.al ?_ _ | refine Ext.st ?_ (by simp) _ | refine Ext.tr ?_ (by assumption)))), HM.out.1, Nat.le_trans hlv HM.out.2.2.1, Nat.le_trans HM.out.2.2.2 (by omega), ST6.out.tr (Stp.ext (by (repeat (first | exact Ext.rfl' _ | assumption | refine Ext.dr ?_ | refine Ext.drN ?_ _ | refine Ext.al ?_ _ | refine Ext.st ?_ (by simp) _ | refine Ext.tr ?_ (by assumption)))))⟩, by simp [intOf]; omega⟩
      · by_cases ho : kd = 1
        · subst ho
          go_wp2_with (first
            | (go_at_call 13; refine (wRemove_c _ o 1 p s HS.out l (by omega)).mono ?_; rintro e w4 ⟨v, o4, rfl, ⟨rfl, h4⟩, st4⟩; have C4 := wNow_c _ o4 1 p _ h4; have h5 := removeW_ok HOK.out l; rw [h5.2.1] at C4; have H4 := Lib.hid h4; clear h4)
            | (go_at_call 10; refine C4.mono ?_; clear C4; rintro e w5 ⟨rfl, hx5⟩; have C5 := wNow_c _ o4 1 p _ (H4.out.ext hx5); rw [h5.2.1] at C5)
            | (go_at_call 10; refine C5.mono ?_; rintro e w6 ⟨rfl, hx6⟩))
          exact ⟨⟨k + 1, las, (removeW s l).1, o4, by omega, rfl, by rw [h5.2.1], by go_num, H4.out.ext (by (repeat (first | exact Ext.rfl' _ | assumption | refine Ext.dr ?_ | refine Ext.drN ?_ _ | refine Ext.al ?_ _ | refine Ext.st ?_ (by simp) _ | refine Ext.tr ?_ (by assumption)))), h5.1, by rw [h5.2.2]; exact hlv, by rw [h5.2.2]; omega, HST.out.tr ((st4.mono fun i hi => by unfold KW at hi; omega).tr (Stp.ext (by (repeat (first | exact Ext.rfl' _ | assumption | refine Ext.dr ?_ | refine Ext.drN ?_ _ | refine Ext.al ?_ _ | refine Ext.st ?_ (by simp) _ | refine Ext.tr ?_ (by assumption))))))⟩, by simp [intOf]; omega⟩
        · have k0 : (kd == 0) = false := by rw [beq_eq_false_iff_ne]; exact hz
          have k1 : (kd == 1) = false := by rw [beq_eq_false_iff_ne]; exact ho
          have h5 := tickW_ok HOK.out n
          obtain ⟨nw, hnw⟩ : ∃ nw, nw = (tickW s n).1.now := ⟨_, rfl⟩
          have hle : ¬ nw < s.now := by rw [hnw]; have := h5.2.1; omega
          have HNW := Lib.hid hnw
          clear hnw hz ho
          go_wp2_with (first
            | (go_at_call 14; refine (wTick_c _ o 1 p s HS.out HOK.out n (by omega)).mono ?_; rintro e w4 ⟨v, o4, rfl, ⟨rfl, h4⟩, st4⟩; have C4 := wNow_c _ o4 1 p _ h4; rw [← HNW.out] at C4; have H4 := Lib.hid h4; clear h4)
            | (go_at_call 10; refine C4.mono ?_; clear C4; rintro e w5 ⟨rfl, hx5⟩; have C5 := wNow_c _ o4 1 p _ (H4.out.ext hx5); rw [← HNW.out] at C5)
            | (go_at_call 10; refine C5.mono ?_; rintro e w6 ⟨rfl, hx6⟩))
          exact ⟨⟨k + 1, las, (tickW s n).1, o4, by omega, rfl, by rw [HNW.out], by go_num, H4.out.ext (by (repeat (first | exact Ext.rfl' _ | assumption | refine Ext.dr ?_ | refine Ext.drN ?_ _ | refine Ext.al ?_ _ | refine Ext.st ?_ (by simp) _ | refine Ext.tr ?_ (by assumption)))), h5.1, by rw [h5.2.2]; exact hlv, by rw [h5.2.2]; omega, HST.out.tr ((st4.mono fun i hi => by unfold KW at hi; omega).tr (Stp.ext (by (repeat (first | exact Ext.rfl' _ | assumption | refine Ext.dr ?_ | refine Ext.drN ?_ _ | refine Ext.al ?_ _ | refine Ext.st ?_ (by simp) _ | refine Ext.tr ?_ (by assumption))))))⟩, by simp [intOf]; omega⟩
    · obtain rfl : k = N := by omega
      go_wp2
      go_ret
      exact ⟨rfl, HST.out.toExt (fun _ _ => by simp)⟩
end Go.Proofs.Ytnakeigpelcajaa
