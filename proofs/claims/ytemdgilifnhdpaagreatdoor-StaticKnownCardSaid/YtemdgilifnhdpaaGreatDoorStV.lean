/-
Static: a world behind calls, and the document's (Made).
-/
import Derived.Test.YtemdgilifnhdpaaGreatDoorZay
set_option linter.unusedVariables false
set_option linter.unusedSimpArgs false
namespace Go.Proofs.YtemdgilifnhdpaaGreatDoor
open Go.RowKit

theorem tmod_gt (n : Int) : -2000000000 < n.tmod 2000000000 := by
  rcases Int.le_total 0 n with h | h
  · have := Int.tmod_nonneg 2000000000 h; omega
  · have h3 := Int.tmod_lt_of_pos (-n) (show (0 : Int) < 2000000000 by decide)
    rw [Int.neg_tmod] at h3
    omega
def nowM (n : Int) : Int := ((n.tmod 2000000000) + 2000000000).tmod 2000000000
theorem nowM_in (n : Int) : 0 ≤ nowM n ∧ nowM n ≤ 253402300799 := by
  unfold nowM
  have h1 := Int.tmod_lt_of_pos n (show (0 : Int) < 2000000000 by decide)
  have h2 := tmod_gt n
  have h3 := Int.tmod_nonneg (a := n.tmod 2000000000 + 2000000000) 2000000000 (by omega)
  have h4 := Int.tmod_lt_of_pos (n.tmod 2000000000 + 2000000000) (show (0 : Int) < 2000000000 by decide)
  omega
set_option maxRecDepth 100000 in
set_option maxHeartbeats 1000000 in
theorem snNum_s (n : Int) (w : World) : Calls Tryz.prog 14 #[.int .i64 n] w fun e w' => e = .returned (.int .i64 n) ∧ w = w' := by
  go_enter Tryz.func14, Tryz.ntmps14
  go_wp2
  go_ret
  exact ⟨rfl, rfl⟩
def MdAt (w0 : World) (p r : Nat) (n : Nat) (w : World) : Prop := ∃ (s : Wrl) (o : Ow), WdAt w o 1 p s ∧ RwAt w o 4 r s ∧ Wok s ∧ s.ver ≤ n ∧ Stp (fun i => i ≠ 0) w0 (fun _ => 0) w o
def MadeTo (N : Nat) (w0 : World) (e : Ending) (w : World) : Prop :=
  ∃ p r s o, e = .returned (.tuple #[.pointer (some ⟨p, 0, none⟩), .pointer (some ⟨r, 0, none⟩), .bool true]) ∧ WdAt w o 1 p s ∧ Wok s ∧ s.ver ≤ N ∧ Stp (fun i => i ≠ 0) w0 (fun _ => 0) w o
set_option maxRecDepth 100000 in
set_option maxHeartbeats 16000000 in
theorem made_c (w : World) (a : Int) (ha : -9223372036854775808 ≤ a ∧ a ≤ 9223372036854775807) (A : Option Addr) (c : Nat) (xs : List OpW) (hA : RdOpW w A xs) (hxs : xs.length ≤ 140737488351232) :
    Calls Tryz.prog 16 #[.int .i64 a, .slice A xs.length c] w (MadeTo xs.length w) := by
  have HA := Lib.hid hA
  clear hA
  obtain ⟨N, hN⟩ : ∃ N, N = xs.length := ⟨_, rfl⟩
  rw [← hN]
  have HN := Lib.hid hN
  have hNb : N ≤ 140737488351232 := by omega
  obtain ⟨h0, h1⟩ := nowM_in a
  obtain ⟨na, hna⟩ : ∃ x, x = nowM a := ⟨_, rfl⟩
  rw [← hna] at h0 h1
  have HNA := Lib.hid hna
  clear hN hxs hna
  go_enter Tryz.func16, Tryz.ntmps16
  go_upto_region 2 with (fail)
  have hw : wrap64 (a.tmod 2000000000 + 2000000000) = a.tmod 2000000000 + 2000000000 := by
    have h1 := Int.tmod_lt_of_pos a (show (0 : Int) < 2000000000 by decide)
    have h2 := tmod_gt a
    unfold wrap64; omega
  rw [hw, show (a.tmod 2000000000 + 2000000000).tmod 2000000000 = na from HNA.out.symm]
  clear hw
  go_wp2_with (first
    | (go_at_call 41; refine (wNew_yes 1 na h0 h1 _ (fun _ => 0)).mono ?_; rintro e w1 ⟨v, o1, rfl, ⟨p, rfl, h1, hp1⟩, st1⟩; have H1 := Lib.hid h1; have ST1 := Lib.hid (st1.mono (L := fun i => i ≠ 0) fun _ h => h.elim); clear st1 h1 hp1; have CRN := Lib.hid (rwNew_yes 4 na h0 (by assumption) w1 o1))
    | (go_at_call 42; refine CRN.out.mono ?_; rintro e w2 ⟨v, o2, rfl, ⟨r, rfl, h2⟩, st2⟩; have H2 := Lib.hid h2; have H12 := Lib.hid (H1.out.stp st2 (fun x => x) (fun x => x) (fun x => x)); have ST2 := Lib.hid (ST1.out.tr (st2.mono (L := fun i => i ≠ 0) fun _ h => h.elim)); clear st2 h2)
    | (go_at_call 14; refine (snNum_s _ _).mono ?_; rintro e w8 ⟨rfl, rfl⟩))
  have HM0 := Lib.hid (show MdAt w p r 0 w2 from ⟨⟨[], na, 0⟩, o2, H12.out, H2.out, (newW_ok (s := ⟨[], na, 0⟩) (now := na) (by unfold newW wlast; rw [if_neg (by omega)])).1, Nat.le_refl _, ST2.out⟩)
  clear H1 ST1 CRN H2 H12 ST2 h0 h1
  go_loopw [10] (fun v10 wr => ∃ k : Nat, k ≤ N ∧ v10 = .int .i64 (k : Int) ∧ MdAt w p r k wr) (fun i _ => N - (intOf i).toNat)
  case atStart => exact ⟨0, Nat.zero_le _, rfl, HM0.out⟩
  case round =>
    obtain ⟨k, hk, rfl, s, o, hs, hr, hok, hvk, hst⟩ := hrel
    have HS := Lib.hid hs
    have HR := Lib.hid hr
    have HOK := Lib.hid hok
    have HST := Lib.hid hst
    by_cases hkn : k < N
    · have hx : Ext w wr := hst.toExt (fun _ _ => by simp)
      obtain ⟨b, f, rfl, hbl, g0, g1, g2, g3⟩ := (HA.out.ext hx).row (k := k) (by rw [← HN.out]; exact hkn)
      obtain ⟨x, hxk⟩ : ∃ x, x = xs[k]'(by rw [← HN.out]; exact hkn) := ⟨_, rfl⟩
      rw [← hxk] at g0 g1 g2 g3
      obtain ⟨hrB, hml, ⟨hn0, hn1⟩, hpl⟩ := HA.out.each x (by rw [hxk]; exact List.getElem_mem _)
      have hk0 : (0 : Int) ≤ (k : Int) := by omega
      have hk1 : (k : Int) < (N : Int) := by omega
      have F : Hid (∀ w', Ext w w' → (w'.cell? ⟨b, f + k * 4 + 1, none⟩ = some (.int .i64 x.n) ∧ w'.cell? ⟨b, f + k * 4 + 2, none⟩ = some (.string (str x.path)) ∧ w'.cell? ⟨b, f + k * 4 + 3, none⟩ = some (.slice x.B x.mm.length x.d))) := Lib.hid (fun w' e => by
        have := (HA.out.ext e).cells (k := k) (by rw [← HN.out]; exact hkn)
        rw [← hxk] at this
        exact this.2)
      clear hs hr hok hst hxk
      obtain ⟨kd, n, l, B, d, mm⟩ := x
      dsimp only at g0 g1 g2 g3 hrB hml hn0 hn1 hpl F
      by_cases hz : kd = 0
      · subst hz
        have x0 : Ext wr (wr.drew.alloc (.cells #[] 5)) := by (repeat (first | exact Ext.rfl' _ | assumption | refine Ext.dr ?_ | refine Ext.drN ?_ _ | refine Ext.al ?_ _ | refine Ext.st ?_ (by simp) _ | refine Ext.tr ?_ (by assumption)))
        obtain ⟨A5, c5, w5, o5, hr5, hs5, st5, hn5⟩ := run_copy 8 wr.drew o mm B mm.length d rfl (hrB.ext (hx.tr (by (repeat (first | exact Ext.rfl' _ | assumption | refine Ext.dr ?_ | refine Ext.drN ?_ _ | refine Ext.al ?_ _ | refine Ext.st ?_ (by simp) _ | refine Ext.tr ?_ (by assumption)))))) hml 22
        have hr5 : (Builtin.append_ #[22, 22] 22 #[.slice (some ⟨wr.heap.size, 0, none⟩) 0 0, .slice B mm.length d]).run Tryz.prog (wr.alloc (.cells #[] 5)).drew = .ok (.slice A5 mm.length c5) w5 := hr5
        have X5 : Ext wr w5 := (show Ext wr wr.drew by (repeat (first | exact Ext.rfl' _ | assumption | refine Ext.dr ?_ | refine Ext.drN ?_ _ | refine Ext.al ?_ _ | refine Ext.st ?_ (by simp) _ | refine Ext.tr ?_ (by assumption)))).tr st5.noExt
        have stw : Stp (fun _ => False) wr o w5 o5 := (Stp.ext (show Ext wr wr.drew by (repeat (first | exact Ext.rfl' _ | assumption | refine Ext.dr ?_ | refine Ext.drN ?_ _ | refine Ext.al ?_ _ | refine Ext.st ?_ (by simp) _ | refine Ext.tr ?_ (by assumption))))).tr st5
        have H5 := HS.out.stp stw (fun x => x) (fun x => x) (fun x => x)
        have HR5 := Lib.hid (HR.out.stp stw (fun x => x) (fun x => x) (fun x => x) (fun x => x))
        obtain ⟨e1, he1⟩ : ∃ x, x = (putW s l mm).2 := ⟨_, rfl⟩
        have CPH := wPut_c w5 o5 1 p s H5 HOK.out l mm (by omega) A5 mm.length c5 rfl (by omega) hs5.rd hn5 (hs5.away (by omega)) (by omega)
        rw [← he1] at CPH
        have CPH := Lib.hid CPH
        have HE1 := Lib.hid he1
        have STW : Hid (Stp (fun i => i ≠ 0) w (fun _ => 0) w5 o5) := Lib.hid (HST.out.tr (stw.mono fun _ h => h.elim))
        have X55 : Ext w w5 := STW.out.toExt (fun _ _ => by simp)
        have HM := Lib.hid (putW_ok HOK.out l mm)
        have HRB := Lib.hid hrB
        have CRP := Lib.hid (fun w' o' (hr : RwAt w' o' 4 r s) (T : Stp (fun i => i ≠ 0) w (fun _ => 0) w' o') => (show Calls Tryz.prog 43 #[.pointer (some ⟨r, 0, none⟩), .string (str l), .slice B mm.length d] w' (Turns (KR 4) w' o' fun v w'' o'' => v = .int .i64 e1 ∧ RwAt w'' o'' 4 r (putW s l mm).1) from by
          rw [HE1.out]
          refine rwPut_c w' o' 4 r s hr HOK.out l mm (by omega) B mm.length d rfl (by omega) (HRB.out.ext (T.toExt (fun _ _ => by simp))) ?_ (by omega)
          rcases HRB.out with h | ⟨b, f, hB, hc⟩
          · exact .inl (by simpa [bc] using h)
          · by_cases hm : mm = []
            · exact .inl hm
            · refine .inr fun a ha _ => ?_
              rw [hB] at ha
              cases ha
              have hlt : b < w.heap.size := lt_of_cell (a := ⟨b, f + 0, none⟩) (hc 0 _ (bc_at mm 0 (List.length_pos_iff.2 hm)))
              rw [T.own b hlt]
              unfold KR; omega))
        clear hn0 hn1 he1 H5 hs5 st5 stw hrB
        go_wp2
        go_region_held3 (fun w' => w'.cell? ⟨b, f + k * 4 + 1, none⟩ = some (.int .i64 n) ∧ w'.cell? ⟨b, f + k * 4 + 2, none⟩ = some (.string (str l)) ∧ w'.cell? ⟨b, f + k * 4 + 3, none⟩ = some (.slice B mm.length d)) ((apply F.out; (repeat (first | exact Ext.rfl' _ | assumption | refine Ext.dr ?_ | refine Ext.drN ?_ _ | refine Ext.al ?_ _ | refine Ext.st ?_ (by simp) _ | refine Ext.tr ?_ (by assumption))))) (first
          | (refine step_run (.tmp 68) (.tmp 73) rfl rfl rfl rfl hr5 ?_)
          | (go_at_call 24; refine CPH.out.mono ?_; rintro e w6 ⟨v, o6, rfl, ⟨rfl, h6⟩, st6⟩; have ST6 : Hid (Stp (fun i => i ≠ 0) w (fun _ => 0) w6 o6) := Lib.hid (STW.out.tr (st6.mono fun i hi => by unfold KW at hi; omega)); have X6 : Ext w w6 := ST6.out.toExt (fun _ _ => by simp); have H6 := Lib.hid h6; have HR6 := Lib.hid (HR5.out.stp st6 (by unfold KW; omega) (by unfold KW; omega) (by unfold KW; omega) (by unfold KW; omega)); clear h6 st6)
          | (go_at_call 14; refine (snNum_s _ _).mono ?_; rintro e w8 ⟨rfl, rfl⟩)
          | (go_at_call 43; refine (CRP.out _ o6 (HR6.out.ext (by (repeat (first | exact Ext.rfl' _ | assumption | refine Ext.dr ?_ | refine Ext.drN ?_ _ | refine Ext.al ?_ _ | refine Ext.st ?_ (by simp) _ | refine Ext.tr ?_ (by assumption))))) (ST6.out.tr (Stp.ext (by (repeat (first | exact Ext.rfl' _ | assumption | refine Ext.dr ?_ | refine Ext.drN ?_ _ | refine Ext.al ?_ _ | refine Ext.st ?_ (by simp) _ | refine Ext.tr ?_ (by assumption))))))).mono ?_; rintro e w7 ⟨v, o7, rfl, ⟨rfl, h7⟩, st7⟩; have st67 := (Stp.ext (K := KR 4) (show Ext w6 _ by (repeat (first | exact Ext.rfl' _ | assumption | refine Ext.dr ?_ | refine Ext.drN ?_ _ | refine Ext.al ?_ _ | refine Ext.st ?_ (by simp) _ | refine Ext.tr ?_ (by assumption))))).tr st7; have ST7 : Hid (Stp (fun i => i ≠ 0) w (fun _ => 0) w7 o7) := Lib.hid (ST6.out.tr (st67.mono fun i hi => by unfold KR at hi; omega)); have X7 : Ext w w7 := ST7.out.toExt (fun _ _ => by simp); have H7 := Lib.hid h7; have H67 := Lib.hid (H6.out.stp st67 (by unfold KR; omega) (by unfold KR; omega) (by unfold KR; omega)); clear h7 st7 st67))
        all_goals (
          go_wp2
          exact ⟨⟨k + 1, by omega, by go_num, (putW s l mm).1, o7, H67.out, H7.out, HM.out.1, Nat.le_trans HM.out.2.2.2 (by omega), ST7.out⟩, by simp [intOf]; omega⟩)
      · by_cases ho : kd = 1
        · subst ho
          obtain ⟨e1, he1⟩ : ∃ x, x = (removeW s l).2 := ⟨_, rfl⟩
          have CPH := fun w' (e : Ext wr w') => wRemove_c w' o 1 p s (HS.out.ext e) l (by omega)
          rw [← he1] at CPH
          have CPH := Lib.hid CPH
          have HE1 := Lib.hid he1
          have HM := Lib.hid (removeW_ok HOK.out l)
          have CRP := Lib.hid (fun w' o' (hr : RwAt w' o' 4 r s) => (show Calls Tryz.prog 45 #[.pointer (some ⟨r, 0, none⟩), .string (str l)] w' (Turns (KR 4) w' o' fun v w'' o'' => v = .int .i64 e1 ∧ RwAt w'' o'' 4 r (removeW s l).1) from by
            rw [HE1.out]
            exact rwRemove_c w' o' 4 r s hr HOK.out l))
          clear hn0 hn1 he1
          go_wp2
          go_region_held3 (fun w' => w'.cell? ⟨b, f + k * 4 + 1, none⟩ = some (.int .i64 n) ∧ w'.cell? ⟨b, f + k * 4 + 2, none⟩ = some (.string (str l)) ∧ w'.cell? ⟨b, f + k * 4 + 3, none⟩ = some (.slice B mm.length d)) ((apply F.out; (repeat (first | exact Ext.rfl' _ | assumption | refine Ext.dr ?_ | refine Ext.drN ?_ _ | refine Ext.al ?_ _ | refine Ext.st ?_ (by simp) _ | refine Ext.tr ?_ (by assumption))))) (first
            | (go_at_call 44; refine (CPH.out _ (by (repeat (first | exact Ext.rfl' _ | assumption | refine Ext.dr ?_ | refine Ext.drN ?_ _ | refine Ext.al ?_ _ | refine Ext.st ?_ (by simp) _ | refine Ext.tr ?_ (by assumption))))).mono ?_; rintro e w6 ⟨v, o6, rfl, ⟨rfl, h6⟩, st6⟩; have st06 := (Stp.ext (K := KW 1) (o := o) (show Ext wr _ by (repeat (first | exact Ext.rfl' _ | assumption | refine Ext.dr ?_ | refine Ext.drN ?_ _ | refine Ext.al ?_ _ | refine Ext.st ?_ (by simp) _ | refine Ext.tr ?_ (by assumption))))).tr st6; have ST6 : Hid (Stp (fun i => i ≠ 0) w (fun _ => 0) w6 o6) := Lib.hid (HST.out.tr (st06.mono fun i hi => by unfold KW at hi; omega)); have X6 : Ext w w6 := ST6.out.toExt (fun _ _ => by simp); have H6 := Lib.hid h6; have HR6 := Lib.hid (HR.out.stp st06 (by unfold KW; omega) (by unfold KW; omega) (by unfold KW; omega) (by unfold KW; omega)); clear h6 st6 st06)
            | (go_at_call 14; refine (snNum_s _ _).mono ?_; rintro e w8 ⟨rfl, rfl⟩)
            | (go_at_call 45; refine (CRP.out _ o6 (HR6.out.ext (by (repeat (first | exact Ext.rfl' _ | assumption | refine Ext.dr ?_ | refine Ext.drN ?_ _ | refine Ext.al ?_ _ | refine Ext.st ?_ (by simp) _ | refine Ext.tr ?_ (by assumption)))))).mono ?_; rintro e w7 ⟨v, o7, rfl, ⟨rfl, h7⟩, st7⟩; have st67 := (Stp.ext (K := KR 4) (show Ext w6 _ by (repeat (first | exact Ext.rfl' _ | assumption | refine Ext.dr ?_ | refine Ext.drN ?_ _ | refine Ext.al ?_ _ | refine Ext.st ?_ (by simp) _ | refine Ext.tr ?_ (by assumption))))).tr st7; have ST7 : Hid (Stp (fun i => i ≠ 0) w (fun _ => 0) w7 o7) := Lib.hid (ST6.out.tr (st67.mono fun i hi => by unfold KR at hi; omega)); have X7 : Ext w w7 := ST7.out.toExt (fun _ _ => by simp); have H7 := Lib.hid h7; have H67 := Lib.hid (H6.out.stp st67 (by unfold KR; omega) (by unfold KR; omega) (by unfold KR; omega)); clear h7 st7 st67))
          all_goals (
            go_wp2
            exact ⟨⟨k + 1, by omega, by go_num, (removeW s l).1, o7, H67.out, H7.out, HM.out.1, by have := HM.out.2.2; omega, ST7.out⟩, by simp [intOf]; omega⟩)
        · have k0 : (kd == 0) = false := by rw [beq_eq_false_iff_ne]; exact hz
          have k1 : (kd == 1) = false := by rw [beq_eq_false_iff_ne]; exact ho
          obtain ⟨e1, he1⟩ : ∃ x, x = (tickW s n).2 := ⟨_, rfl⟩
          have CPH := fun w' (e : Ext wr w') => wTick_c w' o 1 p s (HS.out.ext e) HOK.out n (by omega)
          rw [← he1] at CPH
          have CPH := Lib.hid CPH
          have HE1 := Lib.hid he1
          have HM := Lib.hid (tickW_ok HOK.out n)
          have CRP := Lib.hid (fun w' o' (hr : RwAt w' o' 4 r s) => (show Calls Tryz.prog 47 #[.pointer (some ⟨r, 0, none⟩), .int .i64 n] w' (Turns (KR 4) w' o' fun v w'' o'' => v = .int .i64 e1 ∧ RwAt w'' o'' 4 r (tickW s n).1) from by
            rw [HE1.out]
            exact rwTick_c w' o' 4 r s hr HOK.out n (by omega)))
          clear hn0 hn1 he1
          go_wp2
          go_region_held3 (fun w' => w'.cell? ⟨b, f + k * 4 + 1, none⟩ = some (.int .i64 n) ∧ w'.cell? ⟨b, f + k * 4 + 2, none⟩ = some (.string (str l)) ∧ w'.cell? ⟨b, f + k * 4 + 3, none⟩ = some (.slice B mm.length d)) ((apply F.out; (repeat (first | exact Ext.rfl' _ | assumption | refine Ext.dr ?_ | refine Ext.drN ?_ _ | refine Ext.al ?_ _ | refine Ext.st ?_ (by simp) _ | refine Ext.tr ?_ (by assumption))))) (first
            | (go_at_call 46; refine (CPH.out _ (by (repeat (first | exact Ext.rfl' _ | assumption | refine Ext.dr ?_ | refine Ext.drN ?_ _ | refine Ext.al ?_ _ | refine Ext.st ?_ (by simp) _ | refine Ext.tr ?_ (by assumption))))).mono ?_; rintro e w6 ⟨v, o6, rfl, ⟨rfl, h6⟩, st6⟩; have st06 := (Stp.ext (K := KW 1) (o := o) (show Ext wr _ by (repeat (first | exact Ext.rfl' _ | assumption | refine Ext.dr ?_ | refine Ext.drN ?_ _ | refine Ext.al ?_ _ | refine Ext.st ?_ (by simp) _ | refine Ext.tr ?_ (by assumption))))).tr st6; have ST6 : Hid (Stp (fun i => i ≠ 0) w (fun _ => 0) w6 o6) := Lib.hid (HST.out.tr (st06.mono fun i hi => by unfold KW at hi; omega)); have X6 : Ext w w6 := ST6.out.toExt (fun _ _ => by simp); have H6 := Lib.hid h6; have HR6 := Lib.hid (HR.out.stp st06 (by unfold KW; omega) (by unfold KW; omega) (by unfold KW; omega) (by unfold KW; omega)); clear h6 st6 st06)
            | (go_at_call 14; refine (snNum_s _ _).mono ?_; rintro e w8 ⟨rfl, rfl⟩)
            | (go_at_call 47; refine (CRP.out _ o6 (HR6.out.ext (by (repeat (first | exact Ext.rfl' _ | assumption | refine Ext.dr ?_ | refine Ext.drN ?_ _ | refine Ext.al ?_ _ | refine Ext.st ?_ (by simp) _ | refine Ext.tr ?_ (by assumption)))))).mono ?_; rintro e w7 ⟨v, o7, rfl, ⟨rfl, h7⟩, st7⟩; have st67 := (Stp.ext (K := KR 4) (show Ext w6 _ by (repeat (first | exact Ext.rfl' _ | assumption | refine Ext.dr ?_ | refine Ext.drN ?_ _ | refine Ext.al ?_ _ | refine Ext.st ?_ (by simp) _ | refine Ext.tr ?_ (by assumption))))).tr st7; have ST7 : Hid (Stp (fun i => i ≠ 0) w (fun _ => 0) w7 o7) := Lib.hid (ST6.out.tr (st67.mono fun i hi => by unfold KR at hi; omega)); have X7 : Ext w w7 := ST7.out.toExt (fun _ _ => by simp); have H7 := Lib.hid h7; have H67 := Lib.hid (H6.out.stp st67 (by unfold KR; omega) (by unfold KR; omega) (by unfold KR; omega)); clear h7 st7 st67))
          all_goals (
            go_wp2
            exact ⟨⟨k + 1, by omega, by go_num, (tickW s n).1, o7, H67.out, H7.out, HM.out.1, by have := HM.out.2.2; omega, ST7.out⟩, by simp [intOf]; omega⟩)
    · obtain rfl : k = N := by omega
      go_wp2
      refine bodyPost_ret (v := .tuple #[.pointer (some ⟨p, 0, none⟩), .pointer (some ⟨r, 0, none⟩), .bool true]) (by simp [results, Tryz.results16, go_sem]) rfl ?_
      exact ⟨p, r, s, o, rfl, HS.out, HOK.out, hvk, HST.out⟩
end Go.Proofs.YtemdgilifnhdpaaGreatDoor
