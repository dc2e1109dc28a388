/-
A world behind orders: played.
-/
import Derived.Test.YtnakeigpelcajaaWo1
set_option linter.unusedVariables false
set_option linter.unusedSimpArgs false
namespace Go.Proofs.Ytnakeigpelcajaa
open Go.RowKit

/-- A world stands at p behind so many orders. -/
def PlAt (w0 w : World) (p : Nat) (n : Nat) : Prop := ∃ (s : Wrl) (o : Ow), WdAt w o 1 p s ∧ Wok s ∧ s.ver ≤ n ∧ Stp (fun i => i ≠ 0) w0 (fun _ => 0) w o
set_option maxRecDepth 100000 in
set_option maxHeartbeats 2000000 in
theorem played_no (w : World) (a : Int) (h : a < 0 ∨ 253402300799 < a) (v : Value) : Calls Try.prog 15 #[.int .i64 a, v] w (Gives (.pointer none) w) := by
  go_enter Try.func15, Try.ntmps15
  go_wp2_with (first
    | (go_at_call 7; refine (wNew_no a h _).mono ?_; rintro e w1 ⟨rfl, hx1⟩)
    | (go_at_call 8; refine (num13_c _ _).mono ?_; rintro e w8 ⟨rfl, rfl⟩))
  go_ret
  exact ⟨rfl, by (repeat (first | exact Ext.rfl' _ | assumption | refine Ext.dr ?_ | refine Ext.drN ?_ _ | refine Ext.al ?_ _ | refine Ext.st ?_ (by simp) _ | refine Ext.tr ?_ (by assumption)))⟩
set_option maxRecDepth 100000 in
set_option maxHeartbeats 16000000 in
theorem played_yes (w : World) (a : Int) (h0 : 0 ≤ a) (h1 : a ≤ 253402300799) (A : Option Addr) (c : Nat) (xs : List OpW) (hA : RdOpW w A xs) (hxs : xs.length ≤ 140737488351232) :
    Calls Try.prog 15 #[.int .i64 a, .slice A xs.length c] w fun e w' => ∃ p, e = .returned (.pointer (some ⟨p, 0, none⟩)) ∧ PlAt w w' p xs.length := by
  have HA := Lib.hid hA
  clear hA
  obtain ⟨N, hN⟩ : ∃ N, N = xs.length := ⟨_, rfl⟩
  rw [← hN]
  have HN := Lib.hid hN
  have hNb : N ≤ 140737488351232 := by omega
  clear hN hxs
  go_enter Try.func15, Try.ntmps15
  go_wp2_with (first
    | (go_at_call 7; refine (wNew_yes 1 a h0 h1 _ (fun _ => 0)).mono ?_; rintro e w1 ⟨v, o1, rfl, ⟨p, rfl, h1, hp1⟩, st1⟩; have H1 := Lib.hid h1; have ST1 := Lib.hid (st1.mono (L := fun i => i ≠ 0) fun _ h => h.elim); clear st1 h1)
    | (go_at_call 8; refine (num13_c _ _).mono ?_; rintro e w8 ⟨rfl, rfl⟩))
  go_loopw [7] (fun v7 wr => ∃ (k : Nat) (s : Wrl) (o : Ow), k ≤ N ∧ v7 = .int .i64 (k : Int) ∧ WdAt wr o 1 p s ∧ Wok s ∧ s.ver ≤ k ∧ Stp (fun i => i ≠ 0) w (fun _ => 0) wr o) (fun i _ => N - (intOf i).toNat)
  case atStart => exact ⟨0, ⟨[], a, 0⟩, o1, Nat.zero_le _, rfl, H1.out, (newW_ok (s := ⟨[], a, 0⟩) (now := a) (by unfold newW wlast; rw [if_neg (by omega)])).1, Nat.le_refl _, ST1.out⟩
  case round =>
    obtain ⟨k, s, o, hk, rfl, hs, hok, hvk, hst⟩ := hrel
    have HS := Lib.hid hs
    have HOK := Lib.hid hok
    have HST := Lib.hid hst
    by_cases hkn : k < N
    · have hx : Ext w wr := hst.toExt (fun _ _ => by simp)
      obtain ⟨b, f, rfl, hbl, g0, g1, g2, g3⟩ := (HA.out.ext hx).row (k := k) (by rw [← HN.out]; exact hkn)
      obtain ⟨x, hxk⟩ : ∃ x, x = xs[k]'(by rw [← HN.out]; exact hkn) := ⟨_, rfl⟩
      rw [← hxk] at g0 g1 g2 g3
      obtain ⟨hrB, hml, ⟨hn0, hn1⟩, hpl⟩ := HA.out.each x (by rw [hxk]; exact List.getElem_mem _)
      have hk0 : (0 : Int) ≤ (k : Int) := by omega
      have hk1 : (k : Int) < (N : Int) := by omega
      have F : Hid (∀ w', Ext w w' → (w'.cell? ⟨b, f + k * 4 + 2, none⟩ = some (.string (str x.path)) ∧ w'.cell? ⟨b, f + k * 4 + 3, none⟩ = some (.slice x.B x.mm.length x.d))) := Lib.hid (fun w' e => by
        have := (HA.out.ext e).cells (k := k) (by rw [← HN.out]; exact hkn)
        rw [← hxk] at this
        exact this.2.2)
      clear hs hok hst hxk
      obtain ⟨kd, n, l, B, d, mm⟩ := x
      dsimp only at g0 g1 g2 g3 hrB hml hn0 hn1 hpl F
      by_cases hz : kd = 0
      · subst hz
        have x0 : Ext wr (wr.drew.alloc (.cells #[] 5)) := by (repeat (first | exact Ext.rfl' _ | assumption | refine Ext.dr ?_ | refine Ext.drN ?_ _ | refine Ext.al ?_ _ | refine Ext.st ?_ (by simp) _ | refine Ext.tr ?_ (by assumption)))
        obtain ⟨A5, c5, w5, o5, hr5, hs5, st5, hn5⟩ := run_copy 8 wr.drew o mm B mm.length d rfl (hrB.ext (hx.tr (by (repeat (first | exact Ext.rfl' _ | assumption | refine Ext.dr ?_ | refine Ext.drN ?_ _ | refine Ext.al ?_ _ | refine Ext.st ?_ (by simp) _ | refine Ext.tr ?_ (by assumption)))))) hml 30
        have hr5 : (Builtin.append_ #[30, 30] 30 #[.slice (some ⟨wr.heap.size, 0, none⟩) 0 0, .slice B mm.length d]).run Try.prog (wr.alloc (.cells #[] 5)).drew = .ok (.slice A5 mm.length c5) w5 := hr5
        have X5 : Ext wr w5 := (show Ext wr wr.drew by (repeat (first | exact Ext.rfl' _ | assumption | refine Ext.dr ?_ | refine Ext.drN ?_ _ | refine Ext.al ?_ _ | refine Ext.st ?_ (by simp) _ | refine Ext.tr ?_ (by assumption)))).tr st5.noExt
        have stw : Stp (fun _ => False) wr o w5 o5 := (Stp.ext (show Ext wr wr.drew by (repeat (first | exact Ext.rfl' _ | assumption | refine Ext.dr ?_ | refine Ext.drN ?_ _ | refine Ext.al ?_ _ | refine Ext.st ?_ (by simp) _ | refine Ext.tr ?_ (by assumption))))).tr st5
        have H5 := HS.out.stp stw (fun x => x) (fun x => x) (fun x => x)
        have CPH := Lib.hid (wPut_c w5 o5 1 p s H5 HOK.out l mm (by omega) A5 mm.length c5 rfl (by omega) hs5.rd hn5 (hs5.away (by omega)) (by omega))
        have STW : Hid (Stp (fun i => i ≠ 0) w (fun _ => 0) w5 o5) := Lib.hid (HST.out.tr (stw.mono fun _ h => h.elim))
        have X55 : Ext w w5 := STW.out.toExt (fun _ _ => by simp)
        have HM := Lib.hid (putW_ok HOK.out l mm)
        clear h0 h1 hn0 hn1
        go_wp2
        go_region_held3 (fun w' => w'.cell? ⟨b, f + k * 4 + 2, none⟩ = some (.string (str l)) ∧ w'.cell? ⟨b, f + k * 4 + 3, none⟩ = some (.slice B mm.length d)) ((apply F.out; (repeat (first | exact Ext.rfl' _ | assumption | refine Ext.dr ?_ | refine Ext.drN ?_ _ | refine Ext.al ?_ _ | refine Ext.st ?_ (by simp) _ | refine Ext.tr ?_ (by assumption))))) (first
          | (refine step_run (.tmp 39) (.tmp 44) rfl rfl rfl rfl hr5 ?_)
          | (go_at_call 11; refine CPH.out.mono ?_; rintro e w6 ⟨v, o6, rfl, ⟨rfl, h6⟩, st6⟩; have ST6 : Hid (Stp (fun i => i ≠ 0) w (fun _ => 0) w6 o6) := Lib.hid (STW.out.tr (st6.mono fun i hi => by unfold KW at hi; omega)); have X6 : Ext w w6 := ST6.out.toExt (fun _ _ => by simp); have H6 := Lib.hid h6; clear h6 st6))
        go_wp2
        exact ⟨⟨k + 1, (putW s l mm).1, o6, by omega, by go_num, H6.out, HM.out.1, Nat.le_trans HM.out.2.2.2 (by omega), ST6.out⟩, by simp [intOf]; omega⟩
      · by_cases ho : kd = 1
        · subst ho
          go_wp2_with (first
            | (go_at_call 13; refine (wRemove_c _ o 1 p s HS.out l (by omega)).mono ?_; rintro e w4 ⟨v, o4, rfl, ⟨rfl, h4⟩, st4⟩; have h5 := removeW_ok HOK.out l; have H4 := Lib.hid h4; clear h4))
          exact ⟨⟨k + 1, (removeW s l).1, o4, by omega, by go_num, H4.out, h5.1, by rw [h5.2.2]; omega, HST.out.tr (st4.mono fun i hi => by unfold KW at hi; omega)⟩, by simp [intOf]; omega⟩
        · have k0 : (kd == 0) = false := by rw [beq_eq_false_iff_ne]; exact hz
          have k1 : (kd == 1) = false := by rw [beq_eq_false_iff_ne]; exact ho
          by_cases ht : kd = 2
          · subst ht
            have h5 := tickW_ok HOK.out n
            clear hz ho k0 k1
            go_wp2_with (first
              | (go_at_call 14; refine (wTick_c _ o 1 p s HS.out HOK.out n (by omega)).mono ?_; rintro e w4 ⟨v, o4, rfl, ⟨rfl, h4⟩, st4⟩; have H4 := Lib.hid h4; clear h4))
            exact ⟨⟨k + 1, (tickW s n).1, o4, by omega, by go_num, H4.out, h5.1, by rw [h5.2.2]; omega, HST.out.tr (st4.mono fun i hi => by unfold KW at hi; omega)⟩, by simp [intOf]; omega⟩
          · have k2 : (kd == 2) = false := by rw [beq_eq_false_iff_ne]; exact ht
            clear hz ho ht
            go_wp2
            exact ⟨⟨k + 1, s, o, by omega, by go_num, HS.out, HOK.out, by omega, HST.out⟩, by simp [intOf]; omega⟩
    · obtain rfl : k = N := by omega
      go_wp2
      go_ret
      exact ⟨p, rfl, s, o, HS.out, HOK.out, hvk, HST.out⟩
end Go.Proofs.Ytnakeigpelcajaa
