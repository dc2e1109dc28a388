/-
Fields by their names: the law as a walk.
-/
import Derived.Test.YtppajpchibkneaaDoorHv3
import Derived.Test.YtppajpchibkneaaDoorHd4
set_option linter.unusedVariables false
set_option linter.unusedSimpArgs false
namespace Go.Proofs.YtppajpchibkneaaDoor
open Go.RowKit

theorem first_tup (ls : List (List UInt8)) : ∃ s b, firstV ls = .tuple #[.string s, .bool b] := by
  cases ls with
  | nil => exact ⟨_, _, rfl⟩
  | cons v ls => exact ⟨_, _, rfl⟩
set_option maxRecDepth 100000 in
set_option maxHeartbeats 4000000 in
theorem HeadLists_w (w : World) (hM : Mx w) (hE : ErrR w) (fs : List Fld) (nm : List UInt8) (nms : List (List UInt8)) (A B : Option Addr) (n c m d : Nat) (hn : fs.length = n) (hm : nms.length = m) (hb : n ≤ 4398046511102) (hbm : m ≤ 9223372036854775806) (hnm : nm.length ≤ maxLen) (hsz : ∀ p ∈ fs, p.1.length ≤ maxLen) (hsn : ∀ p ∈ nms, p.length ≤ maxLen) (h : Rd w A (fc fs)) (hB : Rd w B (sc nms)) :
    Calls Tryd.prog 6 #[.slice A n c, .string (str nm), .slice B m d] w (Gives (.bool true) w) := by
  have HA := Lib.hid h
  have HBB := Lib.hid hB
  have HM := Lib.hid hM
  have HER := Lib.hid hE
  have hms : maxLen = 9223372036854775807 := rfl
  have C1 := Lib.hid (fun w A c h => hFirst_c fs nm A n c hn (by omega) hnm hsz w h)
  have C2 := Lib.hid (fun w A c h => rhFirst_c fs nm A n c hn (by omega) hnm hsz w h)
  have C3 := Lib.hid (fun w A c h => hValues_c fs nm A n c hn (by omega) hnm hsz w h)
  have C4 := Lib.hid (fun w A c h => rhValues_c fs nm A n c hn (by omega) hnm hsz w h)
  have C5 := Lib.hid (fun w A c h hB => hWithout_c fs nms A B n c m d hn hm hb (by omega) hsz hsn w h hB)
  have C6 := Lib.hid (fun w A c h hB => rhWithout_c fs nms A B n c m d hn hm hb (by omega) hsz hsn w h hB)
  have C7 := Lib.hid (fun w A B c d h hB => hFields_c fs A B n c n d hn hn (by omega) w h hB)
  have hvl := vals_len fs nm
  have hwl := with_len fs nms
  obtain ⟨s, b, hsb⟩ := first_tup (valsH fs nm)
  rw [hsb] at C1 C2
  obtain ⟨vs, hvs⟩ : ∃ q, q = valsH fs nm := ⟨_, rfl⟩
  obtain ⟨ws, hws⟩ : ∃ q, q = withH fs nms := ⟨_, rfl⟩
  rw [← hvs] at C3 C4 hvl
  rw [← hws] at C5 C6 hwl
  have C8 := Lib.hid (fun w A B c d ha hb => SameStrings_c w A B vs.length vs.length c d vs rfl rfl (by omega) ha hb)
  have C9 := Lib.hid (fun w A B c d h hB => hFields_c ws A B ws.length c ws.length d rfl rfl (by omega) w h hB)
  have hfl := fc_len fs
  have HN := Lib.hid hn
  clear h hB hM hE hsb hvs hws hvl hwl hsz hsn hnm hn hm
  go_enter Tryd.func6, Tryd.ntmps6
  go_wp2_with (first
    | (at_builtin; refine wpL_fresh slt_fld (.tmp 12) (.tmp 13) rfl rfl (o := fun _ => 0) 9 rfl rfl (Sl.src Tryd.underlying29 (HA.out.ext (by (repeat (first | exact Ext.rfl' _ | assumption | refine Ext.dr ?_ | refine Ext.drN ?_ _ | refine Ext.al ?_ _ | refine Ext.st ?_ (by simp) _ | refine Ext.tr ?_ (by assumption))))) (by rw [hfl, HN.out]) (by omega) (fc_one fs) c) (by omega) (by omega) ?_; intro A1 c1 w1 o1 hs1 st1 hn1; have x1 : Ext w w1 := Ext.tr (by (repeat (first | exact Ext.rfl' _ | assumption | refine Ext.dr ?_ | refine Ext.drN ?_ _ | refine Ext.al ?_ _ | refine Ext.st ?_ (by simp) _ | refine Ext.tr ?_ (by assumption)))) st1.noExt; have R1 := Lib.hid hs1.rd; clear hs1 st1)
    | (go_at_call 19; refine (C1.out _ _ _ R1.out).mono ?_; rintro e w2 ⟨rfl, x2⟩)
    | (go_at_call 20; refine (C2.out _ _ _ (HA.out.ext (x1.tr x2))).mono ?_; rintro e w3 ⟨rfl, x3⟩)
    | (go_at_call 22; refine (C3.out _ _ _ (R1.out.ext (x2.tr x3))).mono ?_; rintro e w4 ⟨v, rfl, ⟨A4, c4, rfl, hr4⟩, x4⟩)
    | (go_at_call 23; refine (C4.out _ _ _ (HA.out.ext (((x1.tr x2).tr x3).tr x4))).mono ?_; rintro e w5 ⟨v, rfl, ⟨A5, c5, rfl, hr5⟩, x5⟩)
    | (go_at_call 21; refine (C8.out _ _ _ _ _ (hr4.ext x5) hr5).mono ?_; rintro e w6 ⟨rfl, x6⟩)
    | (go_at_call 24; refine (C5.out _ _ _ (R1.out.ext (x2.tr (x3.tr (x4.tr (x5.tr x6))))) (HBB.out.ext (x1.tr (x2.tr (x3.tr (x4.tr (x5.tr x6))))))).mono ?_; rintro e w7 ⟨v, rfl, ⟨A7, c7, rfl, hr7⟩, x7⟩)
    | (go_at_call 25; refine (C6.out _ _ _ (HA.out.ext (x1.tr (x2.tr (x3.tr (x4.tr (x5.tr (x6.tr x7))))))) (HBB.out.ext (x1.tr (x2.tr (x3.tr (x4.tr (x5.tr (x6.tr x7)))))))).mono ?_; rintro e w8 ⟨v, rfl, ⟨A8, c8, rfl, hr8⟩, x8⟩)
    | (go_at_call 18; refine (C7.out _ _ _ _ _ (R1.out.ext (x2.tr (x3.tr (x4.tr (x5.tr (x6.tr (x7.tr (x8.tr x9)))))))) (HA.out.ext (x1.tr (x2.tr (x3.tr (x4.tr (x5.tr (x6.tr (x7.tr (x8.tr x9)))))))))).mono ?_; rintro e w10 ⟨rfl, x10⟩)
    | (go_at_call 18; refine (C9.out _ _ _ _ _ (hr7.ext x8) hr8).mono ?_; rintro e w9 ⟨rfl, x9⟩)
    | (go_at_call 8; have xx := x1.tr (x2.tr (x3.tr (x4.tr (x5.tr (x6.tr (x7.tr (x8.tr (x9.tr x10)))))))); refine (knows11_c _ (HM.out.ext xx) (HER.out.ext xx)).mono ?_; rintro e w11 ⟨rfl, x11⟩))
  go_ret
  exact ⟨rfl, xx.tr x11⟩
end Go.Proofs.YtppajpchibkneaaDoor
