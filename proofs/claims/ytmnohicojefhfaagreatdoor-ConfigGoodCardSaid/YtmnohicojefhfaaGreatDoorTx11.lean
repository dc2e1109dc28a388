/-
What is read may be, can be written again, and read; with a fault there is no configuration.
-/
import Derived.Test.YtmnohicojefhfaaGreatDoorTXb
import Derived.Test.YtmnohicojefhfaaGreatDoorTx5
import Derived.Test.YtmnohicojefhfaaGreatDoorCi4
import Derived.Test.YtmnohicojefhfaaGreatDoorCi5
set_option linter.unusedVariables false
set_option linter.unusedSimpArgs false
namespace Go.Proofs.YtmnohicojefhfaaGreatDoor
open Go.RowKit

theorem cParse_a (l : List UInt8) (hs : l.length ≤ 140737488355328) (w : World) (hE : ErrR w) : Calls Tryz.prog 9 #[.string (str l)] w (Ret (IsPa (parseC l)) w) := by
  by_cases h : l.length ≤ 65536
  · exact cParse_c l h w hE
  · exact cParse_big l (by omega) hs w
set_option maxRecDepth 100000 in
set_option maxHeartbeats 4000000 in
theorem ConfigGood_w (l : List UInt8) (hs : l.length ≤ 140737488355328) (w : World) (hE : ErrR w) (hP : Pow w) : Calls Tryz.prog 8 #[.string (str l)] w (Gives (.bool true) w) := by
  have CK := Lib.hid (fun w' (hx : Ext w w') => knows14_c w' (hE.ext hx))
  have CP1 := Lib.hid (cParse_a l hs w hE)
  have HE := Lib.hid hE
  have HP := Lib.hid hP
  have hpa := pa_ok l
  clear hE hP
  obtain ⟨s, hsl⟩ : ∃ s, s = str l := ⟨_, rfl⟩
  have hsz : s.size = l.length := by rw [hsl, str_size]
  rw [← hsl] at CP1 ⊢
  obtain ⟨r, hr⟩ : ∃ r, r = parseC l := ⟨_, rfl⟩
  rw [← hr] at CP1 hpa
  clear hr hsl
  obtain ⟨c, n, e⟩ := r
  have h1 := hpa.bad
  have h2 := hpa.line
  have h3 := hpa.good
  dsimp only at h1 h2 h3
  rw [← hsz] at h2
  have hs2 : s.size ≤ 140737488355328 := by omega
  clear hpa hsz hs
  go_enter Tryz.func8, Tryz.ntmps8
  by_cases he : e = 0
  · obtain ⟨hg, hn⟩ := h3 he
    subst he
    subst hn
    have HG := Lib.hid hg
    clear h1 h2 h3 hg
    go_upto_region 2 with (go_at_call 9; refine CP1.out.mono ?_; rintro e' w1 ⟨v, rfl, ⟨cv, rfl, ⟨U1, UA1, uc1, S1, SA1, sc1, rfl, hR1⟩, hB, hT⟩, hx1⟩; have HR1 := Lib.hid hR1; have HB := Lib.hid hB; have HT := Lib.hid hT; clear hR1 hB hT; dsimp only [cfV])
    have a0 := fun j u => new_at w1 #[.int .i64 c.keep, .int .i64 c.body, .int .i64 c.store, .int .i64 c.conns, .slice UA1 c.ups.length uc1, .slice SA1 c.srvs.length sc1] 25 j u
    obtain ⟨W2, hW2⟩ : ∃ W, W = w1.alloc (.cells #[.int .i64 c.keep, .int .i64 c.body, .int .i64 c.store, .int .i64 c.conns, .slice UA1 c.ups.length uc1, .slice SA1 c.srvs.length sc1] 25) := ⟨_, rfl⟩
    have hx2 : Ext w1 W2 := by rw [hW2]; exact (Ext.rfl' _).al _
    have hxw2 : Ext w W2 := hx1.tr hx2
    rw [← hW2] at a0 ⊢
    clear hW2
    have A0 := Lib.hid a0
    clear a0
    have PX := Lib.hid (fun wx (hx : Ext W2 wx) j u h => (hx.cell (lt_of_cell (A0.out j u h))).trans (A0.out j u h))
    have p0 := A0.out 0 _ rfl
    have p1 := A0.out 1 _ rfl
    have p2 := A0.out 2 _ rfl
    have p3 := A0.out 3 _ rfl
    have p4 := A0.out 4 _ rfl
    have p5 := A0.out 5 _ rfl
    have CT := Lib.hid (cText_c c U1 UA1 uc1 S1 SA1 sc1 W2 (HE.out.ext hxw2) (HP.out.ext hxw2) (HR1.out.ext hx2) (CfS.of HB.out HT.out) (fun h => cfn_of c h HT.out))
    have CC := Lib.hid (fun w' (hx : Ext W2 w') => cCheck_c c U1 UA1 uc1 S1 SA1 sc1 w' (HE.out.ext (hxw2.tr hx)) (HR1.out.ext (hx2.tr hx)) (CfS.of HB.out HT.out))
    rw [HG.out] at CC
    have HTR : Hid (textR c = if (textC c).length ≤ 65536 then (textC c, 0) else ([], 6)) := Lib.hid (if_pos HG.out)
    have hx0 : Ext W2 W2 := Ext.rfl' _
    by_cases hl : (textC c).length ≤ 65536
    · have CP2 := Lib.hid (fun w' (hx : Ext w w') => cParse_c (textC c) hl w' (HE.out.ext hx))
      rw [parse_text c HG.out hl] at CP2
      rw [HTR.out, if_pos hl] at CT
      dsimp only at CT
      clear hl HTR
      obtain ⟨st, hst⟩ : ∃ s, s = str (textC c) := ⟨_, rfl⟩
      rw [← hst] at CT CP2
      clear hst
      go_upto_region 5 with (first
        | (go_at_call 13; refine (num14_c _ _).mono ?_; rintro e' w7 ⟨rfl, rfl⟩)
        | (go_at_call 18; refine CT.out.mono ?_; rintro e' w3 ⟨rfl, hx3⟩))
      clear p0 p1 p2 p3 p4 p5
      have p0 := PX.out _ hx3 0 _ rfl
      have p1 := PX.out _ hx3 1 _ rfl
      have p2 := PX.out _ hx3 2 _ rfl
      have p3 := PX.out _ hx3 3 _ rfl
      have p4 := PX.out _ hx3 4 _ rfl
      have p5 := PX.out _ hx3 5 _ rfl
      go_upto_region 7 with (first
        | (go_at_call 15; refine (CC.out _ hx3).mono ?_; rintro e' w4 ⟨rfl, hx4⟩; dsimp only [okE])
        | (go_at_call 13; refine (num14_c _ _).mono ?_; rintro e' w7 ⟨rfl, rfl⟩))
      clear p0 p1 p2 p3 p4 p5
      have hx24 := hx3.tr hx4
      go_upto_region 10 with (first
        | (go_at_call 13; refine (num14_c _ _).mono ?_; rintro e' w7 ⟨rfl, rfl⟩)
        | (go_at_call 9; refine (CP2.out _ (hxw2.tr hx24)).mono ?_; rintro e' w5 ⟨v, rfl, ⟨cv, rfl, ⟨U2, UA2, uc2, S2, SA2, sc2, rfl, hR2⟩, hB2, hT2⟩, hx5⟩; have HR2 := Lib.hid hR2; clear hR2 hB2 hT2; dsimp only [cfV]))
      have b0 := fun j u => new_at w5 #[.int .i64 c.keep, .int .i64 c.body, .int .i64 c.store, .int .i64 c.conns, .slice UA2 c.ups.length uc2, .slice SA2 c.srvs.length sc2] 25 j u
      obtain ⟨W6, hW6⟩ : ∃ W, W = w5.alloc (.cells #[.int .i64 c.keep, .int .i64 c.body, .int .i64 c.store, .int .i64 c.conns, .slice UA2 c.ups.length uc2, .slice SA2 c.srvs.length sc2] 25) := ⟨_, rfl⟩
      have hx6 : Ext w5 W6 := by rw [hW6]; exact (Ext.rfl' _).al _
      rw [← hW6] at b0 ⊢
      clear hW6
      have hx26 : Ext W2 W6 := (hx24.tr hx5).tr hx6
      have p0 := PX.out _ hx26 0 _ rfl
      have p1 := PX.out _ hx26 1 _ rfl
      have p2 := PX.out _ hx26 2 _ rfl
      have p3 := PX.out _ hx26 3 _ rfl
      have p4 := PX.out _ hx26 4 _ rfl
      have p5 := PX.out _ hx26 5 _ rfl
      have q0 := b0 0 _ rfl
      have q1 := b0 1 _ rfl
      have q2 := b0 2 _ rfl
      have q3 := b0 3 _ rfl
      have q4 := b0 4 _ rfl
      have q5 := b0 5 _ rfl
      have hb := HB.out
      have CSM := Lib.hid (cSame_c c U1 U2 UA1 UA2 uc1 uc2 S1 S2 SA1 SA2 sc1 sc2 W6 (HR1.out.ext (hx2.tr hx26)) (HR2.out.ext hx6) (by have := hb.ups; omega) (by have := hb.srvs; omega) (fun u hu => by have := hb.peers u hu; omega) (fun u hu => by have := hb.names u hu; omega) (fun u hu => by have := hb.locs u hu; omega))
      unfold cfV at CSM
      clear b0 hb
      go_wp2_with (first
        | (go_at_call 11; refine CSM.out.mono ?_; rintro e' w8 ⟨rfl, hx8⟩)
        | (go_at_call 13; refine (num14_c _ _).mono ?_; rintro e' w7 ⟨rfl, rfl⟩)
        | (go_at_call 14; refine (CK.out _ ((hxw2.tr hx26).tr hx8)).mono ?_; rintro e' w9 ⟨rfl, hx9⟩))
      go_ret
      exact ⟨rfl, ((hxw2.tr hx26).tr hx8).tr hx9⟩
    · rw [HTR.out, if_neg hl] at CT
      dsimp only at CT
      clear hl HTR
      go_upto_region 5 with (first
        | (go_at_call 13; refine (num14_c _ _).mono ?_; rintro e' w7 ⟨rfl, rfl⟩)
        | (go_at_call 18; refine CT.out.mono ?_; rintro e' w3 ⟨rfl, hx3⟩))
      clear p0 p1 p2 p3 p4 p5
      have p0 := PX.out _ hx3 0 _ rfl
      have p1 := PX.out _ hx3 1 _ rfl
      have p2 := PX.out _ hx3 2 _ rfl
      have p3 := PX.out _ hx3 3 _ rfl
      have p4 := PX.out _ hx3 4 _ rfl
      have p5 := PX.out _ hx3 5 _ rfl
      go_upto_region 7 with (first
        | (go_at_call 15; refine (CC.out _ hx3).mono ?_; rintro e' w4 ⟨rfl, hx4⟩; dsimp only [okE])
        | (go_at_call 13; refine (num14_c _ _).mono ?_; rintro e' w7 ⟨rfl, rfl⟩))
      clear p0 p1 p2 p3 p4 p5
      have hxw4 := hxw2.tr (hx3.tr hx4)
      go_wp2_with (first
        | (go_at_call 13; refine (num14_c _ _).mono ?_; rintro e' w7 ⟨rfl, rfl⟩)
        | (go_at_call 14; refine (CK.out _ hxw4).mono ?_; rintro e' w9 ⟨rfl, hx9⟩))
      go_ret
      exact ⟨rfl, hxw4.tr hx9⟩
  · have hc := h1 he
    subst hc
    have hne : (e == 0) = false := beq_eq_false_iff_ne.2 he
    have hle : (n : Int) ≤ (s.size : Int) + 1 := by omega
    have hn0 : (0 : Int) ≤ (n : Int) := by omega
    have hsw : IntKind.i64.wrap ((s.size : Int) + 1) = (s.size : Int) + 1 := by rw [IntKind.wrap_i64]; omega
    clear h1 h2 h3 he hs2
    go_upto_region 2 with (go_at_call 9; refine CP1.out.mono ?_; rintro e' w1 ⟨v, rfl, ⟨cv, rfl, ⟨U1, UA1, uc1, S1, SA1, sc1, rfl, hR1⟩, hB, hT⟩, hx1⟩; have HR1 := Lib.hid hR1; have HB := Lib.hid hB; clear hR1 hB hT; dsimp only [cfV])
    have a0 := fun j u => new_at w1 #[.int .i64 cfZ.keep, .int .i64 cfZ.body, .int .i64 cfZ.store, .int .i64 cfZ.conns, .slice UA1 cfZ.ups.length uc1, .slice SA1 cfZ.srvs.length sc1] 25 j u
    obtain ⟨W2, hW2⟩ : ∃ W, W = w1.alloc (.cells #[.int .i64 cfZ.keep, .int .i64 cfZ.body, .int .i64 cfZ.store, .int .i64 cfZ.conns, .slice UA1 cfZ.ups.length uc1, .slice SA1 cfZ.srvs.length sc1] 25) := ⟨_, rfl⟩
    have hx2 : Ext w1 W2 := by rw [hW2]; exact (Ext.rfl' _).al _
    have hxw2 : Ext w W2 := hx1.tr hx2
    rw [← hW2] at a0 ⊢
    clear hW2
    have p0 := a0 0 _ rfl
    have p1 := a0 1 _ rfl
    have p2 := a0 2 _ rfl
    have p3 := a0 3 _ rfl
    have p4 := a0 4 _ rfl
    have p5 := a0 5 _ rfl
    obtain ⟨U2, UA2, uc2, S2, SA2, sc2, hz, hR2⟩ := IsCf.zero W2
    have CSM := Lib.hid (cSame_c cfZ U1 [] UA1 none uc1 0 S1 [] SA1 none sc1 0 W2 (HR1.out.ext hx2) ⟨rfl, rfl, .inl rfl, .inl rfl, fun x hx => (by cases hx), fun x hx => (by cases hx), fun x hx => (by cases hx)⟩ (by decide) (by decide) (fun u hu => by cases hu) (fun u hu => by cases hu) (fun u hu => by cases hu))
    unfold cfV at CSM
    clear a0 hz hR2
    go_wp2_with (first
      | (go_at_call 11; refine CSM.out.mono ?_; rintro e' w8 ⟨rfl, hx8⟩)
      | (go_at_call 13; refine (num14_c _ _).mono ?_; rintro e' w7 ⟨rfl, rfl⟩)
      | (go_at_call 14; refine (CK.out _ (hxw2.tr hx8)).mono ?_; rintro e' w9 ⟨rfl, hx9⟩))
    go_ret
    exact ⟨rfl, (hxw2.tr hx8).tr hx9⟩
end Go.Proofs.YtmnohicojefhfaaGreatDoor
