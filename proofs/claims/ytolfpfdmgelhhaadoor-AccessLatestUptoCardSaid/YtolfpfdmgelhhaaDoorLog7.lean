/-
The law AccessLatest: plain laws of what a log keeps; the law as a walk.
-/
import Derived.Test.YtolfpfdmgelhhaaDoorALg
set_option linter.unusedVariables false
set_option linter.unusedSimpArgs false
namespace Go.Proofs.YtolfpfdmgelhhaaDoor
open Go.RowKit

theorem totL_drop (ps : List (List UInt8)) (k : Nat) : totS (ps.drop k) ≤ totS ps := by
  have e : ps = ps.take k ++ ps.drop k := (List.take_append_drop k ps).symm
  conv => rhs; rw [e]
  rw [tot_app]; omega
/-- What is there is the last ones of all; one more would not have room. -/
def Lst (m : Nat) (all ls : List (List UInt8)) (d : Nat) : Prop := d ≤ all.length ∧ ls = all.drop d ∧ (d = 0 ∨ m < totS (all.drop (d - 1)))
theorem Lst.len {m d : Nat} {all ls : List (List UInt8)} (h : Lst m all ls d) : all.length = d + ls.length := by
  rw [h.2.1, List.length_drop]; have := h.1; omega
theorem Lst.add {m d : Nat} {all ls : List (List UInt8)} {x : Ent} (h : Lst m all ls d) (h0 : (lineL x).2 = 0) : Lst m (all ++ [(lineL x).1]) (logL m ls x) (d + logD m ls x) := by
  obtain ⟨h1, h2, h3⟩ := h
  unfold logL logD
  rw [if_pos h0, if_pos h0]
  obtain ⟨s, hs⟩ : ∃ s, s = (lineL x).1 := ⟨_, rfl⟩
  rw [← hs]
  obtain ⟨k, k1, k2, k3⟩ := cut_drop m (ls ++ [s])
  have hl : (ls ++ [s]).length = ls.length + 1 := by simp
  have hd : (all ++ [s]).drop d = ls ++ [s] := by rw [List.drop_append_of_le_length h1, h2]
  have hk : ls.length + 1 - (cutM m (ls ++ [s])).length = k := by rw [k2, List.length_drop, hl]; omega
  have hall : all.length = d + ls.length := by rw [h2, List.length_drop]; omega
  rw [hk]
  refine ⟨by rw [List.length_append]; simp only [List.length_cons, List.length_nil]; omega, ?_, ?_⟩
  · rw [k2, ← hd, List.drop_drop]
  · rcases Nat.eq_zero_or_pos k with hz | hz
    · subst hz
      rcases h3 with h3 | h3
      · left; omega
      · right
        rw [Nat.add_zero, List.drop_append_of_le_length (by omega), tot_app]
        omega
    · right
      rcases k3 with k3 | k3
      · omega
      · rw [← hd, List.drop_drop] at k3
        rw [show d + k - 1 = d + (k - 1) from by omega]
        exact k3
theorem Lst.nil (m : Nat) : Lst m [] [] 0 := ⟨Nat.zero_le _, rfl, .inl rfl⟩
theorem Lst.last {m d : Nat} {all ls : List (List UInt8)} (h : Lst m all ls (d + 1)) (hd : d < all.length) : m < all[d].length + 1 + totS ls := by
  obtain ⟨h1, h2, h3⟩ := h
  rcases h3 with h3 | h3
  · omega
  · rw [Nat.add_sub_cancel, List.drop_eq_getElem_cons hd, tot_cons, ← h2] at h3
    exact h3
/-- Where the law stands. -/
def LatAt (W : World) (lim p t : Nat) (v : Value) (w : World) : Prop :=
  ∃ o all ls d, Stp (fun i => i ≠ 0) W (fun _ => 0) w o ∧ GIs w o 1 p ls lim d ∧ IsS 3 all v w o ∧ totS ls ≤ lim ∧ Lst lim all ls d ∧ all.length ≤ t ∧ (∀ s ∈ all, s.length ≤ 200000)
theorem LatAt.toExt {W w : World} {lim p t : Nat} {v : Value} (h : LatAt W lim p t v w) : Ext W w := by
  obtain ⟨o, all, ls, d, h1, _⟩ := h
  exact h1.toExt fun _ _ hn => hn rfl
theorem totL_succ (ps : List (List UInt8)) (k : Nat) (h : k < ps.length) : totS (ps.take (k + 1)) = totS (ps.take k) + (ps[k].length + 1) := by
  rw [List.take_succ_eq_append_getElem h, tot_app, tot_one]
theorem totL_take (ps : List (List UInt8)) (k : Nat) : totS (ps.take k) ≤ totS ps := by
  have e : ps = ps.take k ++ ps.drop k := (List.take_append_drop k ps).symm
  conv => rhs; rw [e]
  rw [tot_app]; omega
set_option maxRecDepth 100000 in
set_option maxHeartbeats 8000000 in
theorem AccessLatest_w (W : World) (hE : ErrR W) (hP : Pow W) (hM : Mx W) (m : Int) (hm0 : -9223372036854775808 ≤ m) (hm1 : m ≤ 9223372036854775807) (A : Option Addr) (c : Nat) (xs : List Ent) (hA : RdE W A xs) (hx : xs.length ≤ 1353245080340) :
    Calls Tryd.prog 7 #[.int .i64 m, .slice A xs.length c] W (Gives (.bool true) W) := by
  have HE := Lib.hid hE
  have HP := Lib.hid hP
  have HM := Lib.hid hM
  have hms : maxLen = 9223372036854775807 := rfl
  have ht1 := Int.tmod_lt_of_pos m (show (0 : Int) < 2000 by decide)
  have ht0 : -2000 < m.tmod 2000 := by have := Int.lt_tmod_of_pos m (show (0 : Int) < 2000 by decide); omega
  obtain ⟨z, hz⟩ : ∃ z, z = m.tmod 2000 := ⟨_, rfl⟩
  rw [← hz] at ht1 ht0
  have hu1 := Int.tmod_lt_of_pos (z + 2000) (show (0 : Int) < 2000 by decide)
  have hu0 := Int.tmod_nonneg (a := z + 2000) 2000 (by omega)
  obtain ⟨lim, hlim⟩ : ∃ lim : Nat, (lim : Int) = 1 + (z + 2000).tmod 2000 := ⟨(1 + (z + 2000).tmod 2000).toNat, by omega⟩
  have h1 : 1 ≤ lim := by omega
  have h2 : lim ≤ 2000 := by omega
  have s1 : IntKind.i64.wrap (m.tmod 2000 + 2000) = m.tmod 2000 + 2000 := by rw [← hz, IntKind.wrap_i64]; omega
  have s2 : IntKind.i64.wrap (1 + (m.tmod 2000 + 2000).tmod 2000) = (lim : Int) := by rw [← hz, ← hlim, IntKind.wrap_i64]; omega
  have s3 : IntKind.i64.wrap (m.tmod 2000) = m.tmod 2000 := by rw [← hz, IntKind.wrap_i64]; omega
  have s4 : IntKind.i64.wrap ((m.tmod 2000 + 2000).tmod 2000) = (m.tmod 2000 + 2000).tmod 2000 := by rw [← hz, IntKind.wrap_i64]; omega
  clear hE hP hM hz ht1 ht0 hu1 hu0 hlim
  go_enter Tryd.func7, Tryd.ntmps7
  go_wp2_with (first
    | (go_at_call 28; refine (aNewLog_c 1 lim h1 (by omega) W (fun _ => 0)).mono ?_; rintro e w1 ⟨v, o1, rfl, ⟨p, rfl, hg1, _⟩, hst1⟩; have e1 : Ext W w1 := hst1.noExt)
    | (go_at_call 25; refine (num21_c _ _).mono ?_; rintro e w3 ⟨rfl, rfl⟩)
    | (go_at_call 26; refine (knows21_c _ (HE.out.ext (by (repeat (first | exact Ext.rfl' _ | assumption | refine Ext.dr ?_ | refine Ext.drN ?_ _ | refine Ext.al ?_ _ | refine Ext.st ?_ (by simp) _ | refine Ext.tr ?_ (by assumption))))) (HP.out.ext (by (repeat (first | exact Ext.rfl' _ | assumption | refine Ext.dr ?_ | refine Ext.drN ?_ _ | refine Ext.al ?_ _ | refine Ext.st ?_ (by simp) _ | refine Ext.tr ?_ (by assumption))))) (HM.out.ext (by (repeat (first | exact Ext.rfl' _ | assumption | refine Ext.dr ?_ | refine Ext.drN ?_ _ | refine Ext.al ?_ _ | refine Ext.st ?_ (by simp) _ | refine Ext.tr ?_ (by assumption)))))).mono ?_; rintro e w6 ⟨rfl, hx6⟩))
  have hat0 : LatAt W lim p 0 (.slice none 0 0) w6 := ⟨o1, [], [], 0, (hst1.mono (fun _ x => x.elim)).tr (Stp.ext hx6), hg1.ext hx6, ⟨none, 0, rfl, Sl.nil_ _ _ _ _ _, fun _ => rfl⟩, by simp [totS_nil], Lst.nil _, by simp, fun s h => (by cases h)⟩
  clear hst1 hg1 hx6 e1 s1 s2 s3 s4
  go_loopw [7, 8] (fun va vi wr => ∃ t : Nat, vi = .int .i64 (t : Int) ∧ t ≤ xs.length ∧ LatAt W lim p t va wr) (fun _ vi _ => xs.length - (intOf vi).toNat)
  case atStart => exact ⟨0, rfl, Nat.zero_le _, hat0⟩
  case round =>
    obtain ⟨t, rfl, ht, o, all, ls, d, hst, hg, ⟨Aa, ca, rfl, hs, hna⟩, htot, hL, hcnt, ham⟩ := hrel
    have hW := hst.toExt (fun _ _ hn => hn rfl)
    by_cases hlt : t < xs.length
    · have hlt' : (t : Int) < (xs.length : Int) := by omega
      have t0 : (0 : Int) ≤ (t : Int) := by omega
      obtain ⟨b, f, rfl, hb, hcc⟩ := hA.row hlt
      have hwf := hA.1 _ (List.getElem_mem hlt)
      obtain ⟨x, hxe⟩ : ∃ x, x = xs[t] := ⟨_, rfl⟩
      rw [← hxe] at hcc hwf
      clear hxe hA
      have ho : ∀ q, q < W.heap.size → o q = 0 := fun q hq => hst.own q hq
      have hks := Lib.hid (fun w' o' (e : Stp (fun i => i ≠ 0) wr o w' o') => (show w'.cell? ⟨b, f + t * 8, none⟩ = some (.int .i64 x.t) ∧ w'.cell? ⟨b, f + t * 8 + 1, none⟩ = some (.string (str x.c)) ∧ w'.cell? ⟨b, f + t * 8 + 2, none⟩ = some (.string (str x.m)) ∧ w'.cell? ⟨b, f + t * 8 + 3, none⟩ = some (.string (str x.h)) ∧ w'.cell? ⟨b, f + t * 8 + 4, none⟩ = some (.string (str x.g)) ∧ w'.cell? ⟨b, f + t * 8 + 5, none⟩ = some (.int .i64 x.s) ∧ w'.cell? ⟨b, f + t * 8 + 6, none⟩ = some (.int .i64 x.b) ∧ w'.cell? ⟨b, f + t * 8 + 7, none⟩ = some (.string (str x.a)) from by
        have g : ∀ j u, x.cells[j]? = some u → w'.cell? ⟨b, f + t * 8 + j, none⟩ = some u := fun j u h => e.cell (by show ¬ (o b ≠ 0); rw [ho _ hb]; exact fun h => h rfl) ((hW.cell hb).trans (hcc j u h))
        exact ⟨g 0 _ rfl, g 1 _ rfl, g 2 _ rfl, g 3 _ rfl, g 4 _ rfl, g 5 _ rfl, g 6 _ rfl, g 7 _ rfl⟩
        ))
      have hlen := hL.len
      have C1 := fun w o hq hE hP => aAppend_c 1 p lim d ls x hwf w o hq hE hP (by omega) htot
      have C3 := fun w => aOwn_c x w
      have C4 := fun w hE hP => aLine_c x hwf w hE hP
      have htot2 := logL_tot (x := x) htot
      have hadd := fun h0 => hL.add (x := x) h0
      have hbad := fun h0 => logL_bad (m := lim) (ls := ls) (x := x) h0
      unfold Ent.val Ent.cells at C1 C3 C4
      have HG := Lib.hid hg
      have HS := Lib.hid hst
      have HW := Lib.hid hW
      have HL := Lib.hid hL
      have HSl := Lib.hid hs
      clear hg hst hW ho hcc hL hs htot hlen
      obtain ⟨z0, z1, z2, z3, z4, z5, z6, z7⟩ := hks.out wr o Stp.rfl'
      by_cases h0 : (lineL x).2 = 0
      · have hadd := hadd h0
        have hll := (line_prt h0).2.2
        obtain ⟨l, hl⟩ : ∃ q, q = (lineL x).1 := ⟨_, rfl⟩
        obtain ⟨ls2, hls2⟩ : ∃ q, q = logL lim ls x := ⟨_, rfl⟩
        obtain ⟨d2, hd2⟩ : ∃ q, q = d + logD lim ls x := ⟨_, rfl⟩
        rw [← hl] at C4 hadd hll
        rw [h0] at C1 C4
        rw [← hls2] at C1 htot2 hadd
        rw [← hd2] at C1 hadd
        clear hls2 hd2 hl h0 hbad
        have C1 := Lib.hid C1
        have C3 := Lib.hid C3
        have C4 := Lib.hid C4
        go_wp2_with (first
          | (go_at_call 24; refine (C3.out _).mono ?_; rintro e w3 ⟨rfl, hx3⟩)
          | (go_at_call 30; refine (C1.out _ o (HG.out.ext hx3) (HE.out.ext (HW.out.tr hx3)) (HP.out.ext (HW.out.tr hx3))).mono ?_; rintro e w4 ⟨v, o4, rfl, ⟨rfl, hg4⟩, hst4⟩; have st4 : Stp (fun i => i ≠ 0) wr o w4 o4 := (Stp.ext hx3).tr (hst4.mono (fun i hi => by unfold KQ at hi; omega)); have hs4 := (HSl.out.ext hx3).stp hst4 (by unfold KQ; omega); have e4 := (HS.out.tr st4).toExt (fun _ _ hn => hn rfl); obtain ⟨z0, z1, z2, z3, z4, z5, z6, z7⟩ := hks.out w4 o4 st4)
          | (go_at_call 25; refine (num21_c _ _).mono ?_; rintro e w5 ⟨rfl, rfl⟩)
          | (go_at_call 27; refine (C4.out _ (HE.out.ext (e4.tr hx3)) (HP.out.ext (e4.tr hx3))).mono ?_; rintro e w7 ⟨rfl, hx7⟩; have x7 := Ext.tr hx3 hx7; have hs7 := hs4.ext x7)
          | (at_builtin; refine wpL_put slt_str (.tmp 60) (.tmp 62) rfl rfl rfl rfl (hs7.ext (Ext.al (Ext.rfl' w7) _)) hna (Src.ofSlice _ Tryd.underlying58 ⟨w7.heap.size, 0, none⟩ 1 1 [.string (str l)] (by simp) (new_cells w7 #[.string (str l)] 9) (by simp [Value.oneCell'])) (by omega) (by omega) ?_; intro A2 c2' w8 o8 hs8 hst8 hna8; have st78 : Stp (fun i => i = 3) w4 o4 w8 o8 := (Stp.ext (x7.al _)).tr hst8))
        go_roundw
        case rel => exact ⟨t + 1, by go_num, by omega, o8, all ++ [l], ls2, d2, (HS.out.tr st4).tr (st78.mono (fun i hi => by omega)), hg4.stp st78 (by omega) (by omega), ⟨A2, c2', by rw [List.length_append]; rfl, by rw [List.length_append, sc_app]; exact hs8, hna8⟩, htot2, hadd, by rw [List.length_append]; simp; omega, fun s h => by
          rcases List.mem_append.1 h with h | h
          · exact ham s h
          · rw [List.mem_singleton.1 h]; exact hll⟩
        case measure => simp [intOf]; omega
      · obtain ⟨b1, b2⟩ := hbad h0
        obtain ⟨ee, hee⟩ : ∃ q, q = (lineL x).2 := ⟨_, rfl⟩
        rw [b1, b2, Nat.add_zero, ← hee] at C1
        rw [b1] at htot2
        rw [← hee] at h0
        have d1 : (ee == 0) = false := by rw [beq_eq_false_iff_ne]; exact h0
        clear hadd hbad b1 b2 hee C4 h0
        have C1 := Lib.hid C1
        have C3 := Lib.hid C3
        go_wp2_with (first
          | (go_at_call 24; refine (C3.out _).mono ?_; rintro e w3 ⟨rfl, hx3⟩)
          | (go_at_call 30; refine (C1.out _ o (HG.out.ext hx3) (HE.out.ext (HW.out.tr hx3)) (HP.out.ext (HW.out.tr hx3))).mono ?_; rintro e w4 ⟨v, o4, rfl, ⟨rfl, hg4⟩, hst4⟩; have st4 : Stp (fun i => i ≠ 0) wr o w4 o4 := (Stp.ext hx3).tr (hst4.mono (fun i hi => by unfold KQ at hi; omega)); have hs4 := (HSl.out.ext hx3).stp hst4 (by unfold KQ; omega))
          | (go_at_call 25; refine (num21_c _ _).mono ?_; rintro e w5 ⟨rfl, rfl⟩))
        go_roundw
        case rel => exact ⟨t + 1, by go_num, by omega, o4, all, ls, d, HS.out.tr st4, hg4, ⟨Aa, ca, rfl, hs4, hna⟩, htot2, HL.out, by omega, ham⟩
        case measure => simp [intOf]; omega
    · have hlt' : ¬ (t : Int) < (xs.length : Int) := by omega
      have hlen := hL.len
      have hcn := hs.le
      have hdr := hL.2.1
      have HG := Lib.hid hg
      have HW := Lib.hid hW
      have HL := Lib.hid hL
      have HSl := Lib.hid hs
      have HAM := Lib.hid (fun i (h : i < all.length) => ham _ (List.getElem_mem h))
      have q0 : (0 : Int) ≤ (d : Int) := by omega
      have q1 : (d : Int) ≤ (all.length : Int) := by omega
      have q2 : (d : Int) ≤ (ca : Int) := by omega
      have q3 : ¬ (d : Int) < 0 := by omega
      have s0 : IntKind.i64.wrap ((all.length : Int) - (ls.length : Int)) = (d : Int) := by rw [IntKind.wrap_i64]; omega
      clear hg hW hst ham hA hL
      by_cases hc0 : ca = 0
      · subst hc0
        obtain rfl : all = [] := List.eq_nil_of_length_eq_zero (by omega)
        simp only [List.length_nil] at hlen
        obtain rfl : d = 0 := by omega
        obtain rfl : ls = [] := List.eq_nil_of_length_eq_zero (by omega)
        have HLN := Lib.hid hlen
        clear hdr hs hlen
        have HRD := Lib.hid (show Rd wr Aa (sc []) from .inl rfl)
        cases Aa with
        | none =>
          go_wp2_with (first
            | (go_at_call 33; refine (aLines_c 9 1 p lim _ _ wr o HG.out).mono ?_; rintro e w7 ⟨v, o7, rfl, ⟨A7, c7, rfl, hs7, _⟩, hst7⟩; have x7 := hst7.noExt)
            | (go_at_call 34; refine (aDropped_c _ o 1 p lim _ _ (HG.out.ext x7)).mono ?_; rintro e w8 ⟨rfl, rfl⟩)
            | (go_at_call 32; refine (SameStrings_c _ _ _ _ _ _ _ _ rfl (by have := HLN.out; omega) (by have := HLN.out; omega) hs7.rd (HRD.out.ext x7)).mono ?_; rintro e w9 ⟨rfl, x9⟩))
          have HS7 := Lib.hid (hs7.rd.ext x9)
          have x79 := x7.tr x9
          clear hs7 hst7
          go_loopw [13, 14] (fun vz vj w' => vj = .int .i64 0 ∧ vz = .int .i64 0 ∧ Ext wr w') (fun _ _ _ => 0)
          case atStart => exact ⟨rfl, rfl, x79⟩
          case round =>
            obtain ⟨rfl, rfl, hxr⟩ := hrel
            have d1 : (0 : Int) ≤ (lim : Int) := by omega
            go_wp2
            go_ret
            exact ⟨rfl, HW.out.tr hxr⟩
        | some aa =>
          go_wp2_with (first
            | (go_at_call 33; refine (aLines_c 9 1 p lim _ _ wr o HG.out).mono ?_; rintro e w7 ⟨v, o7, rfl, ⟨A7, c7, rfl, hs7, _⟩, hst7⟩; have x7 := hst7.noExt)
            | (go_at_call 34; refine (aDropped_c _ o 1 p lim _ _ (HG.out.ext x7)).mono ?_; rintro e w8 ⟨rfl, rfl⟩)
            | (go_at_call 32; refine (SameStrings_c _ _ _ _ _ _ _ _ rfl (by have := HLN.out; omega) (by have := HLN.out; omega) hs7.rd (HRD.out.ext x7)).mono ?_; rintro e w9 ⟨rfl, x9⟩))
          have HS7 := Lib.hid (hs7.rd.ext x9)
          have x79 := x7.tr x9
          clear hs7 hst7
          go_loopw [13, 14] (fun vz vj w' => vj = .int .i64 0 ∧ vz = .int .i64 0 ∧ Ext wr w') (fun _ _ _ => 0)
          case atStart => exact ⟨rfl, rfl, x79⟩
          case round =>
            obtain ⟨rfl, rfl, hxr⟩ := hrel
            have d1 : (0 : Int) ≤ (lim : Int) := by omega
            go_wp2
            go_ret
            exact ⟨rfl, HW.out.tr hxr⟩
      · obtain ⟨g, f, rfl⟩ : ∃ g f, Aa = some ⟨g, f, none⟩ := by
          rcases hs.at_ with h | ⟨g, f, h, _⟩
          · exact absurd h hc0
          · exact ⟨g, f, h⟩
        have hdp := hs.drop d (by omega)
        have hrd : Rd wr (some ⟨g, f + d * 1, none⟩) (sc ls) := by
          have e : sc ls = (sc all).drop (d * 1) := by rw [hdr, Nat.mul_one]; simp [sc]
          rw [e]; exact hdp.rd
        rw [Nat.mul_one] at hrd
        have HLN := Lib.hid hlen
        clear hdp hdr hs hlen
        by_cases hcd : ca = d
        · have hcd := hcd.symm
          subst hcd
          have hl0 : ls = [] := List.eq_nil_of_length_eq_zero (by have := HLN.out; omega)
          have HRD := Lib.hid (show Rd wr (some ⟨g, f, none⟩) (sc ls) from .inl (by rw [hl0]; rfl))
          clear hrd hl0
          go_wp2_with (first
            | (go_at_call 33; refine (aLines_c 9 1 p lim _ _ wr o HG.out).mono ?_; rintro e w7 ⟨v, o7, rfl, ⟨A7, c7, rfl, hs7, _⟩, hst7⟩; have x7 := hst7.noExt)
            | (go_at_call 34; refine (aDropped_c _ o 1 p lim _ _ (HG.out.ext x7)).mono ?_; rintro e w8 ⟨rfl, rfl⟩)
            | (go_at_call 32; refine (SameStrings_c _ _ _ _ _ _ _ _ rfl (by have := HLN.out; omega) (by have := HLN.out; omega) hs7.rd (HRD.out.ext x7)).mono ?_; rintro e w9 ⟨rfl, x9⟩))
          have HS7 := Lib.hid (hs7.rd.ext x9)
          have x79 := x7.tr x9
          clear hs7 hst7
          go_loopw [13, 14] (fun vz vj w' => ∃ j : Nat, vj = .int .i64 (j : Int) ∧ j ≤ ls.length ∧ vz = .int .i64 (totS (ls.take j) : Int) ∧ Ext wr w' ∧ Ext w9 w') (fun _ vj _ => ls.length - (intOf vj).toNat)
          case atStart => exact ⟨0, rfl, Nat.zero_le _, rfl, by (repeat (first | exact Ext.rfl' _ | assumption | refine Ext.dr ?_ | refine Ext.drN ?_ _ | refine Ext.al ?_ _ | refine Ext.st ?_ (by simp) _ | refine Ext.tr ?_ (by assumption))), by (repeat (first | exact Ext.rfl' _ | assumption | refine Ext.dr ?_ | refine Ext.drN ?_ _ | refine Ext.al ?_ _ | refine Ext.st ?_ (by simp) _ | refine Ext.tr ?_ (by assumption)))⟩
          case round =>
            obtain ⟨j, rfl, hj, rfl, hxr, hx7⟩ := hrel
            by_cases hjl : j < ls.length
            · obtain ⟨b7, f7, rfl, _, H7⟩ := Rd.text HS7.out (k := j) hjl
              have k7 := H7.out _ hx7
              have hsu := totL_succ ls j hjl
              have hst := totL_take ls (j + 1)
              have hjl' : (j : Int) < (ls.length : Int) := by omega
              have j0 : (0 : Int) ≤ (j : Int) := by omega
              have ji : (j : Int) + 1 ≤ 9223372036854775807 := by have := HLN.out; omega
              obtain ⟨q, hq⟩ : ∃ q, q = ls[j] := ⟨_, rfl⟩
              rw [← hq] at k7 hsu
              have s1 : IntKind.i64.wrap ((totS (ls.take j) : Int) + (q.length : Int)) = (totS (ls.take j) : Int) + (q.length : Int) := by rw [IntKind.wrap_i64]; omega
              have s2 : IntKind.i64.wrap ((totS (ls.take j) : Int) + (q.length : Int) + 1) = (totS (ls.take (j + 1)) : Int) := by rw [IntKind.wrap_i64]; omega
              clear hsu hq
              go_wp2
              go_roundw
              case rel => exact ⟨j + 1, by go_num, by omega, rfl, hxr, hx7⟩
              case measure => simp [intOf]; omega
            · obtain rfl : j = ls.length := by omega
              have hjl' : ¬ (ls.length : Int) < (ls.length : Int) := by omega
              rw [List.take_length]
              have d1 : (totS ls : Int) ≤ (lim : Int) := by omega
              by_cases hd : d = 0
              · subst hd
                go_wp2
                go_ret
                exact ⟨rfl, HW.out.tr hxr⟩
              · obtain ⟨d', rfl⟩ : ∃ d', d = d' + 1 := ⟨d - 1, by omega⟩
                have hdl : d' < all.length := by have := HLN.out; omega
                have hlast := HL.out.last hdl
                obtain ⟨bA, fA, hA', _, HA⟩ := Rd.text HSl.out.rd (k := d') hdl
                have kA := HA.out _ hxr
                obtain ⟨q, hq⟩ : ∃ q, q = all[d'] := ⟨_, rfl⟩
                rw [← hq] at kA hlast
                have hqm := HAM.out d' hdl
                rw [← hq] at hqm
                clear hq
                have e0 : (((d' + 1 : Nat) : Int) == 0) = false := by rw [beq_eq_false_iff_ne]; omega
                have s0 : IntKind.i64.wrap (((d' + 1 : Nat) : Int) - 1) = (d' : Int) := by rw [IntKind.wrap_i64]; omega
                have s1 : IntKind.i64.wrap ((totS ls : Int) + (q.length : Int)) = (totS ls : Int) + (q.length : Int) := by rw [IntKind.wrap_i64]; omega
                have s2 : IntKind.i64.wrap ((totS ls : Int) + (q.length : Int) + 1) = (totS ls : Int) + (q.length : Int) + 1 := by rw [IntKind.wrap_i64]; omega
                have d2 : (lim : Int) < (totS ls : Int) + (q.length : Int) + 1 := by omega
                have d3 : (d' : Int) < (all.length : Int) := by omega
                have d4 : (0 : Int) ≤ (d' : Int) := by omega
                cases hA'
                go_wp2
                go_ret
                exact ⟨rfl, HW.out.tr hxr⟩
        · have HRD := Lib.hid hrd
          clear hrd
          go_wp2_with (first
            | (go_at_call 33; refine (aLines_c 9 1 p lim _ _ wr o HG.out).mono ?_; rintro e w7 ⟨v, o7, rfl, ⟨A7, c7, rfl, hs7, _⟩, hst7⟩; have x7 := hst7.noExt)
            | (go_at_call 34; refine (aDropped_c _ o 1 p lim _ _ (HG.out.ext x7)).mono ?_; rintro e w8 ⟨rfl, rfl⟩)
            | (go_at_call 32; refine (SameStrings_c _ _ _ _ _ _ _ _ rfl (by have := HLN.out; omega) (by have := HLN.out; omega) hs7.rd (HRD.out.ext x7)).mono ?_; rintro e w9 ⟨rfl, x9⟩))
          have HS7 := Lib.hid (hs7.rd.ext x9)
          have x79 := x7.tr x9
          clear hs7 hst7
          go_loopw [13, 14] (fun vz vj w' => ∃ j : Nat, vj = .int .i64 (j : Int) ∧ j ≤ ls.length ∧ vz = .int .i64 (totS (ls.take j) : Int) ∧ Ext wr w' ∧ Ext w9 w') (fun _ vj _ => ls.length - (intOf vj).toNat)
          case atStart => exact ⟨0, rfl, Nat.zero_le _, rfl, by (repeat (first | exact Ext.rfl' _ | assumption | refine Ext.dr ?_ | refine Ext.drN ?_ _ | refine Ext.al ?_ _ | refine Ext.st ?_ (by simp) _ | refine Ext.tr ?_ (by assumption))), by (repeat (first | exact Ext.rfl' _ | assumption | refine Ext.dr ?_ | refine Ext.drN ?_ _ | refine Ext.al ?_ _ | refine Ext.st ?_ (by simp) _ | refine Ext.tr ?_ (by assumption)))⟩
          case round =>
            obtain ⟨j, rfl, hj, rfl, hxr, hx7⟩ := hrel
            by_cases hjl : j < ls.length
            · obtain ⟨b7, f7, rfl, _, H7⟩ := Rd.text HS7.out (k := j) hjl
              have k7 := H7.out _ hx7
              have hsu := totL_succ ls j hjl
              have hst := totL_take ls (j + 1)
              have hjl' : (j : Int) < (ls.length : Int) := by omega
              have j0 : (0 : Int) ≤ (j : Int) := by omega
              have ji : (j : Int) + 1 ≤ 9223372036854775807 := by have := HLN.out; omega
              obtain ⟨q, hq⟩ : ∃ q, q = ls[j] := ⟨_, rfl⟩
              rw [← hq] at k7 hsu
              have s1 : IntKind.i64.wrap ((totS (ls.take j) : Int) + (q.length : Int)) = (totS (ls.take j) : Int) + (q.length : Int) := by rw [IntKind.wrap_i64]; omega
              have s2 : IntKind.i64.wrap ((totS (ls.take j) : Int) + (q.length : Int) + 1) = (totS (ls.take (j + 1)) : Int) := by rw [IntKind.wrap_i64]; omega
              clear hsu hq
              go_wp2
              go_roundw
              case rel => exact ⟨j + 1, by go_num, by omega, rfl, hxr, hx7⟩
              case measure => simp [intOf]; omega
            · obtain rfl : j = ls.length := by omega
              have hjl' : ¬ (ls.length : Int) < (ls.length : Int) := by omega
              rw [List.take_length]
              have d1 : (totS ls : Int) ≤ (lim : Int) := by omega
              by_cases hd : d = 0
              · subst hd
                go_wp2
                go_ret
                exact ⟨rfl, HW.out.tr hxr⟩
              · obtain ⟨d', rfl⟩ : ∃ d', d = d' + 1 := ⟨d - 1, by omega⟩
                have hdl : d' < all.length := by have := HLN.out; omega
                have hlast := HL.out.last hdl
                obtain ⟨bA, fA, hA', _, HA⟩ := Rd.text HSl.out.rd (k := d') hdl
                have kA := HA.out _ hxr
                obtain ⟨q, hq⟩ : ∃ q, q = all[d'] := ⟨_, rfl⟩
                rw [← hq] at kA hlast
                have hqm := HAM.out d' hdl
                rw [← hq] at hqm
                clear hq
                have e0 : (((d' + 1 : Nat) : Int) == 0) = false := by rw [beq_eq_false_iff_ne]; omega
                have s0 : IntKind.i64.wrap (((d' + 1 : Nat) : Int) - 1) = (d' : Int) := by rw [IntKind.wrap_i64]; omega
                have s1 : IntKind.i64.wrap ((totS ls : Int) + (q.length : Int)) = (totS ls : Int) + (q.length : Int) := by rw [IntKind.wrap_i64]; omega
                have s2 : IntKind.i64.wrap ((totS ls : Int) + (q.length : Int) + 1) = (totS ls : Int) + (q.length : Int) + 1 := by rw [IntKind.wrap_i64]; omega
                have d2 : (lim : Int) < (totS ls : Int) + (q.length : Int) + 1 := by omega
                have d3 : (d' : Int) < (all.length : Int) := by omega
                have d4 : (0 : Int) ≤ (d' : Int) := by omega
                cases hA'
                go_wp2
                go_ret
                exact ⟨rfl, HW.out.tr hxr⟩
end Go.Proofs.YtolfpfdmgelhhaaDoor
