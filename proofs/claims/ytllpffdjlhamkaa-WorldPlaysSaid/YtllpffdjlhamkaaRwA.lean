/-
A call on both worlds: what the order does.
-/
import Derived.Test.YtllpffdjlhamkaaRw9
set_option linter.unusedVariables false
set_option linter.unusedSimpArgs false
namespace Go.Proofs.Ytllpffdjlhamkaa
open Go.RowKit

set_option maxRecDepth 100000 in
set_option maxHeartbeats 8000000 in
theorem step13_c (k p r : Nat) (hk1 : 1 ≤ k) (hk2 : k ≤ 80) (s : Wrl) (x : OpW) (W w : World) (o : Ow) (hst : Stp (fun i => i ≠ 0) W (fun _ => 0) w o) (hw : WdAt w o k p s) (hr : RwAt w o (k + 3) r s) (hok : Wok s) (hv : s.ver < 4611686018427387904) (hx : OpOk W x) :
    Calls Try.prog 8 #[.pointer (some ⟨p, 0, none⟩), .pointer (some ⟨r, 0, none⟩), .agg #[.int .i64 x.kind, .int .i64 x.n, .string (str x.path), .slice x.B x.mm.length x.d]] w
      (Turns (KS k) w o fun v w' o' => v = .bool true ∧ WdAt w' o' k p (stepW s x) ∧ RwAt w' o' (k + 3) r (stepW s x)) := by
  obtain ⟨w1, hw1⟩ : ∃ w1, w1 = w.alloc (.cells #[.int .i64 x.kind, .int .i64 x.n, .string (str x.path), .slice x.B x.mm.length x.d] 34) := ⟨_, rfl⟩
  obtain ⟨g, hg⟩ : ∃ g, g = w.heap.size := ⟨_, rfl⟩
  obtain ⟨o1, ho1⟩ : ∃ o1 : Ow, o1 = fun b => if b = w.heap.size then 89 else o b := ⟨_, rfl⟩
  have st1 : Stp (fun _ => False) w o w1 o1 := by rw [hw1, ho1]; exact Stp.ext2 (by (repeat (first | exact Ext.rfl' _ | assumption | refine Ext.dr ?_ | refine Ext.drN ?_ _ | refine Ext.al ?_ _ | refine Ext.st ?_ (by simp) _ | refine Ext.tr ?_ (by assumption)))) (fun b hb => by rw [if_neg (by omega)])
  have row1 : w1.heap[g]? = some (.cells (opV x) 34 (0, 0)) := by rw [hw1, hg]; exact heap_alloc_new w _
  have og1 : o1 g = 89 := by rw [ho1, hg]; simp
  have HW1 := Lib.hid hw1
  have HG := Lib.hid hg
  have hw2 := Lib.hid (hw.stp st1 (fun x => x) (fun x => x) (fun x => x))
  have hr2 := Lib.hid (hr.stp st1 (fun x => x) (fun x => x) (fun x => x) (fun x => x))
  have hst2 := Lib.hid (hst.tr (st1.mono (L := fun i => i ≠ 0) fun _ h => h.elim))
  have ST1 := Lib.hid st1
  have HX := Lib.hid hx
  clear hw hr hst st1 ho1 hw1 hg hx
  go_enter Try.func8, Try.ntmps8
  go_upto_region 1 with (fail)
  rw [← HW1.out, ← HG.out]
  have c0 : w1.cell? ⟨g, 0, none⟩ = some (.int .i64 x.kind) := (row_facts row1 0 _ rfl).1
  have c1 : w1.cell? ⟨g, 1, none⟩ = some (.int .i64 x.n) := (row_facts row1 1 _ rfl).1
  have c2 : w1.cell? ⟨g, 2, none⟩ = some (.string (str x.path)) := (row_facts row1 2 _ rfl).1
  have c3 : w1.cell? ⟨g, 3, none⟩ = some (.slice x.B x.mm.length x.d) := (row_facts row1 3 _ rfl).1
  go_upto_block 0 with (fail)
  go_cut [] (fun wx => SwAt w1 o1 k p r g (stepW s x) (opV x) wx)
  case first =>
    obtain ⟨hrB, hml, ⟨hn0, hn1⟩, hpl⟩ := HX.out
    obtain ⟨kd, n, l, B, d, mm⟩ := x
    dsimp only at c0 c1 c2 c3 hrB hml hn0 hn1 hpl ⊢
    by_cases hz : kd = 0
    · subst hz
      have F : Hid (∀ w' o', Stp (KS k) w1 o1 w' o' → (w'.cell? ⟨g, 2, none⟩ = some (.string (str l)) ∧ w'.cell? ⟨g, 3, none⟩ = some (.slice B mm.length d))) := Lib.hid (fun w' o' e => ⟨e.cell (a := ⟨g, 2, none⟩) (by show ¬ KS k (o1 g); rw [og1]; unfold KS; omega) c2, e.cell (a := ⟨g, 3, none⟩) (by show ¬ KS k (o1 g); rw [og1]; unfold KS; omega) c3⟩)
      have TOT : Hid (∀ w' o', Stp (KS k) w1 o1 w' o' → Stp (fun i => i ≠ 0) W (fun _ => 0) w' o') := Lib.hid (fun w' o' e => hst2.out.tr (e.mono fun i hi => by unfold KS at hi; omega))
      have BK : Hid (∀ w' o', Stp (KS k) w1 o1 w' o' → (mm = [] ∨ ∀ a, B = some a → a.block < w'.heap.size → ¬ KR (k + 3) (o' a.block))) := Lib.hid (fun w' o' e => by
        rcases hrB with h | ⟨b, f, hB, hc⟩
        · exact .inl (by simpa [bc] using h)
        · by_cases hm : mm = []
          · exact .inl hm
          · refine .inr fun a ha _ => ?_
            rw [hB] at ha
            cases ha
            have hlt : b < W.heap.size := lt_of_cell (a := ⟨b, f + 0, none⟩) (hc 0 _ (bc_at mm 0 (List.length_pos_iff.2 hm)))
            rw [(TOT.out w' o' e).own b hlt]
            unfold KR; omega)
      have LC := Lib.hid (Lent_c 90 mm B mm.length d rfl w1 o1 (hrB.ext (hst2.out.toExt (fun _ _ => by simp))) hml)
      have HRB := Lib.hid hrB
      obtain ⟨e1, he1⟩ : ∃ e1, e1 = (putW s l mm).2 := ⟨_, rfl⟩
      have HE1 := Lib.hid he1
      clear he1 c0 c1 hrB
      go_wp2_with (first
        | (go_at_call 13; refine LC.out.mono ?_; rintro e w2 ⟨v, o2, rfl, ⟨A0, cl, rfl, hcl, hsl⟩, stL⟩))
      have st2 : Stp (KS k) w1 o1 w2 o2 := stL.mono fun i hi => by unfold KS; omega
      obtain ⟨c2, c3⟩ := F.out w2 o2 st2
      have hA0 : ∃ bL fL, A0 = some ⟨bL, fL, none⟩ := by
        rcases hsl.at_ with h | ⟨bL, fL, h, _⟩
        · omega
        · exact ⟨bL, fL, h⟩
      obtain ⟨bL, fL, rfl⟩ := hA0
      have hrL : Rd w2 (some ⟨bL, fL, none⟩) (bc mm) := by
        have := hsl.rd.take mm.length
        rw [bc_take, List.take_left] at this; exact this
      have away : Hid (mm = [] ∨ ∀ a, some (⟨bL, fL, none⟩ : Addr) = some a → a.block < w2.heap.size → ¬ o2 a.block = k) := Lib.hid (.inr fun a ha hlt => by
        cases ha
        rcases hsl.at_ with h | ⟨b', f', h, ho, _⟩
        · omega
        · cases h; show ¬ o2 bL = k; rw [ho]; omega)
      have HSLW := Lib.hid hsl
      have HRL := Lib.hid hrL
      have hw3 := Lib.hid (hw2.out.stp stL (by omega) (by omega) (by omega))
      have hr3 := Lib.hid (hr2.out.stp stL (by omega) (by omega) (by omega) (by omega))
      have CP := Lib.hid (fun w' (e : Ext w2 w') => wPut_c w' o2 k p s (hw3.out.ext e) hok l mm (by omega) (some ⟨bL, fL, none⟩) mm.length cl rfl (by omega) (HRL.out.ext e) (fun h => by cases h) (by
        rcases away.out with h | h
        · exact .inl h
        · refine .inr fun a ha hlt => ?_
          refine h a ha ?_
          cases ha
          rcases HSLW.out.at_ with h | ⟨b', f', h, _, hb, _⟩
          · omega
          · cases h; exact hb) hv)
      clear hsl hrL stL
      go_region_held3 (fun w' => w'.cell? ⟨g, 2, none⟩ = some (.string (str l)) ∧ w'.cell? ⟨g, 3, none⟩ = some (.slice B mm.length d)) ((apply F.out; (repeat (first | exact Stp.rfl' | assumption | apply Stp.dr | apply Stp.drN | apply Stp.al)))) (first
        | (go_at_call 9; refine (CP.out _ (by (repeat (first | exact Ext.rfl' _ | assumption | refine Ext.dr ?_ | refine Ext.drN ?_ _ | refine Ext.al ?_ _ | refine Ext.st ?_ (by simp) _ | refine Ext.tr ?_ (by assumption))))).mono ?_; rintro e w4 ⟨v, o4, rfl, ⟨rfl, h4⟩, st4⟩; have st24 := (Stp.ext (show Ext w2 w2.drew by (repeat (first | exact Ext.rfl' _ | assumption | refine Ext.dr ?_ | refine Ext.drN ?_ _ | refine Ext.al ?_ _ | refine Ext.st ?_ (by simp) _ | refine Ext.tr ?_ (by assumption))))).tr st4; have st4' : Stp (KS k) w1 o1 w4 o4 := st2.tr (st24.mono fun i hi => by unfold KW at hi; unfold KS; omega); have HR4 := Lib.hid (hr3.out.stp st24 (by unfold KW; omega) (by unfold KW; omega) (by unfold KW; omega) (by unfold KW; omega)); have HS4 := Lib.hid (HSLW.out.stp st24 (by unfold KW; omega)); have H4 := Lib.hid h4; clear h4; rw [← HE1.out])
        | (go_at_call 6; refine (num13_c _ _).mono ?_; rintro e w8 ⟨rfl, rfl⟩)
        | (go_at_call 14; refine (rwPut_c _ o4 (k + 3) r s (HR4.out.ext (by (repeat (first | exact Ext.rfl' _ | assumption | refine Ext.dr ?_ | refine Ext.drN ?_ _ | refine Ext.al ?_ _ | refine Ext.st ?_ (by simp) _ | refine Ext.tr ?_ (by assumption))))) hok l mm (by omega) B mm.length d rfl (by omega) (HRB.out.ext ((TOT.out _ o4 (by (repeat (first | exact Stp.rfl' | assumption | apply Stp.dr | apply Stp.drN | apply Stp.al)))).toExt (fun _ _ => by simp))) (BK.out _ o4 (by (repeat (first | exact Stp.rfl' | assumption | apply Stp.dr | apply Stp.drN | apply Stp.al)))) hv).mono ?_; rintro e w5 ⟨v, o5, rfl, ⟨rfl, h5⟩, st5⟩; have st5' : Stp (KS k) w1 o1 w5 o5 := st4'.tr ((Stp.ext (by (repeat (first | exact Ext.rfl' _ | assumption | refine Ext.dr ?_ | refine Ext.drN ?_ _ | refine Ext.al ?_ _ | refine Ext.st ?_ (by simp) _ | refine Ext.tr ?_ (by assumption))))).tr (st5.mono fun i hi => by unfold KR at hi; unfold KS; omega)); have st45 := (Stp.ext (show Ext w4 _ by (repeat (first | exact Ext.rfl' _ | assumption | refine Ext.dr ?_ | refine Ext.drN ?_ _ | refine Ext.al ?_ _ | refine Ext.st ?_ (by simp) _ | refine Ext.tr ?_ (by assumption))))).tr st5; have H45 := Lib.hid (H4.out.stp st45 (by unfold KR; omega) (by unfold KR; omega) (by unfold KR; omega)); have H5 := Lib.hid h5; have HS5 := Lib.hid (HS4.out.stp st45 (by unfold KR; omega)); clear h5; rw [← HE1.out])
        | (go_at_call 15; refine (Stays_c mm _ B _ cl _ d rfl rfl _ hcl (HS5.out.rd.ext (by (repeat (first | exact Ext.rfl' _ | assumption | refine Ext.dr ?_ | refine Ext.drN ?_ _ | refine Ext.al ?_ _ | refine Ext.st ?_ (by simp) _ | refine Ext.tr ?_ (by assumption))))) (HRB.out.ext ((TOT.out _ o5 (by (repeat (first | exact Stp.rfl' | assumption | apply Stp.dr | apply Stp.drN | apply Stp.al)))).toExt (fun _ _ => by simp))) hml).mono ?_; rintro e w6 ⟨rfl, hx6⟩; have st6 : Stp (KS k) w1 o1 w6 o5 := Stp.tr (by (repeat (first | exact Stp.rfl' | assumption | apply Stp.dr | apply Stp.drN | apply Stp.al))) (Stp.ext hx6)))
      have SLI : Hid (∃ zs : List Int, zs.length = mm.length + 2 ∧ Sl w6 o5 90 1 (some ⟨bL, fL, none⟩) (mm.length + 2) cl (zs.map (.int .u8))) := Lib.hid ⟨(mm ++ [201, 202]).map fun (b : UInt8) => (b.toNat : Int), by simp, by
        have := HS5.out.ext (Ext.tr (show Ext w5 _ by (repeat (first | exact Ext.rfl' _ | assumption | refine Ext.dr ?_ | refine Ext.drN ?_ _ | refine Ext.al ?_ _ | refine Ext.st ?_ (by simp) _ | refine Ext.tr ?_ (by assumption)))) hx6)
        rw [show bc (mm ++ [201, 202]) = ((mm ++ [201, 202]).map fun (b : UInt8) => (b.toNat : Int)).map (.int .u8) from by simp [bc]] at this
        exact this⟩
      have H46 := Lib.hid (H45.out.ext (Ext.tr (show Ext w5 _ by (repeat (first | exact Ext.rfl' _ | assumption | refine Ext.dr ?_ | refine Ext.drN ?_ _ | refine Ext.al ?_ _ | refine Ext.st ?_ (by simp) _ | refine Ext.tr ?_ (by assumption)))) hx6))
      have H56 := Lib.hid (H5.out.ext (Ext.tr (show Ext w5 _ by (repeat (first | exact Ext.rfl' _ | assumption | refine Ext.dr ?_ | refine Ext.drN ?_ _ | refine Ext.al ?_ _ | refine Ext.st ?_ (by simp) _ | refine Ext.tr ?_ (by assumption)))) hx6))
      have ST6 := Lib.hid st6
      obtain ⟨N, hN⟩ : ∃ N, N = mm.length := ⟨_, rfl⟩
      rw [← hN] at SLI hcl ⊢
      have HN := Lib.hid hN
      have hNb : N ≤ 140737488351232 := by omega
      clear hN c2 c3 hx6 st6
      go_wp2
      go_loopw [8] (fun v8 wr => ∃ (m : Nat) (zs : List Int) (o' : Ow), m ≤ N ∧ v8 = .int .i64 (m : Int) ∧ zs.length = N + 2 ∧ Sl wr o' 90 1 (some ⟨bL, fL, none⟩) (N + 2) cl (zs.map (.int .u8)) ∧ Stp (fun i => i = 90) w6 o5 wr o') (fun i _ => N - (intOf i).toNat)
      case atStart =>
        obtain ⟨zs, hz, hs⟩ := SLI.out
        exact ⟨0, zs, o5, Nat.zero_le _, rfl, hz, hs.ext (by (repeat (first | exact Ext.rfl' _ | assumption | refine Ext.dr ?_ | refine Ext.drN ?_ _ | refine Ext.al ?_ _ | refine Ext.st ?_ (by simp) _ | refine Ext.tr ?_ (by assumption)))), Stp.ext (by (repeat (first | exact Ext.rfl' _ | assumption | refine Ext.dr ?_ | refine Ext.drN ?_ _ | refine Ext.al ?_ _ | refine Ext.st ?_ (by simp) _ | refine Ext.tr ?_ (by assumption))))⟩
      case round =>
        obtain ⟨m, zs, o', hm, rfl, hzl, hsl, hst⟩ := hrel
        by_cases hmN : m < N
        · have hmz : m < zs.length := by omega
          have t0 := (hsl.setc m (by simpa using hmz) (.int .u8 (IntKind.u8.wrap (zs[m] + 1))))
          obtain ⟨hs2, st2', ⟨u, hu⟩, hfz⟩ := t0
          have hcell : wr.cell? ⟨bL, fL + m, none⟩ = some (.int .u8 zs[m]) := by
            rcases hsl.at_ with h | ⟨b', f', h, _, _, hc, _⟩
            · omega
            · cases h; exact hc m _ (by simp [hmz])
          obtain ⟨z, hz⟩ : ∃ z, z = zs[m] := ⟨_, rfl⟩
          rw [← hz] at hcell hs2 st2'
          have HZ := Lib.hid hz
          have HS2 := Lib.hid hs2
          have ST2 := Lib.hid st2'
          have HST := Lib.hid hst
          have HZL := Lib.hid hzl
          have hk0 : (0 : Int) ≤ (m : Int) := by omega
          have hk1 : (m : Int) < (N : Int) := by omega
          clear hsl hz hs2 st2' hst hzl hu
          go_wp2
          go_roundw
          case rel =>
            refine ⟨m + 1, zs.set m (IntKind.u8.wrap (z + 1)), o', by omega, by go_num, by rw [List.length_set]; exact HZL.out, ?_, HST.out.tr ?_⟩
            · rw [List.map_set]; exact HS2.out
            · exact ST2.out
          case measure => simp [intOf]; omega
        · obtain rfl : m = N := by omega
          go_wp2_with fail
          have hNe := HN.out
          subst hNe
          go_meet
          have hs1 : stepW s ⟨0, n, l, B, d, mm⟩ = (putW s l mm).1 := rfl
          have stz : Stp (KS k) w1 o1 wr o' := ST6.out.tr (hst.mono fun i hi => by unfold KS; omega)
          have ogz : o' g = 89 := by rw [stz.own g (row_lt row1)]; exact og1
          exact ⟨o', stz, H46.out.stp hst (by omega) (by omega) (by omega), H56.out.stp hst (by omega) (by omega) (by omega) (by omega), ogz, (stz.keep g (row_lt row1) (by rw [og1]; unfold KS; omega)).trans row1⟩
    · by_cases ho : kd = 1
      · subst ho
        have F : Hid (∀ w' o', Stp (KS k) w1 o1 w' o' → w'.cell? ⟨g, 2, none⟩ = some (.string (str l))) := Lib.hid (fun w' o' e => e.cell (a := ⟨g, 2, none⟩) (by show ¬ KS k (o1 g); rw [og1]; unfold KS; omega) c2)
        obtain ⟨e1, he1⟩ : ∃ e1, e1 = (removeW s l).2 := ⟨_, rfl⟩
        have HE1 := Lib.hid he1
        clear he1 c0 c1 c2 c3
        have c2 := F.out w1 o1 Stp.rfl'
        go_wp2
        go_region_held3 (fun w' => w'.cell? ⟨g, 2, none⟩ = some (.string (str l))) ((apply F.out; (repeat (first | exact Stp.rfl' | assumption | apply Stp.dr | apply Stp.drN | apply Stp.al)))) (first
          | (go_at_call 16; refine (wRemove_c _ o1 k p s (hw2.out.ext (by (repeat (first | exact Ext.rfl' _ | assumption | refine Ext.dr ?_ | refine Ext.drN ?_ _ | refine Ext.al ?_ _ | refine Ext.st ?_ (by simp) _ | refine Ext.tr ?_ (by assumption))))) l (by omega)).mono ?_; rintro e w4 ⟨v, o4, rfl, ⟨rfl, h4⟩, st4⟩; have st4' : Stp (KS k) w1 o1 w4 o4 := (Stp.ext (by (repeat (first | exact Ext.rfl' _ | assumption | refine Ext.dr ?_ | refine Ext.drN ?_ _ | refine Ext.al ?_ _ | refine Ext.st ?_ (by simp) _ | refine Ext.tr ?_ (by assumption))))).tr (st4.mono fun i hi => by unfold KW at hi; unfold KS; omega); have HR4 := Lib.hid (hr2.out.stp ((Stp.ext (by (repeat (first | exact Ext.rfl' _ | assumption | refine Ext.dr ?_ | refine Ext.drN ?_ _ | refine Ext.al ?_ _ | refine Ext.st ?_ (by simp) _ | refine Ext.tr ?_ (by assumption))))).tr st4) (by unfold KW; omega) (by unfold KW; omega) (by unfold KW; omega) (by unfold KW; omega)); have H4 := Lib.hid h4; clear h4; rw [← HE1.out])
          | (go_at_call 6; refine (num13_c _ _).mono ?_; rintro e w8 ⟨rfl, rfl⟩)
          | (go_at_call 17; refine (rwRemove_c _ o4 (k + 3) r s (HR4.out.ext (by (repeat (first | exact Ext.rfl' _ | assumption | refine Ext.dr ?_ | refine Ext.drN ?_ _ | refine Ext.al ?_ _ | refine Ext.st ?_ (by simp) _ | refine Ext.tr ?_ (by assumption))))) hok l).mono ?_; rintro e w5 ⟨v, o5, rfl, ⟨rfl, h5⟩, st5⟩; have st5' : Stp (KS k) w1 o1 w5 o5 := st4'.tr ((Stp.ext (by (repeat (first | exact Ext.rfl' _ | assumption | refine Ext.dr ?_ | refine Ext.drN ?_ _ | refine Ext.al ?_ _ | refine Ext.st ?_ (by simp) _ | refine Ext.tr ?_ (by assumption))))).tr (st5.mono fun i hi => by unfold KR at hi; unfold KS; omega)); have H45 := Lib.hid ((H4.out.stp ((Stp.ext (by (repeat (first | exact Ext.rfl' _ | assumption | refine Ext.dr ?_ | refine Ext.drN ?_ _ | refine Ext.al ?_ _ | refine Ext.st ?_ (by simp) _ | refine Ext.tr ?_ (by assumption))))).tr st5) (by unfold KR; omega) (by unfold KR; omega) (by unfold KR; omega))); have H5 := Lib.hid h5; clear h5; rw [← HE1.out]))
        go_wp2_with fail
        go_meet
        have og5 : o5 g = 89 := by rw [st5'.own g (row_lt row1)]; exact og1
        have row5 := (st5'.keep g (row_lt row1) (by rw [og1]; unfold KS; omega)).trans row1
        exact ⟨o5, st5', H45.out, H5.out, og5, row5⟩
      · have k0 : (kd == 0) = false := by rw [beq_eq_false_iff_ne]; exact hz
        have k1 : (kd == 1) = false := by rw [beq_eq_false_iff_ne]; exact ho
        by_cases ht : kd = 2
        · subst ht
          have F : Hid (∀ w' o', Stp (KS k) w1 o1 w' o' → w'.cell? ⟨g, 1, none⟩ = some (.int .i64 n)) := Lib.hid (fun w' o' e => e.cell (a := ⟨g, 1, none⟩) (by show ¬ KS k (o1 g); rw [og1]; unfold KS; omega) c1)
          obtain ⟨e1, he1⟩ : ∃ e1, e1 = (tickW s n).2 := ⟨_, rfl⟩
          have HE1 := Lib.hid he1
          clear he1 c0 c1 c2 c3
          have c1 := F.out w1 o1 Stp.rfl'
          go_wp2
          go_region_held3 (fun w' => w'.cell? ⟨g, 1, none⟩ = some (.int .i64 n)) ((apply F.out; (repeat (first | exact Stp.rfl' | assumption | apply Stp.dr | apply Stp.drN | apply Stp.al)))) (first
            | (go_at_call 10; refine (wTick_c _ o1 k p s (hw2.out.ext (by (repeat (first | exact Ext.rfl' _ | assumption | refine Ext.dr ?_ | refine Ext.drN ?_ _ | refine Ext.al ?_ _ | refine Ext.st ?_ (by simp) _ | refine Ext.tr ?_ (by assumption))))) hok n (by omega)).mono ?_; rintro e w4 ⟨v, o4, rfl, ⟨rfl, h4⟩, st4⟩; have st4' : Stp (KS k) w1 o1 w4 o4 := (Stp.ext (by (repeat (first | exact Ext.rfl' _ | assumption | refine Ext.dr ?_ | refine Ext.drN ?_ _ | refine Ext.al ?_ _ | refine Ext.st ?_ (by simp) _ | refine Ext.tr ?_ (by assumption))))).tr (st4.mono fun i hi => by unfold KW at hi; unfold KS; omega); have HR4 := Lib.hid (hr2.out.stp ((Stp.ext (by (repeat (first | exact Ext.rfl' _ | assumption | refine Ext.dr ?_ | refine Ext.drN ?_ _ | refine Ext.al ?_ _ | refine Ext.st ?_ (by simp) _ | refine Ext.tr ?_ (by assumption))))).tr st4) (by unfold KW; omega) (by unfold KW; omega) (by unfold KW; omega) (by unfold KW; omega)); have H4 := Lib.hid h4; clear h4; rw [← HE1.out])
            | (go_at_call 6; refine (num13_c _ _).mono ?_; rintro e w8 ⟨rfl, rfl⟩)
            | (go_at_call 18; refine (rwTick_c _ o4 (k + 3) r s (HR4.out.ext (by (repeat (first | exact Ext.rfl' _ | assumption | refine Ext.dr ?_ | refine Ext.drN ?_ _ | refine Ext.al ?_ _ | refine Ext.st ?_ (by simp) _ | refine Ext.tr ?_ (by assumption))))) hok n (by omega)).mono ?_; rintro e w5 ⟨v, o5, rfl, ⟨rfl, h5⟩, st5⟩; have st5' : Stp (KS k) w1 o1 w5 o5 := st4'.tr ((Stp.ext (by (repeat (first | exact Ext.rfl' _ | assumption | refine Ext.dr ?_ | refine Ext.drN ?_ _ | refine Ext.al ?_ _ | refine Ext.st ?_ (by simp) _ | refine Ext.tr ?_ (by assumption))))).tr (st5.mono fun i hi => by unfold KR at hi; unfold KS; omega)); have H45 := Lib.hid ((H4.out.stp ((Stp.ext (by (repeat (first | exact Ext.rfl' _ | assumption | refine Ext.dr ?_ | refine Ext.drN ?_ _ | refine Ext.al ?_ _ | refine Ext.st ?_ (by simp) _ | refine Ext.tr ?_ (by assumption))))).tr st5) (by unfold KR; omega) (by unfold KR; omega) (by unfold KR; omega))); have H5 := Lib.hid h5; clear h5; rw [← HE1.out]))
          go_wp2_with fail
          go_meet
          have og5 : o5 g = 89 := by rw [st5'.own g (row_lt row1)]; exact og1
          have row5 := (st5'.keep g (row_lt row1) (by rw [og1]; unfold KS; omega)).trans row1
          exact ⟨o5, st5', H45.out, H5.out, og5, row5⟩
        · have k2 : (kd == 2) = false := by rw [beq_eq_false_iff_ne]; exact ht
          have hs1 : stepW s ⟨kd, n, l, B, d, mm⟩ = s := by unfold stepW; rw [if_neg hz, if_neg ho, if_neg ht]
          have HS1 := Lib.hid hs1
          clear hz ho ht hs1
          go_wp2
          go_meet
          rw [HS1.out]
          exact ⟨o1, Stp.rfl', hw2.out, hr2.out, og1, row1⟩
  case rest =>
    obtain ⟨o2, st2, hd, hrr, og2, row2⟩ := hcut
    have hpl := HX.out.2.2.2
    have hok2 := (stepW_ok hok x).1
    have hfb := fileT_len hok2 x.path
    obtain ⟨s2, hs2⟩ : ∃ s2, s2 = stepW s x := ⟨_, rfl⟩
    rw [← hs2] at hd hrr hok2 hfb
    have HS2 := Lib.hid hs2
    obtain ⟨l, hl⟩ : ∃ l, l = x.path := ⟨_, rfl⟩
    have d2 : wc.cell? ⟨g, 2, none⟩ = some (.string (str x.path)) := (row_facts row2 2 _ rfl).1
    rw [← hl] at hfb hpl d2
    obtain ⟨⟨ql, qb, qm, qv, qe⟩, hF⟩ : ∃ F, F = fileT s2 l := ⟨_, rfl⟩
    rw [← hF] at hfb
    dsimp only at hfb
    have HD := Lib.hid hd
    have HRR := Lib.hid hrr
    have HOK2 := Lib.hid hok2
    have CF := fun w' (e : Ext wc w') => wFile_g 91 w' o2 k p s2 (HD.out.ext e) hok2 l (by omega)
    have CR := fun w' o' (e : RwAt w' o' (k + 3) r s2) => rwFile_g 92 w' o' (k + 3) r s2 e hok2 l
    rw [← hF] at CF CR
    unfold FileV at CF CR
    dsimp only at CF CR
    have CF := Lib.hid CF
    have CR := Lib.hid CR
    have ST2 := Lib.hid st2
    have ROW2 := Lib.hid row2
    obtain ⟨n, hn⟩ : ∃ n, n = qb.length := ⟨_, rfl⟩
    rw [← hn] at CF CR hfb
    have HN := Lib.hid hn
    have HL := Lib.hid hl
    have hls : List.length l ≤ 140737488351232 := hpl
    clear hs2 hF hd hrr hok2 st2 row2 hn row1 c0 c1 c2 c3 hl
    go_wp2_with (first
      | (go_at_call 11; refine (CF.out _ (by (repeat (first | exact Ext.rfl' _ | assumption | refine Ext.dr ?_ | refine Ext.drN ?_ _ | refine Ext.al ?_ _ | refine Ext.st ?_ (by simp) _ | refine Ext.tr ?_ (by assumption))))).mono ?_; rintro e w3 ⟨v, o3, rfl, ⟨A3, d3, rfl, hs3, hn3⟩, st3⟩; have x3 := st3.noExt; have HS3 := Lib.hid hs3; have ST3 := Lib.hid st3; have y2 := fun z => ((x3.tr (show Ext w3 (w3.alloc z) by (repeat (first | exact Ext.rfl' _ | assumption | refine Ext.dr ?_ | refine Ext.drN ?_ _ | refine Ext.al ?_ _ | refine Ext.st ?_ (by simp) _ | refine Ext.tr ?_ (by assumption))))).cell (p := ⟨g, 2, none⟩) (lt_of_cell d2)).trans d2; clear st3 hs3)
      | (go_at_call 19; refine (CR.out _ (fun b => if b = w3.heap.size then 88 else o3 b) ((HRR.out.stp ST3.out (fun x => x) (fun x => x) (fun x => x) (fun x => x)).stp (K := fun _ => False) (Stp.ext2 (by (repeat (first | exact Ext.rfl' _ | assumption | refine Ext.dr ?_ | refine Ext.drN ?_ _ | refine Ext.al ?_ _ | refine Ext.st ?_ (by simp) _ | refine Ext.tr ?_ (by assumption)))) (fun b hb => by rw [if_neg (by omega)])) (fun x => x) (fun x => x) (fun x => x) (fun x => x))).mono ?_; rintro e w4 ⟨v, o4, rfl, ⟨A4, d4, rfl, hs4, hn4⟩, st4⟩; have x4 := st4.noExt; have HS4 := Lib.hid hs4; have ST4 := Lib.hid st4; clear st4 hs4))
    obtain ⟨g3, hg3⟩ : ∃ g3, g3 = w3.heap.size := ⟨_, rfl⟩
    obtain ⟨g4, hg4⟩ : ∃ g4, g4 = w4.heap.size := ⟨_, rfl⟩
    obtain ⟨w5, hw5⟩ : ∃ w5, w5 = w4.alloc (.cells #[.string (str ql), .slice A4 n d4, .int .i64 qm] 46) := ⟨_, rfl⟩
    have x35 : Ext (w3.alloc (.cells #[.string (str ql), .slice A3 n d3, .int .i64 qm] 46)) w5 := by rw [hw5]; (repeat (first | exact Ext.rfl' _ | assumption | refine Ext.dr ?_ | refine Ext.drN ?_ _ | refine Ext.al ?_ _ | refine Ext.st ?_ (by simp) _ | refine Ext.tr ?_ (by assumption)))
    have x45 : Ext w4 w5 := by rw [hw5]; (repeat (first | exact Ext.rfl' _ | assumption | refine Ext.dr ?_ | refine Ext.drN ?_ _ | refine Ext.al ?_ _ | refine Ext.st ?_ (by simp) _ | refine Ext.tr ?_ (by assumption)))
    have rowf : w5.heap[g3]? = some (.cells #[.string (str ql), .slice A3 n d3, .int .i64 qm] 46 (0, 0)) := by rw [hg3]; exact (x35.block _ (by simp)).trans (heap_alloc_new w3 _)
    have rowg : w5.heap[g4]? = some (.cells #[.string (str ql), .slice A4 n d4, .int .i64 qm] 46 (0, 0)) := by rw [hg4, hw5]; exact heap_alloc_new w4 _
    have g3lt : g3 < w5.heap.size := row_lt rowf
    rw [← hg3, ← hg4, ← hw5]
    have STc : Hid (Stp (KS k) w1 o1 w5 o4) := Lib.hid ((((ST2.out.tr (Stp.tr (Stp.ext (by (repeat (first | exact Ext.rfl' _ | assumption | refine Ext.dr ?_ | refine Ext.drN ?_ _ | refine Ext.al ?_ _ | refine Ext.st ?_ (by simp) _ | refine Ext.tr ?_ (by assumption))))) (ST3.out.mono fun _ h => h.elim))).tr (Stp.ext2 (show Ext w3 (w3.alloc (.cells #[.string (str ql), .slice A3 n d3, .int .i64 qm] 46)) by (repeat (first | exact Ext.rfl' _ | assumption | refine Ext.dr ?_ | refine Ext.drN ?_ _ | refine Ext.al ?_ _ | refine Ext.st ?_ (by simp) _ | refine Ext.tr ?_ (by assumption)))) (fun b hb => by rw [if_neg (by omega)]))).tr (ST4.out.mono fun _ h => h.elim)).tr (Stp.ext x45))
    have X1 : Stp (fun _ => False) wc o2 w5 o4 := (((Stp.tr (Stp.ext (by (repeat (first | exact Ext.rfl' _ | assumption | refine Ext.dr ?_ | refine Ext.drN ?_ _ | refine Ext.al ?_ _ | refine Ext.st ?_ (by simp) _ | refine Ext.tr ?_ (by assumption))))) ST3.out).tr (Stp.ext2 (show Ext w3 (w3.alloc (.cells #[.string (str ql), .slice A3 n d3, .int .i64 qm] 46)) by (repeat (first | exact Ext.rfl' _ | assumption | refine Ext.dr ?_ | refine Ext.drN ?_ _ | refine Ext.al ?_ _ | refine Ext.st ?_ (by simp) _ | refine Ext.tr ?_ (by assumption)))) (fun b hb => by rw [if_neg (by omega)]))).tr ST4.out).tr (Stp.ext x45)
    have HD5 := Lib.hid (HD.out.stp X1 (fun x => x) (fun x => x) (fun x => x))
    have HR5 := Lib.hid (HRR.out.stp X1 (fun x => x) (fun x => x) (fun x => x) (fun x => x))
    have HS35 : Hid (Sl w5 o4 91 1 A3 n d3 (bc qb)) := Lib.hid (((HS3.out.stp (K := fun _ => False) (Stp.ext2 (show Ext w3 (w3.alloc (.cells #[.string (str ql), .slice A3 n d3, .int .i64 qm] 46)) by (repeat (first | exact Ext.rfl' _ | assumption | refine Ext.dr ?_ | refine Ext.drN ?_ _ | refine Ext.al ?_ _ | refine Ext.st ?_ (by simp) _ | refine Ext.tr ?_ (by assumption)))) (fun b hb => by rw [if_neg (by omega)])) (fun x => x)).stp ST4.out (fun x => x)).ext x45)
    have HS45 : Hid (Sl w5 o4 92 1 A4 n d4 (bc qb)) := Lib.hid (HS4.out.ext x45)
    have d25 : w5.cell? ⟨g, 2, none⟩ = some (.string (str l)) := (X1.noExt.cell (p := ⟨g, 2, none⟩) (lt_of_cell d2)).trans d2
    have clk : w5.cell? ⟨r, 2, none⟩ = some (.int .i64 s2.now) := by obtain ⟨_, _, _, _, _, hh, _⟩ := HR5.out.row; exact hh.c2
    obtain ⟨sq, hsq⟩ : ∃ sq, sq = str ql := ⟨_, rfl⟩
    rw [← hsq] at rowf rowg ⊢
    obtain ⟨nw, hnw⟩ : ∃ nw, nw = s2.now := ⟨_, rfl⟩
    obtain ⟨fo, hfo⟩ : ∃ fo, fo = folderW s2 l := ⟨_, rfl⟩
    obtain ⟨ks, hks⟩ : ∃ ks, ks = listW s2 := ⟨_, rfl⟩
    have hkl : ks.length ≤ 1000 := by rw [hks, list_len]; exact HOK2.out.few
    have CN := fun w' (e : Ext w5 w') => wNow_c w' o4 k p s2 (HD5.out.ext e)
    have CFo := fun w' (e : Ext w5 w') => wFolder_c w' o4 k p s2 (HD5.out.ext e) l (by omega)
    have CRFo := fun w' (e : Ext w5 w') => rwFolder_c w' o4 (k + 3) r s2 (HR5.out.ext e) HOK2.out l (by omega)
    have CLi := fun w' (e : Ext w5 w') => wList_c w' o4 k p s2 (HD5.out.ext e) HOK2.out
    have CRLi := fun w' (e : Ext w5 w') => rwList_c w' o4 (k + 3) r s2 (HR5.out.ext e) HOK2.out
    rw [← hnw] at CN clk
    rw [← hfo] at CFo CRFo
    rw [← hks] at CLi CRLi
    obtain ⟨kn, hkn⟩ : ∃ kn, kn = ks.length := ⟨_, rfl⟩
    have HKN := Lib.hid hkn
    have CN := Lib.hid CN
    have CFo := Lib.hid CFo
    have CRFo := Lib.hid CRFo
    have CLi := Lib.hid CLi
    have CRLi := Lib.hid CRLi
    have F : Hid (∀ w', Ext w5 w' → (w'.cell? ⟨g3, 0, none⟩ = some (.string sq) ∧ w'.cell? ⟨g3, 1, none⟩ = some (.slice A3 n d3) ∧ w'.cell? ⟨g3, 2, none⟩ = some (.int .i64 qm) ∧ w'.cell? ⟨g4, 0, none⟩ = some (.string sq) ∧ w'.cell? ⟨g4, 1, none⟩ = some (.slice A4 n d4) ∧ w'.cell? ⟨g4, 2, none⟩ = some (.int .i64 qm) ∧ w'.cell? ⟨g, 2, none⟩ = some (.string (str l)) ∧ w'.cell? ⟨r, 2, none⟩ = some (.int .i64 nw))) := Lib.hid fun w' e => by
      have rf := (e.block _ (row_lt rowf)).trans rowf
      have rg := (e.block _ (row_lt rowg)).trans rowg
      exact ⟨(row_facts rf 0 _ rfl).1, (row_facts rf 1 _ rfl).1, (row_facts rf 2 _ rfl).1, (row_facts rg 0 _ rfl).1, (row_facts rg 1 _ rfl).1, (row_facts rg 2 _ rfl).1, (e.cell (p := ⟨g, 2, none⟩) (lt_of_cell d25)).trans d25, (e.cell (p := ⟨r, 2, none⟩) (lt_of_cell clk)).trans clk⟩
    have ROWF := Lib.hid rowf
    have og3 : o4 g3 = 88 := by rw [ST4.out.own g3 (by rw [hg3]; simp), hg3]; simp
    clear hg3 hg4 hw5 x35 x45 rowf rowg X1 d25 clk hsq hnw hfo hks hkn x3 x4 y2 d2
    go_region_held3 (fun w' => w'.cell? ⟨g3, 0, none⟩ = some (.string sq) ∧ w'.cell? ⟨g3, 1, none⟩ = some (.slice A3 n d3) ∧ w'.cell? ⟨g3, 2, none⟩ = some (.int .i64 qm) ∧ w'.cell? ⟨g4, 0, none⟩ = some (.string sq) ∧ w'.cell? ⟨g4, 1, none⟩ = some (.slice A4 n d4) ∧ w'.cell? ⟨g4, 2, none⟩ = some (.int .i64 qm) ∧ w'.cell? ⟨g, 2, none⟩ = some (.string (str l)) ∧ w'.cell? ⟨r, 2, none⟩ = some (.int .i64 nw)) ((apply F.out; (repeat (first | exact Ext.rfl' _ | assumption | refine Ext.dr ?_ | refine Ext.drN ?_ _ | refine Ext.al ?_ _ | refine Ext.st ?_ (by simp) _ | refine Ext.tr ?_ (by assumption))))) (first
      | (go_at_call 20; refine (same13_c sq qb A3 A4 n d3 d4 qm HN.out _ (HS35.out.rd.ext (by (repeat (first | exact Ext.rfl' _ | assumption | refine Ext.dr ?_ | refine Ext.drN ?_ _ | refine Ext.al ?_ _ | refine Ext.st ?_ (by simp) _ | refine Ext.tr ?_ (by assumption))))) (HS45.out.rd.ext (by (repeat (first | exact Ext.rfl' _ | assumption | refine Ext.dr ?_ | refine Ext.drN ?_ _ | refine Ext.al ?_ _ | refine Ext.st ?_ (by simp) _ | refine Ext.tr ?_ (by assumption)))))).mono ?_; rintro e w6 ⟨rfl, hx6⟩)
      | (go_at_call 6; refine (num13_c _ _).mono ?_; rintro e w7 ⟨rfl, rfl⟩)
      | (go_at_call 12; refine (CFo.out _ (by (repeat (first | exact Ext.rfl' _ | assumption | refine Ext.dr ?_ | refine Ext.drN ?_ _ | refine Ext.al ?_ _ | refine Ext.st ?_ (by simp) _ | refine Ext.tr ?_ (by assumption))))).mono ?_; rintro e w8 ⟨rfl, hx8⟩)
      | (go_at_call 21; refine (CRFo.out _ (by (repeat (first | exact Ext.rfl' _ | assumption | refine Ext.dr ?_ | refine Ext.drN ?_ _ | refine Ext.al ?_ _ | refine Ext.st ?_ (by simp) _ | refine Ext.tr ?_ (by assumption))))).mono ?_; rintro e w9 ⟨rfl, hx9⟩)
      | (go_at_call 22; refine (CN.out _ (by (repeat (first | exact Ext.rfl' _ | assumption | refine Ext.dr ?_ | refine Ext.drN ?_ _ | refine Ext.al ?_ _ | refine Ext.st ?_ (by simp) _ | refine Ext.tr ?_ (by assumption))))).mono ?_; rintro e w10 ⟨rfl, hx10⟩)
      | (go_at_call 24; refine (CLi.out _ (by (repeat (first | exact Ext.rfl' _ | assumption | refine Ext.dr ?_ | refine Ext.drN ?_ _ | refine Ext.al ?_ _ | refine Ext.st ?_ (by simp) _ | refine Ext.tr ?_ (by assumption))))).mono ?_; rintro e w11 ⟨v, rfl, ⟨B1, e1, rfl, hb1, _⟩, hx11⟩; rw [← HKN.out]; have HB1 := Lib.hid hb1; clear hb1)
      | (go_at_call 25; refine (CRLi.out _ (by (repeat (first | exact Ext.rfl' _ | assumption | refine Ext.dr ?_ | refine Ext.drN ?_ _ | refine Ext.al ?_ _ | refine Ext.st ?_ (by simp) _ | refine Ext.tr ?_ (by assumption))))).mono ?_; rintro e w12 ⟨v, rfl, ⟨B2, e2, rfl, hb2, _⟩, hx12⟩; rw [← HKN.out]; have HB2 := Lib.hid hb2; clear hb2)
      | (go_at_call 23; refine (SameStrings_c _ B1 B2 kn kn e1 e2 ks HKN.out.symm HKN.out.symm (by simp only [maxLen]; have := HKN.out; omega) (HB1.out.ext (by (repeat (first | exact Ext.rfl' _ | assumption | refine Ext.dr ?_ | refine Ext.drN ?_ _ | refine Ext.al ?_ _ | refine Ext.st ?_ (by simp) _ | refine Ext.tr ?_ (by assumption))))) (HB2.out.ext (by (repeat (first | exact Ext.rfl' _ | assumption | refine Ext.dr ?_ | refine Ext.drN ?_ _ | refine Ext.al ?_ _ | refine Ext.st ?_ (by simp) _ | refine Ext.tr ?_ (by assumption)))))).mono ?_; rintro e w13 ⟨rfl, hx13⟩))
    have x13 : Ext w5 w13 := by (repeat (first | exact Ext.rfl' _ | assumption | refine Ext.dr ?_ | refine Ext.drN ?_ _ | refine Ext.al ?_ _ | refine Ext.st ?_ (by simp) _ | refine Ext.tr ?_ (by assumption)))
    have HB0 : Hid (∃ zs : List Int, zs.length = n ∧ Sl w13 o4 91 1 A3 n d3 (zs.map (.int .u8))) := Lib.hid ⟨qb.map fun (b : UInt8) => (b.toNat : Int), by rw [List.length_map]; exact HN.out.symm, by
      have := HS35.out.ext x13
      rw [show bc qb = (qb.map fun (b : UInt8) => (b.toNat : Int)).map (.int .u8) from by simp [bc]] at this
      exact this⟩
    have ROW13 : Hid (w13.heap[g3]? = some (.cells #[.string sq, .slice A3 n d3, .int .i64 qm] 46 (0, 0))) := Lib.hid ((x13.block _ (row_lt ROWF.out)).trans ROWF.out)
    have HD13 := Lib.hid (HD5.out.ext x13)
    have HR13 := Lib.hid (HR5.out.ext x13)
    have ST13 : Hid (Stp (KS k) w1 o1 w13 o4) := Lib.hid (STc.out.tr (Stp.ext x13))
    clear hx6 hx8 hx9 hx10 hx11 hx12 hx13
    go_wp2
    go_loopw [15] (fun v15 wr => ∃ (m : Nat) (zs : List Int) (o' : Ow), m ≤ n ∧ v15 = .int .i64 (m : Int) ∧ zs.length = n ∧ Sl wr o' 91 1 A3 n d3 (zs.map (.int .u8)) ∧ Stp (fun i => i = 91) w13 o4 wr o') (fun i _ => n - (intOf i).toNat)
    case atStart =>
      obtain ⟨zs, hz, hs⟩ := HB0.out
      exact ⟨0, zs, o4, Nat.zero_le _, rfl, hz, hs, Stp.rfl'⟩
    case round =>
      obtain ⟨m, zs, o', hm, rfl, hzl, hsl, hst⟩ := hrel
      have f1 : wr.cell? ⟨g3, 1, none⟩ = some (.slice A3 n d3) := (row_facts ((hst.keep g3 (row_lt ROW13.out) (by rw [og3]; omega)).trans ROW13.out) 1 _ rfl).1
      by_cases hmN : m < n
      · have hmz : m < zs.length := by omega
        obtain ⟨bL, fL, rfl, hoL, hbL, hcL, hrL⟩ : ∃ bL fL, A3 = some ⟨bL, fL, none⟩ ∧ o' bL = 91 ∧ bL < wr.heap.size ∧ (∀ i u, (zs.map (Value.int .u8))[i]? = some u → wr.cell? ⟨bL, fL + i, none⟩ = some u) ∧ True := by
          rcases hsl.at_ with h | ⟨b', f', h, ho, hb, hc, _⟩
          · have := hsl.le; omega
          · exact ⟨b', f', h, ho, hb, hc, trivial⟩
        obtain ⟨hs2, st2', ⟨u, hu⟩, hfz⟩ := hsl.setc m (by simpa using hmz) (.int .u8 (IntKind.u8.wrap (zs[m] + 1)))
        have hcell : wr.cell? ⟨bL, fL + m, none⟩ = some (.int .u8 zs[m]) := hcL m _ (by simp [hmz])
        obtain ⟨z, hz⟩ : ∃ z, z = zs[m] := ⟨_, rfl⟩
        rw [← hz] at hcell hs2 st2'
        have HZ := Lib.hid hz
        have HS2 := Lib.hid hs2
        have ST2x := Lib.hid st2'
        have HST := Lib.hid hst
        have HZL := Lib.hid hzl
        have hk0 : (0 : Int) ≤ (m : Int) := by omega
        have hk1 : (m : Int) < (n : Int) := by omega
        clear hsl hz hs2 st2' hst hzl hu hcL hrL hoL
        go_wp2
        go_region
        go_wp2
        go_roundw
        case rel =>
          refine ⟨m + 1, zs.set m (IntKind.u8.wrap (z + 1)), o', by omega, by go_num, by rw [List.length_set]; exact HZL.out, ?_, HST.out.tr ?_⟩
          · rw [List.map_set]; exact HS2.out.ext (by (repeat (first | exact Ext.rfl' _ | assumption | refine Ext.dr ?_ | refine Ext.drN ?_ _ | refine Ext.al ?_ _ | refine Ext.st ?_ (by simp) _ | refine Ext.tr ?_ (by assumption))))
          · exact ST2x.out.tr (Stp.ext (by (repeat (first | exact Ext.rfl' _ | assumption | refine Ext.dr ?_ | refine Ext.drN ?_ _ | refine Ext.al ?_ _ | refine Ext.st ?_ (by simp) _ | refine Ext.tr ?_ (by assumption)))))
        case measure => simp [intOf]; omega
      · obtain rfl : m = n := by omega
        go_wp2
        go_ret
        rw [← HS2.out]
        refine Turns.mk o' rfl ⟨rfl, HD13.out.stp hst (by omega) (by omega) (by omega), HR13.out.stp hst (by omega) (by omega) (by omega) (by omega)⟩ ?_
        exact (ST1.out.mono fun _ h => h.elim).tr (ST13.out.tr (hst.mono fun i hi => by unfold KS; omega))
end Go.Proofs.Ytllpffdjlhamkaa
