/-
The program's Multipart.
-/
import Derived.Test.YtllpffdjlhamkaaDoorMul7
set_option linter.unusedVariables false
set_option linter.unusedSimpArgs false
namespace Go.Proofs.YtllpffdjlhamkaaDoor
open Go.RowKit

theorem hp_ext {w w' : World} {b : Nat} {x : Obj} (e : Ext w w') (h : w.heap[b]? = some x) : w'.heap[b]? = some x := (e.block b (Array.getElem?_eq_some_iff.1 h).1).trans h
theorem cell_hp {w : World} {b j : Nat} {cs : Array Value} {t : TypeId} {v : Value} (h : w.heap[b]? = some (.cells cs t (0, 0))) (hv : cs[j]? = some v) : w.cell? ⟨b, j, none⟩ = some v := by
  simp [World.cell?, h, hv]

set_option maxRecDepth 100000 in
set_option maxHeartbeats 8000000 in
theorem Multipart_c (b : List UInt8) (ps : List (Int × Int)) (kd bd : List UInt8) (B Al : Option Addr) (n c m d : Nat) (hn : n = b.length) (hm : ps.length = m) (hnc : n ≤ c) (hb : b.length ≤ 1048576) (hmm : m ≤ 1048576) (hk : kd.length ≤ 1048576) (hbd : bd.length ≤ 1048576)
    (w : World) (hp : Pow w) (hB : Rd w B (bc b)) (hA : Rd w Al (pc ps)) :
    Calls Tryd.prog 9 #[.slice B n c, .slice Al m d, .string (str kd), .string (str bd)] w (Ret (IsMP (mpL b ps kd bd)) w) := by
  subst hn
  have hms : maxLen = 9223372036854775807 := rfl
  obtain ⟨RR, hRR⟩ : ∃ R, R = mpL b ps kd bd := ⟨_, rfl⟩
  rw [← hRR]
  have HRR := Lib.hid hRR
  have HP := Lib.hid hp
  have HB := Lib.hid hB
  clear hRR hp hB
  have CV0 := fun w' => Value_c kd (by omega) w'
  have CP0 := fun w' => plain_c bd (by omega) w'
  obtain ⟨vo, hvo⟩ : ∃ v, v = valueOk kd := ⟨_, rfl⟩
  obtain ⟨po, hpo⟩ : ∃ v, v = plainL bd := ⟨_, rfl⟩
  have HVO := Lib.hid hvo
  have HPO := Lib.hid hpo
  rw [show ((kd.all fun b => valB b.toNat) && endsB kd) = vo from hvo.symm] at CV0
  rw [← hpo] at CP0
  clear hvo hpo
  obtain ⟨sB, hsB⟩ : ∃ s, s = str bd := ⟨_, rfl⟩
  obtain ⟨sK, hsK⟩ : ∃ s, s = str kd := ⟨_, rfl⟩
  obtain ⟨u1, hu1⟩ : ∃ s, s = str ([45, 45] ++ bd) := ⟨_, rfl⟩
  obtain ⟨u2, hu2⟩ : ∃ s, s = str ([45, 45] ++ bd ++ [13, 10]) := ⟨_, rfl⟩
  obtain ⟨u3, hu3⟩ : ∃ s, s = str ([45, 45] ++ bd ++ [13, 10] ++ ctT) := ⟨_, rfl⟩
  obtain ⟨u4, hu4⟩ : ∃ s, s = str ([45, 45] ++ bd ++ [13, 10] ++ ctT ++ kd) := ⟨_, rfl⟩
  obtain ⟨u5, hu5⟩ : ∃ s, s = str ([45, 45] ++ bd ++ [13, 10] ++ ctT ++ kd ++ [13, 10]) := ⟨_, rfl⟩
  obtain ⟨u6, hu6⟩ : ∃ s, s = str ([45, 45] ++ bd ++ [13, 10] ++ ctT ++ kd ++ [13, 10] ++ crT) := ⟨_, rfl⟩
  obtain ⟨v2, hv2⟩ : ∃ s, s = str ([45, 45] ++ bd ++ [45, 45]) := ⟨_, rfl⟩
  obtain ⟨v3, hv3⟩ : ∃ s, s = str ([45, 45] ++ bd ++ [45, 45] ++ [13, 10]) := ⟨_, rfl⟩
  have hct : ctT.length = 14 := rfl
  have hcr : crT.length = 15 := rfl
  have cc1 : ∀ w, (Op.stringOp .add ⟨#[45, 45]⟩ sB).run Tryd.prog w = .ok (.string u1) w := fun w => by rw [hsB, hu1]; exact cat2 [45, 45] bd (by simp; omega) w
  have cc2 : ∀ w, (Op.stringOp .add u1 ⟨#[13, 10]⟩).run Tryd.prog w = .ok (.string u2) w := fun w => by rw [hu1, hu2]; exact cat2 _ [13, 10] (by simp; omega) w
  have cc3 : ∀ w, (Op.stringOp .add u2 ⟨#[67, 111, 110, 116, 101, 110, 116, 45, 84, 121, 112, 101, 58, 32]⟩).run Tryd.prog w = .ok (.string u3) w := fun w => by rw [hu2, hu3]; exact cat2 _ ctT (by simp; omega) w
  have cc4 : ∀ w, (Op.stringOp .add u3 sK).run Tryd.prog w = .ok (.string u4) w := fun w => by rw [hu3, hu4, hsK]; exact cat2 _ kd (by simp [hct]; omega) w
  have cc5 : ∀ w, (Op.stringOp .add u4 ⟨#[13, 10]⟩).run Tryd.prog w = .ok (.string u5) w := fun w => by rw [hu4, hu5]; exact cat2 _ [13, 10] (by simp [hct]; omega) w
  have cc6 : ∀ w, (Op.stringOp .add u5 ⟨#[67, 111, 110, 116, 101, 110, 116, 45, 82, 97, 110, 103, 101, 58, 32]⟩).run Tryd.prog w = .ok (.string u6) w := fun w => by rw [hu5, hu6]; exact cat2 _ crT (by simp [hct, hcr]; omega) w
  have ce2 : ∀ w, (Op.stringOp .add u1 ⟨#[45, 45]⟩).run Tryd.prog w = .ok (.string v2) w := fun w => by rw [hu1, hv2]; exact cat2 _ [45, 45] (by simp; omega) w
  have ce3 : ∀ w, (Op.stringOp .add v2 ⟨#[13, 10]⟩).run Tryd.prog w = .ok (.string v3) w := fun w => by rw [hv2, hv3]; exact cat2 _ [13, 10] (by simp; omega) w
  have HU6 := Lib.hid (show u6 = str (preM bd kd) from hu6)
  have HV3 := Lib.hid (show v3 = str (endM bd) from hv3)
  have hpl : (preM bd kd).length ≤ 2098000 := by unfold preM; simp [hct, hcr]; omega
  have HSB := Lib.hid hsB
  have HSK := Lib.hid hsK
  clear hu1 hu2 hu3 hu4 hu5 hu6 hv2 hv3 hct hcr hsB hsK
  rw [← HSK.out] at CV0
  rw [← HSB.out] at CP0
  rw [← HSB.out, ← HSK.out]
  have CV := Lib.hid CV0
  have CP := Lib.hid CP0
  clear CV0 CP0
  go_enter Tryd.func9, Tryd.ntmps9
  go_wp2
  go_loopw [17] (fun i wr => ∃ k : Nat, i = .int .i64 (k : Int) ∧ k ≤ m ∧ (∀ j (h : j < ps.length), j < k → okPt b.length ps[j]) ∧ Ext w wr) (fun i _ => m - (intOf i).toNat)
  case atStart => exact ⟨0, rfl, Nat.zero_le _, fun j _ h => by omega, Ext.rfl' _⟩
  case round =>
    obtain ⟨k, rfl, hk', hok, hext⟩ := hrel
    have HOK := Lib.hid hok
    clear hok
    by_cases hlt : k < m
    · obtain ⟨bb, f, rfl, hbl, hS⟩ := hA.pair (k := k) (by omega)
      have h01 := hS.out wr hext
      have h0 := h01.1
      have h1 := h01.2
      clear h01
      obtain ⟨x, hxe⟩ : ∃ x, x = ps[k].1 := ⟨_, rfl⟩
      obtain ⟨y, hye⟩ : ∃ x, x = ps[k].2 := ⟨_, rfl⟩
      rw [← hxe] at h0
      rw [← hye] at h1
      have HX := Lib.hid hxe
      have HY := Lib.hid hye
      by_cases c1 : x < 0
      · go_wp2
        go_ret2
        exact Ret.mk (IsMP.none_ _ _ (by rw [HRR.out]; exact mp_bad (k := k) (by omega) (fun h => by unfold okPt at h; rw [← hxe, ← hye] at h; omega))) (by (repeat (first | exact Ext.rfl' _ | assumption | refine Ext.dr ?_ | refine Ext.drN ?_ _ | refine Ext.al ?_ _ | refine Ext.st ?_ (by simp) _ | refine Ext.tr ?_ (by assumption))))
      · by_cases c2 : y < x
        · go_wp2
          go_ret2
          exact Ret.mk (IsMP.none_ _ _ (by rw [HRR.out]; exact mp_bad (k := k) (by omega) (fun h => by unfold okPt at h; rw [← hxe, ← hye] at h; omega))) (by (repeat (first | exact Ext.rfl' _ | assumption | refine Ext.dr ?_ | refine Ext.drN ?_ _ | refine Ext.al ?_ _ | refine Ext.st ?_ (by simp) _ | refine Ext.tr ?_ (by assumption))))
        · by_cases c3 : (b.length : Int) < y
          · go_wp2
            go_ret2
            exact Ret.mk (IsMP.none_ _ _ (by rw [HRR.out]; exact mp_bad (k := k) (by omega) (fun h => by unfold okPt at h; rw [← hxe, ← hye] at h; omega))) (by (repeat (first | exact Ext.rfl' _ | assumption | refine Ext.dr ?_ | refine Ext.drN ?_ _ | refine Ext.al ?_ _ | refine Ext.st ?_ (by simp) _ | refine Ext.tr ?_ (by assumption))))
          · clear hxe hye
            go_wp2
            go_roundw
            case rel => exact ⟨k + 1, by go_num, by omega, fun j h hj => by
              rcases Nat.lt_or_ge j k with h2 | h2
              · exact HOK.out j h h2
              · obtain rfl : j = k := by omega
                unfold okPt; rw [← HX.out, ← HY.out]; omega, by (repeat (first | exact Ext.rfl' _ | assumption | refine Ext.dr ?_ | refine Ext.drN ?_ _ | refine Ext.al ?_ _ | refine Ext.st ?_ (by simp) _ | refine Ext.tr ?_ (by assumption)))⟩
            case measure => simp [intOf]; omega
    · have hkm : m = k := by omega
      subst hkm
      have HPS := Lib.hid (show okPs b.length ps from fun p hp => by
        obtain ⟨j, hj, rfl⟩ := List.getElem_of_mem hp
        exact HOK.out j hj (by omega))
      clear HOK
      by_cases ha : vo = true
      · subst ha
        by_cases hb2 : po = true
        · subst hb2
          have HVB := Lib.hid (show valueOk kd = true ∧ plainL bd = true from ⟨HVO.out.symm, HPO.out.symm⟩)
          go_wp2_with (first
            | (go_at_call 19; refine (CV.out _).mono ?_; rintro e w3 ⟨rfl, hx3⟩)
            | (go_at_call 20; refine (CP.out _).mono ?_; rintro e w4 ⟨rfl, hx4⟩))
          have hxb : Ext w w4 := by (repeat (first | exact Ext.rfl' _ | assumption | refine Ext.dr ?_ | refine Ext.drN ?_ _ | refine Ext.al ?_ _ | refine Ext.st ?_ (by simp) _ | refine Ext.tr ?_ (by assumption)))
          go_loopw [12, 49] (fun vo vi wr => ∃ (k n' c' : Nat) (o : Ow) (A' : Option Addr), vi = .int .i64 (k : Int) ∧ k ≤ m ∧ vo = .slice A' n' c' ∧ n' = (prtsM b bd kd (ps.take k)).length ∧ Sl wr o 9 1 A' n' c' (bc (prtsM b bd kd (ps.take k))) ∧ (A' = none → c' = 0) ∧ n' ≤ 1048576 ∧ Stp (fun i => i = 9) w4 (fun _ => 0) wr o) (fun _ vi _ => m - (intOf vi).toNat)
          case atStart => exact ⟨0, 0, 0, fun _ => 0, none, rfl, Nat.zero_le _, rfl, rfl, Sl.nil_ _ _ _ _ _, fun _ => rfl, by omega, Stp.rfl'⟩
          case round =>
            obtain ⟨k, n', c', o, A', rfl, hk2, rfl, hn', hsl, hna, hn1, hst⟩ := hrel
            by_cases hlt : k < m
            · have hext2 : Ext w wr := hxb.tr (hst.toExt (fun _ _ h => by cases h))
              have hkl : k < ps.length := by omega
              obtain ⟨bb, f, rfl, hbl, hS⟩ := hA.pair (k := k) hkl
              have h01 := hS.out wr hext2
              have hokk := HPS.out _ (List.getElem_mem (show k < ps.length by omega))
              unfold okPt at hokk
              obtain ⟨X, hX⟩ : ∃ X : Nat, ps[k].1 = (X : Int) := ⟨ps[k].1.toNat, by omega⟩
              obtain ⟨Y, hq⟩ : ∃ Y : Nat, ps[k].2 = (Y : Int) := ⟨ps[k].2.toNat, by omega⟩
              obtain ⟨q, hqe⟩ : ∃ q : Nat, Y = X + q := ⟨Y - X, by omega⟩
              have hYb : Y ≤ b.length := by omega
              have hSu := prts_succ b bd kd ps k (by omega)
              have hLe := prts_le b bd kd ps (k + 1)
              have hPt : partM b bd kd ps[k] = headM bd kd b.length ps[k] ++ ((b.take Y).drop X) ++ [13, 10] := by unfold partM bodyM; rw [hX, hq, Int.toNat_natCast, Int.toNat_natCast]
              have hcl := crL_len (X : Int) (Y : Int) (b.length : Int) (by omega) (by omega) (by omega) (by omega) (by omega) (by omega)
              have hHd : headM bd kd b.length ps[k] = preM bd kd ++ crL (X : Int) (Y : Int) b.length ++ [13, 10] ++ [13, 10] := by unfold headM; rw [hX, hq]
              obtain ⟨Bc, hBc, hBd⟩ := cut_part b B b.length c X Y w HB.out (by omega) hYb hnc
              have hbl2 : ((b.take Y).drop X).length = q := by rw [List.length_drop, List.length_take]; omega
              obtain ⟨body, hbody⟩ : ∃ z, z = (b.take Y).drop X := ⟨_, rfl⟩
              rw [← hbody] at hPt hBd hbl2
              obtain ⟨cq, hcq⟩ : ∃ z, z = c - X := ⟨_, rfl⟩
              rw [show Y - X = q from by omega, ← hcq] at hBc
              obtain ⟨cr, hcr⟩ : ∃ z, z = crL (X : Int) (Y : Int) b.length := ⟨_, rfl⟩
              rw [← hcr] at hHd hcl
              obtain ⟨hd, hhd⟩ : ∃ z, z = headM bd kd b.length ps[k] := ⟨_, rfl⟩
              rw [← hhd] at hPt hHd
              rw [hPt] at hSu
              have hhl : hd.length ≤ 2099000 := by rw [hHd]; simp only [List.length_append, List.length_cons, List.length_nil]; omega
              obtain ⟨sC, hsC⟩ : ∃ z, z = str cr := ⟨_, rfl⟩
              obtain ⟨u7, hu7⟩ : ∃ z, z = str (preM bd kd ++ cr) := ⟨_, rfl⟩
              obtain ⟨u8, hu8⟩ : ∃ z, z = str (preM bd kd ++ cr ++ [13, 10]) := ⟨_, rfl⟩
              obtain ⟨u9, hu9⟩ : ∃ z, z = str hd := ⟨_, rfl⟩
              have cc7 : ∀ w, (Op.stringOp .add u6 sC).run Tryd.prog w = .ok (.string u7) w := fun w => by rw [HU6.out, hsC, hu7]; exact cat2 _ cr (by omega) w
              have cc8 : ∀ w, (Op.stringOp .add u7 ⟨#[13, 10]⟩).run Tryd.prog w = .ok (.string u8) w := fun w => by rw [hu7, hu8]; exact cat2 _ [13, 10] (by simp only [List.length_append, List.length_cons, List.length_nil]; omega) w
              have cc9 : ∀ w, (Op.stringOp .add u8 ⟨#[13, 10]⟩).run Tryd.prog w = .ok (.string u9) w := fun w => by rw [hu8, hu9, hHd]; exact cat2 _ [13, 10] (by simp only [List.length_append, List.length_cons, List.length_nil]; omega) w
              have HSRC := Lib.hid (fun w => show Src Tryd.prog 1 9 (.string u9) hd.length (bc hd) w from by rw [hu9]; exact src_str hd w)
              have HCR := Lib.hid (fun w' hp => show Calls Tryd.prog 12 #[.agg #[.int .i64 (X : Int), .int .i64 (Y : Int)], .int .i64 (b.length : Int)] w' (Gives (.string sC) w') from by rw [hsC, hcr]; exact ContentRange_c (X : Int) (Y : Int) (b.length : Int) w' hp (by omega) (by omega) (by omega) (by omega) (by omega) (by omega))
              rw [hX, hq] at h01
              obtain ⟨e0, e1⟩ := h01
              obtain ⟨ol, hol⟩ : ∃ z, z = prtsM b bd kd (ps.take k) := ⟨_, rfl⟩
              rw [← hol] at hn' hsl hSu
              have HSU := Lib.hid hSu
              have HBD := Lib.hid hBd
              have HSL := Lib.hid hsl
              have HST := Lib.hid hst
              have hlen : (prtsM b bd kd (ps.take (k + 1))).length = n' + hd.length + q + 2 := by rw [hSu]; simp only [List.length_append, List.length_cons, List.length_nil]; omega
              have HLEN := Lib.hid hlen
              have htoo := Lib.hid (show (prtsM b bd kd (ps.take (k + 1))).length ≤ (fullM b bd kd ps).length from by unfold fullM; rw [List.length_append]; omega)
              have a1 : (0 : Int) ≤ (X : Int) := by omega
              have HBL := Lib.hid hbl2
              have hqb : q ≤ 1048576 := by omega
              clear hqe hX hq hokk hSu hPt hHd hcl hBd hbody hcq hcr hhd hsC hu7 hu8 hu9 hol hsl hst hLe hlen hbl2 hS hn'
              by_cases hbig : n' + hd.length + q + 2 ≤ 1048576
              · go_upto_region 15 with (first
                  | (go_at_call 12; refine (HCR.out _ (HP.out.ext (by (repeat (first | exact Ext.rfl' _ | assumption | refine Ext.dr ?_ | refine Ext.drN ?_ _ | refine Ext.al ?_ _ | refine Ext.st ?_ (by simp) _ | refine Ext.tr ?_ (by assumption)))))).mono ?_; rintro e w5 ⟨rfl, hx5⟩; have hbx := hp_ext hx5 (heap_alloc_new wr (.cells #[.int .i64 (X : Int), .int .i64 (Y : Int)] 40)); have st5 : Stp (fun _ => False) wr o w5 (fun z => if z = wr.heap.size then 8 else o z) := Stp.ext2 (by (repeat (first | exact Ext.rfl' _ | assumption | refine Ext.dr ?_ | refine Ext.drN ?_ _ | refine Ext.al ?_ _ | refine Ext.st ?_ (by simp) _ | refine Ext.tr ?_ (by assumption)))) (fun z hz => by rw [if_neg (by omega)]); have hs5 := HSL.out.stp st5 (fun x => x); obtain ⟨t0, t1⟩ := (And.intro (cell_hp (j := 0) hbx rfl) (cell_hp (j := 1) hbx rfl)))
                  | (at_builtin; refine wpL_put slt_u8 (.tmp 53) (.tmp 68) rfl rfl rfl rfl hs5 hna (HSRC.out _) (by omega) (by omega) ?_; intro A6 c6 w6 o6 hs6 hst6 hn6; have t0 := hst6.cell (a := ⟨wr.heap.size, 0, none⟩) (by simp) t0; have t1 := hst6.cell (a := ⟨wr.heap.size, 1, none⟩) (by simp) t1; have x6 : Ext w w6 := hxb.tr (((HST.out.tr (st5.mono (fun _ x => x.elim))).tr hst6).toExt (fun _ _ h => by cases h)))
                  | (at_builtin; refine wpL_put slt_u8 (.tmp 70) (.tmp 76) rfl rfl rfl rfl hs6 hn6 (Sl.src (n := q) (size := 1) Tryd.underlying22 (HBD.out.ext x6) (by rw [bc_len, HBL.out]; omega) (by omega) (bc_one _) _) (by omega) (by omega) ?_; intro A7 c7 w7 o7 hs7 hst7 hn7)
                  | (at_builtin; refine wpL_put slt_u8 (.tmp 77) (.const (.string ⟨#[13, 10]⟩)) rfl rfl rfl rfl hs7 hn7 (show Src Tryd.prog 1 9 (.string ⟨#[13, 10]⟩) 2 (bc [13, 10]) _ from src_str [13, 10] _) (by omega) (by omega) ?_; intro A8 c8 w8 o8 hs8 hst8 hn8))
                obtain ⟨L, hL⟩ : ∃ L, L = n' + hd.length + q + 2 := ⟨_, rfl⟩
                rw [← hL] at hs8 hbig HLEN ⊢
                clear hL
                have d1 : ¬ ((1048576 : Int) < (L : Int)) := by omega
                go_wp2
                go_roundw
                case rel => exact ⟨k + 1, L, c8, o8, A8, by go_num, by omega, rfl, HLEN.out.symm, by rw [HSU.out]; rw [bc_app, bc_app, bc_app, ← List.append_assoc, ← List.append_assoc]; exact hs8, hn8, hbig, (HST.out.tr (st5.mono (fun _ x => x.elim))).tr ((hst6.tr hst7).tr hst8)⟩
                case measure => simp [intOf]; omega
              · have hbig2 := Lib.hid (show 1048576 < (fullM b bd kd ps).length by have h1 := htoo.out; have h2 := HLEN.out; omega)
                go_upto_region 15 with (first
                  | (go_at_call 12; refine (HCR.out _ (HP.out.ext (by (repeat (first | exact Ext.rfl' _ | assumption | refine Ext.dr ?_ | refine Ext.drN ?_ _ | refine Ext.al ?_ _ | refine Ext.st ?_ (by simp) _ | refine Ext.tr ?_ (by assumption)))))).mono ?_; rintro e w5 ⟨rfl, hx5⟩; have hbx := hp_ext hx5 (heap_alloc_new wr (.cells #[.int .i64 (X : Int), .int .i64 (Y : Int)] 40)); have st5 : Stp (fun _ => False) wr o w5 (fun z => if z = wr.heap.size then 8 else o z) := Stp.ext2 (by (repeat (first | exact Ext.rfl' _ | assumption | refine Ext.dr ?_ | refine Ext.drN ?_ _ | refine Ext.al ?_ _ | refine Ext.st ?_ (by simp) _ | refine Ext.tr ?_ (by assumption)))) (fun z hz => by rw [if_neg (by omega)]); have hs5 := HSL.out.stp st5 (fun x => x); obtain ⟨t0, t1⟩ := (And.intro (cell_hp (j := 0) hbx rfl) (cell_hp (j := 1) hbx rfl)))
                  | (at_builtin; refine wpL_put slt_u8 (.tmp 53) (.tmp 68) rfl rfl rfl rfl hs5 hna (HSRC.out _) (by omega) (by omega) ?_; intro A6 c6 w6 o6 hs6 hst6 hn6; have t0 := hst6.cell (a := ⟨wr.heap.size, 0, none⟩) (by simp) t0; have t1 := hst6.cell (a := ⟨wr.heap.size, 1, none⟩) (by simp) t1; have x6 : Ext w w6 := hxb.tr (((HST.out.tr (st5.mono (fun _ x => x.elim))).tr hst6).toExt (fun _ _ h => by cases h)))
                  | (at_builtin; refine wpL_put slt_u8 (.tmp 70) (.tmp 76) rfl rfl rfl rfl hs6 hn6 (Sl.src (n := q) (size := 1) Tryd.underlying22 (HBD.out.ext x6) (by rw [bc_len, HBL.out]; omega) (by omega) (bc_one _) _) (by omega) (by omega) ?_; intro A7 c7 w7 o7 hs7 hst7 hn7)
                  | (at_builtin; refine wpL_put slt_u8 (.tmp 77) (.const (.string ⟨#[13, 10]⟩)) rfl rfl rfl rfl hs7 hn7 (show Src Tryd.prog 1 9 (.string ⟨#[13, 10]⟩) 2 (bc [13, 10]) _ from src_str [13, 10] _) (by omega) (by omega) ?_; intro A8 c8 w8 o8 hs8 hst8 hn8))
                obtain ⟨L, hL⟩ : ∃ L, L = n' + hd.length + q + 2 := ⟨_, rfl⟩
                rw [← hL] at hs8 hbig HLEN ⊢
                clear hL
                have d1 : (1048576 : Int) < (L : Int) := by omega
                go_wp2
                go_ret2
                exact Ret.mk (IsMP.none_ _ _ (by rw [HRR.out]; exact mp_big HPS.out HVB.out hbig2.out)) (hxb.tr (((HST.out.tr (st5.mono (fun _ x => x.elim))).tr ((hst6.tr hst7).tr hst8)).toExt (fun _ _ h => by cases h)))
            · have hkm : m = k := by omega
              subst hkm
              rw [List.take_of_length_le (by omega)] at hn' hsl
              have x0 : Ext w wr := hxb.tr (hst.toExt (fun _ _ h => by cases h))
              have HST := Lib.hid hst
              have HSL := Lib.hid hsl
              have HSRC := Lib.hid (fun w => show Src Tryd.prog 1 9 (.string v3) (endM bd).length (bc (endM bd)) w from by rw [HV3.out]; exact src_str (endM bd) w)
              have hel : (endM bd).length ≤ 1049000 := by unfold endM; simp; omega
              have HLEN := Lib.hid (show (fullM b bd kd ps).length = n' + (endM bd).length from by unfold fullM; rw [List.length_append, hn'])
              have HFULL := Lib.hid (show bc (fullM b bd kd ps) = bc (prtsM b bd kd ps) ++ bc (endM bd) from by unfold fullM; rw [bc_app])
              obtain ⟨el, hee⟩ : ∃ z, z = (endM bd).length := ⟨_, rfl⟩
              rw [← hee] at HSRC hel HLEN
              clear hn' hst hsl hee
              go_upto_region 19 with (first
                | (at_builtin; refine wpL_put slt_u8 (.tmp 83) (.tmp 87) rfl rfl rfl rfl HSL.out hna (HSRC.out _) (by omega) (by omega) ?_; intro A8 c8 w8 o8 hs8 hst8 hn8))
              obtain ⟨L, hL⟩ : ∃ L, L = n' + el := ⟨_, rfl⟩
              rw [← hL] at hs8 HLEN ⊢
              have x8 : Ext w w8 := hxb.tr ((HST.out.tr hst8).toExt (fun _ _ h => by cases h))
              by_cases hbig : L ≤ 1048576
              · have d1 : ¬ ((1048576 : Int) < (L : Int)) := by omega
                clear hL
                go_wp2
                go_ret2
                exact Ret.mk (IsMP.mk (by rw [HRR.out]; exact mp_good HPS.out HVB.out (by rw [HLEN.out]; exact hbig)) HLEN.out.symm (by rw [HFULL.out]; exact hs8.rd)) x8
              · have d1 : (1048576 : Int) < (L : Int) := by omega
                clear hL
                go_wp2
                go_ret2
                exact Ret.mk (IsMP.none_ _ _ (by rw [HRR.out]; exact mp_big HPS.out HVB.out (by rw [HLEN.out]; omega))) x8
        · obtain rfl : po = false := by cases po <;> simp_all
          have hne : ¬ (valueOk kd = true ∧ plainL bd = true) := fun h => hb2 (HPO.out.trans h.2)
          have HV2 := Lib.hid (show RR = ([], 1) by rw [HRR.out]; exact mp_arg hne)
          go_wp2_with (first
            | (go_at_call 19; refine (CV.out _).mono ?_; rintro e w3 ⟨rfl, hx3⟩)
            | (go_at_call 20; refine (CP.out _).mono ?_; rintro e w4 ⟨rfl, hx4⟩))
          go_ret2
          exact Ret.mk (IsMP.none_ _ _ HV2.out) (by (repeat (first | exact Ext.rfl' _ | assumption | refine Ext.dr ?_ | refine Ext.drN ?_ _ | refine Ext.al ?_ _ | refine Ext.st ?_ (by simp) _ | refine Ext.tr ?_ (by assumption))))
      · obtain rfl : vo = false := by cases vo <;> simp_all
        have hne : ¬ (valueOk kd = true ∧ plainL bd = true) := fun h => ha (HVO.out.trans h.1)
        have HV2 := Lib.hid (show RR = ([], 1) by rw [HRR.out]; exact mp_arg hne)
        go_wp2_with (first
          | (go_at_call 19; refine (CV.out _).mono ?_; rintro e w3 ⟨rfl, hx3⟩)
          | (go_at_call 20; refine (CP.out _).mono ?_; rintro e w4 ⟨rfl, hx4⟩))
        go_ret2
        exact Ret.mk (IsMP.none_ _ _ HV2.out) (by (repeat (first | exact Ext.rfl' _ | assumption | refine Ext.dr ?_ | refine Ext.drN ?_ _ | refine Ext.al ?_ _ | refine Ext.st ?_ (by simp) _ | refine Ext.tr ?_ (by assumption))))
end Go.Proofs.YtllpffdjlhamkaaDoor
