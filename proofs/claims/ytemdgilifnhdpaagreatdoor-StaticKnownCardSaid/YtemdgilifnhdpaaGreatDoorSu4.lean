/-
Static: a file that is known is told to be so (304).
-/
import Derived.Test.YtemdgilifnhdpaaGreatDoorStU
set_option linter.unusedVariables false
set_option linter.unusedSimpArgs false
namespace Go.Proofs.YtemdgilifnhdpaaGreatDoor
open Go.RowKit

theorem AnAt.bare {w : World} {o : Ow} {k P : Nat} {fs : List Fld} {st : Int} {bv : Value} {br : Bool} {A : Option Addr} {c : Nat} (h : AnAt w o k P fs st bv br A c) (s2 : Int) :
    AnAt ((w.setCell ⟨P, 1, none⟩ (.int .i64 s2)).setCell ⟨P, 3, none⟩ (.bool true)) o k P fs s2 bv true A c ∧ Stp (fun i => i = k) w o ((w.setCell ⟨P, 1, none⟩ (.int .i64 s2)).setCell ⟨P, 3, none⟩ (.bool true)) o := by
  have r1 := row_set h.row 1 (.int .i64 s2)
  have r2 := row_set r1 3 (.bool true)
  have s : Stp (fun i => i = k) w o ((w.setCell ⟨P, 1, none⟩ (.int .i64 s2)).setCell ⟨P, 3, none⟩ (.bool true)) o := (Stp.set P 1 _ (fun _ => h.own)).tr (Stp.set P 3 _ (fun _ => h.own))
  exact ⟨⟨h.own, r2, h.sl.stp s (by omega), h.z⟩, s⟩
set_option maxRecDepth 100000 in
set_option maxHeartbeats 8000000 in
theorem stServe_304 (kw pw : Nat) (s : Wrl) (hk : Wok s) (pre root index path : List UInt8) (hp1 : pre.length ≤ 140737488351232) (hp2 : root.length ≤ 140737488351232) (hp3 : index.length ≤ 140737488351232) (hp4 : path.length ≤ 140737488351232) (a4 : Value) (a6 a7 a8 a9 a10 a11 : Value) (t mi : Value) (A : Option Addr) (n c : Nat) (w : World) (o : Ow) (ho : ∀ b, b < w.heap.size → o b < 20) (hkw : kw < 17) (hw : WdAt w o kw pw s) (hM : Ev.MxE w) (hE : ErrR w) (ev : Int) (nm : List UInt8) (f : Fil) (hfr : findS s pre root index path = .inl (nm, f))
    (hCE : ∀ w', Ext w w' → Calls Tryz.prog 30 #[.string ⟨#[71, 69, 84]⟩, .slice A n c, .agg #[.bool false, .string (str (tagL f.b.length f.mt (f.ve : Int))), .int .i64 f.mt, .bool true], .int .i64 s.now] w' (Gives (.int .i64 304) w')) :
    Calls Tryz.prog 9 #[.pointer (some ⟨pw, 0, none⟩), .agg (locC pre root index 1 a4 0 a6 a7 a8 a9 a10 a11), .agg (reqC ⟨#[71, 69, 84]⟩ t mi A n c), .string (str path)] w (ServeTo w (serveS (findS s pre root index path) 304 path)) := by
  rw [hfr]
  have HFR := Lib.hid hfr
  have HCE := Lib.hid hCE
  clear hfr hCE
  obtain ⟨W3, hW3⟩ : ∃ X, X = ((w.alloc (.cells (locC pre root index 1 a4 0 a6 a7 a8 a9 a10 a11) 39)).alloc (.cells (reqC ⟨#[71, 69, 84]⟩ t mi A n c) 27)).alloc (.cells #[.int .i64 0, .slice none 0 0, .slice none 0 0] 34) := ⟨_, rfl⟩
  have hx3 : Ext w W3 := by rw [hW3]; (repeat (first | exact Ext.rfl' _ | assumption | refine Ext.dr ?_ | refine Ext.drN ?_ _ | refine Ext.al ?_ _ | refine Ext.st ?_ (by simp) _ | refine Ext.tr ?_ (by assumption)))
  obtain ⟨hr1, hr2, hr4⟩ := three_al w (.cells (locC pre root index 1 a4 0 a6 a7 a8 a9 a10 a11) 39) (.cells (reqC ⟨#[71, 69, 84]⟩ t mi A n c) 27) (.cells #[.int .i64 0, .slice none 0 0, .slice none 0 0] 34)
  rw [← hW3] at hr1 hr2 hr4
  have HX3 := Lib.hid hx3
  have HR1 := Lib.hid hr1
  have HR2 := Lib.hid hr2
  have HR4 := Lib.hid hr4
  have HW := Lib.hid hw
  have HMX := Lib.hid hM
  have HER := Lib.hid hE
  have HO := Lib.hid ho
  have HOK := Lib.hid hk
  have CF0 := Lib.hid (fun w' (e : Ext w w') => (show Calls Tryz.prog 20 #[.pointer (some ⟨pw, 0, none⟩), .string ⟨#[]⟩] w' (Gives (.tuple #[.agg #[.string ⟨#[]⟩, .slice none 0 0, .int .i64 0], .int .i64 0, .int .i64 3]) w') from wFile_none w' o kw pw s (hw.ext e) [] (by simp) (no_empty hk)))
  have HW3 := Lib.hid hW3
  clear hw hM hE ho hk hW3 hr1 hr2 hr4 hx3
  unfold locC at HW3 HR1 ⊢
  unfold reqC at HW3 HR2 ⊢
  go_enter Tryz.func9, Tryz.ntmps9
  go_wp2
  refine wp_scope_hop 0 (by rfl) ?_
  go_upto_region 1 with (fail)
  rw [← HW3.out]
  have c1 := (row_facts HR1.out 1 _ rfl).1
  go_upto_region 9 with (first
    | (go_at_call 20; refine (CF0.out _ (HX3.out.tr (by (repeat (first | exact Ext.rfl' _ | assumption | refine Ext.dr ?_ | refine Ext.drN ?_ _ | refine Ext.al ?_ _ | refine Ext.st ?_ (by simp) _ | refine Ext.tr ?_ (by assumption)))))).mono ?_; rintro e w1 ⟨rfl, hx1⟩; have hx31 : Ext W3 w1 := (by (repeat (first | exact Ext.rfl' _ | assumption | refine Ext.dr ?_ | refine Ext.drN ?_ _ | refine Ext.al ?_ _ | refine Ext.st ?_ (by simp) _ | refine Ext.tr ?_ (by assumption))))))
  obtain ⟨P, hP⟩ : ∃ P, P = w1.heap.size + 1 := ⟨_, rfl⟩
  obtain ⟨q, hq⟩ : ∃ q, q = w1.heap.size + 1 + 1 := ⟨_, rfl⟩
  obtain ⟨W9, hW9⟩ : ∃ X, X = ((w1.alloc (.cells #[.string ⟨#[]⟩, .slice none 0 0, .int .i64 0] 24)).alloc (.cells #[.slice none 0 0, .int .i64 0, .slice none 0 0, .bool false] 77)).alloc (.cells #[.bool false, .string ⟨#[]⟩, .int .i64 0, .bool false] 80) := ⟨_, rfl⟩
  obtain ⟨_, rp, rq⟩ := three_al w1 (.cells #[.string ⟨#[]⟩, .slice none 0 0, .int .i64 0] 24) (.cells #[.slice none 0 0, .int .i64 0, .slice none 0 0, .bool false] 77) (.cells #[.bool false, .string ⟨#[]⟩, .int .i64 0, .bool false] 80)
  rw [← hW9, ← hP] at rp
  rw [← hW9, ← hq] at rq
  rw [← hq, ← hP, ← hW9]
  have hx19 : Ext w1 W9 := by rw [hW9]; (repeat (first | exact Ext.rfl' _ | assumption | refine Ext.dr ?_ | refine Ext.drN ?_ _ | refine Ext.al ?_ _ | refine Ext.st ?_ (by simp) _ | refine Ext.tr ?_ (by assumption)))
  have hx9 : Ext w W9 := HX3.out.tr (hx31.tr hx19)
  have hz := HX3.out.size
  have hz1 := hx31.size
  have hz3 := row_lt HR4.out
  obtain ⟨o9, ho9⟩ : ∃ o9 : Ow, o9 = fun b => if b < w.heap.size then o b else if b = P then 20 else if b = q then 31 else 30 := ⟨_, rfl⟩
  have S9 : Stp (fun _ => False) w o W9 o9 := Stp.ext2 hx9 (fun b hb => by rw [ho9]; exact if_pos hb)
  have oP : o9 P = 20 := by rw [ho9]; show (if P < w.heap.size then o P else if P = P then 20 else if P = q then 31 else 30) = 20; rw [if_neg (by omega), if_pos rfl]
  have oq : o9 q = 31 := by rw [ho9]; show (if q < w.heap.size then o q else if q = P then 20 else if q = q then 31 else 30) = 31; rw [if_neg (by omega), if_neg (by omega), if_pos rfl]
  have oX : ∀ b, w.heap.size ≤ b → b < P → o9 b = 30 := fun b h1 h2 => by rw [ho9]; show (if b < w.heap.size then o b else if b = P then 20 else if b = q then 31 else 30) = 30; rw [if_neg (by omega), if_neg (by omega), if_neg (by omega)]
  have AN9 : AnAt W9 o9 20 P [] 0 (.slice none 0 0) false none 0 := ⟨oP, rp, Sl.nil_ _ _ _ _ _, fun _ => rfl⟩
  have x39 : Ext W3 W9 := hx31.tr hx19
  have L9 := (x39.block _ (row_lt HR1.out)).trans HR1.out
  have R9 := (x39.block _ (row_lt HR2.out)).trans HR2.out
  have Z9 := (x39.block _ (row_lt HR4.out)).trans HR4.out
  have HB := Lib.hid (fun K w' o' (hK : ¬ K 30) (hK1 : ¬ K 31) (t : Stp K W9 o9 w' o') => And.intro ((t.keep _ (row_lt L9) (by rw [oX _ (by omega) (by omega)]; exact hK)).trans L9) (And.intro ((t.keep _ (row_lt R9) (by rw [oX _ (by omega) (by omega)]; exact hK)).trans R9) (And.intro ((t.keep _ (row_lt Z9) (by rw [oX _ (by omega) (by omega)]; exact hK)).trans Z9) ((t.keep _ (row_lt rq) (by rw [oq]; exact hK1)).trans rq))))
  have HBO := Lib.hid (fun K w' o' (t : Stp K W9 o9 w' o') => And.intro ((t.own _ (row_lt Z9)).trans (oX _ (by omega) (by omega))) (And.intro ((t.own _ (row_lt rq)).trans oq) ((t.own _ (row_lt R9)).trans (oX _ (by omega) (by omega)))))
  have HX9 := Lib.hid (fun w' o' K (hK : ∀ i, K i → 20 ≤ i) (t : Stp K W9 o9 w' o') => (show Ext w w' from ((S9.mono (L := K) (fun _ h => h.elim)).tr t).toExt (fun b hb hk => by have := HO.out b hb; have := hK _ hk; omega)))
  have CF := Lib.hid (stFind_c 20 P kw pw s HOK.out pre root index path hp1 hp2 hp3 hp4 1 a4 0 a6 a7 a8 a9 a10 a11 W9 o9 AN9 (HW.out.stp S9 (fun x => x) (fun x => x) (fun x => x)) (fun w' o' t => mxExt HMX.out (HX9.out w' o' _ (fun i hi => by omega) t)) (HER.out.ext hx9))
  have HWD := Lib.hid (fun K w' o' (h0 : ¬ K kw) (h1 : ¬ K (kw + 1)) (h2 : ¬ K (kw + 2)) (t : Stp K W9 o9 w' o') => (HW.out.stp S9 (fun x => x) (fun x => x) (fun x => x)).stp t h0 h1 h2)
  have HAN := Lib.hid AN9
  have hPz : P < W9.heap.size := row_lt rp
  have hPw : w.heap.size < P := by omega
  clear hP hq hW9 rp rq hx19 hx9 hz hz1 hz3 ho9 S9 oP oq oX AN9 x39 L9 R9 Z9 hx31 hx1 c1
  unfold locC at CF
  obtain ⟨e1, e2, e3, e4⟩ := HB.out (fun _ => False) W9 o9 (fun x => x) (fun x => x) Stp.rfl'
  have u0 := (row_facts e2 0 _ rfl).1
  have v0 := (row_facts e1 0 _ rfl).1
  have v1 := (row_facts e1 1 _ rfl).1
  have v2 := (row_facts e1 2 _ rfl).1
  have v3 := (row_facts e1 3 _ rfl).1
  have v4 := (row_facts e1 4 _ rfl).1
  have v5 := (row_facts e1 5 _ rfl).1
  have v6 := (row_facts e1 6 _ rfl).1
  have v7 := (row_facts e1 7 _ rfl).1
  have v8 := (row_facts e1 8 _ rfl).1
  have v9 := (row_facts e1 9 _ rfl).1
  have v10 := (row_facts e1 10 _ rfl).1
  have v11 := (row_facts e1 11 _ rfl).1
  clear e1 e2 e3 e4
  go_upto_region 14 with (first
    | (go_at_call 29; go_loud (refine CF.out.mono ?_; rintro e w10 ⟨v, o10, rfl, st10, hf10⟩; rw [HFR.out] at hf10; obtain ⟨p, A1, c1, rfl, hp10, op10, rp10, hs10, hz10, hn10⟩ := hf10)))
  obtain ⟨bl, hbl⟩ : ∃ x, x = f.b.length := ⟨_, rfl⟩
  obtain ⟨fm, hfm⟩ : ∃ x, x = f.mt := ⟨_, rfl⟩
  obtain ⟨sN, hsN⟩ : ∃ x, x = str nm := ⟨_, rfl⟩
  obtain ⟨tl, htl⟩ : ∃ x, x = tagL bl fm (f.ve : Int) := ⟨_, rfl⟩
  obtain ⟨tg, htg⟩ : ∃ x, x = str tl := ⟨_, rfl⟩
  rw [← hbl, ← hfm, ← htl, ← htg, ← hsN] at rp10
  rw [← hbl] at hs10
  have T10 := Lib.hid (st10.mono (L := KFull 20) fun i h => by unfold KFull; omega)
  obtain ⟨e1, e2, e3, e4⟩ := HB.out _ _ _ (by unfold KFull; omega) (by unfold KFull; omega) T10.out
  obtain ⟨oZ, oQ, oR⟩ := HBO.out _ _ _ T10.out
  have npq : ¬ p = q := fun h => by rw [h] at op10; rw [op10] at oQ; cases oQ
  have nqp : ¬ q = p := fun h => npq h.symm
  obtain ⟨k0, j0⟩ := row_facts e4 0 _ rfl
  obtain ⟨k1, j1⟩ := row_facts e4 1 _ rfl
  obtain ⟨k2, j2⟩ := row_facts e4 2 _ rfl
  obtain ⟨k3, j3⟩ := row_facts e4 3 _ rfl
  have m2 := (row_facts rp10 2 _ rfl).1
  have m3 := (row_facts rp10 3 _ rfl).1
  have m4 := (row_facts rp10 4 _ rfl).1
  have HDAT := Lib.hid (And.intro hbl (And.intro hfm (And.intro hsN (And.intro htl htg))))
  have HQ1 := Lib.hid (And.intro e1 (And.intro e2 (And.intro e3 (And.intro e4 (And.intro rp10 (And.intro oZ (And.intro oQ (And.intro oR op10))))))))
  have HS10 := Lib.hid (And.intro hs10 (And.intro hz10 hn10))
  clear hbl hfm hsN htl htg e1 e2 e3 e4 rp10 oZ oQ oR op10 hs10 hz10 hn10 st10 CF HAN v0 v1 v2 v3 v4 v5 v6 v7 v8 v9 v10 v11 u0
  go_region
  obtain ⟨W14, hW14⟩ : ∃ X, X = ((((w10.setCell ⟨q, 0, none⟩ (.bool false)).setCell ⟨q, 1, none⟩ (.string tg)).setCell ⟨q, 2, none⟩ (.int .i64 fm)).setCell ⟨q, 3, none⟩ (.bool true)).drew := ⟨_, rfl⟩
  rw [← hW14]
  have T4 : Stp (fun i => i = 31) w10 o10 W14 o10 := by
    rw [hW14]
    obtain ⟨_, _, _, _, _, _, oQ, _⟩ := HQ1.out
    exact (Stp.set _ 0 _ (fun _ => oQ)).tr ((Stp.set _ 1 _ (fun _ => oQ)).tr ((Stp.set _ 2 _ (fun _ => oQ)).tr ((Stp.set _ 3 _ (fun _ => oQ)).tr (Stp.ext (by (repeat (first | exact Ext.rfl' _ | assumption | refine Ext.dr ?_ | refine Ext.drN ?_ _ | refine Ext.al ?_ _ | refine Ext.st ?_ (by simp) _ | refine Ext.tr ?_ (by assumption))))))))
  have rq4 : W14.heap[q]? = some (.cells #[.bool false, .string tg, .int .i64 fm, .bool true] 80 (0, 0)) := by
    rw [hW14]
    exact row_set (row_set (row_set (row_set HQ1.out.2.2.2.1 0 (.bool false)) 1 (.string tg)) 2 (.int .i64 fm)) 3 (.bool true)
  have HT14 := Lib.hid ((T10.out.mono (L := fun i => i = 31 ∨ KFull 20 i) fun _ h => .inr h).tr (T4.mono fun _ h => .inl h))
  have HC := Lib.hid (fun K w' o' (h1 : ¬ K 30) (h2 : ¬ K 31) (h3 : ¬ K 26) (T : Stp K W14 o10 w' o') => (show w'.heap[w.heap.size + 1]? = some (.cells #[.string ⟨#[71, 69, 84]⟩, t, mi, .slice A n c] 27 (0, 0)) ∧ w'.heap[w.heap.size + 1 + 1]? = some (.cells #[.int .i64 0, .slice none 0 0, .slice none 0 0] 34 (0, 0)) ∧ w'.heap[q]? = some (.cells #[.bool false, .string tg, .int .i64 fm, .bool true] 80 (0, 0)) ∧ w'.heap[p]? = some (.cells #[.string sN, .slice A1 bl c1, .int .i64 fm, .bool false, .string tg, .int .i64 0] 85 (0, 0)) ∧ o' (w.heap.size + 1 + 1) = 30 from by
    obtain ⟨_, e2, e3, _, e5, oZ, oQ, oR, oP⟩ := HQ1.out
    have f2 := (T4.keep _ (row_lt e2) (by rw [oR]; omega)).trans e2
    have f3 := (T4.keep _ (row_lt e3) (by rw [oZ]; omega)).trans e3
    have f5 := (T4.keep _ (row_lt e5) (by rw [oP]; omega)).trans e5
    exact ⟨(T.keep _ (row_lt f2) (by rw [oR]; exact h1)).trans f2, (T.keep _ (row_lt f3) (by rw [oZ]; exact h1)).trans f3, (T.keep _ (row_lt rq4) (by rw [oQ]; exact h2)).trans rq4, (T.keep _ (row_lt f5) (by rw [oP]; exact h3)).trans f5, (T.own _ (row_lt f3)).trans oZ⟩))
  have HS14 := Lib.hid (HS10.out.1.stp T4 (by omega))
  have HN14 := Lib.hid (HS10.out.2.2.stp T4 (by omega) (by omega))
  have HX14 := Lib.hid (fun w' o' K (hK : ∀ i, K i → 20 ≤ i) (T : Stp K W14 o10 w' o') => (show Ext w w' from HX9.out w' o' (fun i => K i ∨ (i = 31 ∨ KFull 20 i)) (fun i hi => by
    rcases hi with h | h | h
    · exact hK i h
    · omega
    · unfold KFull at h; omega) ((HT14.out.mono (L := fun i => K i ∨ (i = 31 ∨ KFull 20 i)) fun _ h => .inr h).tr (T.mono fun _ h => .inl h))))
  have HWD14 := Lib.hid (HWD.out _ _ _ (by unfold KFull; omega) (by unfold KFull; omega) (by unfold KFull; omega) HT14.out)
  clear hW14 T4 rq4 npq nqp k0 k1 k2 k3 j0 j1 j2 j3 m2 m3 m4
  go_step
  go_upto_region 15 with (fail)
  have HK15 := Lib.hid (fun w' (e : Ext W14 w') => (show w'.cell? ⟨w.heap.size + 1, 0, none⟩ = some (.string ⟨#[71, 69, 84]⟩) ∧ w'.cell? ⟨w.heap.size + 1, 3, none⟩ = some (.slice A n c) ∧ w'.cell? ⟨q, 0, none⟩ = some (.bool false) ∧ w'.cell? ⟨q, 1, none⟩ = some (.string tg) ∧ w'.cell? ⟨q, 2, none⟩ = some (.int .i64 fm) ∧ w'.cell? ⟨q, 3, none⟩ = some (.bool true) from by
    obtain ⟨r1, _, r3, _, _⟩ := HC.out (fun _ => False) w' o10 (fun x => x) (fun x => x) (fun x => x) (Stp.ext e)
    exact ⟨(row_facts r1 0 _ rfl).1, (row_facts r1 3 _ rfl).1, (row_facts r3 0 _ rfl).1, (row_facts r3 1 _ rfl).1, (row_facts r3 2 _ rfl).1, (row_facts r3 3 _ rfl).1⟩))
  have HXW := Lib.hid (fun w' (e : Ext W14 w') => HX14.out w' o10 (fun _ => False) (fun _ h => h.elim) (Stp.ext e))
  obtain ⟨nw, hnw⟩ : ∃ x, x = s.now := ⟨_, rfl⟩
  have CN := Lib.hid (fun w' (e : Ext W14 w') => wNow_c w' o10 kw pw s (HWD14.out.ext e))
  rw [← hnw] at CN
  have CE := Lib.hid (fun w' (e : Ext w w') => (show Calls Tryz.prog 30 #[.string ⟨#[71, 69, 84]⟩, .slice A n c, .agg #[.bool false, .string tg, .int .i64 fm, .bool true], .int .i64 nw] w' (Gives (.int .i64 304) w') from by
    obtain ⟨d1, d2, d3, d4, d5⟩ := HDAT.out
    rw [d5, d4, d1, d2, hnw]
    exact HCE.out w' e))
  have HNW := Lib.hid hnw
  clear hnw
  go_region_held3 (fun w' => w'.cell? ⟨w.heap.size + 1, 0, none⟩ = some (.string ⟨#[71, 69, 84]⟩) ∧ w'.cell? ⟨w.heap.size + 1, 3, none⟩ = some (.slice A n c) ∧ w'.cell? ⟨q, 0, none⟩ = some (.bool false) ∧ w'.cell? ⟨q, 1, none⟩ = some (.string tg) ∧ w'.cell? ⟨q, 2, none⟩ = some (.int .i64 fm) ∧ w'.cell? ⟨q, 3, none⟩ = some (.bool true)) (exact HK15.out _ (by (repeat (first | exact Ext.rfl' _ | assumption | refine Ext.dr ?_ | refine Ext.al ?_ _ | refine Ext.st ?_ (by simp) _ | refine Ext.tr ?_ (by assumption))))) (first
    | (go_at_call 31; refine (CN.out _ (by (repeat (first | exact Ext.rfl' _ | assumption | refine Ext.dr ?_ | refine Ext.drN ?_ _ | refine Ext.al ?_ _ | refine Ext.st ?_ (by simp) _ | refine Ext.tr ?_ (by assumption))))).mono ?_; rintro e w15 ⟨rfl, hx15⟩)
    | (go_at_call 30; refine (CE.out _ (HXW.out _ (by (repeat (first | exact Ext.rfl' _ | assumption | refine Ext.dr ?_ | refine Ext.drN ?_ _ | refine Ext.al ?_ _ | refine Ext.st ?_ (by simp) _ | refine Ext.tr ?_ (by assumption)))))).mono ?_; rintro e w16 ⟨rfl, hx16⟩))
  go_step
  have hx146 : Ext W14 w16 := by (repeat (first | exact Ext.rfl' _ | assumption | refine Ext.dr ?_ | refine Ext.drN ?_ _ | refine Ext.al ?_ _ | refine Ext.st ?_ (by simp) _ | refine Ext.tr ?_ (by assumption)))
  have HX146 := Lib.hid hx146
  have AN16 := HN14.out.stp (K := fun _ => False) (Stp.ext hx146) (fun x => x) (fun x => x)
  obtain ⟨n1, m1⟩ := row_facts AN16.row 1 _ rfl
  obtain ⟨n3, m3⟩ := row_facts AN16.row 3 _ rfl
  have AB := AN16.bare 304
  clear hx146 hx15 hx16 AN16
  go_upto_region 20 with (fail)
  obtain ⟨W19, hW19⟩ : ∃ X, X = (w16.setCell ⟨P, 1, none⟩ (.int .i64 304)).setCell ⟨P, 3, none⟩ (.bool true) := ⟨_, rfl⟩
  rw [← hW19] at AB ⊢
  have T19 := Lib.hid (((Stp.ext (o := o10) HX146.out).mono (L := KFull 20) (fun _ h => h)).tr (AB.2.mono (L := KFull 20) (fun i h => by unfold KFull; omega)))
  have AB19 := Lib.hid AB.1
  have hft : 0 ≤ fm ∧ fm ≤ 253402300799 := by
    obtain ⟨d1, d2, _⟩ := HDAT.out
    have h1 := HOK.out.mt _ (lk_mem (find_some HFR.out))
    have h2 := HOK.out.now1
    unfold wlast at h2
    dsimp only at h1
    omega
  have htl : tl.length ≤ 1000 := by
    obtain ⟨_, _, _, d4, _⟩ := HDAT.out
    rw [d4]; exact tagL_len _ _ _
  have CK := Lib.hid (show Calls Tryz.prog 32 #[.agg #[.string sN, .slice A1 bl c1, .int .i64 fm, .bool false, .string tg, .int .i64 0], .pointer (some ⟨P, 0, none⟩), .bool false] W19 (AnsTo 20 P [([69, 84, 97, 103], [34] ++ tl ++ [34]), ([76, 97, 115, 116, 45, 77, 111, 100, 105, 102, 105, 101, 100], fmtD fm)] 304 (.slice none 0 0) true W19 o10) from by
    rw [HDAT.out.2.2.2.2]
    exact stKnown_bare 20 P [] (by simp) 304 (.slice none 0 0) true sN A1 bl c1 fm hft.1 hft.2 tl htl none 0 W19 o10 AB19.out)
  obtain ⟨_, _, _, r4, _⟩ := HC.out _ _ _ (by unfold KFull; omega) (by unfold KFull; omega) (by unfold KFull; omega) T19.out
  have p0 := (row_facts r4 0 _ rfl).1
  have p1 := (row_facts r4 1 _ rfl).1
  have p2 := (row_facts r4 2 _ rfl).1
  have p3 := (row_facts r4 3 _ rfl).1
  have p4 := (row_facts r4 4 _ rfl).1
  have p5 := (row_facts r4 5 _ rfl).1
  clear hW19 AB r4 n1 m1 n3 m3 hft htl
  obtain ⟨fs2, hfs2⟩ : ∃ x : List Fld, x = [([69, 84, 97, 103], [34] ++ tl ++ [34]), ([76, 97, 115, 116, 45, 77, 111, 100, 105, 102, 105, 101, 100], fmtD fm)] := ⟨_, rfl⟩
  rw [← hfs2] at CK
  have HFS2 := Lib.hid hfs2
  clear hfs2
  go_wp2_with (first
    | (go_at_call 32; refine CK.out.mono ?_; rintro e w20 ⟨rfl, o11, A2, c2, hn20, st20⟩))
  have T20 := Lib.hid (T19.out.tr (st20.mono (L := KFull 20) (fun i h => by unfold KFull; omega)))
  have CP := stResp_bare 20 P fs2 304 none 0 0 A2 c2 w20 o11 hn20
  unfold respV at CP
  rw [show fs2.length = 2 from by rw [HFS2.out]; rfl] at CP
  have CP := Lib.hid CP
  have HN20 := Lib.hid hn20
  clear hn20 st20 p0 p1 p2 p3 p4 p5
  trace_state
  go_step3
  refine And.intro (rfl : (0 : Nat) = 0) ?_
  show Code.wp _ _ _ _ _
  go_upto_region 24 with (first
    | (go_at_call 37; refine CP.out.mono ?_; rintro e w11 ⟨rfl, hx11⟩))
  have T11 := Lib.hid (T20.out.tr (Stp.ext hx11))
  have HN2 := Lib.hid (HN20.out.stp (K := fun _ => False) (Stp.ext hx11) (fun x => x) (fun x => x))
  have HE := Lib.hid (show w11.heap[w.heap.size + 1]? = some (.cells #[.string ⟨#[71, 69, 84]⟩, t, mi, .slice A n c] 27 (0, 0)) ∧ w11.heap[w.heap.size + 1 + 1]? = some (.cells #[.int .i64 0, .slice none 0 0, .slice none 0 0] 34 (0, 0)) ∧ o11 (w.heap.size + 1 + 1) = 30 from by
    obtain ⟨e2, e3, _, _, e5⟩ := HC.out _ _ _ (by unfold KFull; omega) (by unfold KFull; omega) (by unfold KFull; omega) T11.out
    exact ⟨e2, e3, e5⟩)
  have HXX := Lib.hid (fun w' o' (t : Stp (fun i => i = 30) w11 o11 w' o') => HX14.out _ _ (fun i => i = 30 ∨ KFull 20 i) (fun i hi => by unfold KFull at hi; omega) ((T11.out.mono (L := fun i => i = 30 ∨ KFull 20 i) fun _ h => .inr h).tr (t.mono fun _ h => .inl h)))
  clear hx11
  obtain ⟨W12, hW12⟩ : ∃ X, X = w11.alloc (.cells #[.int .i64 304, .slice A2 (2) c2, .slice none 0 0] 34) := ⟨_, rfl⟩
  have hr16 : W12.heap[w11.heap.size]? = some (.cells #[.int .i64 304, .slice A2 (2) c2, .slice none 0 0] 34 (0, 0)) := by rw [hW12]; exact heap_alloc_new w11 _
  have TB : Stp (fun i => i = 30) w11 o11 W12 (fun b => if b < w11.heap.size then o11 b else 30) := Stp.ext2 (by rw [hW12]; (repeat (first | exact Ext.rfl' _ | assumption | refine Ext.dr ?_ | refine Ext.drN ?_ _ | refine Ext.al ?_ _ | refine Ext.st ?_ (by simp) _ | refine Ext.tr ?_ (by assumption)))) (fun b hb => if_pos hb)
  have TE : Ext w11 W12 := by rw [hW12]; (repeat (first | exact Ext.rfl' _ | assumption | refine Ext.dr ?_ | refine Ext.drN ?_ _ | refine Ext.al ?_ _ | refine Ext.st ?_ (by simp) _ | refine Ext.tr ?_ (by assumption)))
  obtain ⟨o12, ho12⟩ : ∃ x : Ow, x = fun b => if b < w11.heap.size then o11 b else 30 := ⟨_, rfl⟩
  rw [← ho12] at TB
  rw [← hW12]
  have e2 := (TE.block _ (row_lt HE.out.1)).trans HE.out.1
  have e3 := (TE.block _ (row_lt HE.out.2.1)).trans HE.out.2.1
  have oZ := (TB.own _ (row_lt HE.out.2.1)).trans HE.out.2.2
  have u0 := (row_facts e2 0 _ rfl).1
  obtain ⟨z0, g0⟩ := row_facts e3 0 _ rfl
  obtain ⟨z1, g1⟩ := row_facts e3 1 _ rfl
  obtain ⟨z2, g2⟩ := row_facts e3 2 _ rfl
  have y0 := (row_facts hr16 0 _ rfl).1
  have y1 := (row_facts hr16 1 _ rfl).1
  have y2 := (row_facts hr16 2 _ rfl).1
  have TS := fun (a b c : Value) => (show Stp (fun i => i = 30) W12 o12 (((W12.setCell ⟨w.heap.size + 1 + 1, 0, none⟩ a).setCell ⟨w.heap.size + 1 + 1, 1, none⟩ b).setCell ⟨w.heap.size + 1 + 1, 2, none⟩ c) o12 from (Stp.set _ 0 _ (fun _ => oZ)).tr ((Stp.set _ 1 _ (fun _ => oZ)).tr (Stp.set _ 2 _ (fun _ => oZ))))
  have ez := fun (a b c : Value) => row_set (row_set (row_set e3 0 a) 1 b) 2 c
  have hne : ¬ w11.heap.size = w.heap.size + 1 + 1 := fun h => by
    have := row_lt HE.out.2.1
    omega
  have HTS := Lib.hid TS
  have HEZ := Lib.hid ez
  have HTB := Lib.hid TB
  clear hW12 hr16 TB ho12 e2 e3 oZ TS ez TE
  go_wp2
  have q0 := (row_facts (HEZ.out (.int .i64 304) (.slice A2 (2) c2) (.slice none 0 0)) 0 _ rfl).1
  have q1 := (row_facts (HEZ.out (.int .i64 304) (.slice A2 (2) c2) (.slice none 0 0)) 1 _ rfl).1
  have q2 := (row_facts (HEZ.out (.int .i64 304) (.slice A2 (2) c2) (.slice none 0 0)) 2 _ rfl).1
  have TF := HTB.out.tr (HTS.out (.int .i64 304) (.slice A2 (2) c2) (.slice none 0 0))
  have XF := HXX.out _ _ TF
  refine bodyPost_ret (v := .tuple #[.agg #[.int .i64 304, .slice A2 (2) c2, .slice none 0 0], .int .i64 0]) (by simp [results, Tryz.results9, go_sem, q0, q1, q2]) rfl ?_
  obtain ⟨d1, d2, d3, d4, d5⟩ := HDAT.out
  have hsv : serveS (.inl (nm, f)) 304 path = ⟨304, fs2, 0, some []⟩ := by rw [HFS2.out, d4, d1, d2]; rfl
  rw [hsv]
  refine ⟨A2, c2, none, 0, ?_, XF, (HN2.out.sl.stp TF (by omega)).rd, fun b hb => by cases hb; exact ⟨rfl, Rd.nil_ _ _⟩⟩
  unfold respV
  dsimp only
  rw [show fs2.length = 2 from by rw [HFS2.out]; rfl]
end Go.Proofs.YtemdgilifnhdpaaGreatDoor
