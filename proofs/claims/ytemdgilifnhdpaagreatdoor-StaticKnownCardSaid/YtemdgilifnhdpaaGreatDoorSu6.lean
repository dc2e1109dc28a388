/-
Static: the law StaticKnown, walked.
-/
import Derived.Test.YtemdgilifnhdpaaGreatDoorSu5
set_option linter.unusedVariables false
set_option linter.unusedSimpArgs false
namespace Go.Proofs.YtemdgilifnhdpaaGreatDoor
open Go.RowKit

theorem stServe_ask304 (kw pw : Nat) (s : Wrl) (hk : Wok s) (root index path nm : List UInt8) (f : Fil) (hf : findS s [47] root index path = .inl (nm, f)) (hp2 : root.length ≤ 140737488351232) (hp3 : index.length ≤ 140737488351232) (hp4 : path.length ≤ 140737488351232) (A : Option Addr) (c : Nat) (w : World) (o : Ow) (ho : ∀ b, b < w.heap.size → o b < 20) (hkw : kw < 17) (hw : WdAt w o kw pw s) (hM : Ev.MxE w) (hE : ErrR w) (hA : Rd w A (fc [inmF (tagL f.b.length f.mt (f.ve : Int))])) :
    Calls Tryz.prog 9 #[.pointer (some ⟨pw, 0, none⟩), .agg (lawLoc (str root) (str index)), .agg (reqC ⟨#[71, 69, 84]⟩ (.string ⟨#[]⟩) (.int .i64 0) A 1 c), .string (str path)] w (ServeTo w (serveS (.inl (nm, f)) 304 path)) := by
  rw [← hf]
  exact stServe_304 kw pw s hk [47] root index path (by simp) hp2 hp3 hp4 (.int .i64 0) (.string ⟨#[]⟩) (.bool false) (.int .i64 0) (.int .i64 0) (.int .i64 0) (.string ⟨#[]⟩) (.string ⟨#[]⟩) (.int .i64 0) A 1 c w o ho hkw hw hM hE 304 nm f hf
    (fun w' e => cdEval_tag [inmF (tagL f.b.length f.mt (f.ve : Int))] A 1 c rfl (by decide) (by simp [inmF, maxLen]) (inm_1 _) (inm_2 _) _ (inm_3 _) (tagL_in _ _ _) (tagL_len _ _ _) true (inm_4 _) false _ (.inl ⟨rfl, rfl⟩) _ _ w' (hA.ext e))
theorem stServe_ask200 (kw pw : Nat) (s : Wrl) (hk : Wok s) (root index path nm : List UInt8) (f : Fil) (tl : List UInt8) (hin : InTag tl) (htl : tl.length ≤ 1000) (hne : tl ≠ tagL f.b.length f.mt (f.ve : Int)) (hf : findS s [47] root index path = .inl (nm, f)) (hp2 : root.length ≤ 140737488351232) (hp3 : index.length ≤ 140737488351232) (hp4 : path.length ≤ 140737488351232) (A : Option Addr) (c : Nat) (w : World) (o : Ow) (ho : ∀ b, b < w.heap.size → o b < 20) (hkw : kw < 17) (hw : WdAt w o kw pw s) (hM : Ev.MxE w) (hE : ErrR w) (hA : Rd w A (fc [inmF tl])) :
    Calls Tryz.prog 9 #[.pointer (some ⟨pw, 0, none⟩), .agg (lawLoc (str root) (str index)), .agg (reqC ⟨#[71, 69, 84]⟩ (.string ⟨#[]⟩) (.int .i64 0) A 1 c), .string (str path)] w (ServeTo w (serveS (.inl (nm, f)) 200 path)) := by
  have hsz : ∀ p ∈ [inmF tl], p.1.length ≤ maxLen := by simp [inmF, maxLen]
  rw [← hf]
  exact stServe_200 kw pw s hk [47] root index path (by simp) hp2 hp3 hp4 (.int .i64 0) (.string ⟨#[]⟩) (.bool false) (.int .i64 0) (.int .i64 0) (.int .i64 0) (.string ⟨#[]⟩) (.string ⟨#[]⟩) (.int .i64 0) A 1 c w o ho hkw hw hM hE 200 nm f hf
    (fun w' e => cdEval_tag [inmF tl] A 1 c rfl (by decide) hsz (inm_1 _) (inm_2 _) tl (inm_3 _) hin htl false (inm_4 _) false _ (.inr ⟨rfl, by rw [str_tl, str_tl]; exact hne⟩) _ _ w' (hA.ext e))
    (fun w' e => cdInR_no [inmF tl] A 1 c rfl (by decide) hsz (inm_5 _) false true _ _ _ w' (hA.ext e))
    (valsH [inmF tl] [82, 97, 110, 103, 101]) (by rw [inm_6]; decide) (by rw [inm_6]; decide) (fun w' e => hValues_c [inmF tl] [82, 97, 110, 103, 101] A 1 c rfl (by decide) (by decide) hsz w' (hA.ext e))
set_option maxRecDepth 100000 in
set_option maxHeartbeats 8000000 in
theorem staticKnown_w (W : World) (hM : Ev.MxE W) (hE : ErrR W) (a : Int) (ha : -9223372036854775808 ≤ a ∧ a ≤ 9223372036854775807) (A : Option Addr) (c : Nat) (xs : List OpW) (hA : RdOpW W A xs) (hxs : xs.length ≤ 140737488351232) (path : List UInt8) (hp4 : path.length ≤ 140737488351232) (B : Option Addr) (d : Nat) (more : List UInt8) (hml : more.length ≤ 140737488351232) (hB : Rd W B (bc more)) :
    Calls Tryz.prog 6 #[.int .i64 a, .slice A xs.length c, .string (str path), .slice B more.length d] W (Gives (.bool true) W) := by
  have CM := Lib.hid (made_c W a ha A c xs hA hxs)
  have HM := Lib.hid hM
  have HE := Lib.hid hE
  have HB := Lib.hid hB
  have HXS := Lib.hid hxs
  obtain ⟨N, hN⟩ : ∃ N, N = xs.length := ⟨_, rfl⟩
  rw [← hN] at CM HXS ⊢
  obtain ⟨sp, hsp⟩ : ∃ x, x = str path := ⟨_, rfl⟩
  obtain ⟨mn, hmn⟩ : ∃ x, x = more.length := ⟨_, rfl⟩
  rw [← hsp, ← hmn]
  have HSP := Lib.hid hsp
  have HMN := Lib.hid hmn
  rw [← hmn] at hml
  clear hM hE hA hxs hN hB hsp hmn
  go_enter Tryz.func6, Tryz.ntmps6
  go_upto_region 4 with (first
    | (go_at_call 16; refine CM.out.mono ?_; rintro e w1 ⟨p, r, s, o, rfl, hw, hok, hv, hst⟩; have hx1 : Ext W w1 := hst.toExt (fun _ _ => by simp); have CK := Lib.hid (snKnows_c w1 (mxExt HM.out hx1)))
    | (go_at_call 15; refine CK.out.mono ?_; rintro e w2 ⟨rfl, hx2⟩))
  have hx12 : Ext W w2 := hx1.tr hx2
  have HWL := Lib.hid ((hw.ext hx2).low (by omega : (1 : Nat) < 17))
  have HOW := Lib.hid (fun b (hb : b < W.heap.size) => (show (if o b < 20 then o b else 0) = 0 from by rw [hst.own b hb]; rfl))
  have HOK := Lib.hid hok
  have HV := Lib.hid hv
  have HX2 := Lib.hid hx12
  obtain ⟨ol, hol⟩ : ∃ x : Ow, x = fun b => if o b < 20 then o b else 0 := ⟨_, rfl⟩
  have HOL := Lib.hid (fun b => (show ol b < 20 from by rw [hol]; exact low_lt o b))
  have HOW := Lib.hid (fun b (hb : b < W.heap.size) => (show ol b = 0 from by rw [hol]; exact HOW.out b hb))
  rw [← hol] at HWL
  have CL := lawLoc_c ⟨#[47]⟩ ⟨#[]⟩
  unfold lawLoc at CL
  have CL := Lib.hid CL
  obtain ⟨sv, hsv⟩ : ∃ x, x = serveS (findS s [47] [47] [] path) 200 path := ⟨_, rfl⟩
  have CS := fun w' (e : Ext w2 w') => stServe_get 1 p s hok [47] [] path (by simp) (by simp) hp4 w' ol (fun b _ => HOL.out b) (by omega) (HWL.out.ext e) (mxExt HM.out (hx12.tr e)) (HE.out.ext (hx12.tr e))
  unfold lawLoc reqC at CS
  rw [← hsv, ← HSP.out, show str [47] = ⟨#[47]⟩ from rfl, show str [] = ⟨#[]⟩ from rfl] at CS
  have CS := Lib.hid CS
  have HSV := Lib.hid hsv
  clear hw hok hv hst hx1 hx2 CM CK hx12 hsv hol
  go_upto_region 5 with (first
    | (go_at_call 10; refine (CL.out _).mono ?_; rintro e w3 ⟨rfl, hx3⟩))
  obtain ⟨W3, hW3⟩ : ∃ X, X = w3.alloc (.cells #[.string ⟨#[47]⟩, .int .i64 1, .string ⟨#[47]⟩, .string ⟨#[]⟩, .int .i64 0, .int .i64 0, .string ⟨#[]⟩, .bool false, .int .i64 0, .int .i64 0, .int .i64 0, .string ⟨#[]⟩] 39) := ⟨_, rfl⟩
  have hrL : W3.heap[w3.heap.size]? = some (.cells #[.string ⟨#[47]⟩, .int .i64 1, .string ⟨#[47]⟩, .string ⟨#[]⟩, .int .i64 0, .int .i64 0, .string ⟨#[]⟩, .bool false, .int .i64 0, .int .i64 0, .int .i64 0, .string ⟨#[]⟩] 39 (0, 0)) := by rw [hW3]; exact heap_alloc_new w3 _
  have hx33 : Ext w3 W3 := by rw [hW3]; (repeat (first | exact Ext.rfl' _ | assumption | refine Ext.dr ?_ | refine Ext.drN ?_ _ | refine Ext.al ?_ _ | refine Ext.st ?_ (by simp) _ | refine Ext.tr ?_ (by assumption)))
  have hx23 : Ext w2 W3 := hx3.tr hx33
  rw [← hW3]
  have hzL : w2.heap.size ≤ w3.heap.size := hx3.size
  have HRL := Lib.hid hrL
  have HX23 := Lib.hid hx23
  have v0 := (row_facts hrL 0 _ rfl).1
  have v1 := (row_facts hrL 1 _ rfl).1
  have v2 := (row_facts hrL 2 _ rfl).1
  have v3 := (row_facts hrL 3 _ rfl).1
  have v4 := (row_facts hrL 4 _ rfl).1
  have v5 := (row_facts hrL 5 _ rfl).1
  have v6 := (row_facts hrL 6 _ rfl).1
  have v7 := (row_facts hrL 7 _ rfl).1
  have v8 := (row_facts hrL 8 _ rfl).1
  have v9 := (row_facts hrL 9 _ rfl).1
  have v10 := (row_facts hrL 10 _ rfl).1
  have v11 := (row_facts hrL 11 _ rfl).1
  clear hW3 hrL hx33 hx23 hx3 CL
  go_upto_region 6 with (first
    | (go_at_call 9; refine (CS.out _ (HX23.out.tr (by (repeat (first | exact Ext.rfl' _ | assumption | refine Ext.dr ?_ | refine Ext.drN ?_ _ | refine Ext.al ?_ _ | refine Ext.st ?_ (by simp) _ | refine Ext.tr ?_ (by assumption)))))).mono ?_; rintro e w4 ⟨A4, c4, B4, d4, rfl, hx4, hr4, hb4⟩; unfold respV))
  obtain ⟨W5, hW5⟩ : ∃ X, X = w4.alloc (.cells #[.int .i64 sv.st, .slice A4 sv.fs.length c4, .slice B4 sv.n d4] 34) := ⟨_, rfl⟩
  have hr5 : W5.heap[w4.heap.size]? = some (.cells #[.int .i64 sv.st, .slice A4 sv.fs.length c4, .slice B4 sv.n d4] 34 (0, 0)) := by rw [hW5]; exact heap_alloc_new w4 _
  have hx45 : Ext w4 W5 := by rw [hW5]; (repeat (first | exact Ext.rfl' _ | assumption | refine Ext.dr ?_ | refine Ext.drN ?_ _ | refine Ext.al ?_ _ | refine Ext.st ?_ (by simp) _ | refine Ext.tr ?_ (by assumption)))
  have hx35 : Ext W3 W5 := hx4.tr hx45
  rw [← hW5]
  have k0 := (row_facts hr5 0 _ rfl).1
  have k1 := (row_facts hr5 1 _ rfl).1
  have hr45 := hr4.ext hx45
  have HX35 := Lib.hid hx35
  have HX25 := Lib.hid (HX23.out.tr hx35)
  clear hW5 hr5 hx45 hx35 hx4 hr4 hb4 CS v0 v1 v2 v3 v4 v5 v6 v7 v8 v9 v10 v11
  cases hfs : findS s [47] [47] [] path with
  | inr n =>
    have hst : sv.st = n := by rw [HSV.out, hfs]; rfl
    have hn := find_code hfs
    rw [hst] at k0
    have hn1 : ¬ n = 200 := by omega
    clear hfs HSV hst hn hr45 k1
    go_wp2_with (go_at_call 14; refine (snNum_s _ _).mono ?_; rintro e w8 ⟨rfl, rfl⟩)
    go_ret
    exact ⟨rfl, HX2.out.tr (HX25.out.tr (by (repeat (first | exact Ext.rfl' _ | assumption | refine Ext.dr ?_ | refine Ext.drN ?_ _ | refine Ext.al ?_ _ | refine Ext.st ?_ (by simp) _ | refine Ext.tr ?_ (by assumption)))))⟩
  | inl nf =>
    obtain ⟨nm, f⟩ := nf
    have hst : sv.st = 200 := by rw [HSV.out, hfs]; rfl
    have hsf : sv.fs = fullF (mimeL nm) (tagL f.b.length f.mt (f.ve : Int)) f.mt ++ [lenF f.b.length] := by rw [HSV.out, hfs]; rfl
    have hlk := find_some hfs
    rw [hst] at k0
    obtain ⟨tl, htl⟩ : ∃ x, x = tagL f.b.length f.mt (f.ve : Int) := ⟨_, rfl⟩
    have hin : InTag tl := by rw [htl]; exact tagL_in _ _ _
    have htll : tl.length ≤ 1000 := by rw [htl]; exact tagL_len _ _ _
    have hfl : sv.fs.length = 5 := by rw [hsf]; rfl
    have hszf : ∀ q ∈ sv.fs, q.1.length ≤ maxLen := by
      rw [hsf]; intro q hq
      simp [fullF, lenF] at hq
      rcases hq with rfl | rfl | rfl | rfl | rfl <;> simp [maxLen]
    have CF := Lib.hid (fun w' (e : Ext W5 w') => (show Calls Tryz.prog 22 #[.slice A4 5 c4, .string ⟨#[101, 116, 97, 103]⟩] w' (Gives (.tuple #[.string (str (qTag tl)), .bool true]) w') from by
      have := rhFirst_c sv.fs [101, 116, 97, 103] A4 5 c4 hfl (by decide) (by simp [maxLen]) hszf w' (hr45.ext e)
      rw [show valsH sv.fs [101, 116, 97, 103] = [qTag tl] from by rw [hsf, htl]; exact vals_etag _ _ _ _] at this
      exact this))
    rw [hfl] at k1
    have CP := Lib.hid (fun w => flParseT_c tl hin htll w)
    obtain ⟨sq, hsq⟩ : ∃ x, x = str (qTag tl) := ⟨_, rfl⟩
    obtain ⟨st, hst2⟩ : ∃ x, x = str tl := ⟨_, rfl⟩
    rw [← hsq] at CF CP
    rw [← hst2] at CP
    have HTL := Lib.hid (And.intro htl (And.intro hin (And.intro htll hsq)))
    have HFS := Lib.hid hfs
    have HLK := Lib.hid hlk
    clear hfs HSV hst hszf hsf hlk htl hin htll hfl hsq hst2 hr45
    go_upto_region 9 with (first
      | (go_at_call 14; refine (snNum_s _ _).mono ?_; rintro e w8 ⟨rfl, rfl⟩)
      | (go_at_call 22; refine (CF.out _ (by (repeat (first | exact Ext.rfl' _ | assumption | refine Ext.dr ?_ | refine Ext.drN ?_ _ | refine Ext.al ?_ _ | refine Ext.st ?_ (by simp) _ | refine Ext.tr ?_ (by assumption))))).mono ?_; rintro e w6 ⟨rfl, hx6⟩))
    go_upto_region 10 with (fail)
    obtain ⟨W9, hW9⟩ : ∃ X, X = (w6.alloc (.cells #[.string ⟨#[73, 102, 45, 78, 111, 110, 101, 45, 77, 97, 116, 99, 104]⟩, .string sq] 67)).alloc (.cells #[.string ⟨#[71, 69, 84]⟩, .string ⟨#[]⟩, .int .i64 0, .slice (some ⟨w6.heap.size, 0, none⟩) 1 1] 27) := ⟨_, rfl⟩
    have rg : W9.heap[w6.heap.size]? = some (.cells #[.string ⟨#[73, 102, 45, 78, 111, 110, 101, 45, 77, 97, 116, 99, 104]⟩, .string sq] 67 (0, 0)) := by
      rw [hW9]
      exact ((Ext.al (Ext.rfl' _) _).block _ (row_lt (heap_alloc_new w6 _))).trans (heap_alloc_new w6 _)
    have rq : W9.heap[w6.heap.size + 1]? = some (.cells #[.string ⟨#[71, 69, 84]⟩, .string ⟨#[]⟩, .int .i64 0, .slice (some ⟨w6.heap.size, 0, none⟩) 1 1] 27 (0, 0)) := by
      rw [hW9]
      have h := heap_alloc_new (w6.alloc (.cells #[.string ⟨#[73, 102, 45, 78, 111, 110, 101, 45, 77, 97, 116, 99, 104]⟩, .string sq] 67)) (.cells #[.string ⟨#[71, 69, 84]⟩, .string ⟨#[]⟩, .int .i64 0, .slice (some ⟨w6.heap.size, 0, none⟩) 1 1] 27)
      rw [World.size_alloc] at h
      exact h
    have hx59 : Ext W5 W9 := Ext.tr hx6 (by rw [hW9]; (repeat (first | exact Ext.rfl' _ | assumption | refine Ext.dr ?_ | refine Ext.drN ?_ _ | refine Ext.al ?_ _ | refine Ext.st ?_ (by simp) _ | refine Ext.tr ?_ (by assumption))))
    rw [← hW9]
    have hzg : w2.heap.size ≤ w6.heap.size := (HX25.out.tr hx6).size
    have HX29 := Lib.hid (HX25.out.tr hx59)
    have HRL9 := Lib.hid (((HX35.out.tr hx59).block _ (row_lt HRL.out)).trans HRL.out)
    have HRQ := Lib.hid rq
    have HRD := Lib.hid (fun w' (e : w'.heap[w6.heap.size]? = W9.heap[w6.heap.size]?) => (show Rd w' (some ⟨w6.heap.size, 0, none⟩) (fc [inmF tl]) from by
      have r := e.trans rg
      refine .inr ⟨w6.heap.size, 0, rfl, fun j u hu => ?_⟩
      rw [Nat.zero_add]
      have hj : j < 2 := by
        have := (List.getElem?_eq_some_iff.1 hu).1
        simpa [fc] using this
      rcases j with _ | _ | j
      · have : u = .string (str [73, 102, 45, 78, 111, 110, 101, 45, 77, 97, 116, 99, 104]) := by simpa [fc, inmF] using hu.symm
        rw [this]; exact (row_facts r 0 _ rfl).1
      · have : u = .string sq := by rw [HTL.out.2.2.2]; simpa [fc, inmF] using hu.symm
        rw [this]; exact (row_facts r 1 _ rfl).1
      · omega))
    have HGL := Lib.hid (row_lt rg)
    have CS2 := fun w' (e : Ext W9 w') => stServe_ask304 1 p s HOK.out [47] [] path nm f HFS.out (by simp) (by simp) hp4 (some ⟨w6.heap.size, 0, none⟩) 1 w' ol (fun b _ => HOL.out b) (by omega) (HWL.out.ext (HX29.out.tr e)) (mxExt HM.out (HX2.out.tr (HX29.out.tr e))) (HE.out.ext (HX2.out.tr (HX29.out.tr e))) (by
      rw [← HTL.out.1]
      exact HRD.out w' (e.block _ HGL.out))
    obtain ⟨sw, hsw⟩ : ∃ x, x = serveS (.inl (nm, f)) 304 path := ⟨_, rfl⟩
    unfold lawLoc reqC at CS2
    rw [← hsw, ← HSP.out, show str [47] = ⟨#[47]⟩ from rfl, show str [] = ⟨#[]⟩ from rfl] at CS2
    have hswt : sw.st = 304 := by rw [hsw]; rfl
    have hswn : sw.n = 0 := by rw [hsw]; rfl
    have CS2 := Lib.hid CS2
    have v0 := (row_facts HRL9.out 0 _ rfl).1
    have v1 := (row_facts HRL9.out 1 _ rfl).1
    have v2 := (row_facts HRL9.out 2 _ rfl).1
    have v3 := (row_facts HRL9.out 3 _ rfl).1
    have v4 := (row_facts HRL9.out 4 _ rfl).1
    have v5 := (row_facts HRL9.out 5 _ rfl).1
    have v6 := (row_facts HRL9.out 6 _ rfl).1
    have v7 := (row_facts HRL9.out 7 _ rfl).1
    have v8 := (row_facts HRL9.out 8 _ rfl).1
    have v9 := (row_facts HRL9.out 9 _ rfl).1
    have v10 := (row_facts HRL9.out 10 _ rfl).1
    have v11 := (row_facts HRL9.out 11 _ rfl).1
    have u0 := (row_facts rq 0 _ rfl).1
    have u1 := (row_facts rq 1 _ rfl).1
    have u2 := (row_facts rq 2 _ rfl).1
    have u3 := (row_facts rq 3 _ rfl).1
    clear hW9 rg rq hx59 hsw hx6 k0 k1 CF
    go_upto_region 11 with (first
      | (go_at_call 9; refine (CS2.out _ (by (repeat (first | exact Ext.rfl' _ | assumption | refine Ext.dr ?_ | refine Ext.drN ?_ _ | refine Ext.al ?_ _ | refine Ext.st ?_ (by simp) _ | refine Ext.tr ?_ (by assumption))))).mono ?_; rintro e w10 ⟨A10, c10, B10, d10, rfl, hx10, hr10, hb10⟩; unfold respV; rw [hswt, hswn]))
    obtain ⟨W11, hW11⟩ : ∃ X, X = w10.alloc (.cells #[.int .i64 304, .slice A10 sw.fs.length c10, .slice B10 0 d10] 34) := ⟨_, rfl⟩
    have hr11 : W11.heap[w10.heap.size]? = some (.cells #[.int .i64 304, .slice A10 sw.fs.length c10, .slice B10 0 d10] 34 (0, 0)) := by rw [hW11]; exact heap_alloc_new w10 _
    have hx911 : Ext W9 W11 := Ext.tr hx10 (by rw [hW11]; (repeat (first | exact Ext.rfl' _ | assumption | refine Ext.dr ?_ | refine Ext.drN ?_ _ | refine Ext.al ?_ _ | refine Ext.st ?_ (by simp) _ | refine Ext.tr ?_ (by assumption))))
    rw [← hW11]
    have HR11 := Lib.hid (fun w' (e : Ext W11 w') => (show w'.cell? ⟨w10.heap.size, 0, none⟩ = some (.int .i64 304) ∧ w'.cell? ⟨w10.heap.size, 2, none⟩ = some (.slice B10 0 d10) from by
      have r := (e.block _ (row_lt hr11)).trans hr11
      exact ⟨(row_facts r 0 _ rfl).1, (row_facts r 2 _ rfl).1⟩))
    have HX911 := Lib.hid hx911
    clear hW11 hr11 hx911 hx10 hr10 hb10 CS2 v0 v1 v2 v3 v4 v5 v6 v7 v8 v9 v10 v11 u0 u1 u2 u3 hswt hswn
    obtain ⟨o6, ho6⟩ : ∃ x : Ow, x = fun b => if b < w2.heap.size then ol b else 30 := ⟨_, rfl⟩
    have CLi := Lib.hid (fun w' (e : Ext w2 w') => wList_t 30 w' o6 1 p s (HWL.out.ext2 e (fun b hb => by rw [ho6]; exact if_pos hb)) HOK.out)
    have HO6 := Lib.hid ho6
    clear ho6
    obtain ⟨NL, hNL⟩ : ∃ x, x = (listW s).length := ⟨_, rfl⟩
    have hNL2 : NL ≤ 1000 := by rw [hNL, list_len]; exact HOK.out.few
    have HNL := Lib.hid hNL
    clear hNL
    go_upto_region 15 with (first
      | (go_at_call 23; refine (CP.out _).mono ?_; rintro e w12 ⟨rfl, hx12⟩; obtain ⟨y0, y2⟩ := HR11.out (w12.alloc (.cells #[.bool false, .string st] 29)) (by (repeat (first | exact Ext.rfl' _ | assumption | refine Ext.dr ?_ | refine Ext.drN ?_ _ | refine Ext.al ?_ _ | refine Ext.st ?_ (by simp) _ | refine Ext.tr ?_ (by assumption)))))
      | (go_at_call 14; refine (snNum_s _ _).mono ?_; rintro e w8 ⟨rfl, rfl⟩)
      | (go_at_call 19; refine (CLi.out _ (HX29.out.tr (HX911.out.tr (by (repeat (first | exact Ext.rfl' _ | assumption | refine Ext.dr ?_ | refine Ext.drN ?_ _ | refine Ext.al ?_ _ | refine Ext.st ?_ (by simp) _ | refine Ext.tr ?_ (by assumption))))))).mono ?_; rintro e w13 ⟨v, o13, rfl, ⟨A13, c13, rfl, hs13, hz13⟩, st13⟩; rw [← HNL.out]; rw [← HNL.out] at hs13; have HX13 := Lib.hid (HX29.out.tr (HX911.out.tr (show Ext W11 (w12.alloc (.cells #[.bool false, .string st] 29)) by (repeat (first | exact Ext.rfl' _ | assumption | refine Ext.dr ?_ | refine Ext.drN ?_ _ | refine Ext.al ?_ _ | refine Ext.st ?_ (by simp) _ | refine Ext.tr ?_ (by assumption)))))); have ST13 := Lib.hid st13; have hx13 := st13.noExt))
    have hx1113 : Ext W11 w13 := Ext.tr (by (repeat (first | exact Ext.rfl' _ | assumption | refine Ext.dr ?_ | refine Ext.drN ?_ _ | refine Ext.al ?_ _ | refine Ext.st ?_ (by simp) _ | refine Ext.tr ?_ (by assumption)))) hx13
    have HX1113 := Lib.hid hx1113
    have HX213 := Lib.hid (HX29.out.tr (HX911.out.tr hx1113))
    have HW13 := Lib.hid ((HWL.out.ext2 HX13.out (o' := o6) (fun b hb => by rw [HO6.out]; exact if_pos hb)).stp (K := fun _ => False) ST13.out (fun x => x) (fun x => x) (fun x => x))
    have o30 : ∀ b, w2.heap.size ≤ b → b < W9.heap.size → o13 b = 30 := fun b h1 h2 => by
      rw [ST13.out.own b (Nat.lt_of_lt_of_le h2 (HX911.out.tr (show Ext W11 (w12.alloc (.cells #[.bool false, .string st] 29)) by (repeat (first | exact Ext.rfl' _ | assumption | refine Ext.dr ?_ | refine Ext.drN ?_ _ | refine Ext.al ?_ _ | refine Ext.st ?_ (by simp) _ | refine Ext.tr ?_ (by assumption))))).size), HO6.out]
      exact if_neg (by omega)
    have oW : ∀ b, b < W.heap.size → o13 b = 0 := fun b h1 => by
      have h2 : b < w2.heap.size := Nat.lt_of_lt_of_le h1 HX2.out.size
      rw [ST13.out.own b (Nat.lt_of_lt_of_le h2 HX13.out.size), HO6.out]
      show (if b < w2.heap.size then ol b else 30) = 0
      rw [if_pos h2]
      exact HOW.out b h1
    have eL := (HX911.out.tr hx1113)
    have L13 := (eL.block _ (row_lt HRL9.out)).trans HRL9.out
    have Q13 := (eL.block _ (row_lt HRQ.out)).trans HRQ.out
    have G13 := eL.block _ HGL.out
    have hLs := row_lt HRL9.out
    have hQs := row_lt HRQ.out
    have HKK := Lib.hid (fun w' o' (T : Stp (KW 1) w13 o13 w' o') => And.intro ((T.keep _ (row_lt L13) (by rw [o30 _ hzL hLs]; unfold KW; omega)).trans L13) (And.intro ((T.keep _ (row_lt Q13) (by rw [o30 _ (by omega) hQs]; unfold KW; omega)).trans Q13) ((T.keep _ (Nat.lt_of_lt_of_le HGL.out eL.size) (by rw [o30 _ hzg HGL.out]; unfold KW; omega)).trans G13)))
    have hxW13 : Ext W w13 := HX2.out.tr HX213.out
    have HXW := Lib.hid (fun w' o' (T : Stp (KW 1) w13 o13 w' o') => (show Ext W w' from ⟨T.os.trans hxW13.os, T.tape.trans hxW13.tape, T.output.trans hxW13.output, Nat.le_trans hxW13.size T.size, fun b hb => (T.keep b (Nat.lt_of_lt_of_le hb hxW13.size) (by rw [oW b hb]; unfold KW; omega)).trans (hxW13.block b hb)⟩))
    have HS13 := Lib.hid hs13
    clear hx1113 o30 oW eL L13 Q13 G13 hLs hQs hxW13 hs13 hz13 hx13 st13 hx12 y0 y2 CLi
    obtain ⟨big, hbig⟩ : ∃ x, x = decide (1048576 < mn) := ⟨_, rfl⟩
    have HBIG := Lib.hid hbig
    clear hbig
    go_wp2
    go_loopw [23] (fun v23 wr => ∃ (k : Nat) (t : Wrl) (o' : Ow), k ≤ NL ∧ v23 = .int .i64 (k : Int) ∧ PutI s more (listW s) k t ∧ WdAt wr o' 1 p t ∧ Stp (KW 1) w13 o13 wr o') (fun i _ => NL - (intOf i).toNat)
    case atStart => exact ⟨0, s, o13, Nat.zero_le _, rfl, PutI.start HOK.out _ _, HW13.out, Stp.rfl'⟩
    case round =>
      obtain ⟨k, t, o', hk, rfl, hput, hwt, hst⟩ := hrel
      have HPUT := Lib.hid hput
      have HWT := Lib.hid hwt
      have HST := Lib.hid hst
      clear hput hwt hst
      by_cases hkn : k < NL
      · have hkl : k < (listW s).length := by rw [← HNL.out]; exact hkn
        obtain ⟨b13, f13, hA13, hb13, hS13⟩ := HS13.out.rd.text (k := k) hkl
        subst hA13
        obtain ⟨nk, hnk⟩ : ∃ x, x = (listW s)[k] := ⟨_, rfl⟩
        have hown : o13 b13 = 30 := by
          rcases HS13.out.at_ with h | ⟨g', f', h, ho, _⟩
          · have := HS13.out.le; omega
          · cases h; exact ho
        have g13 := hS13.out w13 (Ext.rfl' _)
        rw [← hnk] at g13
        have hnkl : nk.length ≤ 140737488355328 := by
          have hmem : nk ∈ s.L.map (·.1) := list_keys.1 (by rw [hnk]; exact List.getElem_mem _)
          obtain ⟨q, hq, rfl⟩ := List.mem_map.1 hmem
          have := path_len (HOK.out.path q hq)
          omega
        obtain ⟨sk, hsk⟩ : ∃ x, x = str nk := ⟨_, rfl⟩
        rw [← hsk] at g13
        have F := Lib.hid (fun w' o' (T : Stp (KW 1) w13 o13 w' o') => T.cell (a := ⟨b13, f13 + k, none⟩) (by show ¬ KW 1 (o13 b13); rw [hown]; unfold KW; omega) g13)
        have x0 : Ext wr (wr.drew.alloc (.cells #[] 5)) := by (repeat (first | exact Ext.rfl' _ | assumption | refine Ext.dr ?_ | refine Ext.drN ?_ _ | refine Ext.al ?_ _ | refine Ext.st ?_ (by simp) _ | refine Ext.tr ?_ (by assumption)))
        have hWr := HXW.out wr o' HST.out
        obtain ⟨A5, c5, w5, o5, hr5, hs5, st5, hn5⟩ := run_copy 8 wr.drew o' more B mn d HMN.out (HB.out.ext (hWr.tr (by (repeat (first | exact Ext.rfl' _ | assumption | refine Ext.dr ?_ | refine Ext.drN ?_ _ | refine Ext.al ?_ _ | refine Ext.st ?_ (by simp) _ | refine Ext.tr ?_ (by assumption)))))) hml 22
        have hr5 : (Builtin.append_ #[22, 22] 22 #[.slice (some ⟨wr.heap.size, 0, none⟩) 0 0, .slice B mn d]).run Tryz.prog (wr.alloc (.cells #[] 5)).drew = .ok (.slice A5 mn c5) w5 := hr5
        have stw : Stp (fun _ => False) wr o' w5 o5 := (Stp.ext (show Ext wr wr.drew by (repeat (first | exact Ext.rfl' _ | assumption | refine Ext.dr ?_ | refine Ext.drN ?_ _ | refine Ext.al ?_ _ | refine Ext.st ?_ (by simp) _ | refine Ext.tr ?_ (by assumption))))).tr st5
        have st05 : Stp (KW 1) w13 o13 w5 o5 := HST.out.tr (stw.mono fun _ h => h.elim)
        have st00 : Stp (KW 1) w13 o13 wr o' := HST.out
        have H5 := HWT.out.stp stw (fun x => x) (fun x => x) (fun x => x)
        have hver : t.ver < 4611686018427387904 := by have := HPUT.out.ver.2; have := HV.out; have := HXS.out; omega
        have CPH := wPut_c w5 o5 1 p t H5 HPUT.out.ok nk more (by omega) A5 mn c5 HMN.out (by omega) hs5.rd hn5 (hs5.away (by omega)) hver
        rw [← hsk] at CPH
        have HPN : Hid (mn ≤ 1048576 → (putW t nk more).2 = 0 ∧ PutI s more (listW s) (k + 1) (putW t nk more).1) := Lib.hid (fun h => by
          rw [hnk]
          exact HPUT.out.next HOK.out hkl (by rw [← HMN.out]; exact h) (fun l hl => list_keys.1 hl))
        have HPB : Hid (1048576 < mn → (putW t nk more).2 = 6) := Lib.hid (fun h => by
          have hp : pathF nk = true := by
            have hmem : nk ∈ s.L.map (·.1) := list_keys.1 (by rw [hnk]; exact List.getElem_mem _)
            obtain ⟨q, hq, rfl⟩ := List.mem_map.1 hmem
            exact HOK.out.path q hq
          unfold putW
          rw [if_neg (by rw [hp]; simp), if_pos (.inl (by rw [← HMN.out]; exact h))])
        have hk0 : (0 : Int) ≤ (k : Int) := by omega
        have hk1 : (k : Int) < (NL : Int) := by omega
        clear hkl hS13 hnk hown g13 hnkl hsk H5 hver hs5 st5 stw hb13
        have z0 := F.out wr o' st00
        cases hbg : big with
        | true =>
          have hmb : 1048576 < mn := by have := HBIG.out; rw [hbg] at this; simpa using this.symm
          have hmb2 : (1048576 : Int) < (mn : Int) := by omega
          rw [HPB.out hmb] at CPH
          have CPH := Lib.hid CPH
          clear hbg hmb
          go_wp2
          go_region_held3 (fun w' => w'.cell? ⟨b13, f13 + k, none⟩ = some (.string sk)) ((apply F.out; (repeat (first | exact Stp.rfl' | assumption | apply Stp.dr | apply Stp.drN | apply Stp.al)))) (first
            | (refine step_run (.tmp 117) (.tmp 118) rfl rfl rfl rfl hr5 ?_)
            | (go_at_call 24; refine CPH.out.mono ?_; rintro e w6' ⟨v, o6', rfl, ⟨rfl, h6⟩, st6⟩; have st06 : Stp (KW 1) w13 o13 w6' o6' := st05.tr st6)
            | (go_at_call 14; refine (snNum_s _ _).mono ?_; rintro e w8 ⟨rfl, rfl⟩))
          all_goals (
            go_wp2
            go_ret
            exact ⟨rfl, HXW.out _ _ st06⟩)
        | false =>
          have hmb : mn ≤ 1048576 := by have := HBIG.out; rw [hbg] at this; simpa using this.symm
          obtain ⟨hp0, hpi⟩ := HPN.out hmb
          rw [hp0] at CPH
          have CPH := Lib.hid CPH
          have HPI := Lib.hid hpi
          clear hbg hmb hp0 hpi
          go_wp2
          go_region_held3 (fun w' => w'.cell? ⟨b13, f13 + k, none⟩ = some (.string sk)) ((apply F.out; (repeat (first | exact Stp.rfl' | assumption | apply Stp.dr | apply Stp.drN | apply Stp.al)))) (first
            | (refine step_run (.tmp 117) (.tmp 118) rfl rfl rfl rfl hr5 ?_)
            | (go_at_call 24; refine CPH.out.mono ?_; rintro e w6' ⟨v, o6', rfl, ⟨rfl, h6⟩, st6⟩; have st06 : Stp (KW 1) w13 o13 w6' o6' := st05.tr st6; have H6 := Lib.hid h6; clear h6)
            | (go_at_call 14; refine (snNum_s _ _).mono ?_; rintro e w8 ⟨rfl, rfl⟩))
          all_goals (
            go_wp2
            exact ⟨⟨k + 1, _, o6', by omega, by go_num, HPI.out, H6.out, st06⟩, by simp [intOf]; omega⟩)
      · obtain rfl : k = NL := by omega
        have hmem : nm ∈ listW s := list_keys.2 (List.mem_map.2 ⟨_, lk_mem HLK.out, rfl⟩)
        obtain ⟨j0, hj0, hjn⟩ := List.getElem_of_mem hmem
        obtain ⟨f2, hf2, hfb, hfv⟩ := HPUT.out.done j0 hj0 (by rw [HNL.out]; exact hj0)
        rw [hjn] at hf2
        have hve1 := HOK.out.ve _ (lk_mem HLK.out)
        have hve2 := HPUT.out.ok.ve _ (lk_mem hf2)
        have hver := HPUT.out.ver.2
        have hne : tl ≠ tagL f2.b.length f2.mt (f2.ve : Int) := by
          rw [HTL.out.1]
          have := HV.out
          have := HXS.out
          dsimp only at hve1 hve2
          exact tagL_ne (by omega) (by omega) (by omega)
        obtain ⟨hL, hQ, hG⟩ := HKK.out _ _ HST.out
        have hWr := HXW.out _ _ HST.out
        have CS3 := fun w' (e : Ext wr w') => stServe_ask200 1 p t HPUT.out.ok [47] [] path nm f2 tl HTL.out.2.1 HTL.out.2.2.1 hne (find_other HFS.out hf2) (by simp) (by simp) hp4 (some ⟨w6.heap.size, 0, none⟩) 1 w' _ (fun b _ => low_lt o' b) (by omega) ((HWT.out.low (by omega)).ext e) (mxExt HM.out (hWr.tr e)) (HE.out.ext (hWr.tr e)) ((HRD.out wr hG).ext e)
        obtain ⟨su, hsu⟩ : ∃ x, x = serveS (.inl (nm, f2)) 200 path := ⟨_, rfl⟩
        unfold lawLoc reqC at CS3
        rw [← hsu, ← HSP.out, show str [47] = ⟨#[47]⟩ from rfl, show str [] = ⟨#[]⟩ from rfl] at CS3
        have hsut : su.st = 200 := by rw [hsu]; rfl
        have hsun : su.n = mn := by rw [hsu, HMN.out, ← hfb]; rfl
        have hsub : su.b = some more := by rw [hsu, ← hfb]; rfl
        have CS3 := Lib.hid CS3
        obtain ⟨sm, hsm⟩ : ∃ x, x = str more := ⟨_, rfl⟩
        have CVM := Lib.hid (fun w' (e : Ext W w') => (show (convert 22 9 (.slice B mn d)).run Tryz.prog w' = .ok (.string sm) w' from by
          rw [hsm]
          exact conv_bs 22 9 5 Tryz.underlying22 Tryz.underlying5 Tryz.underlying9 (HB.out.ext e) mn d HMN.out))
        have CVB := Lib.hid (fun w' (A' : Option Addr) (c' : Nat) (h : Rd w' A' (bc more)) (x : Obj) => (show (convert 22 9 (.slice A' mn c')).run Tryz.prog (w'.alloc x) = .ok (.string sm) (w'.alloc x) from by
          rw [hsm]
          exact conv_bs 22 9 5 Tryz.underlying22 Tryz.underlying5 Tryz.underlying9 (h.ext (by (repeat (first | exact Ext.rfl' _ | assumption | refine Ext.dr ?_ | refine Ext.drN ?_ _ | refine Ext.al ?_ _ | refine Ext.st ?_ (by simp) _ | refine Ext.tr ?_ (by assumption))))) mn c' HMN.out))
        have HWR := Lib.hid hWr
        have v0 := (row_facts hL 0 _ rfl).1
        have v1 := (row_facts hL 1 _ rfl).1
        have v2 := (row_facts hL 2 _ rfl).1
        have v3 := (row_facts hL 3 _ rfl).1
        have v4 := (row_facts hL 4 _ rfl).1
        have v5 := (row_facts hL 5 _ rfl).1
        have v6 := (row_facts hL 6 _ rfl).1
        have v7 := (row_facts hL 7 _ rfl).1
        have v8 := (row_facts hL 8 _ rfl).1
        have v9 := (row_facts hL 9 _ rfl).1
        have v10 := (row_facts hL 10 _ rfl).1
        have v11 := (row_facts hL 11 _ rfl).1
        have u0 := (row_facts hQ 0 _ rfl).1
        have u1 := (row_facts hQ 1 _ rfl).1
        have u2 := (row_facts hQ 2 _ rfl).1
        have u3 := (row_facts hQ 3 _ rfl).1
        clear hmem hj0 hjn hf2 hfb hfv hve1 hve2 hver hne hL hQ hG hWr hsu hsm hk
        go_wp2_with (first
          | (go_at_call 9; refine (CS3.out _ (by (repeat (first | exact Ext.rfl' _ | assumption | refine Ext.dr ?_ | refine Ext.drN ?_ _ | refine Ext.al ?_ _ | refine Ext.st ?_ (by simp) _ | refine Ext.tr ?_ (by assumption))))).mono ?_; rintro e w20 ⟨A20, c20, B20, d20, rfl, hx20, hr20, hb20⟩; unfold respV; rw [hsut, hsun]; have cb := CVB.out w20 B20 d20 (hb20 _ hsub).2 (.cells #[.int .i64 200, .slice A20 su.fs.length c20, .slice B20 mn d20] 34); have cm := CVM.out (w20.alloc (.cells #[.int .i64 200, .slice A20 su.fs.length c20, .slice B20 mn d20] 34)) (HWR.out.tr (hx20.al _)))
          | (go_at_call 14; refine (snNum_s _ _).mono ?_; rintro e w8 ⟨rfl, rfl⟩))
        go_ret
        exact ⟨rfl, HWR.out.tr (by (repeat (first | exact Ext.rfl' _ | assumption | refine Ext.dr ?_ | refine Ext.drN ?_ _ | refine Ext.al ?_ _ | refine Ext.st ?_ (by simp) _ | refine Ext.tr ?_ (by assumption))))⟩
end Go.Proofs.YtemdgilifnhdpaaGreatDoor
