/-
Framing's codings: of Transfer-Encoding's values.
-/
import Derived.Test.YtpkgoppfihcpbaaDoorTKa
import Derived.Test.YtpkgoppfihcpbaaDoorFGa
set_option linter.unusedVariables false
set_option linter.unusedSimpArgs false
/-
Framing's codings: of Transfer-Encoding's values.
-/
section
namespace Go.Proofs.YtpkgoppfihcpbaaDoor
open Go.RowKit

theorem toks_one (l : List UInt8) : (toksL l).2 = 0 ∨ ((toksL l).2 = 42 ∧ (toksL l).1 = []) := by
  unfold toksL
  split
  · exact .inl rfl
  · exact .inr ⟨rfl, rfl⟩
theorem codV_bad {vs : List (List UInt8)} {k : Nat} (h : k < vs.length) (he : (toksL vs[k]).2 ≠ 0) : codV vs = 45 := by
  unfold codV
  rw [if_pos]
  exact List.any_eq_true.2 ⟨vs[k], List.getElem_mem h, by simpa using he⟩
theorem codV_good {vs : List (List UInt8)} (h : vs.any (fun v => decide ((toksL v).2 ≠ 0)) = false) : codV vs = if (toksA vs).any (fun c => !(c == chkN)) = true then 46 else if (toksA vs).length ≠ 1 then 45 else 0 := by
  unfold codV
  rw [if_neg (by rw [h]; decide)]
set_option maxRecDepth 100000 in
set_option maxHeartbeats 4000000 in
theorem fCodings_c (vs : List (List UInt8)) (A : Option Addr) (n c : Nat) (hn : n = vs.length) (hv : ∀ v ∈ vs, v.length ≤ 1099511627776) (hT : (toksA vs).length ≤ 1099511627776) (hb : n ≤ 8796093022206) (w : World) (h : Rd w A (sc vs)) :
    Calls Tryd.prog 19 #[.slice A n c] w (Gives (.int .i64 (codV vs)) w) := by
  have HV := Lib.hid hv
  have HN := Lib.hid hn
  have hms : maxLen = 9223372036854775807 := rfl
  obtain ⟨o, ho⟩ : ∃ o : Ow, o = fun _ => 0 := ⟨_, rfl⟩
  have RV := Lib.hid (fun w' o' (t : Stp (fun i => i = 1) w o w' o') => show Rd w' A (sc vs) from h.stp t (fun a _ _ => by rw [ho]; simp))
  have XT := Lib.hid (fun w' o' (t : Stp (fun i => i = 1) w o w' o') => show Ext w w' from t.toExt (fun b hb => by rw [ho]; simp))
  clear hv h ho hn
  go_enter Tryd.func19, Tryd.ntmps19
  go_wp2
  go_loopw [3, 12] (fun v i wr => ∃ (k : Nat) (A1 : Option Addr) (c1 : Nat) (o' : Ow), i = .int .i64 (k : Int) ∧ v = .slice A1 (toksA (vs.take k)).length c1 ∧ k ≤ n ∧ Sl wr o' 1 1 A1 (toksA (vs.take k)).length c1 (sc (toksA (vs.take k))) ∧ (A1 = none → c1 = 0) ∧ Stp (fun i => i = 1) w o wr o' ∧ Hid ((vs.take k).any (fun v => decide ((toksL v).2 ≠ 0)) = false)) (fun _ i _ => n - (intOf i).toNat)
  case atStart => exact ⟨0, none, 0, o, rfl, by simp [toksA], Nat.zero_le _, Sl.nil_ _ _ _ _ _, fun _ => rfl, Stp.rfl', Lib.hid rfl⟩
  case round =>
    obtain ⟨k, A1, c1, o', rfl, rfl, hk, hsl, hn1, hst, HANY⟩ := hrel
    have HS := Lib.hid hsl
    have HN1 := Lib.hid hn1
    have HST := Lib.hid hst
    by_cases hlt : k < n
    · have hlt' : k < vs.length := by rw [← HN.out]; exact hlt
      obtain ⟨g, f, hA, hc⟩ := (RV.out wr o' hst).txt (j := k) hlt'
      have hk0 : (0 : Int) ≤ (k : Int) := by omega
      have hk1 : (k : Int) < (n : Int) := by omega
      have CS := fun w => fTokens_c vs[k] (HV.out _ (List.getElem_mem hlt')) w
      have PT := Lib.hid (toksA_take vs k hlt')
      have hpl := toksA_le vs (k + 1)
      rw [PT.out, List.length_append] at hpl
      have HLE := Lib.hid (fun (he : (toksL vs[k]).2 ≠ 0) => codV_bad (vs := vs) hlt' he)
      have HA2 := Lib.hid (fun (hh : (toksL vs[k]).2 = 0) => show (vs.take (k + 1)).any (fun v => decide ((toksL v).2 ≠ 0)) = false from by
        rw [List.take_succ_eq_append_getElem hlt', List.any_append, HANY.out]; simpa using hh)
      have ho1 := toks_one vs[k]
      obtain ⟨sv, hsv⟩ : ∃ q, q = str vs[k] := ⟨_, rfl⟩
      obtain ⟨⟨ps, te⟩, hps⟩ : ∃ q, q = toksL vs[k] := ⟨_, rfl⟩
      obtain ⟨acc, hacc⟩ : ∃ q, q = toksA (vs.take k) := ⟨_, rfl⟩
      rw [← hsv] at hc CS
      rw [← hps] at CS PT HLE HA2 hpl ho1
      unfold IsTks at CS
      dsimp only at CS PT HLE HA2 hpl ho1
      rw [← hacc] at HS PT hpl ⊢
      have CS := Lib.hid CS
      clear hsv hps hacc hsl hn1 hst hlt'
      subst hA
      obtain ⟨R, hR⟩ : ∃ R, R = codV vs := ⟨_, rfl⟩
      rw [← hR] at HLE ⊢
      have HRR := Lib.hid hR
      clear hR
      rcases ho1 with rfl | ⟨rfl, rfl⟩
      · have HPE := Lib.hid (HA2.out rfl)
        clear HA2 HLE
        go_wp2_with (first
          | (go_at_call 27; refine (CS.out _).mono ?_; rintro e w2 ⟨v, rfl, ⟨A2, c2, rfl, hrd2⟩, hx2⟩; have HX2 := Lib.hid hx2; have HRD2 := Lib.hid hrd2; clear hrd2)
          | (at_builtin; refine wpL_put slt_str (.tmp 23) (.tmp 24) rfl rfl rfl rfl (HS.out.ext HX2.out) HN1.out (Sl.src Tryd.underlying57 HRD2.out (by rw [sc_len]; omega) (by omega) (sc_oneF ps) c2) (by omega) (by omega) ?_; intro A7 c7 w7 o7 hs7 hst7 hn7))
        go_roundw
        case rel => exact ⟨k + 1, A7, c7, o7, by go_num, by rw [PT.out, List.length_append], by omega, by rw [PT.out, List.length_append, sc_app]; exact hs7, hn7, (HST.out.tr (Stp.ext HX2.out)).tr hst7, HPE⟩
        case measure => simp [intOf]; omega
      · have HL := Lib.hid (HLE.out (by decide))
        clear HLE HA2
        go_wp2_with (first
          | (go_at_call 27; refine (CS.out _).mono ?_; rintro e w2 ⟨v, rfl, ⟨A2, c2, rfl, hrd2⟩, hx2⟩))
        go_ret
        rw [HL.out]
        exact ⟨rfl, (XT.out wr o' HST.out).tr (by (repeat (first | exact Ext.rfl' _ | assumption | refine Ext.dr ?_ | refine Ext.drN ?_ _ | refine Ext.al ?_ _ | refine Ext.st ?_ (by simp) _ | refine Ext.tr ?_ (by assumption))))⟩
    · have htk : vs.take k = vs := List.take_of_length_le (by have := HN.out; omega)
      rw [htk] at HS HANY ⊢
      have HLV := Lib.hid (codV_good HANY.out)
      obtain ⟨all, hall⟩ : ∃ q, q = toksA vs := ⟨_, rfl⟩
      rw [← hall] at HS hT HLV ⊢
      have RD := Lib.hid HS.out.rd
      obtain ⟨R, hR⟩ : ∃ R, R = codV vs := ⟨_, rfl⟩
      rw [← hR] at HLV ⊢
      have HRE := Lib.hid hR
      obtain ⟨T, hTT⟩ : ∃ T, T = all.length := ⟨_, rfl⟩
      rw [← hTT] at hT ⊢
      have HTT := Lib.hid hTT
      have XW := Lib.hid (XT.out wr o' HST.out)
      have hk1 : ¬ (k : Int) < (n : Int) := by omega
      clear hall hTT hR htk hsl hn1 hst HN1 HS HANY
      obtain ⟨W1, hW1⟩ : ∃ W, W = wr := ⟨_, rfl⟩
      subst hW1
      go_wp2
      go_loopw [29] (fun i w2 => ∃ t : Nat, i = .int .i64 (t : Int) ∧ t ≤ T ∧ W1 = w2 ∧ Hid (∀ s ∈ all.take t, s = chkN)) (fun i _ => T - (intOf i).toNat)
      case atStart => exact ⟨0, rfl, Nat.zero_le _, rfl, Lib.hid (by simp)⟩
      case round =>
        obtain ⟨t, rfl, ht, rfl, HBG⟩ := hrel
        by_cases hlt : t < T
        · have hlt' : t < all.length := by rw [← HTT.out]; exact hlt
          obtain ⟨g', f', rfl, hc⟩ := (RD.out).txt (j := t) hlt'
          have hk0 : (0 : Int) ≤ (t : Int) := by omega
          have hk1' : (t : Int) < (T : Int) := by omega
          have HM := Lib.hid (show all[t] ∈ all from List.getElem_mem hlt')
          have HTK := Lib.hid (show all.take (t + 1) = all.take t ++ [all[t]] from List.take_succ_eq_append_getElem hlt')
          obtain ⟨x, hxx⟩ : ∃ q, q = all[t] := ⟨_, rfl⟩
          rw [← hxx] at hc HM HTK
          clear hxx hlt'
          by_cases h1 : x = chkN
          · have hx1 : str x = ⟨#[99, 104, 117, 110, 107, 101, 100]⟩ := by rw [h1]; rfl
            rw [hx1] at hc
            have HB2 := Lib.hid (show ∀ s ∈ all.take (t + 1), s = chkN from by
              intro s hs
              rw [HTK.out] at hs
              rcases List.mem_append.1 hs with h | h
              · exact HBG.out s h
              · rw [List.mem_singleton.1 h, h1])
            clear h1 hx1
            go_wp2
            go_roundw
            case rel => exact ⟨t + 1, by go_num, by omega, (by first | rfl | trivial), HB2⟩
            case measure => simp [intOf]; omega
          · have HL := Lib.hid (show R = 46 from by rw [HLV.out, if_pos (List.any_eq_true.2 ⟨x, HM.out, by simpa using h1⟩)])
            obtain ⟨sx, hsx⟩ : ∃ q, q = str x := ⟨_, rfl⟩
            have e2 : (sx.toList == [99, 104, 117, 110, 107, 101, 100]) = false := by rw [beq_eq_false_iff_ne, hsx, Lib.toList_data]; exact h1
            have e3 : ¬ sx.toList = [99, 104, 117, 110, 107, 101, 100] := by rw [hsx, Lib.toList_data]; exact h1
            rw [← hsx] at hc
            clear h1 hsx
            go_wp2
            go_ret
            first | rw [HL.out] | rw [← HRE.out, HL.out]
            exact ⟨rfl, XW.out⟩
        · have hkt : t = T := by omega
          subst hkt
          have HNB := Lib.hid (show all.any (fun c => !(c == chkN)) = false from by
            rw [List.any_eq_false]
            intro s hs
            rw [HBG.out s (by rw [List.take_of_length_le (by have := HTT.out; omega)]; exact hs)]; decide)
          have HLW := Lib.hid (show R = if t ≠ 1 then 45 else 0 from by rw [HLV.out, if_neg (by rw [HNB.out]; decide), HTT.out])
          by_cases h1 : t = 1
          · have HL := Lib.hid (show R = 0 from by rw [HLW.out, if_neg (by simp [h1])])
            subst h1
            go_wp2
            go_ret
            first | rw [HL.out] | rw [← HRE.out, HL.out]
            exact ⟨rfl, XW.out⟩
          · have HL := Lib.hid (show R = 45 from by rw [HLW.out, if_pos h1])
            have d1 : ((t : Int) != 1) = true := by rw [bne_iff_ne]; omega
            clear h1
            go_wp2
            go_ret
            first | rw [HL.out] | rw [← HRE.out, HL.out]
            exact ⟨rfl, XW.out⟩
end Go.Proofs.YtpkgoppfihcpbaaDoor
end

/-
Framing's Request: of fields that name a coding.
-/
section
namespace Go.Proofs.YtpkgoppfihcpbaaDoor
open Go.RowKit

/-- A body's length, as Request tells it of fields that name a coding. -/
def reqT (mi : Int) (fs : List Fld) : Int × Int × Int := if valsH fs clN ≠ [] ∨ mi = 0 then (0, 0, 45) else if codV (valsH fs teN) ≠ 0 then (0, 0, codV (valsH fs teN)) else (2, 0, 0)
set_option maxRecDepth 100000 in
set_option maxHeartbeats 4000000 in
theorem fRequest_te (fs : List Fld) (A : Option Addr) (n c : Nat) (hn : fs.length = n) (hb : n ≤ 8796093022206) (hsz : ∀ p ∈ fs, p.1.length ≤ maxLen) (hte : valsH fs teN ≠ []) (me ta : ByteArray) (mi : Int) (w : World) (h : Rd w A (fc fs))
    (hcd : valsH fs clN = [] → mi ≠ 0 → (∀ v ∈ valsH fs teN, v.length ≤ 1099511627776) ∧ (toksA (valsH fs teN)).length ≤ 1099511627776 ∧ (valsH fs teN).length ≤ 8796093022206) :
    Calls Tryd.prog 7 #[.agg #[.string me, .string ta, .int .i64 mi, .slice A n c]] w (Gives (.tuple #[.agg #[.int .i64 (reqT mi fs).1, .int .i64 (reqT mi fs).2.1], .int .i64 (reqT mi fs).2.2]) w) := by
  have HR := Lib.hid h
  have CCL := fun w' h' => hValues_c fs clN A n c hn hb (by decide) hsz w' h'
  rw [show str clN = ⟨#[67, 111, 110, 116, 101, 110, 116, 45, 76, 101, 110, 103, 116, 104]⟩ from rfl] at CCL
  have CTE := fun w' h' => hValues_c fs teN A n c hn hb (by decide) hsz w' h'
  rw [show str teN = ⟨#[84, 114, 97, 110, 115, 102, 101, 114, 45, 69, 110, 99, 111, 100, 105, 110, 103]⟩ from rfl] at CTE
  have HX := Lib.hid (fun w' (e : Ext ((w.alloc (.cells #[.string me, .string ta, .int .i64 mi, .slice A n c] 31)).alloc (.cells #[.int .i64 0, .int .i64 0] 26)) w') => show w'.cell? ⟨w.heap.size, 3, none⟩ = some (.slice A n c) from (row_facts (two_rowsF e).1 3 _ rfl).1)
  have HX2 := Lib.hid (fun w' (e : Ext ((w.alloc (.cells #[.string me, .string ta, .int .i64 mi, .slice A n c] 31)).alloc (.cells #[.int .i64 0, .int .i64 0] 26)) w') => show w'.cell? ⟨w.heap.size, 2, none⟩ = some (.int .i64 mi) from (row_facts (two_rowsF e).1 2 _ rfl).1)
  have CC := Lib.hid (fun (A' : Option Addr) (c' : Nat) (w' : World) (h0 : valsH fs clN = []) (h1 : mi ≠ 0) h' => fCodings_c (valsH fs teN) A' (valsH fs teN).length c' rfl (hcd h0 h1).1 (hcd h0 h1).2.1 (hcd h0 h1).2.2 w' h')
  obtain ⟨vs, hvs⟩ : ∃ q, q = valsH fs clN := ⟨_, rfl⟩
  obtain ⟨ts, hts⟩ : ∃ q, q = valsH fs teN := ⟨_, rfl⟩
  have HRL := Lib.hid (show reqT mi fs = if vs ≠ [] ∨ mi = 0 then (0, 0, 45) else if codV ts ≠ 0 then (0, 0, codV ts) else (2, 0, 0) from by rw [hvs, hts]; rfl)
  rw [← hvs] at CCL CC
  rw [← hts] at CTE CC hte
  have CCL := Lib.hid CCL
  have CTE := Lib.hid CTE
  obtain ⟨R, hR⟩ : ∃ R, R = reqT mi fs := ⟨_, rfl⟩
  rw [← hR] at HRL ⊢
  have hpos : (0 : Int) < (ts.length : Int) := by have := List.length_pos_iff.2 hte; omega
  clear h hn hsz hte hcd hvs hts hR
  go_enter Tryd.func7, Tryd.ntmps7
  go_wp2
  have c0 := HX.out _ (Ext.rfl' _)
  go_region_with (first
    | (go_at_call_of 18 (Value.string ⟨#[67, 111, 110, 116, 101, 110, 116, 45, 76, 101, 110, 103, 116, 104]⟩); refine (CCL.out _ (HR.out.ext (by (repeat (first | exact Ext.rfl' _ | assumption | refine Ext.dr ?_ | refine Ext.drN ?_ _ | refine Ext.al ?_ _ | refine Ext.st ?_ (by simp) _ | refine Ext.tr ?_ (by assumption)))))).mono ?_; rintro e w3 ⟨v, rfl, ⟨A3, c3, rfl, hrd3⟩, hx3⟩; have hc3 := HX.out w3 (by (repeat (first | exact Ext.rfl' _ | assumption | refine Ext.dr ?_ | refine Ext.drN ?_ _ | refine Ext.al ?_ _ | refine Ext.st ?_ (by simp) _ | refine Ext.tr ?_ (by assumption)))))
    | (go_at_call_of 18 (Value.string ⟨#[84, 114, 97, 110, 115, 102, 101, 114, 45, 69, 110, 99, 111, 100, 105, 110, 103]⟩); refine (CTE.out _ (HR.out.ext (by (repeat (first | exact Ext.rfl' _ | assumption | refine Ext.dr ?_ | refine Ext.drN ?_ _ | refine Ext.al ?_ _ | refine Ext.st ?_ (by simp) _ | refine Ext.tr ?_ (by assumption)))))).mono ?_; rintro e w4 ⟨v, rfl, ⟨A4, c4, rfl, hrd4⟩, hx4⟩))
  all_goals (
    have e4 : Ext ((w.alloc (.cells #[.string me, .string ta, .int .i64 mi, .slice A n c] 31)).alloc (.cells #[.int .i64 0, .int .i64 0] 26)) w4 := by (repeat (first | exact Ext.rfl' _ | assumption | refine Ext.dr ?_ | refine Ext.drN ?_ _ | refine Ext.al ?_ _ | refine Ext.st ?_ (by simp) _ | refine Ext.tr ?_ (by assumption)))
    obtain ⟨_, r4⟩ := two_rowsF e4
    obtain ⟨p0, pf0⟩ := row_facts r4 0 _ rfl
    obtain ⟨p1, pf1⟩ := row_facts r4 1 _ rfl
    have cm := HX2.out w4 e4
    have E4 := Lib.hid e4
    clear r4 e4
    by_cases h0 : vs = []
    · by_cases h1 : mi = 0
      · have HL := Lib.hid (show R = (0, 0, 45) from by rw [HRL.out, if_pos (.inr h1)])
        subst h0 h1
        go_wp2
        refine bodyPost_ret (v := .tuple #[.agg #[.int .i64 0, .int .i64 0], .int .i64 45]) (by simp [results, Tryd.results7, go_sem, p0, p1]) rfl ?_
        exact ⟨by rw [HL.out], by (repeat (first | exact Ext.rfl' _ | assumption | refine Ext.dr ?_ | refine Ext.drN ?_ _ | refine Ext.al ?_ _ | refine Ext.st ?_ (by simp) _ | refine Ext.tr ?_ (by assumption)))⟩
      · have C9 := Lib.hid (fun w' h' => CC.out A4 c4 w' h0 h1 h')
        have HRL2 := Lib.hid (show R = if codV ts ≠ 0 then (0, 0, codV ts) else (2, 0, 0) from by rw [HRL.out, if_neg (by simp [h0, h1])])
        obtain ⟨le, hle⟩ : ∃ q, q = codV ts := ⟨_, rfl⟩
        rw [← hle] at C9 HRL2
        have d0 : (mi == 0) = false := by rw [beq_eq_false_iff_ne]; exact h1
        subst h0
        clear hle h1
        by_cases h2 : le = 0
        · have HL := Lib.hid (show R = (2, 0, 0) from by rw [HRL2.out, if_neg (by simp [h2])])
          subst h2
          go_wp2_with (go_at_call 19; refine (C9.out _ (hrd4.ext (by (repeat (first | exact Ext.rfl' _ | assumption | refine Ext.dr ?_ | refine Ext.drN ?_ _ | refine Ext.al ?_ _ | refine Ext.st ?_ (by simp) _ | refine Ext.tr ?_ (by assumption)))))).mono ?_; rintro e w5 ⟨rfl, hx5⟩; obtain ⟨_, r5⟩ := two_rowsF (E4.out.tr hx5); obtain ⟨q0, qf0⟩ := row_facts r5 0 _ rfl; obtain ⟨q1, qf1⟩ := row_facts r5 1 _ rfl; clear r5)
          refine bodyPost_ret (v := .tuple #[.agg #[.int .i64 2, .int .i64 0], .int .i64 0]) (by simp [results, Tryd.results7, go_sem, q0, q1]) rfl ?_
          exact ⟨by rw [HL.out], by (repeat (first | exact Ext.rfl' _ | assumption | refine Ext.dr ?_ | refine Ext.drN ?_ _ | refine Ext.al ?_ _ | refine Ext.st ?_ (by simp) _ | refine Ext.tr ?_ (by assumption)))⟩
        · have HL := Lib.hid (show R = (0, 0, le) from by rw [HRL2.out, if_pos h2])
          have d1 : (le != 0) = true := by rw [bne_iff_ne]; exact h2
          go_wp2_with (go_at_call 19; refine (C9.out _ (hrd4.ext (by (repeat (first | exact Ext.rfl' _ | assumption | refine Ext.dr ?_ | refine Ext.drN ?_ _ | refine Ext.al ?_ _ | refine Ext.st ?_ (by simp) _ | refine Ext.tr ?_ (by assumption)))))).mono ?_; rintro e w5 ⟨rfl, hx5⟩; obtain ⟨_, r5⟩ := two_rowsF (E4.out.tr hx5); obtain ⟨q0, qf0⟩ := row_facts r5 0 _ rfl; obtain ⟨q1, qf1⟩ := row_facts r5 1 _ rfl; clear r5)
          refine bodyPost_ret (v := .tuple #[.agg #[.int .i64 0, .int .i64 0], .int .i64 le]) (by simp [results, Tryd.results7, go_sem, q0, q1]) rfl ?_
          exact ⟨by rw [HL.out], by (repeat (first | exact Ext.rfl' _ | assumption | refine Ext.dr ?_ | refine Ext.drN ?_ _ | refine Ext.al ?_ _ | refine Ext.st ?_ (by simp) _ | refine Ext.tr ?_ (by assumption)))⟩
    · have hp2 : (0 : Int) < (vs.length : Int) := by have := List.length_pos_iff.2 h0; omega
      have hp3 : 0 < vs.length := List.length_pos_iff.2 h0
      have hp4 : decide (0 < vs.length) = true := by rw [decide_eq_true_eq]; exact hp3
      have HL := Lib.hid (show R = (0, 0, 45) from by rw [HRL.out, if_pos (.inl h0)])
      clear h0
      go_wp2
      refine bodyPost_ret (v := .tuple #[.agg #[.int .i64 0, .int .i64 0], .int .i64 45]) (by simp [results, Tryd.results7, go_sem, p0, p1]) rfl ?_
      exact ⟨by rw [HL.out], by (repeat (first | exact Ext.rfl' _ | assumption | refine Ext.dr ?_ | refine Ext.drN ?_ _ | refine Ext.al ?_ _ | refine Ext.st ?_ (by simp) _ | refine Ext.tr ?_ (by assumption)))⟩)
end Go.Proofs.YtpkgoppfihcpbaaDoor
end

/-
Nothing that could be read in two ways is taken: the law as a walk.
-/
section
namespace Go.Proofs.YtpkgoppfihcpbaaDoor
open Go.RowKit

def clS : List UInt8 := [99, 111, 110, 116, 101, 110, 116, 45, 108, 101, 110, 103, 116, 104]
def teS : List UInt8 := [116, 114, 97, 110, 115, 102, 101, 114, 45, 69, 78, 67, 79, 68, 73, 78, 71]
def dgS (k : Nat) : UInt8 := UInt8.ofNat (48 + k)
def twoF (k : Nat) : List Fld := [(clS, [dgS k]), (clN, [dgS ((k + 1) % 10)])]
theorem two_req : ∀ k : Fin 10, reqL (twoF k.val) = (0, 0, 45) ∧ valsH (twoF k.val) teN = [] ∧ (∀ v ∈ valsH (twoF k.val) clN, v.length ≤ 1099511627776) ∧ (partsL (valsH (twoF k.val) clN)).length ≤ 1099511627776 ∧ (∀ s ∈ partsL (valsH (twoF k.val) clN), s.length ≤ 140737488355328) ∧ (valsH (twoF k.val) clN).length ≤ 8796093022206 := by decide +kernel
def ccN : List UInt8 := [99, 104, 117, 110, 107, 101, 100, 44, 32, 99, 104, 117, 110, 107, 101, 100]
def cgN : List UInt8 := [99, 104, 117, 110, 107, 101, 100, 44, 32, 103, 122, 105, 112]
theorem cc_req : reqT 1 [(teN, ccN)] = (0, 0, 45) ∧ valsH [(teN, ccN)] teN ≠ [] ∧ (∀ v ∈ valsH [(teN, ccN)] teN, v.length ≤ 1099511627776) ∧ (toksA (valsH [(teN, ccN)] teN)).length ≤ 1099511627776 ∧ (valsH [(teN, ccN)] teN).length ≤ 8796093022206 := by decide +kernel
theorem cg_req : reqT 1 [(teN, cgN)] = (0, 0, 46) ∧ valsH [(teN, cgN)] teN ≠ [] ∧ (∀ v ∈ valsH [(teN, cgN)] teN, v.length ≤ 1099511627776) ∧ (toksA (valsH [(teN, cgN)] teN)).length ≤ 1099511627776 ∧ (valsH [(teN, cgN)] teN).length ≤ 8796093022206 := by decide +kernel
theorem both_te (l : List Fld) (a b : List UInt8) : valsH (l ++ [(clN, a), (teS, b)]) teN ≠ [] := by
  unfold valsH
  exact List.ne_nil_of_mem (a := b) (List.mem_map.2 ⟨(teS, b), List.mem_filter.2 ⟨by simp, (show (lowL teS == lowL teN) = true from by decide +kernel)⟩, rfl⟩)
theorem both_cl (l : List Fld) (a b : List UInt8) : valsH (l ++ [(clN, a), (teS, b)]) clN ≠ [] := by
  unfold valsH
  exact List.ne_nil_of_mem (a := a) (List.mem_map.2 ⟨(clN, a), List.mem_filter.2 ⟨by simp, (show (lowL clN == lowL clN) = true from by decide +kernel)⟩, rfl⟩)
theorem own_oldS {K : Nat → Prop} {w0 w w' : World} {o o' : Ow} (h : ∀ x, x < w0.heap.size → o x = 0) (s : Stp K w o w' o') (hz : w0.heap.size ≤ w.heap.size) : ∀ x, x < w0.heap.size → o' x = 0 := fun x hx => (s.own x (by omega)).trans (h x hx)
theorem ext_oldS {K : Nat → Prop} {w0 w w' : World} {o o' : Ow} (x : Ext w0 w) (h : ∀ x, x < w0.heap.size → o x = 0) (s : Stp K w o w' o') (hk : ¬ K 0) : Ext w0 w' :=
  ⟨s.os.trans x.os, s.tape.trans x.tape, s.output.trans x.output, Nat.le_trans x.size s.size, fun b hb => (s.keep b (by have := x.size; omega) (by rw [h b hb]; exact hk)).trans (x.block b hb)⟩
set_option maxRecDepth 100000 in
set_option maxHeartbeats 8000000 in
theorem FramingStrict_w (w : World) (hE : ErrR w) (mi : Int) (l : List Fld) (A : Option Addr) (n c : Nat) (hn : n = l.length) (hb : n ≤ 4398046511000) (hsz : ∀ p ∈ l, p.1.length ≤ maxLen) (h : Rd w A (fc l)) (a b : List UInt8) (z : Int) (hz0 : -9223372036854775808 ≤ z) (hz1 : z ≤ 9223372036854775807) :
    Calls Tryd.prog 3 #[.int .i64 mi, .slice A n c, .string (str a), .string (str b), .int .i64 z] w (Gives (.bool true) w) := by
  have HE := Lib.hid hE
  have HR := Lib.hid h
  have HN := Lib.hid hn
  have hms : maxLen = 9223372036854775807 := rfl
  obtain ⟨fs, hfs⟩ : ∃ q, q = l ++ [(clN, a), (teS, b)] := ⟨_, rfl⟩
  have hr1 : reqT mi fs = (0, 0, 45) := by unfold reqT; rw [if_pos (.inl (by rw [hfs]; exact both_cl l a b))]
  have C1 := fun (A' : Option Addr) (c' : Nat) (w' : World) h' => fRequest_te fs A' (n + 2) c' (by rw [hfs, List.length_append, ← hn]; rfl) (by omega) (by
    intro p hp
    rw [hfs] at hp
    rcases List.mem_append.1 hp with h | h
    · exact hsz p h
    · simp only [List.mem_cons, List.mem_nil_iff, or_false] at h
      rcases h with rfl | rfl
      · exact (show clN.length ≤ maxLen by decide)
      · exact (show teS.length ≤ maxLen by decide)) (by rw [hfs]; exact both_te l a b) ⟨#[]⟩ ⟨#[]⟩ mi w' h' (fun h0 => absurd h0 (by rw [hfs]; exact both_cl l a b))
  rw [hr1] at C1
  have C1 := Lib.hid C1
  have HFC := Lib.hid (show fc fs = fc l ++ [.string ⟨#[67, 111, 110, 116, 101, 110, 116, 45, 76, 101, 110, 103, 116, 104]⟩, .string (str a), .string ⟨#[116, 114, 97, 110, 115, 102, 101, 114, 45, 69, 78, 67, 79, 68, 73, 78, 71]⟩, .string (str b)] from by rw [hfs, fc_app]; rfl)
  clear hr1 hfs hsz
  have C3 := Lib.hid (fun (w : World) (p : Nat) (hp : w.heap.size = p) => by have := fRequest_te [(teN, ccN)] (some ⟨w.heap.size, 0, none⟩) 1 1 rfl (by decide) (by decide) cc_req.2.1 ⟨#[]⟩ ⟨#[]⟩ 1 (w.alloc (.cells #[.string ⟨#[84, 114, 97, 110, 115, 102, 101, 114, 45, 69, 110, 99, 111, 100, 105, 110, 103]⟩, .string ⟨#[99, 104, 117, 110, 107, 101, 100, 44, 32, 99, 104, 117, 110, 107, 101, 100]⟩] 24)) (rd_newF w [.string ⟨#[84, 114, 97, 110, 115, 102, 101, 114, 45, 69, 110, 99, 111, 100, 105, 110, 103]⟩, .string ⟨#[99, 104, 117, 110, 107, 101, 100, 44, 32, 99, 104, 117, 110, 107, 101, 100]⟩] 24) (fun _ _ => cc_req.2.2); rw [cc_req.1] at this; rw [hp] at this; exact this)
  have C4 := Lib.hid (fun (w : World) (p : Nat) (hp : w.heap.size = p) => by have := fRequest_te [(teN, cgN)] (some ⟨w.heap.size, 0, none⟩) 1 1 rfl (by decide) (by decide) cg_req.2.1 ⟨#[]⟩ ⟨#[]⟩ 1 (w.alloc (.cells #[.string ⟨#[84, 114, 97, 110, 115, 102, 101, 114, 45, 69, 110, 99, 111, 100, 105, 110, 103]⟩, .string ⟨#[99, 104, 117, 110, 107, 101, 100, 44, 32, 103, 122, 105, 112]⟩] 24)) (rd_newF w [.string ⟨#[84, 114, 97, 110, 115, 102, 101, 114, 45, 69, 110, 99, 111, 100, 105, 110, 103]⟩, .string ⟨#[99, 104, 117, 110, 107, 101, 100, 44, 32, 103, 122, 105, 112]⟩] 24) (fun _ _ => cg_req.2.2); rw [cg_req.1] at this; rw [hp] at this; exact this)
  clear h hE hn
  obtain ⟨M, e1⟩ : ∃ M, wrap64 (z.tmod 1000 + 1000) = M := ⟨_, rfl⟩
  obtain ⟨Q, e2⟩ : ∃ Q, M.tmod 1000 = Q := ⟨_, rfl⟩
  have hM : 0 ≤ M := by
    have h1 : z.tmod 1000 = z - 1000 * z.tdiv 1000 := by have := Int.mul_tdiv_add_tmod z 1000; omega
    have h2 := Int.tmod_lt_of_pos z (show (0 : Int) < 1000 by decide)
    have h3 : -1000 < z.tmod 1000 := by
      rcases Int.le_total 0 z with h | h
      · have := Int.tmod_nonneg 1000 h; omega
      · have h4 := Int.tmod_nonneg 1000 (show 0 ≤ -z by omega)
        have h5 := Int.tmod_lt_of_pos (-z) (show (0 : Int) < 1000 by decide)
        rw [Int.neg_tmod] at h4 h5
        omega
    rw [← e1]
    unfold wrap64
    omega
  have hQ : 0 ≤ Q ∧ Q < 1000 := by rw [← e2]; exact ⟨Int.tmod_nonneg _ hM, Int.tmod_lt_of_pos _ (by decide)⟩
  obtain ⟨K, e3⟩ : ∃ K, Q.tmod 10 = K := ⟨_, rfl⟩
  have hK : 0 ≤ K ∧ K < 10 := by rw [← e3]; exact ⟨Int.tmod_nonneg _ hQ.1, Int.tmod_lt_of_pos _ (by decide)⟩
  obtain ⟨k, hk⟩ : ∃ k : Nat, K = (k : Int) := ⟨K.toNat, by omega⟩
  obtain ⟨X1, e4⟩ : ∃ X, wrap64 (48 + K) = X := ⟨_, rfl⟩
  have hX1 : X1 = 48 + (k : Int) := by rw [← e4]; unfold wrap64; omega
  have e5 : X1 % 256 = X1 := by omega
  obtain ⟨Q1, e6⟩ : ∃ X, wrap64 (Q + 1) = X := ⟨_, rfl⟩
  have hQ1 : Q1 = Q + 1 := by rw [← e6]; unfold wrap64; omega
  obtain ⟨J, e7⟩ : ∃ J, Q1.tmod 10 = J := ⟨_, rfl⟩
  have hJ : J = (((k + 1) % 10 : Nat) : Int) := by
    rw [← e7, hQ1, Int.tmod_eq_emod_of_nonneg (by omega)]
    rw [Int.tmod_eq_emod_of_nonneg hQ.1] at e3
    omega
  obtain ⟨X2, e8⟩ : ∃ X, wrap64 (48 + J) = X := ⟨_, rfl⟩
  have hX2 : X2 = 48 + (((k + 1) % 10 : Nat) : Int) := by rw [← e8]; unfold wrap64; omega
  have e9 : X2 % 256 = X2 := by omega
  have cv1 := fun w => conv_one (P := Tryd.prog) (src := 32) (dst := 9) (e := 5) Tryd.underlying32 Tryd.underlying5 Tryd.underlying9 X1 (by omega) (by omega) w
  have cv2 := fun w => conv_one (P := Tryd.prog) (src := 32) (dst := 9) (e := 5) Tryd.underlying32 Tryd.underlying5 Tryd.underlying9 X2 (by omega) (by omega) w
  have cv1 := fun (w : World) (o : Obj) => (by have := cv1 (w.alloc o); simp only [World.size_alloc] at this; exact this : (convert 32 9 (.slice (some ⟨w.heap.size + 1, 0, none⟩) 1 1)).run Tryd.prog ((w.alloc o).alloc (.cells #[.int .u8 X1] 5)) = .ok (.string (str [UInt8.ofNat X1.toNat])) ((w.alloc o).alloc (.cells #[.int .u8 X1] 5)))
  have cv2 := fun (w : World) (o o2 : Obj) => (by have := cv2 ((w.alloc o).alloc o2); simp only [World.size_alloc] at this; exact this : (convert 32 9 (.slice (some ⟨w.heap.size + 1 + 1, 0, none⟩) 1 1)).run Tryd.prog (((w.alloc o).alloc o2).alloc (.cells #[.int .u8 X2] 5)) = .ok (.string (str [UInt8.ofNat X2.toNat])) (((w.alloc o).alloc o2).alloc (.cells #[.int .u8 X2] 5)))
  have hd1 : UInt8.ofNat X1.toNat = dgS k := by unfold dgS; congr 1; omega
  have hd2 : UInt8.ofNat X2.toNat = dgS ((k + 1) % 10) := by unfold dgS; congr 1; omega
  rw [hd1] at cv1
  rw [hd2] at cv2
  have T := two_req ⟨k, by omega⟩
  dsimp only at T
  have C20 := fun (w : World) hE => fRequest_cl (twoF k) (some ⟨w.heap.size, 0, none⟩) 2 2 rfl (by decide) (by
    intro p hp
    unfold twoF at hp
    simp only [List.mem_cons, List.mem_nil_iff, or_false] at hp
    rcases hp with rfl | rfl
    · exact (show clS.length ≤ maxLen by decide)
    · exact (show clN.length ≤ maxLen by decide)) T.2.1 ⟨#[]⟩ ⟨#[]⟩ 1 (w.alloc (.cells #[.string ⟨#[99, 111, 110, 116, 101, 110, 116, 45, 108, 101, 110, 103, 116, 104]⟩, .string (str [dgS k]), .string ⟨#[67, 111, 110, 116, 101, 110, 116, 45, 76, 101, 110, 103, 116, 104]⟩, .string (str [dgS ((k + 1) % 10)])] 24)) hE (rd_newF w [.string ⟨#[99, 111, 110, 116, 101, 110, 116, 45, 108, 101, 110, 103, 116, 104]⟩, .string (str [dgS k]), .string ⟨#[67, 111, 110, 116, 101, 110, 116, 45, 76, 101, 110, 103, 116, 104]⟩, .string (str [dgS ((k + 1) % 10)])] 24) T.2.2.1 T.2.2.2.1 T.2.2.2.2.1 T.2.2.2.2.2
  rw [T.1] at C20
  have C2 := fun (w : World) (p : Nat) (hp : w.heap.size = p) hE => (by have := C20 w hE; rw [hp] at this; exact this : Calls Tryd.prog 7 #[.agg #[.string ⟨#[]⟩, .string ⟨#[]⟩, .int .i64 1, .slice (some ⟨p, 0, none⟩) 2 2]] (w.alloc (.cells #[.string ⟨#[99, 111, 110, 116, 101, 110, 116, 45, 108, 101, 110, 103, 116, 104]⟩, .string (str [dgS k]), .string ⟨#[67, 111, 110, 116, 101, 110, 116, 45, 76, 101, 110, 103, 116, 104]⟩, .string (str [dgS ((k + 1) % 10)])] 24)) (Gives (.tuple #[.agg #[.int .i64 0, .int .i64 0], .int .i64 45]) (w.alloc (.cells #[.string ⟨#[99, 111, 110, 116, 101, 110, 116, 45, 108, 101, 110, 103, 116, 104]⟩, .string (str [dgS k]), .string ⟨#[67, 111, 110, 116, 101, 110, 116, 45, 76, 101, 110, 103, 116, 104]⟩, .string (str [dgS ((k + 1) % 10)])] 24))))
  clear C20
  obtain ⟨s1, hs1⟩ : ∃ s, s = str [dgS k] := ⟨_, rfl⟩
  obtain ⟨s2, hs2⟩ : ∃ s, s = str [dgS ((k + 1) % 10)] := ⟨_, rfl⟩
  rw [← hs1] at C2 cv1
  rw [← hs2] at C2 cv2
  have C2 := Lib.hid C2
  clear hM hQ hK hk hX1 hQ1 hJ hX2 hd1 hd2 T hs1 hs2 hz0 hz1
  go_enter Tryd.func3, Tryd.ntmps3
  go_wp2_with (first
    | (at_builtin; refine wpL_fresh slt_fld (.tmp 21) (.tmp 22) rfl rfl (o := fun _ => 0) 9 rfl rfl (Sl.src Tryd.underlying22 (HR.out.ext (by (repeat (first | exact Ext.rfl' _ | assumption | refine Ext.dr ?_ | refine Ext.drN ?_ _ | refine Ext.al ?_ _ | refine Ext.st ?_ (by simp) _ | refine Ext.tr ?_ (by assumption))))) (by rw [fc_len, HN.out]) (by omega) (fc_one l) c) (by omega) (by omega) ?_; intro A1 c1 w1 o1 hs1 st1 hn1; have x1 : Ext w w1 := Ext.tr (by (repeat (first | exact Ext.rfl' _ | assumption | refine Ext.dr ?_ | refine Ext.drN ?_ _ | refine Ext.al ?_ _ | refine Ext.st ?_ (by simp) _ | refine Ext.tr ?_ (by assumption)))) st1.noExt; have own1 := own_oldS (w0 := w) (fun _ _ => rfl) st1 (by simp))
    | (at_builtin; refine wpL_put slt_fld (.tmp 23) (.tmp 28) rfl rfl rfl rfl (hs1.ext (by (repeat (first | exact Ext.rfl' _ | assumption | refine Ext.dr ?_ | refine Ext.drN ?_ _ | refine Ext.al ?_ _ | refine Ext.st ?_ (by simp) _ | refine Ext.tr ?_ (by assumption))))) hn1 (Sl.src Tryd.underlying22 (rd_newF w1 [.string ⟨#[67, 111, 110, 116, 101, 110, 116, 45, 76, 101, 110, 103, 116, 104]⟩, .string (str a), .string ⟨#[116, 114, 97, 110, 115, 102, 101, 114, 45, 69, 78, 67, 79, 68, 73, 78, 71]⟩, .string (str b)] 24) rfl (by omega) (by simp [Value.oneCell']) 2) (by omega) (by omega) ?_; intro A2 c2 w2 o2 hs2 st2 hn2; have x2 : Ext w w2 := ext_oldS (x1.tr (by (repeat (first | exact Ext.rfl' _ | assumption | refine Ext.dr ?_ | refine Ext.drN ?_ _ | refine Ext.al ?_ _ | refine Ext.st ?_ (by simp) _ | refine Ext.tr ?_ (by assumption))))) own1 ((Stp.ext (by (repeat (first | exact Ext.rfl' _ | assumption | refine Ext.dr ?_ | refine Ext.drN ?_ _ | refine Ext.al ?_ _ | refine Ext.st ?_ (by simp) _ | refine Ext.tr ?_ (by assumption))))).tr st2) (by omega); rw [← HFC.out] at hs2; have HR2 := Lib.hid hs2.rd; clear hs2 st2 hn2 hs1 st1 hn1 own1)
    | (go_at_call 7; refine (C1.out _ _ _ (HR2.out.ext (by (repeat (first | exact Ext.rfl' _ | assumption | refine Ext.dr ?_ | refine Ext.drN ?_ _ | refine Ext.al ?_ _ | refine Ext.st ?_ (by simp) _ | refine Ext.tr ?_ (by assumption)))))).mono ?_; rintro e w3 ⟨rfl, x3⟩; clear C1)
    | (go_at_call 7; refine (C2.out _ _ (by simp) (HE.out.ext (x2.tr (x3.tr (by (repeat (first | exact Ext.rfl' _ | assumption | refine Ext.dr ?_ | refine Ext.drN ?_ _ | refine Ext.al ?_ _ | refine Ext.st ?_ (by simp) _ | refine Ext.tr ?_ (by assumption)))))))).mono ?_; rintro e w4 ⟨rfl, x4⟩; clear C2)
    | (go_at_call 7; refine (C3.out _ _ (by simp)).mono ?_; rintro e w5 ⟨rfl, x5⟩; clear C3)
    | (go_at_call 7; refine (C4.out _ _ (by simp)).mono ?_; rintro e w6 ⟨rfl, x6⟩; clear C4)
    | (go_at_call 8; refine (num12_c _ _).mono ?_; rintro e w9 ⟨rfl, rfl⟩)
    | (go_at_call 9; refine (knows12_c _ (HE.out.ext (x2.tr (by (repeat (first | exact Ext.rfl' _ | assumption | refine Ext.dr ?_ | refine Ext.drN ?_ _ | refine Ext.al ?_ _ | refine Ext.st ?_ (by simp) _ | refine Ext.tr ?_ (by assumption))))))).mono ?_; rintro e w7 ⟨rfl, x7⟩))
  go_ret
  exact ⟨rfl, x2.tr (by (repeat (first | exact Ext.rfl' _ | assumption | refine Ext.dr ?_ | refine Ext.drN ?_ _ | refine Ext.al ?_ _ | refine Ext.st ?_ (by simp) _ | refine Ext.tr ?_ (by assumption))))⟩
end Go.Proofs.YtpkgoppfihcpbaaDoor
end
