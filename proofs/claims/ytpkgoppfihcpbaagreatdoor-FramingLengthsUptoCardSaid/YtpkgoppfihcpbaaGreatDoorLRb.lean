/-
Framing's codings: of Transfer-Encoding's values.
-/
import Derived.Test.YtpkgoppfihcpbaaGreatDoorTKa
import Derived.Test.YtpkgoppfihcpbaaGreatDoorFg1
set_option linter.unusedVariables false
set_option linter.unusedSimpArgs false
/-
Framing's codings: of Transfer-Encoding's values.
-/
section
namespace Go.Proofs.YtpkgoppfihcpbaaGreatDoor
open Go.RowKit

theorem toks_one (l : List UInt8) : (toksL l).2 = 0 ∨ ((toksL l).2 = 42 ∧ (toksL l).1 = []) := by
  unfold toksL
  split
  · exact .inl rfl
  · exact .inr ⟨rfl, rfl⟩
theorem codV_bad {vs : List (List UInt8)} {k : Nat} (h : k < vs.length) (he : (toksL vs[k]).2 ≠ 0) : codV vs = 45 := by
  unfold codV
  rw [if_pos]
  exact List.any_eq_true.2 ⟨vs[k], List.getElem_mem h, by simpa using he⟩
theorem codV_good {vs : List (List UInt8)} (h : vs.any (fun v => decide ((toksL v).2 ≠ 0)) = false) : codV vs = if (toksA vs).any (fun c => !(c == chkN)) = true then 46 else if (toksA vs).length ≠ 1 then 45 else 0 := by
  unfold codV
  rw [if_neg (by rw [h]; decide)]
set_option maxRecDepth 100000 in
set_option maxHeartbeats 4000000 in
theorem fCodings_c (vs : List (List UInt8)) (A : Option Addr) (n c : Nat) (hn : n = vs.length) (hv : ∀ v ∈ vs, v.length ≤ 1099511627776) (hT : (toksA vs).length ≤ 1099511627776) (hb : n ≤ 8796093022206) (w : World) (h : Rd w A (sc vs)) :
    Calls Tryz.prog 19 #[.slice A n c] w (Gives (.int .i64 (codV vs)) w) := by
  have HV := Lib.hid hv
  have HN := Lib.hid hn
  have hms : maxLen = 9223372036854775807 := rfl
  obtain ⟨o, ho⟩ : ∃ o : Ow, o = fun _ => 0 := ⟨_, rfl⟩
  have RV := Lib.hid (fun w' o' (t : Stp (fun i => i = 1) w o w' o') => show Rd w' A (sc vs) from h.stp t (fun a _ _ => by rw [ho]; simp))
  have XT := Lib.hid (fun w' o' (t : Stp (fun i => i = 1) w o w' o') => show Ext w w' from t.toExt (fun b hb => by rw [ho]; simp))
  clear hv h ho hn
  go_enter Tryz.func19, Tryz.ntmps19
  go_wp2
  go_loopw [3, 12] (fun v i wr => ∃ (k : Nat) (A1 : Option Addr) (c1 : Nat) (o' : Ow), i = .int .i64 (k : Int) ∧ v = .slice A1 (toksA (vs.take k)).length c1 ∧ k ≤ n ∧ Sl wr o' 1 1 A1 (toksA (vs.take k)).length c1 (sc (toksA (vs.take k))) ∧ (A1 = none → c1 = 0) ∧ Stp (fun i => i = 1) w o wr o' ∧ Hid ((vs.take k).any (fun v => decide ((toksL v).2 ≠ 0)) = false)) (fun _ i _ => n - (intOf i).toNat)
  case atStart => exact ⟨0, none, 0, o, rfl, by simp [toksA], Nat.zero_le _, Sl.nil_ _ _ _ _ _, fun _ => rfl, Stp.rfl', Lib.hid rfl⟩
  case round =>
    obtain ⟨k, A1, c1, o', rfl, rfl, hk, hsl, hn1, hst, HANY⟩ := hrel
    have HS := Lib.hid hsl
    have HN1 := Lib.hid hn1
    have HST := Lib.hid hst
    by_cases hlt : k < n
    · have hlt' : k < vs.length := by rw [← HN.out]; exact hlt
      obtain ⟨g, f, hA, hc⟩ := (RV.out wr o' hst).txt (j := k) hlt'
      have hk0 : (0 : Int) ≤ (k : Int) := by omega
      have hk1 : (k : Int) < (n : Int) := by omega
      have CS := fun w => fTokens_c vs[k] (HV.out _ (List.getElem_mem hlt')) w
      have PT := Lib.hid (toksA_take vs k hlt')
      have hpl := toksA_le vs (k + 1)
      rw [PT.out, List.length_append] at hpl
      have HLE := Lib.hid (fun (he : (toksL vs[k]).2 ≠ 0) => codV_bad (vs := vs) hlt' he)
      have HA2 := Lib.hid (fun (hh : (toksL vs[k]).2 = 0) => show (vs.take (k + 1)).any (fun v => decide ((toksL v).2 ≠ 0)) = false from by
        rw [List.take_succ_eq_append_getElem hlt', List.any_append, HANY.out]; simpa using hh)
      have ho1 := toks_one vs[k]
      obtain ⟨sv, hsv⟩ : ∃ q, q = str vs[k] := ⟨_, rfl⟩
      obtain ⟨⟨ps, te⟩, hps⟩ : ∃ q, q = toksL vs[k] := ⟨_, rfl⟩
      obtain ⟨acc, hacc⟩ : ∃ q, q = toksA (vs.take k) := ⟨_, rfl⟩
      rw [← hsv] at hc CS
      rw [← hps] at CS PT HLE HA2 hpl ho1
      unfold IsTks at CS
      dsimp only at CS PT HLE HA2 hpl ho1
      rw [← hacc] at HS PT hpl ⊢
      have CS := Lib.hid CS
      clear hsv hps hacc hsl hn1 hst hlt'
      subst hA
      obtain ⟨R, hR⟩ : ∃ R, R = codV vs := ⟨_, rfl⟩
      rw [← hR] at HLE ⊢
      have HRR := Lib.hid hR
      clear hR
      rcases ho1 with rfl | ⟨rfl, rfl⟩
      · have HPE := Lib.hid (HA2.out rfl)
        clear HA2 HLE
        go_wp2_with (first
          | (go_at_call 33; refine (CS.out _).mono ?_; rintro e w2 ⟨v, rfl, ⟨A2, c2, rfl, hrd2⟩, hx2⟩; have HX2 := Lib.hid hx2; have HRD2 := Lib.hid hrd2; clear hrd2)
          | (at_builtin; refine wpL_put slt_str (.tmp 23) (.tmp 24) rfl rfl rfl rfl (HS.out.ext HX2.out) HN1.out (Sl.src Tryz.underlying47 HRD2.out (by rw [sc_len]; omega) (by omega) (sc_oneF ps) c2) (by omega) (by omega) ?_; intro A7 c7 w7 o7 hs7 hst7 hn7))
        go_roundw
        case rel => exact ⟨k + 1, A7, c7, o7, by go_num, by rw [PT.out, List.length_append], by omega, by rw [PT.out, List.length_append, sc_app]; exact hs7, hn7, (HST.out.tr (Stp.ext HX2.out)).tr hst7, HPE⟩
        case measure => simp [intOf]; omega
      · have HL := Lib.hid (HLE.out (by decide))
        clear HLE HA2
        go_wp2_with (first
          | (go_at_call 33; refine (CS.out _).mono ?_; rintro e w2 ⟨v, rfl, ⟨A2, c2, rfl, hrd2⟩, hx2⟩))
        go_ret
        rw [HL.out]
        exact ⟨rfl, (XT.out wr o' HST.out).tr (by (repeat (first | exact Ext.rfl' _ | assumption | refine Ext.dr ?_ | refine Ext.drN ?_ _ | refine Ext.al ?_ _ | refine Ext.st ?_ (by simp) _ | refine Ext.tr ?_ (by assumption))))⟩
    · have htk : vs.take k = vs := List.take_of_length_le (by have := HN.out; omega)
      rw [htk] at HS HANY ⊢
      have HLV := Lib.hid (codV_good HANY.out)
      obtain ⟨all, hall⟩ : ∃ q, q = toksA vs := ⟨_, rfl⟩
      rw [← hall] at HS hT HLV ⊢
      have RD := Lib.hid HS.out.rd
      obtain ⟨R, hR⟩ : ∃ R, R = codV vs := ⟨_, rfl⟩
      rw [← hR] at HLV ⊢
      have HRE := Lib.hid hR
      obtain ⟨T, hTT⟩ : ∃ T, T = all.length := ⟨_, rfl⟩
      rw [← hTT] at hT ⊢
      have HTT := Lib.hid hTT
      have XW := Lib.hid (XT.out wr o' HST.out)
      have hk1 : ¬ (k : Int) < (n : Int) := by omega
      clear hall hTT hR htk hsl hn1 hst HN1 HS HANY
      obtain ⟨W1, hW1⟩ : ∃ W, W = wr := ⟨_, rfl⟩
      subst hW1
      go_wp2
      go_loopw [29] (fun i w2 => ∃ t : Nat, i = .int .i64 (t : Int) ∧ t ≤ T ∧ W1 = w2 ∧ Hid (∀ s ∈ all.take t, s = chkN)) (fun i _ => T - (intOf i).toNat)
      case atStart => exact ⟨0, rfl, Nat.zero_le _, rfl, Lib.hid (by simp)⟩
      case round =>
        obtain ⟨t, rfl, ht, rfl, HBG⟩ := hrel
        by_cases hlt : t < T
        · have hlt' : t < all.length := by rw [← HTT.out]; exact hlt
          obtain ⟨g', f', rfl, hc⟩ := (RD.out).txt (j := t) hlt'
          have hk0 : (0 : Int) ≤ (t : Int) := by omega
          have hk1' : (t : Int) < (T : Int) := by omega
          have HM := Lib.hid (show all[t] ∈ all from List.getElem_mem hlt')
          have HTK := Lib.hid (show all.take (t + 1) = all.take t ++ [all[t]] from List.take_succ_eq_append_getElem hlt')
          obtain ⟨x, hxx⟩ : ∃ q, q = all[t] := ⟨_, rfl⟩
          rw [← hxx] at hc HM HTK
          clear hxx hlt'
          by_cases h1 : x = chkN
          · have hx1 : str x = ⟨#[99, 104, 117, 110, 107, 101, 100]⟩ := by rw [h1]; rfl
            rw [hx1] at hc
            have HB2 := Lib.hid (show ∀ s ∈ all.take (t + 1), s = chkN from by
              intro s hs
              rw [HTK.out] at hs
              rcases List.mem_append.1 hs with h | h
              · exact HBG.out s h
              · rw [List.mem_singleton.1 h, h1])
            clear h1 hx1
            go_wp2
            go_roundw
            case rel => exact ⟨t + 1, by go_num, by omega, (by first | rfl | trivial), HB2⟩
            case measure => simp [intOf]; omega
          · have HL := Lib.hid (show R = 46 from by rw [HLV.out, if_pos (List.any_eq_true.2 ⟨x, HM.out, by simpa using h1⟩)])
            obtain ⟨sx, hsx⟩ : ∃ q, q = str x := ⟨_, rfl⟩
            have e2 : (sx.toList == [99, 104, 117, 110, 107, 101, 100]) = false := by rw [beq_eq_false_iff_ne, hsx, Lib.toList_data]; exact h1
            have e3 : ¬ sx.toList = [99, 104, 117, 110, 107, 101, 100] := by rw [hsx, Lib.toList_data]; exact h1
            rw [← hsx] at hc
            clear h1 hsx
            go_wp2
            go_ret
            first | rw [HL.out] | rw [← HRE.out, HL.out]
            exact ⟨rfl, XW.out⟩
        · have hkt : t = T := by omega
          subst hkt
          have HNB := Lib.hid (show all.any (fun c => !(c == chkN)) = false from by
            rw [List.any_eq_false]
            intro s hs
            rw [HBG.out s (by rw [List.take_of_length_le (by have := HTT.out; omega)]; exact hs)]; decide)
          have HLW := Lib.hid (show R = if t ≠ 1 then 45 else 0 from by rw [HLV.out, if_neg (by rw [HNB.out]; decide), HTT.out])
          by_cases h1 : t = 1
          · have HL := Lib.hid (show R = 0 from by rw [HLW.out, if_neg (by simp [h1])])
            subst h1
            go_wp2
            go_ret
            first | rw [HL.out] | rw [← HRE.out, HL.out]
            exact ⟨rfl, XW.out⟩
          · have HL := Lib.hid (show R = 45 from by rw [HLW.out, if_pos h1])
            have d1 : ((t : Int) != 1) = true := by rw [bne_iff_ne]; omega
            clear h1
            go_wp2
            go_ret
            first | rw [HL.out] | rw [← HRE.out, HL.out]
            exact ⟨rfl, XW.out⟩
end Go.Proofs.YtpkgoppfihcpbaaGreatDoor
end

/-
The reference's list of tokens.
-/
section
namespace Go.Proofs.YtpkgoppfihcpbaaGreatDoor
open Go.RowKit

theorem piece_len (sep : UInt8) : ∀ (l q : List UInt8), q ∈ pieces sep l → q.length ≤ l.length
  | [], q, h => by simp only [pieces, List.mem_singleton] at h; rw [h]; exact Nat.le_refl _
  | b :: t, q, h => by
    unfold pieces at h
    split at h
    · rcases List.mem_cons.1 h with rfl | h
      · exact Nat.zero_le _
      · exact Nat.le_succ_of_le (piece_len sep t q h)
    · split at h
      · simp only [List.mem_singleton] at h
        rw [h]; simp
      · rename_i p ps he
        rcases List.mem_cons.1 h with rfl | h
        · have := piece_len sep t p (by rw [he]; exact List.mem_cons_self)
          simp only [List.length_cons]; omega
        · exact Nat.le_succ_of_le (piece_len sep t q (by rw [he]; exact List.mem_cons_of_mem _ h))
theorem Rd.txtR {w : World} {B : Option Addr} {l : List (List UInt8)} (h : Rd w B (sc l)) {j : Nat} (hj : j < l.length) : ∃ g f, B = some ⟨g, f, none⟩ ∧ w.cell? ⟨g, f + j, none⟩ = some (.string (str l[j])) := by
  obtain ⟨g, f, hB, _, hc⟩ := h.at_ (by rw [sc_len]; omega)
  exact ⟨g, f, hB, hc j _ (sc_at l j hj)⟩
set_option maxRecDepth 100000 in
set_option maxHeartbeats 4000000 in
theorem rfElems_c (l : List UInt8) (hs : l.length ≤ 1099511627776) (w : World) :
    Calls Tryz.prog 52 #[.string (str l), .bool false, .bool false] w (Ret (IsSlS (splitL 44 l)) w) := by
  have hms : maxLen = 9223372036854775807 := rfl
  have htot := splitL_len 44 l
  go_enter Tryz.func52, Tryz.ntmps52
  go_wp2
  go_loopw [7, 8, 9, 10] (fun v iv f i wr => ∃ acc fn k, iv = .bool false ∧ f = .int .i64 (fn : Nat) ∧ i = .int .i64 (k : Nat) ∧ SplAt 44 l acc fn k ∧ wr.ownsRow w.heap.size 9 1 v acc.length (sc acc) ∧ Ext w wr) (fun _ _ _ i _ => l.length + 1 - (intOf i).toNat)
  case atStart => exact ⟨[], 0, 0, rfl, rfl, rfl, .inl ⟨Nat.zero_le _, Nat.le_refl _, fun j _ h => by omega, rfl⟩, World.ownsRow_nil _ _ _ _, Ext.rfl' _⟩
  case round =>
    obtain ⟨acc, f, k, rfl, rfl, rfl, hat, hown, hext⟩ := hrel
    rcases hat with ⟨hk, hf, hno, hinv⟩ | ⟨rfl, hinv⟩
    · have hacc : acc.length ≤ l.length + 1 := by
        have := congrArg List.length hinv; rw [List.length_append] at this; omega
      have HI := Lib.hid hinv
      have HN := Lib.hid hno
      have HO := Lib.hid hown
      clear hinv hown hno
      by_cases hlt : k < l.length
      · have k0 : (k : Int) ≤ (l.length : Int) := by omega
        have k1 : (k : Int) < (l.length : Int) := by omega
        by_cases hc : l[k] = 44
        · have HS := Lib.hid (splitL_at 44 l f k hf (by rw [List.getElem?_eq_getElem hlt, hc]) HN.out)
          have b1 : ((l[k].toNat : Int) != 44) = false := by rw [hc]; rfl
          have b3 : min (k : Int) (l.length : Int) = (k : Int) := by omega
          clear hc
          by_cases hq : trimL ((l.take k).drop f) = []
          · have HQ := Lib.hid hq
            clear hq
            go_wp2_with (first
              | (go_at_call 53; refine (rTrim_c ((l.take k).drop f) (by simp only [List.length_drop, List.length_take]; omega) _).mono ?_; rintro e w2 ⟨rfl, hx2⟩; rw [HQ.out]))
            go_roundw
            case rel => exact ⟨acc, k + 1, k + 1, rfl, by try go_num, by try go_num, by have h1 := HS.out; rw [if_pos HQ.out] at h1; (exact .inl ⟨by omega, Nat.le_refl _, fun j h1 h2 => by omega, by rw [HI.out, h1]; simp⟩), own_ext HO.out (by (repeat (first | exact Ext.rfl' _ | assumption | refine Ext.dr ?_ | refine Ext.drN ?_ _ | refine Ext.al ?_ _ | refine Ext.st ?_ (by simp) _ | refine Ext.tr ?_ (by assumption)))), by (repeat (first | exact Ext.rfl' _ | assumption | refine Ext.dr ?_ | refine Ext.drN ?_ _ | refine Ext.al ?_ _ | refine Ext.st ?_ (by simp) _ | refine Ext.tr ?_ (by assumption)))⟩
            case measure => simp [intOf] <;> omega
          · obtain ⟨q, hq0⟩ : ∃ q, q = trimL ((l.take k).drop f) := ⟨_, rfl⟩
            have hqn : q.isEmpty = false := by
              cases hh : q with
              | nil => exact absurd (hq0.symm.trans hh) hq
              | cons _ _ => rfl
            have HQ := Lib.hid hq
            have HQ0 := Lib.hid hq0
            clear hq hq0
            go_wp2_with (first
              | (go_at_call 53; refine (rTrim_c ((l.take k).drop f) (by simp only [List.length_drop, List.length_take]; omega) _).mono ?_; rintro e w2 ⟨rfl, hx2⟩; rw [← HQ0.out])
              | (at_builtin; refine wpL_app slt_str (.tmp 78) (.tmp 80) rfl rfl rfl rfl (Ext.al (by (repeat (first | exact Ext.rfl' _ | assumption | refine Ext.dr ?_ | refine Ext.drN ?_ _ | refine Ext.al ?_ _ | refine Ext.st ?_ (by simp) _ | refine Ext.tr ?_ (by assumption)))) _) ((own_ext HO.out (by (repeat (first | exact Ext.rfl' _ | assumption | refine Ext.dr ?_ | refine Ext.drN ?_ _ | refine Ext.al ?_ _ | refine Ext.st ?_ (by simp) _ | refine Ext.tr ?_ (by assumption))))).alloc _) (by rfl) (new_cells w2 #[.string (str q)] 9) (by simp [Value.oneCell']) (by omega) (by simp only [maxLen]; omega) ?_; intro v' w' hown' hext' hgg; clear hgg))
            go_roundw
            case rel => exact ⟨acc ++ [q], k + 1, k + 1, rfl, by try go_num, by try go_num, by have h1 := HS.out; rw [if_neg HQ.out, ← HQ0.out] at h1; (exact .inl ⟨by omega, Nat.le_refl _, fun j h1 h2 => by omega, by rw [HI.out, h1]; simp⟩), by rw [sc_app, List.length_append]; exact hown', hext'⟩
            case measure => simp [intOf] <;> omega
        · have hb : l[k].toNat ≠ 44 := fun h => hc (UInt8.toNat_inj.1 h)
          have b1 : ((l[k].toNat : Int) != 44) = true := by rw [bne_iff_ne]; omega
          have HC := Lib.hid hc
          clear hc hb
          go_wp2
          all_goals go_roundw
          case rel =>
            refine ⟨acc, f, k + 1, rfl, rfl, by go_num, .inl ⟨by omega, by omega, fun j h1 h2 => ?_, HI.out⟩, HO.out, hext⟩
            rcases Nat.lt_or_ge j k with h | h
            · exact HN.out j h1 h
            · obtain rfl : j = k := by omega
              rw [List.getElem?_eq_getElem hlt]
              intro e
              exact HC.out (Option.some.inj e)
          case measure => simp [intOf]; omega
      · obtain rfl : k = l.length := by omega
        have HS := Lib.hid (splitL_end 44 l f HN.out)
        have k1 : ¬ (l.length : Int) < (l.length : Int) := by omega
        by_cases hq : trimL (l.drop f) = []
        · have HQ := Lib.hid hq
          clear hq
          go_wp2_with (first
            | (go_at_call 53; refine (rTrim_c (l.drop f) (by simp only [List.length_drop, List.length_take]; omega) _).mono ?_; rintro e w2 ⟨rfl, hx2⟩; rw [HQ.out]))
          go_roundw
          case rel => exact ⟨acc, l.length + 1, l.length + 1, rfl, by try go_num, by try go_num, by have h1 := HS.out; rw [if_pos HQ.out] at h1; (exact .inr ⟨rfl, by rw [HI.out, h1]; try simp⟩), own_ext HO.out (by (repeat (first | exact Ext.rfl' _ | assumption | refine Ext.dr ?_ | refine Ext.drN ?_ _ | refine Ext.al ?_ _ | refine Ext.st ?_ (by simp) _ | refine Ext.tr ?_ (by assumption)))), by (repeat (first | exact Ext.rfl' _ | assumption | refine Ext.dr ?_ | refine Ext.drN ?_ _ | refine Ext.al ?_ _ | refine Ext.st ?_ (by simp) _ | refine Ext.tr ?_ (by assumption)))⟩
          case measure => simp [intOf] <;> omega
        · obtain ⟨q, hq0⟩ : ∃ q, q = trimL (l.drop f) := ⟨_, rfl⟩
          have hqn : q.isEmpty = false := by
            cases hh : q with
            | nil => exact absurd (hq0.symm.trans hh) hq
            | cons _ _ => rfl
          have HQ := Lib.hid hq
          have HQ0 := Lib.hid hq0
          clear hq hq0
          go_wp2_with (first
            | (go_at_call 53; refine (rTrim_c (l.drop f) (by simp only [List.length_drop, List.length_take]; omega) _).mono ?_; rintro e w2 ⟨rfl, hx2⟩; rw [← HQ0.out])
            | (at_builtin; refine wpL_app slt_str (.tmp 78) (.tmp 80) rfl rfl rfl rfl (Ext.al (by (repeat (first | exact Ext.rfl' _ | assumption | refine Ext.dr ?_ | refine Ext.drN ?_ _ | refine Ext.al ?_ _ | refine Ext.st ?_ (by simp) _ | refine Ext.tr ?_ (by assumption)))) _) ((own_ext HO.out (by (repeat (first | exact Ext.rfl' _ | assumption | refine Ext.dr ?_ | refine Ext.drN ?_ _ | refine Ext.al ?_ _ | refine Ext.st ?_ (by simp) _ | refine Ext.tr ?_ (by assumption))))).alloc _) (by rfl) (new_cells w2 #[.string (str q)] 9) (by simp [Value.oneCell']) (by omega) (by simp only [maxLen]; omega) ?_; intro v' w' hown' hext' hgg; clear hgg))
          go_roundw
          case rel => exact ⟨acc ++ [q], l.length + 1, l.length + 1, rfl, by try go_num, by try go_num, by have h1 := HS.out; rw [if_neg HQ.out, ← HQ0.out] at h1; (exact .inr ⟨rfl, by rw [HI.out, h1]; try simp⟩), by rw [sc_app, List.length_append]; exact hown', hext'⟩
          case measure => simp [intOf] <;> omega
    · have HI := Lib.hid hinv
      clear hinv
      obtain ⟨A', c', rfl, hcc, hcm, hr, _⟩ := Rd.of_own hown
      clear hown
      go_wp2
      go_ret
      exact Ret.is rfl (IsSlS.mk (by rw [HI.out]) (by rw [HI.out]; exact hr) hcm) hext
theorem rToken_t (l : List UInt8) (hs : l.length ≤ maxLen) (w : World) : Calls Tryz.prog 28 #[.string (str l)] w (Gives (.bool (tokL l)) w) := by
  have h := rToken_c (str l) (by rw [str_size]; exact hs) w
  rw [str_data, str_size] at h
  exact h
theorem keep_len {l p : List UInt8} (h : p ∈ splitL 44 l) : p.length ≤ l.length := by
  unfold splitL keepS at h
  rw [List.mem_filter] at h
  obtain ⟨q, hq, rfl⟩ := List.mem_map.1 h.1
  exact Nat.le_trans (trim_len q) (piece_len 44 l q hq)
/-- What Tokens hands back. -/
def IsTkR (r : List (List UInt8) × Int) (v : Value) (w : World) : Prop := ∃ A c, v = .tuple #[.slice A r.1.length c, .int .i64 r.2] ∧ Rd w A (sc r.1)
set_option maxRecDepth 100000 in
set_option maxHeartbeats 4000000 in
theorem rfToks_c (s : List UInt8) (hs : s.length ≤ 1099511627776) (w : World) :
    Calls Tryz.prog 37 #[.string (str s)] w (Ret (IsTkR (toksL s)) w) := by
  have hms : maxLen = 9223372036854775807 := rfl
  have CE := Lib.hid (fun w => rfElems_c s hs w)
  obtain ⟨ps, hps⟩ : ∃ ps, ps = splitL 44 s := ⟨_, rfl⟩
  have hpl : ps.length ≤ 1099511627777 := by rw [hps]; have := splitL_len 44 s; omega
  have HPL := Lib.hid (show ∀ p ∈ ps, p.length ≤ 1099511627776 from fun p hp => by rw [hps] at hp; exact Nat.le_trans (keep_len hp) hs)
  have HR := Lib.hid (show toksL s = if ps.all tokL = true then (ps.map lowL, 0) else ([], 42) from by rw [hps]; rfl)
  unfold IsSlS at CE
  rw [← hps] at CE
  obtain ⟨R, hR⟩ : ∃ R, R = toksL s := ⟨_, rfl⟩
  rw [← hR] at HR ⊢
  obtain ⟨N, hN⟩ : ∃ N, N = ps.length := ⟨_, rfl⟩
  rw [← hN] at CE hpl
  have HN := Lib.hid hN
  clear hps hR hs hN
  go_enter Tryz.func37, Tryz.ntmps37
  go_wp2_with (first
    | (go_at_call 52; refine (CE.out _).mono ?_; rintro e w1 ⟨v, rfl, ⟨A0, c0, rfl, hrd, hc0⟩, hx1⟩; have HRD := Lib.hid hrd; clear hrd))
  obtain ⟨W1, hW1⟩ : ∃ W1, W1 = w1 := ⟨_, rfl⟩
  subst hW1
  go_loopw [5, 6] (fun v i wr => ∃ k : Nat, i = .int .i64 (k : Int) ∧ k ≤ N ∧ wr.ownsRow W1.heap.size 9 1 v k (sc ((ps.take k).map lowL)) ∧ (∀ p ∈ ps.take k, tokL p = true) ∧ Ext W1 wr) (fun _ i _ => N - (intOf i).toNat)
  case atStart => exact ⟨0, rfl, Nat.zero_le _, World.ownsRow_nil _ _ _ _, by simp, Ext.rfl' _⟩
  case round =>
    obtain ⟨k, rfl, hk, hown, hall, hext⟩ := hrel
    have HO := Lib.hid hown
    have HALL := Lib.hid hall
    clear hown hall
    by_cases hlt : k < N
    · have hlt' : k < ps.length := by rw [← HN.out]; exact hlt
      obtain ⟨g, f, rfl, hc⟩ := (HRD.out.ext hext).txtR (j := k) hlt'
      obtain ⟨_, _, hA, hc9⟩ := HRD.out.txtR (j := k) hlt'
      cases hA
      have hk0 : (0 : Int) ≤ (k : Int) := by omega
      have hk1 : (k : Int) < (N : Int) := by omega
      have CT := fun w => rToken_t ps[k] (by have := HPL.out _ (List.getElem_mem hlt'); omega) w
      have CL := fun w => rLower_c ps[k] (by have := HPL.out _ (List.getElem_mem hlt'); omega) w
      have HTK := Lib.hid (show ps.take (k + 1) = ps.take k ++ [ps[k]] from List.take_succ_eq_append_getElem hlt')
      have HM := Lib.hid (show ps[k] ∈ ps from List.getElem_mem hlt')
      have hcx := fun w' (e : Ext W1 w') => (e.cell (lt_of_cell hc9)).trans hc9
      obtain ⟨x, hx⟩ : ∃ x, x = ps[k] := ⟨_, rfl⟩
      rw [← hx] at hc CT CL HTK HM hcx
      obtain ⟨b, hb⟩ : ∃ b, b = tokL x := ⟨_, rfl⟩
      rw [← hb] at CT
      obtain ⟨sx, hsx⟩ : ∃ z, z = str x := ⟨_, rfl⟩
      obtain ⟨sl, hsl⟩ : ∃ z, z = str (lowL x) := ⟨_, rfl⟩
      rw [← hsx] at hc CT CL hcx
      rw [← hsl] at CL
      have HCX := Lib.hid hcx
      have CT := Lib.hid CT
      have CL := Lib.hid CL
      have HB := Lib.hid hb
      have HSL := Lib.hid hsl
      clear hx hb hsx hsl hlt' hc9 hcx
      cases b with
      | false =>
        have HV := Lib.hid (show R = ([], 42) from by
          rw [HR.out, if_neg]
          intro h
          rw [List.all_eq_true] at h
          have := h x HM.out
          rw [← HB.out] at this; cases this)
        go_wp2_with (first
          | (go_at_call 28; refine (CT.out _).mono ?_; rintro e w2 ⟨rfl, hx2⟩))
        go_ret2
        rw [HV.out]
        exact Ret.mk ⟨none, 0, rfl, .inl rfl⟩ (hx1.tr (hext.tr (by (repeat (first | exact Ext.rfl' _ | assumption | refine Ext.dr ?_ | refine Ext.drN ?_ _ | refine Ext.al ?_ _ | refine Ext.st ?_ (by simp) _ | refine Ext.tr ?_ (by assumption))))))
      | true =>
        go_wp2_with (first
          | (go_at_call 28; refine (CT.out _).mono ?_; rintro e w2 ⟨rfl, hx2⟩; have hc2 := HCX.out w2 (hext.tr hx2); clear hc)
          | (go_at_call 51; refine (CL.out _).mono ?_; rintro e w3 ⟨rfl, hx3⟩)
          | (at_builtin; refine wpL_app slt_str (.tmp 21) (.tmp 27) rfl rfl rfl rfl (Ext.al (hext.tr (by (repeat (first | exact Ext.rfl' _ | assumption | refine Ext.dr ?_ | refine Ext.drN ?_ _ | refine Ext.al ?_ _ | refine Ext.st ?_ (by simp) _ | refine Ext.tr ?_ (by assumption))))) _) ((own_ext HO.out (by (repeat (first | exact Ext.rfl' _ | assumption | refine Ext.dr ?_ | refine Ext.drN ?_ _ | refine Ext.al ?_ _ | refine Ext.st ?_ (by simp) _ | refine Ext.tr ?_ (by assumption))))).alloc _) (by rfl) (new_cells w3 #[.string sl] 9) (by simp [Value.oneCell']) (by omega) (by simp only [maxLen]; omega) ?_; intro v' w' hown' hext' hgg; clear hgg))
        go_roundw
        case rel => exact ⟨k + 1, by go_num, by omega, by rw [HTK.out, List.map_append, sc_app]; show World.ownsRow _ _ _ _ _ _ (_ ++ [.string (str (lowL x))]); rw [← HSL.out]; exact hown', fun p hp => (by
          rw [HTK.out] at hp
          rcases List.mem_append.1 hp with h | h
          · exact HALL.out p h
          · rw [List.mem_singleton.1 h]; exact HB.out.symm), hext'⟩
        case measure => simp [intOf]; omega
    · obtain rfl : k = N := by omega
      have k1 : ¬ (k : Int) < (k : Int) := by omega
      have htk : ps.take k = ps := List.take_of_length_le (by rw [HN.out]; exact Nat.le_refl _)
      have HV := Lib.hid (show R = (ps.map lowL, 0) from by
        rw [HR.out, if_pos]
        rw [List.all_eq_true]
        intro p hp
        exact HALL.out p (by rw [htk]; exact hp))
      have hown := HO.out
      rw [htk] at hown
      obtain ⟨A', c', rfl, hcc, hcm, hr, _⟩ := Rd.of_own hown
      clear hown htk
      go_wp2
      go_ret2
      rw [HV.out]
      exact Ret.mk ⟨A', c', by rw [List.length_map, ← HN.out]; rfl, hr⟩ (hx1.tr hext)
end Go.Proofs.YtpkgoppfihcpbaaGreatDoor
end

/-
The reference's codings: of Transfer-Encoding's values.
-/
section
namespace Go.Proofs.YtpkgoppfihcpbaaGreatDoor
open Go.RowKit

set_option maxRecDepth 100000 in
set_option maxHeartbeats 4000000 in
theorem rfCodings_c (vs : List (List UInt8)) (A : Option Addr) (n c : Nat) (hn : n = vs.length) (hv : ∀ v ∈ vs, v.length ≤ 1099511627776) (hT : (toksA vs).length ≤ 1099511627776) (hb : n ≤ 8796093022206) (w : World) (h : Rd w A (sc vs)) :
    Calls Tryz.prog 22 #[.slice A n c] w (Gives (.int .i64 (codV vs)) w) := by
  have HV := Lib.hid hv
  have HN := Lib.hid hn
  have hms : maxLen = 9223372036854775807 := rfl
  obtain ⟨o, ho⟩ : ∃ o : Ow, o = fun _ => 0 := ⟨_, rfl⟩
  have RV := Lib.hid (fun w' o' (t : Stp (fun i => i = 1) w o w' o') => show Rd w' A (sc vs) from h.stp t (fun a _ _ => by rw [ho]; simp))
  have XT := Lib.hid (fun w' o' (t : Stp (fun i => i = 1) w o w' o') => show Ext w w' from t.toExt (fun b hb => by rw [ho]; simp))
  clear hv h ho hn
  go_enter Tryz.func22, Tryz.ntmps22
  go_wp2
  go_loopw [3, 4] (fun v i wr => ∃ (k : Nat) (A1 : Option Addr) (c1 : Nat) (o' : Ow), i = .int .i64 (k : Int) ∧ v = .slice A1 (toksA (vs.take k)).length c1 ∧ k ≤ n ∧ Sl wr o' 1 1 A1 (toksA (vs.take k)).length c1 (sc (toksA (vs.take k))) ∧ (A1 = none → c1 = 0) ∧ Stp (fun i => i = 1) w o wr o' ∧ Hid ((vs.take k).any (fun v => decide ((toksL v).2 ≠ 0)) = false)) (fun _ i _ => n - (intOf i).toNat)
  case atStart => exact ⟨0, none, 0, o, rfl, by simp [toksA], Nat.zero_le _, Sl.nil_ _ _ _ _ _, fun _ => rfl, Stp.rfl', Lib.hid rfl⟩
  case round =>
    obtain ⟨k, A1, c1, o', rfl, rfl, hk, hsl, hn1, hst, HANY⟩ := hrel
    have HS := Lib.hid hsl
    have HN1 := Lib.hid hn1
    have HST := Lib.hid hst
    by_cases hlt : k < n
    · have hlt' : k < vs.length := by rw [← HN.out]; exact hlt
      obtain ⟨g, f, hA, hc⟩ := (RV.out wr o' hst).txt (j := k) hlt'
      have hk0 : (0 : Int) ≤ (k : Int) := by omega
      have hk1 : (k : Int) < (n : Int) := by omega
      have CS := fun w => rfToks_c vs[k] (HV.out _ (List.getElem_mem hlt')) w
      have PT := Lib.hid (toksA_take vs k hlt')
      have hpl := toksA_le vs (k + 1)
      rw [PT.out, List.length_append] at hpl
      have HLE := Lib.hid (fun (he : (toksL vs[k]).2 ≠ 0) => codV_bad (vs := vs) hlt' he)
      have HA2 := Lib.hid (fun (hh : (toksL vs[k]).2 = 0) => show (vs.take (k + 1)).any (fun v => decide ((toksL v).2 ≠ 0)) = false from by
        rw [List.take_succ_eq_append_getElem hlt', List.any_append, HANY.out]; simpa using hh)
      have ho1 := toks_one vs[k]
      obtain ⟨sv, hsv⟩ : ∃ q, q = str vs[k] := ⟨_, rfl⟩
      obtain ⟨⟨ps, te⟩, hps⟩ : ∃ q, q = toksL vs[k] := ⟨_, rfl⟩
      obtain ⟨acc, hacc⟩ : ∃ q, q = toksA (vs.take k) := ⟨_, rfl⟩
      rw [← hsv] at hc CS
      rw [← hps] at CS PT HLE HA2 hpl ho1
      unfold IsTkR at CS
      dsimp only at CS PT HLE HA2 hpl ho1
      rw [← hacc] at HS PT hpl ⊢
      have CS := Lib.hid CS
      clear hsv hps hacc hsl hn1 hst hlt'
      subst hA
      obtain ⟨R, hR⟩ : ∃ R, R = codV vs := ⟨_, rfl⟩
      rw [← hR] at HLE ⊢
      have HRR := Lib.hid hR
      clear hR
      rcases ho1 with rfl | ⟨rfl, rfl⟩
      · have HPE := Lib.hid (HA2.out rfl)
        clear HA2 HLE
        go_wp2_with (first
          | (go_at_call 37; refine (CS.out _).mono ?_; rintro e w2 ⟨v, rfl, ⟨A2, c2, rfl, hrd2⟩, hx2⟩; have HX2 := Lib.hid hx2; have HRD2 := Lib.hid hrd2; clear hrd2)
          | (at_builtin; refine wpL_put slt_str (.tmp 24) (.tmp 25) rfl rfl rfl rfl (HS.out.ext HX2.out) HN1.out (Sl.src Tryz.underlying47 HRD2.out (by rw [sc_len]; omega) (by omega) (sc_oneF ps) c2) (by omega) (by omega) ?_; intro A7 c7 w7 o7 hs7 hst7 hn7))
        go_roundw
        case rel => exact ⟨k + 1, A7, c7, o7, by go_num, by rw [PT.out, List.length_append], by omega, by rw [PT.out, List.length_append, sc_app]; exact hs7, hn7, (HST.out.tr (Stp.ext HX2.out)).tr hst7, HPE⟩
        case measure => simp [intOf]; omega
      · have HL := Lib.hid (HLE.out (by decide))
        clear HLE HA2
        go_wp2_with (first
          | (go_at_call 37; refine (CS.out _).mono ?_; rintro e w2 ⟨v, rfl, ⟨A2, c2, rfl, hrd2⟩, hx2⟩))
        go_ret
        rw [HL.out]
        exact ⟨rfl, (XT.out wr o' HST.out).tr (by (repeat (first | exact Ext.rfl' _ | assumption | refine Ext.dr ?_ | refine Ext.drN ?_ _ | refine Ext.al ?_ _ | refine Ext.st ?_ (by simp) _ | refine Ext.tr ?_ (by assumption))))⟩
    · have htk : vs.take k = vs := List.take_of_length_le (by have := HN.out; omega)
      rw [htk] at HS HANY ⊢
      have HLV := Lib.hid (codV_good HANY.out)
      obtain ⟨all, hall⟩ : ∃ q, q = toksA vs := ⟨_, rfl⟩
      rw [← hall] at HS hT HLV ⊢
      have RD := Lib.hid HS.out.rd
      obtain ⟨R, hR⟩ : ∃ R, R = codV vs := ⟨_, rfl⟩
      rw [← hR] at HLV ⊢
      have HRE := Lib.hid hR
      obtain ⟨T, hTT⟩ : ∃ T, T = all.length := ⟨_, rfl⟩
      rw [← hTT] at hT ⊢
      have HTT := Lib.hid hTT
      have XW := Lib.hid (XT.out wr o' HST.out)
      have hk1 : ¬ (k : Int) < (n : Int) := by omega
      clear hall hTT hR htk hsl hn1 hst HN1 HS HANY
      obtain ⟨W1, hW1⟩ : ∃ W, W = wr := ⟨_, rfl⟩
      subst hW1
      by_cases hT0 : T = 0
      · have HL := Lib.hid (show R = 45 from by
          rw [HLV.out, if_neg (by
            have : all = [] := List.eq_nil_of_length_eq_zero (by rw [← HTT.out]; exact hT0)
            rw [this]; decide), if_pos (by rw [← HTT.out, hT0]; decide)])
        subst hT0
        go_wp2
        go_ret
        first | rw [HL.out] | rw [← HRE.out, HL.out]
        exact ⟨rfl, XW.out⟩
      have dT : ((T : Int) == 0) = false := by rw [beq_eq_false_iff_ne]; omega
      go_wp2
      go_loopw [7] (fun i w2 => ∃ t : Nat, i = .int .i64 (t : Int) ∧ t ≤ T ∧ W1 = w2 ∧ Hid (∀ s ∈ all.take t, s = chkN)) (fun i _ => T - (intOf i).toNat)
      case atStart => exact ⟨0, rfl, Nat.zero_le _, rfl, Lib.hid (by simp)⟩
      case round =>
        obtain ⟨t, rfl, ht, rfl, HBG⟩ := hrel
        by_cases hlt : t < T
        · have hlt' : t < all.length := by rw [← HTT.out]; exact hlt
          obtain ⟨g', f', rfl, hc⟩ := (RD.out).txt (j := t) hlt'
          have hk0 : (0 : Int) ≤ (t : Int) := by omega
          have hk1' : (t : Int) < (T : Int) := by omega
          have HM := Lib.hid (show all[t] ∈ all from List.getElem_mem hlt')
          have HTK := Lib.hid (show all.take (t + 1) = all.take t ++ [all[t]] from List.take_succ_eq_append_getElem hlt')
          obtain ⟨x, hxx⟩ : ∃ q, q = all[t] := ⟨_, rfl⟩
          rw [← hxx] at hc HM HTK
          clear hxx hlt'
          by_cases h1 : x = chkN
          · have hx1 : str x = ⟨#[99, 104, 117, 110, 107, 101, 100]⟩ := by rw [h1]; rfl
            rw [hx1] at hc
            have HB2 := Lib.hid (show ∀ s ∈ all.take (t + 1), s = chkN from by
              intro s hs
              rw [HTK.out] at hs
              rcases List.mem_append.1 hs with h | h
              · exact HBG.out s h
              · rw [List.mem_singleton.1 h, h1])
            clear h1 hx1
            go_wp2
            go_roundw
            case rel => exact ⟨t + 1, by go_num, by omega, (by first | rfl | trivial), HB2⟩
            case measure => simp [intOf]; omega
          · have HL := Lib.hid (show R = 46 from by rw [HLV.out, if_pos (List.any_eq_true.2 ⟨x, HM.out, by simpa using h1⟩)])
            obtain ⟨sx, hsx⟩ : ∃ q, q = str x := ⟨_, rfl⟩
            have e2 : (sx.toList == [99, 104, 117, 110, 107, 101, 100]) = false := by rw [beq_eq_false_iff_ne, hsx, Lib.toList_data]; exact h1
            have e3 : ¬ sx.toList = [99, 104, 117, 110, 107, 101, 100] := by rw [hsx, Lib.toList_data]; exact h1
            rw [← hsx] at hc
            clear h1 hsx
            go_wp2
            go_ret
            first | rw [HL.out] | rw [← HRE.out, HL.out]
            exact ⟨rfl, XW.out⟩
        · have hkt : t = T := by omega
          subst hkt
          have HNB := Lib.hid (show all.any (fun c => !(c == chkN)) = false from by
            rw [List.any_eq_false]
            intro s hs
            rw [HBG.out s (by rw [List.take_of_length_le (by have := HTT.out; omega)]; exact hs)]; decide)
          have HLW := Lib.hid (show R = if t ≠ 1 then 45 else 0 from by rw [HLV.out, if_neg (by rw [HNB.out]; decide), HTT.out])
          by_cases h1 : t = 1
          · have HL := Lib.hid (show R = 0 from by rw [HLW.out, if_neg (by simp [h1])])
            subst h1
            go_wp2
            go_ret
            first | rw [HL.out] | rw [← HRE.out, HL.out]
            exact ⟨rfl, XW.out⟩
          · have HL := Lib.hid (show R = 45 from by rw [HLW.out, if_pos h1])
            have d1 : (1 : Int) < (t : Int) := by omega
            clear h1
            go_wp2
            go_ret
            first | rw [HL.out] | rw [← HRE.out, HL.out]
            exact ⟨rfl, XW.out⟩
end Go.Proofs.YtpkgoppfihcpbaaGreatDoor
end

/-
The reference's lengths: of Content-Length's values.
-/
section
namespace Go.Proofs.YtpkgoppfihcpbaaGreatDoor
open Go.RowKit

set_option maxRecDepth 100000 in
set_option maxHeartbeats 4000000 in
theorem rfLengths_c (vs : List (List UInt8)) (A : Option Addr) (n c : Nat) (hn : n = vs.length) (hne : 0 < n) (hv : ∀ v ∈ vs, v.length ≤ 1099511627776) (hT : (partsL vs).length ≤ 1099511627776) (hP : ∀ s ∈ partsL vs, s.length ≤ 140737488355328) (hb : n ≤ 8796093022206) (w : World) (h : Rd w A (sc vs)) :
    Calls Tryz.prog 23 #[.slice A n c] w (Gives (.tuple #[.int .i64 (lenV vs).1, .int .i64 (lenV vs).2]) w) := by
  have HV := Lib.hid hv
  have HP := Lib.hid hP
  have HN := Lib.hid hn
  have HR := Lib.hid h
  have hms : maxLen = 9223372036854775807 := rfl
  obtain ⟨o, ho⟩ : ∃ o : Ow, o = fun _ => 0 := ⟨_, rfl⟩
  have RV := Lib.hid (fun w' o' (t : Stp (fun i => i = 1) w o w' o') => show Rd w' A (sc vs) from h.stp t (fun a _ _ => by rw [ho]; simp))
  have XT := Lib.hid (fun w' o' (t : Stp (fun i => i = 1) w o w' o') => show Ext w w' from t.toExt (fun b hb => by rw [ho]; simp))
  clear hv h ho hn hP
  go_enter Tryz.func23, Tryz.ntmps23
  go_wp2
  go_loopw [4, 5] (fun v i wr => ∃ (k : Nat) (A1 : Option Addr) (c1 : Nat) (o' : Ow), i = .int .i64 (k : Int) ∧ v = .slice A1 (partsL (vs.take k)).length c1 ∧ k ≤ n ∧ Sl wr o' 1 1 A1 (partsL (vs.take k)).length c1 (sc (partsL (vs.take k))) ∧ (A1 = none → c1 = 0) ∧ Stp (fun i => i = 1) w o wr o' ∧ Hid ((vs.take k).any (fun v => (splitL 44 v).isEmpty) = false)) (fun _ i _ => n - (intOf i).toNat)
  case atStart => exact ⟨0, none, 0, o, rfl, by simp [partsL], Nat.zero_le _, Sl.nil_ _ _ _ _ _, fun _ => rfl, Stp.rfl', Lib.hid rfl⟩
  case round =>
    obtain ⟨k, A1, c1, o', rfl, rfl, hk, hsl, hn1, hst, HANY⟩ := hrel
    have HS := Lib.hid hsl
    have HN1 := Lib.hid hn1
    have HST := Lib.hid hst
    by_cases hlt : k < n
    · have hlt' : k < vs.length := by rw [← HN.out]; exact hlt
      obtain ⟨g, f, hA, hc⟩ := (RV.out wr o' hst).txt (j := k) hlt'
      have hk0 : (0 : Int) ≤ (k : Int) := by omega
      have hk1 : (k : Int) < (n : Int) := by omega
      have CS := Lib.hid (fun w => rSplit_c vs[k] 44 (HV.out _ (List.getElem_mem hlt')) w)
      have PT := Lib.hid (parts_take vs k hlt')
      have hpl := parts_le vs (k + 1)
      rw [PT.out, List.length_append] at hpl
      have HLE := Lib.hid (fun (he : splitL 44 vs[k] = []) => lenV_empty (vs := vs) hlt' he)
      have HA2 := Lib.hid (fun (hh : (splitL 44 vs[k]).isEmpty = false) => show (vs.take (k + 1)).any (fun v => (splitL 44 v).isEmpty) = false from by
        rw [List.take_succ_eq_append_getElem hlt', List.any_append, HANY.out]; simpa using hh)
      obtain ⟨sv, hsv⟩ : ∃ q, q = str vs[k] := ⟨_, rfl⟩
      obtain ⟨ps, hps⟩ : ∃ q, q = splitL 44 vs[k] := ⟨_, rfl⟩
      obtain ⟨acc, hacc⟩ : ∃ q, q = partsL (vs.take k) := ⟨_, rfl⟩
      rw [← hsv] at hc CS
      rw [← hps] at CS PT HLE HA2 hpl
      rw [← hacc] at HS PT hpl ⊢
      clear hsv hps hacc hsl hn1 hst hlt'
      subst hA
      obtain ⟨R, hR⟩ : ∃ R, R = lenV vs := ⟨_, rfl⟩
      rw [← hR] at HLE ⊢
      have HRR := Lib.hid hR
      clear hR
      by_cases h0 : ps = []
      · have hle := HLE.out h0
        have HL := Lib.hid hle
        subst h0
        clear hle hpl
        go_wp2_with (first
          | (go_at_call 38; refine (CS.out _).mono ?_; rintro e w2 ⟨v, rfl, ⟨A2, c2, rfl, hrd2, hc2⟩, hx2⟩))
        go_ret2
        rw [HL.out]
        exact ⟨rfl, (XT.out wr o' HST.out).tr (by (repeat (first | exact Ext.rfl' _ | assumption | refine Ext.dr ?_ | refine Ext.drN ?_ _ | refine Ext.al ?_ _ | refine Ext.st ?_ (by simp) _ | refine Ext.tr ?_ (by assumption))))⟩
      · have hpos : 0 < ps.length := List.length_pos_iff.2 h0
        have hpne : ((ps.length : Int) == 0) = false := by rw [beq_eq_false_iff_ne]; omega
        have HPE := Lib.hid (show ps.isEmpty = false from by rw [List.isEmpty_eq_false_iff]; exact h0)
        clear h0
        go_wp2_with (first
          | (go_at_call 38; refine (CS.out _).mono ?_; rintro e w2 ⟨v, rfl, ⟨A2, c2, rfl, hrd2, hc2⟩, hx2⟩; have HX2 := Lib.hid hx2; have HRD2 := Lib.hid hrd2; clear hrd2)
          | (at_builtin; refine wpL_put slt_str (.tmp 26) (.tmp 27) rfl rfl rfl rfl (HS.out.ext HX2.out) HN1.out (Sl.src Tryz.underlying47 HRD2.out (by rw [sc_len]; omega) (by omega) (sc_oneF ps) c2) (by omega) (by omega) ?_; intro A7 c7 w7 o7 hs7 hst7 hn7))
        go_roundw
        case rel => exact ⟨k + 1, A7, c7, o7, by go_num, by rw [PT.out, List.length_append], by omega, by rw [PT.out, List.length_append, sc_app]; exact hs7, hn7, (HST.out.tr (Stp.ext HX2.out)).tr hst7, Lib.hid (HA2.out HPE.out)⟩
        case measure => simp [intOf]; omega
    · have htk : vs.take k = vs := List.take_of_length_le (by have := HN.out; omega)
      rw [htk] at HS HANY ⊢
      obtain ⟨p0, pt, hpp⟩ := parts_ne (by rw [← HN.out]; exact hne) HANY.out
      have HLV := Lib.hid (lenV_parts HANY.out hpp)
      have HPL := Lib.hid (show ∀ s ∈ p0 :: pt, s.length ≤ 140737488355328 from by rw [← hpp]; exact HP.out)
      rw [hpp] at HS hT ⊢
      obtain ⟨all, hall⟩ : ∃ q, q = p0 :: pt := ⟨_, rfl⟩
      have hat : all[0]? = some p0 := by rw [hall]; rfl
      have hT0 : 0 < all.length := by rw [hall]; simp
      rw [← hall] at HS hT HLV HPL ⊢
      have RD := Lib.hid HS.out.rd
      obtain ⟨g, f, hA, hc0⟩ := RD.out.txt (j := 0) hT0
      have h00 : all[0]'hT0 = p0 := by rw [List.getElem?_eq_getElem hT0] at hat; exact Option.some.inj hat
      rw [h00, Nat.add_zero] at hc0
      subst hA
      obtain ⟨T, hTT⟩ : ∃ T, T = all.length := ⟨_, rfl⟩
      obtain ⟨R, hR⟩ : ∃ R, R = lenV vs := ⟨_, rfl⟩
      rw [← hR] at HLV ⊢
      have HRE := Lib.hid hR
      rw [← hTT] at hT hT0 ⊢
      have HTT := Lib.hid hTT
      have HC0 := Lib.hid hc0
      have XW := Lib.hid (XT.out wr o' HST.out)
      have HP0 := Lib.hid (HPL.out p0 (by rw [hall]; exact List.mem_cons_self))
      obtain ⟨z0, hz0⟩ : ∃ z, z = str p0 := ⟨_, rfl⟩
      clear hpp hall hat h00 hTT hR hc0 htk hsl hn1 hst HN1 HS HANY
      obtain ⟨W1, hW1⟩ : ∃ W, W = wr := ⟨_, rfl⟩
      subst hW1
      obtain ⟨dv, hdv⟩ : ∃ q, q = (decV p0).1 := ⟨_, rfl⟩
      obtain ⟨de, hde⟩ : ∃ q, q = (decV p0).2 := ⟨_, rfl⟩
      obtain ⟨lg0, hlg0⟩ : ∃ q, q = (decide (de ≠ 0) || decide (1048576 < dv)) := ⟨_, rfl⟩
      have HLG := Lib.hid hlg0
      have HDV := Lib.hid hdv
      have HDE := Lib.hid hde
      have hkn : ¬ (k : Int) < (n : Int) := by omega
      clear hlg0 hdv hde
      go_wp2
      go_loopw [7, 8, 9] (fun lv nv i w2 => ∃ (t : Nat) (lg : Bool) (nn : Int), lv = .bool lg ∧ nv = .int .i64 nn ∧ i = .int .i64 (t : Int) ∧ t ≤ T ∧ Ext W1 w2 ∧ Hid (∀ s ∈ all.take t, badL p0 s = false) ∧ ((t = 0 ∧ lg = false ∧ nn = 0) ∨ (t ≠ 0 ∧ lg = lg0 ∧ nn = dv))) (fun _ _ i _ => T - (intOf i).toNat)
      case atStart => exact ⟨0, false, 0, rfl, rfl, rfl, Nat.zero_le _, Ext.rfl' _, Lib.hid (by simp), .inl ⟨rfl, rfl, rfl⟩⟩
      case round =>
        obtain ⟨t, lg, nn, rfl, rfl, rfl, ht, hx, HBG, hln⟩ := hrel
        have HX := Lib.hid hx
        have HCE := Lib.hid (fun w' (e : Ext wr w') => show w'.cell? ⟨g, f, none⟩ = some (.string (str p0)) from ((hx.tr e).cell (lt_of_cell HC0.out)).trans HC0.out)
        have HLN := Lib.hid hln
        clear hln
        by_cases hlt : t < T
        · have hlt' : t < all.length := by rw [← HTT.out]; exact hlt
          obtain ⟨g', f', hA, hc⟩ := (RD.out.ext hx).txt (j := t) hlt'
          cases hA
          have hk0 : (0 : Int) ≤ (t : Int) := by omega
          have hk1 : (t : Int) < (T : Int) := by omega
          have CD := fun w => rDecimal_c all[t] (by have := HPL.out _ (List.getElem_mem hlt'); omega) w
          have HM := Lib.hid (show all[t] ∈ all from List.getElem_mem hlt')
          have HTK := Lib.hid (show all.take (t + 1) = all.take t ++ [all[t]] from List.take_succ_eq_append_getElem hlt')
          obtain ⟨x, hxx⟩ : ∃ q, q = all[t] := ⟨_, rfl⟩
          rw [← hxx] at hc CD HM HTK
          obtain ⟨xv, hxv⟩ : ∃ q, q = (numL 10 1000000000000000000 x).1 := ⟨_, rfl⟩
          obtain ⟨xe, hxe⟩ : ∃ q, q = (numL 10 1000000000000000000 x).2 := ⟨_, rfl⟩
          rw [← hxv, ← hxe] at CD
          have HBX := Lib.hid (show badL p0 x = (decide (xe = 21) || !(x == p0)) from by rw [hxe]; rfl)
          have CD := Lib.hid CD
          obtain ⟨sx, hsx⟩ : ∃ q, q = str x := ⟨_, rfl⟩
          obtain ⟨s0, hs0⟩ : ∃ q, q = str p0 := ⟨_, rfl⟩
          have HSX := Lib.hid hsx
          have HS0 := Lib.hid hs0
          have HXV := Lib.hid hxv
          have HXE := Lib.hid hxe
          rw [← hsx] at hc CD
          rw [← hs0] at HCE
          have HCX := Lib.hid (fun w' (e : Ext wr w') => show w'.cell? ⟨g, f + t, none⟩ = some (.string sx) from (e.cell (lt_of_cell hc)).trans hc)
          clear hxx hxv hxe hsx hs0 hlt' hx
          by_cases h1 : xe = 21
          · subst h1
            have HL := Lib.hid (show R = (0, 45) from by rw [HLV.out, if_pos (List.any_eq_true.2 ⟨x, HM.out, by rw [HBX.out]; rfl⟩)])
            go_wp2_with (go_at_call 39; refine (CD.out _).mono ?_; rintro e w3 ⟨rfl, hx3⟩; have c0 := HCE.out w3 hx3; have cx := HCX.out w3 hx3; clear hc)
            go_quiet (fail)
            go_wp2
            go_ret2
            first | rw [HL.out] | rw [← HRE.out, HL.out]
            exact ⟨rfl, (XW.out.tr HX.out).tr (by (repeat (first | exact Ext.rfl' _ | assumption | refine Ext.dr ?_ | refine Ext.drN ?_ _ | refine Ext.al ?_ _ | refine Ext.st ?_ (by simp) _ | refine Ext.tr ?_ (by assumption))))⟩
          · have d1 : (xe == 21) = false := by rw [beq_eq_false_iff_ne]; exact h1
            have HBX2 := Lib.hid (show badL p0 x = !(x == p0) from by rw [HBX.out, decide_eq_false h1, Bool.false_or])
            clear h1
            by_cases h2 : x = p0
            · have e2 : sx = s0 := by rw [HSX.out, HS0.out, h2]
              have HB2 := Lib.hid (show ∀ s ∈ all.take (t + 1), badL p0 s = false from by
                intro s hs
                rw [HTK.out] at hs
                rcases List.mem_append.1 hs with h | h
                · exact HBG.out s h
                · rw [List.mem_singleton.1 h, HBX2.out, h2]; simp)
              have hv1 : xv = dv := by rw [HXV.out, HDV.out, h2]; rfl
              have hv2 : xe = de := by rw [HXE.out, HDE.out, h2]; rfl
              rw [hv1, hv2] at CD
              rw [hv2] at d1
              subst e2
              clear h2 hv1 hv2
              have hcase : lg = lg0 ∨ (lg = false) := by
                rcases HLN.out with ⟨_, h, _⟩ | ⟨_, h, _⟩
                · exact .inr h
                · exact .inl h
              cases lg with
              | true =>
                have hl0 : lg0 = true := by rcases hcase with h | h; exact h.symm; cases h
                have HL0 := Lib.hid hl0
                clear hcase hl0
                go_wp2_with (go_at_call 39; refine (CD.out _).mono ?_; rintro e w3 ⟨rfl, hx3⟩; have c0 := HCE.out w3 hx3; have cx := HCX.out w3 hx3; clear hc)
                go_quiet (fail)
                go_wp2
                go_roundw
                case rel => exact ⟨t + 1, true, dv, rfl, rfl, by go_num, by omega, HX.out.tr (by (repeat (first | exact Ext.rfl' _ | assumption | refine Ext.dr ?_ | refine Ext.drN ?_ _ | refine Ext.al ?_ _ | refine Ext.st ?_ (by simp) _ | refine Ext.tr ?_ (by assumption)))), HB2, .inr ⟨by omega, HL0.out.symm, rfl⟩⟩
                case measure => simp [intOf]; omega
              | false =>
                clear hcase
                by_cases h3 : de = 0
                · have HL0 := Lib.hid (show lg0 = decide (1048576 < dv) from by rw [HLG.out, h3]; rfl)
                  subst h3
                  go_wp2_with (go_at_call 39; refine (CD.out _).mono ?_; rintro e w3 ⟨rfl, hx3⟩; have c0 := HCE.out w3 hx3; have cx := HCX.out w3 hx3; clear hc)
                  go_quiet (fail)
                  go_wp2
                  go_roundw
                  case rel => exact ⟨t + 1, decide (1048576 < dv), dv, by first | rfl | trivial, rfl, by go_num, by omega, HX.out.tr (by (repeat (first | exact Ext.rfl' _ | assumption | refine Ext.dr ?_ | refine Ext.drN ?_ _ | refine Ext.al ?_ _ | refine Ext.st ?_ (by simp) _ | refine Ext.tr ?_ (by assumption)))), HB2, .inr ⟨by omega, HL0.out.symm, rfl⟩⟩
                  case measure => simp [intOf]; omega
                · have HL0 := Lib.hid (show lg0 = true from by rw [HLG.out, decide_eq_true h3]; rfl)
                  have d3 : (de != 0) = true := by rw [bne_iff_ne]; exact h3
                  clear h3
                  go_wp2_with (go_at_call 39; refine (CD.out _).mono ?_; rintro e w3 ⟨rfl, hx3⟩; have c0 := HCE.out w3 hx3; have cx := HCX.out w3 hx3; clear hc)
                  go_quiet (fail)
                  go_wp2
                  go_roundw
                  case rel => exact ⟨t + 1, true, dv, by first | rfl | trivial, rfl, by go_num, by omega, HX.out.tr (by (repeat (first | exact Ext.rfl' _ | assumption | refine Ext.dr ?_ | refine Ext.drN ?_ _ | refine Ext.al ?_ _ | refine Ext.st ?_ (by simp) _ | refine Ext.tr ?_ (by assumption)))), HB2, .inr ⟨by omega, HL0.out.symm, rfl⟩⟩
                  case measure => simp [intOf]; omega
            · have e2 : (sx.toList == s0.toList) = false := by rw [beq_eq_false_iff_ne, HSX.out, HS0.out, Lib.toList_data, Lib.toList_data]; exact h2
              have HL := Lib.hid (show R = (0, 45) from by rw [HLV.out, if_pos (List.any_eq_true.2 ⟨x, HM.out, by rw [HBX2.out]; simpa using h2⟩)])
              clear h2
              go_wp2_with (go_at_call 39; refine (CD.out _).mono ?_; rintro e w3 ⟨rfl, hx3⟩; have c0 := HCE.out w3 hx3; have cx := HCX.out w3 hx3; clear hc)
              go_quiet (fail)
              go_wp2
              go_ret2
              first | rw [HL.out] | rw [← HRE.out, HL.out]
              exact ⟨rfl, (XW.out.tr HX.out).tr (by (repeat (first | exact Ext.rfl' _ | assumption | refine Ext.dr ?_ | refine Ext.drN ?_ _ | refine Ext.al ?_ _ | refine Ext.st ?_ (by simp) _ | refine Ext.tr ?_ (by assumption))))⟩
        · have hkt : t = T := by omega
          have hk1 : ¬ (t : Int) < (T : Int) := by omega
          have HNB := Lib.hid (show all.any (badL p0) = false from by
            rw [List.any_eq_false]
            intro s hs
            rw [HBG.out s (by rw [List.take_of_length_le (by have := HTT.out; omega)]; exact hs)]; decide)
          have HLW := Lib.hid (show R = if de ≠ 0 ∨ 1048576 < dv then (0, 6) else (dv, 0) from by rw [HLV.out, if_neg (by rw [HNB.out]; decide), HDE.out, HDV.out])
          obtain ⟨hlg, hnn⟩ : lg = lg0 ∧ nn = dv := by
            rcases HLN.out with ⟨h, _, _⟩ | ⟨_, h1, h2⟩
            · omega
            · exact ⟨h1, h2⟩
          subst hlg hnn
          cases lg with
          | true =>
            have HL := Lib.hid (show R = (0, 6) from by
              rw [HLW.out, if_pos]
              have := HLG.out
              rw [eq_comm, Bool.or_eq_true, decide_eq_true_eq, decide_eq_true_eq] at this
              exact this)
            go_wp2
            go_ret2
            first | rw [HL.out] | rw [← HRE.out, HL.out]
            exact ⟨rfl, (XW.out.tr HX.out).tr (by (repeat (first | exact Ext.rfl' _ | assumption | refine Ext.dr ?_ | refine Ext.drN ?_ _ | refine Ext.al ?_ _ | refine Ext.st ?_ (by simp) _ | refine Ext.tr ?_ (by assumption))))⟩
          | false =>
            have HL := Lib.hid (show R = (nn, 0) from by
              rw [HLW.out, if_neg]
              have := HLG.out
              rw [eq_comm, Bool.or_eq_false_iff, decide_eq_false_iff_not, decide_eq_false_iff_not] at this
              intro h
              rcases h with h | h
              · exact this.1 h
              · exact this.2 h)
            go_wp2
            go_ret2
            first | rw [HL.out] | rw [← HRE.out, HL.out]
            exact ⟨rfl, (XW.out.tr HX.out).tr (by (repeat (first | exact Ext.rfl' _ | assumption | refine Ext.dr ?_ | refine Ext.drN ?_ _ | refine Ext.al ?_ _ | refine Ext.st ?_ (by simp) _ | refine Ext.tr ?_ (by assumption))))⟩
end Go.Proofs.YtpkgoppfihcpbaaGreatDoor
end
