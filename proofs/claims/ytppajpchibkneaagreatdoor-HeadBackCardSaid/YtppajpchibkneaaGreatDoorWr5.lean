/-
The reference's head as bytes.
-/
import Derived.Test.YtppajpchibkneaaGreatDoorWRa
import Derived.Deep.DeepCutAuto
set_option linter.unusedVariables false
set_option linter.unusedSimpArgs false
namespace Go.Proofs.YtppajpchibkneaaGreatDoor
open Go.RowKit

theorem rToken_h (l : List UInt8) (hs : l.length ≤ maxLen) (w : World) : Calls Tryz.prog 23 #[.string (str l)] w (Gives (.bool (tokL l)) w) := by
  have h := rToken_c (str l) (by rw [str_size]; exact hs) w
  rw [str_data, str_size] at h
  exact h
theorem rValue_h (l : List UInt8) (hs : l.length ≤ maxLen) (w : World) : Calls Tryz.prog 41 #[.string (str l)] w (Gives (.bool (vlL l)) w) := rValue_c l hs w
/-- Where the reference stands behind k fields. -/
def LinAt (first : List UInt8) (fs : List Fld) (k : Nat) (lg : Bool) (so : ByteArray) : Prop :=
  (lg = true ∧ longH first.length fs = true ∧ so.size ≤ 140737488500000) ∨
  (lg = false ∧ so = str (first ++ ([13, 10] ++ wrS (fs.take k))) ∧ first.length ≤ 8192 ∧ fs.length ≤ 100 ∧ (∀ j (hj : j < fs.length), j < k → lenF fs[j] ≤ 8192) ∧ (k = 0 ∨ first.length + 4 + lenS (fs.take k) ≤ 32768))
theorem long_any {n0 : Nat} {fs : List Fld} {k : Nat} (hk : k < fs.length) (h : 8192 < lenF fs[k]) : longH n0 fs = true := by
  unfold longH
  have : fs.any (fun f => decide (8192 < lenF f)) = true := by rw [List.any_eq_true]; exact ⟨fs[k], List.getElem_mem hk, by simpa using h⟩
  rw [this]; simp
theorem long_sum {n0 : Nat} {fs : List Fld} {k : Nat} (h : 32768 < n0 + 4 + lenS (fs.take k)) : longH n0 fs = true := by
  unfold longH
  have := lenS_all fs k
  rw [decide_eq_true (show 32768 < n0 + 4 + lenS fs by omega)]; simp
theorem lin_end {first : List UInt8} {fs : List Fld} (h1 : first.length ≤ 8192) (h2 : fs.length ≤ 100) (h3 : ∀ j (hj : j < fs.length), j < fs.length → lenF fs[j] ≤ 8192) (h4 : fs.length = 0 ∨ first.length + 4 + lenS fs ≤ 32768) : longH first.length fs = false := by
  unfold longH
  simp only [Bool.or_eq_false_iff, decide_eq_false_iff_not]
  refine ⟨⟨⟨by omega, by omega⟩, ?_⟩, ?_⟩
  · rw [List.any_eq_false]
    intro f hf
    obtain ⟨j, hj, rfl⟩ := List.getElem_of_mem hf
    have := h3 j hj hj
    simp; omega
  · rcases h4 with h4 | h4
    · rw [List.eq_nil_of_length_eq_zero h4]
      show ¬ 32768 < first.length + 4 + 0
      omega
    · omega
set_option maxRecDepth 100000 in
set_option maxHeartbeats 8000000 in
theorem rhLines_c (first : List UInt8) (fs : List Fld) (A : Option Addr) (n c : Nat) (hn : fs.length = n) (hb : n ≤ 8796093022206) (hfl : first.length ≤ 140737488400000) (hsz : ∀ p ∈ fs, p.1.length ≤ 140737488351232 ∧ p.2.length ≤ 140737488351232) (w : World) (h : Rd w A (fc fs)) :
    Calls Tryz.prog 25 #[.string (str first), .slice A n c] w (Ret (IsBy (wrH first fs)) w) := by
  obtain ⟨R, hR⟩ : ∃ R, R = wrH first fs := ⟨_, rfl⟩
  rw [← hR]
  have HR := Lib.hid hR
  clear hR
  obtain ⟨sf, hsf⟩ : ∃ s, s = str first := ⟨_, rfl⟩
  have hsfz : sf.size = first.length := by rw [hsf]; exact str_size first
  have HSF := Lib.hid hsf
  rw [← hsf]
  clear hsf
  obtain ⟨n0, hn0⟩ : ∃ q, q = first.length := ⟨_, rfl⟩
  rw [← hn0] at hsfz hfl
  have HN0 := Lib.hid hn0
  have HNF := Lib.hid hn
  clear hn0
  go_enter Tryz.func25, Tryz.ntmps25
  go_wp2
  go_loopw [6] (fun i wr => ∃ k : Nat, i = .int .i64 (k : Int) ∧ k ≤ n ∧ (∀ j (hj : j < fs.length), j < k → okF fs[j] = true) ∧ Ext w wr) (fun i _ => n - (intOf i).toNat)
  case atStart => exact ⟨0, rfl, Nat.zero_le _, fun j _ h => by omega, Ext.rfl' _⟩
  case round =>
    obtain ⟨k, rfl, hk, hok, hext⟩ := hrel
    by_cases hlt : k < n
    · obtain ⟨b, o, rfl, hbl, hS⟩ := h.fld (k := k) (by omega)
      obtain ⟨a0, a1⟩ := hS.out wr hext
      have hf1 := hsz _ (List.getElem_mem (show k < fs.length by omega))
      have hBD := fun (hb : okF (fs[k]'(by omega)) = false) => wrH_bad (first := first) (show k < fs.length by omega) hb
      obtain ⟨⟨x, y⟩, hp⟩ : ∃ p, p = fs[k] := ⟨_, rfl⟩
      have hks := Lib.hid (fun w' (e : Ext w w') => hS.out w' e)
      rw [← hp] at a0 a1 hf1 hBD
      have hks : Hid (∀ w', Ext w w' → (w'.cell? ⟨b, o + k * 2, none⟩ = some (.string (str x)) ∧ w'.cell? ⟨b, o + k * 2 + 1, none⟩ = some (.string (str y)))) := by rw [← hp] at hks; exact hks
      dsimp only at a0 a1 hf1
      have HPK := Lib.hid hp
      have HOK := Lib.hid hok
      have HBD := Lib.hid hBD
      have hk0 : (0 : Int) ≤ (k : Int) := by omega
      have hk1 : (k : Int) < (n : Int) := by omega
      have CT := fun w => rToken_h x (by unfold maxLen; omega) w
      have CV := fun w => rValue_h y (by unfold maxLen; omega) w
      clear hp hok hS hbl hBD hf1
      cases hvt : tokL x with
      | false =>
        rw [hvt] at CT
        have CT := Lib.hid CT
        have HV := Lib.hid (show R = ([], 42) from by rw [HR.out]; exact HBD.out (by unfold okF; rw [hvt]; rfl))
        clear hvt
        go_wp2_with (first
          | (go_at_call 23; refine (CT.out _).mono ?_; rintro e w2 ⟨rfl, hx2⟩))
        go_ret2
        rw [HV.out]
        exact Ret.mk ⟨none, 0, rfl, .inl rfl⟩ (by (repeat (first | exact Ext.rfl' _ | assumption | refine Ext.dr ?_ | refine Ext.drN ?_ _ | refine Ext.al ?_ _ | refine Ext.st ?_ (by simp) _ | refine Ext.tr ?_ (by assumption))))
      | true =>
        rw [hvt] at CT
        have CT := Lib.hid CT
        cases hvv : vlL y with
        | false =>
          rw [hvv] at CV
          have CV := Lib.hid CV
          have HV := Lib.hid (show R = ([], 42) from by rw [HR.out]; exact HBD.out (by unfold okF; rw [hvt]; dsimp only; rw [hvv]; rfl))
          clear hvt hvv
          go_wp2_with (first
            | (go_at_call 23; refine (CT.out _).mono ?_; rintro e w2 ⟨rfl, hx2⟩; have g1 := (hks.out w2 (hext.tr hx2)).2; clear a1)
            | (go_at_call 41; refine (CV.out _).mono ?_; rintro e w3 ⟨rfl, hx3⟩))
          go_ret2
          rw [HV.out]
          exact Ret.mk ⟨none, 0, rfl, .inl rfl⟩ (by (repeat (first | exact Ext.rfl' _ | assumption | refine Ext.dr ?_ | refine Ext.drN ?_ _ | refine Ext.al ?_ _ | refine Ext.st ?_ (by simp) _ | refine Ext.tr ?_ (by assumption))))
        | true =>
          rw [hvv] at CV
          have CV := Lib.hid CV
          have HV := Lib.hid (show okF (x, y) = true from by unfold okF; rw [hvt]; dsimp only; rw [hvv]; rfl)
          clear hvt hvv
          go_wp2_with (first
            | (go_at_call 23; refine (CT.out _).mono ?_; rintro e w2 ⟨rfl, hx2⟩; have g1 := (hks.out w2 (hext.tr hx2)).2; clear a1)
            | (go_at_call 41; refine (CV.out _).mono ?_; rintro e w3 ⟨rfl, hx3⟩))
          go_roundw
          case rel => exact ⟨k + 1, by go_num, by omega, fun j hj h2 => (by
            rcases Nat.lt_or_ge j k with h3 | h3
            · exact HOK.out j hj h3
            · obtain rfl : j = k := by omega
              rw [← HPK.out]; exact HV.out), by (repeat (first | exact Ext.rfl' _ | assumption | refine Ext.dr ?_ | refine Ext.drN ?_ _ | refine Ext.al ?_ _ | refine Ext.st ?_ (by simp) _ | refine Ext.tr ?_ (by assumption)))⟩
          case measure => simp [intOf]; omega
    · have hk1 : ¬ (k : Int) < (n : Int) := by omega
      have hall := all_ok (fs := fs) (fun j hj => hok j hj (by have := HNF.out; omega))
      have HALL := Lib.hid hall
      clear hok hall
      have CE : ∀ w : World, (convert 25 9 (.slice (some ⟨w.heap.size, 0, none⟩) 2 2)).run Tryz.prog (w.alloc (.cells #[.int .u8 13, .int .u8 10] 5)) = .ok (.string ⟨#[13, 10]⟩) (w.alloc (.cells #[.int .u8 13, .int .u8 10] 5)) := fun w => conv_bs 25 9 5 Tryz.underlying25 Tryz.underlying5 Tryz.underlying9 (l := [13, 10]) (rd_new w [.int .u8 13, .int .u8 10] 5) 2 2 rfl
      obtain ⟨s1, hs1⟩ : ∃ s, s = str (first ++ [13, 10]) := ⟨_, rfl⟩
      have K1 : ∀ w, (Op.stringOp .add sf ⟨#[13, 10]⟩).run Tryz.prog w = .ok (.string s1) w := fun w => by rw [HSF.out, hs1, cat_ok _ _ (by rw [str_size]; show first.length + 2 ≤ _; have := HN0.out; omega) w]; simp
      have HS1 := Lib.hid hs1
      clear hs1
      obtain ⟨L0, hL0⟩ : ∃ L, L = (decide (8192 < n0) || decide (100 < n)) := ⟨_, rfl⟩
      have HL0 := Lib.hid hL0
      clear hL0
      obtain ⟨W1, hW1⟩ : ∃ W, W = wr.alloc (.cells #[.int .u8 13, .int .u8 10] 5) := ⟨_, rfl⟩
      have x1 : Ext w W1 := by rw [hW1]; exact hext.al _
      have HW1 := Lib.hid hW1
      clear hW1
      go_upto_region 8 with fail
      rw [← HW1.out]
      go_cut [9] (fun v wx => v = .bool L0 ∧ W1 = wx)
      case first =>
        by_cases c1 : 8192 < n0
        · have c2 : (8192 : Int) < (n0 : Int) := by omega
          have hl : true = L0 := by rw [HL0.out, decide_eq_true c1]; rfl
          go_wp2
          go_meet
          exact ⟨by rw [← hl], rfl⟩
        · have c2 : ¬ (8192 : Int) < (n0 : Int) := by omega
          have hl : decide ((100 : Int) < (n : Int)) = L0 := by rw [HL0.out, decide_eq_false c1, Bool.false_or, decide_eq_decide]; omega
          go_wp2
          go_meet
          exact ⟨by rw [← hl], rfl⟩
      case rest =>
        obtain ⟨rfl, rfl⟩ := hcut
        have HX1 := Lib.hid x1
        have hst : LinAt first fs 0 L0 s1 := by
          cases hL : L0 with
          | true =>
            refine .inl ⟨rfl, ?_, ?_⟩
            · have h0 := HL0.out
              rw [hL] at h0
              unfold longH
              rw [← HN0.out, ← HNF.out] at *
              have h1 : (decide (8192 < n0) || decide (100 < fs.length)) = true := by rw [← h0]
              rw [h1]; simp
            · rw [HS1.out, str_size]; have := HN0.out; simp; omega
          | false =>
            have h0 := HL0.out
            rw [hL] at h0
            have h1 := (Bool.or_eq_false_iff.1 h0.symm)
            simp only [decide_eq_false_iff_not] at h1
            exact .inr ⟨rfl, by rw [HS1.out]; simp [wrS], by rw [← HN0.out]; omega, by rw [HNF.out]; omega, fun j _ h => by omega, .inl rfl⟩
        clear x1 hext hlt hk1 hk
        go_wp2
        go_loopw [8, 9, 10] (fun vo vl vi wx => ∃ (k : Nat) (so : ByteArray) (lg : Bool), vo = .string so ∧ vl = .bool lg ∧ vi = .int .i64 (k : Int) ∧ k ≤ n ∧ LinAt first fs k lg so ∧ Ext w wx) (fun _ _ vi _ => n - (intOf vi).toNat)
        case atStart => exact ⟨0, s1, L0, rfl, rfl, rfl, Nat.zero_le _, hst, HX1.out⟩
        case round =>
          clear hst
          obtain ⟨k, so, lg, rfl, rfl, rfl, hk, hat, hext⟩ := hrel
          have HAT := Lib.hid hat
          by_cases hlt : k < n
          · obtain ⟨b, o, rfl, hbl, hS⟩ := h.fld (k := k) (by omega)
            obtain ⟨a0, a1⟩ := hS.out _ hext
            have hf1 := hsz _ (List.getElem_mem (show k < fs.length by omega))
            have hTK := wrS_take fs k (by omega)
            have hLS := lenS_take fs k (by omega)
            have hLA := fun (hm : 8192 < lenF (fs[k]'(by omega))) => long_any (n0 := first.length) (show k < fs.length by omega) hm
            obtain ⟨⟨x, y⟩, hp⟩ : ∃ p, p = fs[k] := ⟨_, rfl⟩
            rw [← hp] at a0 a1 hf1 hTK hLS hLA
            dsimp only at a0 a1 hf1
            have HPK := Lib.hid hp
            have hk0 : (0 : Int) ≤ (k : Int) := by omega
            have hk1 : (k : Int) < (n : Int) := by omega
            obtain ⟨m, hm⟩ : ∃ m, m = x.length + 2 + y.length := ⟨_, rfl⟩
            have hmF : lenF (x, y) = m := hm.symm
            rw [hmF] at hLS hLA
            have r1 : IntKind.i64.wrap ((x.length : Int) + 2) = (x.length : Int) + 2 := by rw [IntKind.wrap_i64]; omega
            have r2 : IntKind.i64.wrap ((x.length : Int) + 2 + (y.length : Int)) = (m : Int) := by rw [IntKind.wrap_i64]; omega
            have r3 : IntKind.i64.wrap ((m : Int) + 4) = (m : Int) + 4 := by rw [IntKind.wrap_i64]; omega
            have HTK := Lib.hid hTK
            have HLS := Lib.hid hLS
            have HLA := Lib.hid hLA
            have HM := Lib.hid hm
            have HF1 := Lib.hid hf1
            clear hp hbl hTK hLS hLA hm hmF hf1 hS
            rcases hat with ⟨rfl, hlong, hsb⟩ | ⟨rfl, hso, g1, g2, g3, g4⟩
            · have r4 : IntKind.i64.wrap (32768 - (so.size : Int)) = 32768 - (so.size : Int) := by rw [IntKind.wrap_i64]; omega
              have HN := Lib.hid (show LinAt first fs (k + 1) true so from .inl ⟨rfl, hlong, hsb⟩)
              clear hlong
              by_cases c1 : 8192 < m
              · have c2 : (8192 : Int) < (m : Int) := by omega
                go_wp2
                go_quiet (fail)
                go_wp2
                go_roundw
                case rel => exact ⟨k + 1, so, true, rfl, rfl, by go_num, by omega, HN.out, by (repeat (first | exact Ext.rfl' _ | assumption | refine Ext.dr ?_ | refine Ext.drN ?_ _ | refine Ext.al ?_ _ | refine Ext.st ?_ (by simp) _ | refine Ext.tr ?_ (by assumption)))⟩
                case measure => simp [intOf]; omega
              · have c2 : ¬ (8192 : Int) < (m : Int) := by omega
                by_cases c3 : (32768 - (so.size : Int)) < (m : Int) + 4
                · go_wp2
                  go_quiet (fail)
                  go_wp2
                  go_roundw
                  case rel => exact ⟨k + 1, so, true, rfl, rfl, by go_num, by omega, HN.out, by (repeat (first | exact Ext.rfl' _ | assumption | refine Ext.dr ?_ | refine Ext.drN ?_ _ | refine Ext.al ?_ _ | refine Ext.st ?_ (by simp) _ | refine Ext.tr ?_ (by assumption)))⟩
                  case measure => simp [intOf]; omega
                · go_wp2
                  go_quiet (fail)
                  go_wp2
                  go_roundw
                  case rel => exact ⟨k + 1, so, true, rfl, rfl, by go_num, by omega, HN.out, by (repeat (first | exact Ext.rfl' _ | assumption | refine Ext.dr ?_ | refine Ext.drN ?_ _ | refine Ext.al ?_ _ | refine Ext.st ?_ (by simp) _ | refine Ext.tr ?_ (by assumption)))⟩
                  case measure => simp [intOf]; omega
            · have hzs : so.size = n0 + 2 + lenS (fs.take k) := by rw [hso, str_size]; simp [wrS_len]; have := HN0.out; omega
              have hl0 : lenS (fs.take k) ≤ 32768 := by
                rcases g4 with h0 | h0
                · rw [h0]; exact Nat.zero_le _
                · omega
              have hnb : n0 ≤ 8192 := by rw [HN0.out]; exact g1
              have r4 : IntKind.i64.wrap (32768 - (so.size : Int)) = 32768 - (so.size : Int) := by rw [IntKind.wrap_i64]; omega
              by_cases c1 : 8192 < m
              · have c2 : (8192 : Int) < (m : Int) := by omega
                have HN := Lib.hid (show LinAt first fs (k + 1) true so from .inl ⟨rfl, HLA.out c1, by omega⟩)
                clear hso g1 g2 g3 g4 hzs hl0 hnb
                go_wp2
                go_quiet (fail)
                go_wp2
                go_roundw
                case rel => exact ⟨k + 1, so, true, rfl, rfl, by go_num, by omega, HN.out, by (repeat (first | exact Ext.rfl' _ | assumption | refine Ext.dr ?_ | refine Ext.drN ?_ _ | refine Ext.al ?_ _ | refine Ext.st ?_ (by simp) _ | refine Ext.tr ?_ (by assumption)))⟩
                case measure => simp [intOf]; omega
              · have c2 : ¬ (8192 : Int) < (m : Int) := by omega
                by_cases c3 : (32768 - (so.size : Int)) < (m : Int) + 4
                · have HN := Lib.hid (show LinAt first fs (k + 1) true so from .inl ⟨rfl, long_sum (k := k + 1) (by rw [HLS.out, ← HN0.out]; omega), by omega⟩)
                  clear hso g1 g2 g3 g4 hzs hl0 hnb
                  go_wp2
                  go_quiet (fail)
                  go_wp2
                  go_roundw
                  case rel => exact ⟨k + 1, so, true, rfl, rfl, by go_num, by omega, HN.out, by (repeat (first | exact Ext.rfl' _ | assumption | refine Ext.dr ?_ | refine Ext.drN ?_ _ | refine Ext.al ?_ _ | refine Ext.st ?_ (by simp) _ | refine Ext.tr ?_ (by assumption)))⟩
                  case measure => simp [intOf]; omega
                · obtain ⟨sd, hsd⟩ : ∃ s, s = str (first ++ ([13, 10] ++ wrS (fs.take (k + 1)))) := ⟨_, rfl⟩
                  have HN := Lib.hid (show LinAt first fs (k + 1) false sd from .inr ⟨rfl, hsd, g1, g2, fun j hj h2 => (by
                    rcases Nat.lt_or_ge j k with h3 | h3
                    · exact g3 j hj h3
                    · obtain rfl : j = k := by omega
                      rw [← HPK.out]; show x.length + 2 + y.length ≤ 8192; have := HM.out; omega), .inr (by rw [HLS.out, ← HN0.out]; omega)⟩)
                  obtain ⟨ol, hol⟩ : ∃ l, l = first ++ ([13, 10] ++ wrS (fs.take k)) := ⟨_, rfl⟩
                  rw [← hol] at hso
                  have holz : ol.length = n0 + 2 + lenS (fs.take k) := by rw [← hzs, hso, str_size]
                  obtain ⟨sa, hsa⟩ : ∃ s, s = str (ol ++ x) := ⟨_, rfl⟩
                  obtain ⟨sb, hsb⟩ : ∃ s, s = str (ol ++ x ++ [58, 32]) := ⟨_, rfl⟩
                  obtain ⟨sc1, hsc⟩ : ∃ s, s = str (ol ++ x ++ [58, 32] ++ y) := ⟨_, rfl⟩
                  have hmm := HM.out
                  have E1 : ∀ w, (Op.stringOp .add so (str x)).run Tryz.prog w = .ok (.string sa) w := fun w => by rw [hso, hsa, cat_ok _ _ (by rw [str_size, str_size]; omega) w]; simp
                  have E2 : ∀ w, (Op.stringOp .add sa ⟨#[58, 32]⟩).run Tryz.prog w = .ok (.string sb) w := fun w => by rw [hsa, hsb, cat_ok _ _ (by rw [str_size]; show (ol ++ x).length + 2 ≤ _; simp; omega) w]; simp
                  have E3 : ∀ w, (Op.stringOp .add sb (str y)).run Tryz.prog w = .ok (.string sc1) w := fun w => by rw [hsb, hsc, cat_ok _ _ (by rw [str_size, str_size]; simp; omega) w]; simp
                  have E4 : ∀ w, (Op.stringOp .add sc1 ⟨#[13, 10]⟩).run Tryz.prog w = .ok (.string sd) w := fun w => by
                    rw [hsc, hsd, HTK.out, cat_ok _ _ (by rw [str_size]; show (ol ++ x ++ [58, 32] ++ y).length + 2 ≤ _; simp; omega) w, hol]
                    simp [wrF]
                  clear hso g1 g2 g3 g4 hzs hl0 hnb hsd hol holz hsa hsb hsc hmm
                  go_wp2
                  go_quiet (fail)
                  go_wp2
                  go_quiet (fail)
                  go_wp2
                  go_roundw
                  case rel => exact ⟨k + 1, sd, false, rfl, rfl, by go_num, by omega, HN.out, by (repeat (first | exact Ext.rfl' _ | assumption | refine Ext.dr ?_ | refine Ext.drN ?_ _ | refine Ext.al ?_ _ | refine Ext.st ?_ (by simp) _ | refine Ext.tr ?_ (by assumption)))⟩
                  case measure => simp [intOf]; omega
          · have hk1 : ¬ (k : Int) < (n : Int) := by omega
            have hkn : k = fs.length := by have := HNF.out; omega
            have HKN := Lib.hid hkn
            clear hkn
            rcases hat with ⟨rfl, hlong, hsb⟩ | ⟨rfl, hso, g1, g2, g3, g4⟩
            · have HV := Lib.hid (show R = ([], 44) from by rw [HR.out]; exact wrH_long HALL.out hlong)
              obtain ⟨s2, hs2⟩ : ∃ s, s = so ++ ⟨#[13, 10]⟩ := ⟨_, rfl⟩
              have E1 : ∀ w, (Op.stringOp .add so ⟨#[13, 10]⟩).run Tryz.prog w = .ok (.string s2) w := fun w => by rw [hs2, cat_ok _ _ (by show so.size + 2 ≤ _; omega) w]
              clear hlong hsb hs2
              go_wp2
              go_ret2
              rw [HV.out]
              exact Ret.mk ⟨none, 0, rfl, .inl rfl⟩ hext
            · rw [HKN.out, List.take_of_length_le (Nat.le_refl _)] at hso
              rw [HKN.out, List.take_of_length_le (Nat.le_refl _)] at g4
              have g3' : ∀ j (hj : j < fs.length), j < fs.length → lenF fs[j] ≤ 8192 := fun j hj _ => g3 j hj (by rw [HKN.out]; exact hj)
              have hlong := lin_end g1 g2 g3' g4
              have HV := Lib.hid (show R = (first ++ ([13, 10] ++ (wrS fs ++ [13, 10])), 0) from by rw [HR.out]; exact wrH_good HALL.out hlong)
              obtain ⟨_, _, hgb⟩ := good_bd hlong
              rw [← HN0.out] at hgb
              obtain ⟨sr, hsr⟩ : ∃ s, s = str (first ++ ([13, 10] ++ (wrS fs ++ [13, 10]))) := ⟨_, rfl⟩
              have hsl : (first ++ ([13, 10] ++ (wrS fs ++ [13, 10]))).length = n0 + 4 + lenS fs := by simp [wrS_len]; have := HN0.out; omega
              have hsz2 : sr.size = n0 + 4 + lenS fs := by rw [hsr, str_size, hsl]
              have c9 : ¬ (32768 : Int) < (sr.size : Int) := by omega
              have E1 : ∀ w, (Op.stringOp .add so ⟨#[13, 10]⟩).run Tryz.prog w = .ok (.string sr) w := fun w => by rw [hso, hsr, cat_ok _ _ (by rw [str_size]; show (first ++ ([13, 10] ++ wrS fs)).length + 2 ≤ _; simp [wrS_len]; have := HN0.out; omega) w]; simp
              have RL := Lib.hid (fun W => (show Rd (Lib.bytesWorld W 5 sr) (some ⟨W.heap.size, 0, none⟩) (bc (first ++ ([13, 10] ++ (wrS fs ++ [13, 10])))) from by rw [hsr]; exact bw_rd W 5 _))
              have CV : ∀ w, (convert 9 25 (.string sr)).run Tryz.prog w = .ok (.slice (some ⟨w.heap.size, 0, none⟩) (n0 + 4 + lenS fs) (grownCap w (n0 + 4 + lenS fs) 0 5)) (Lib.bytesWorld w 5 sr) := fun w => by
                have h0 := Lib.run_convert_string_bytes (P := Tryz.prog) w 9 25 5 sr Tryz.underlying9 Tryz.underlying25 Tryz.underlying5
                rw [hsz2] at h0
                exact h0
              have HSL := Lib.hid hsl
              clear hso hsr hsl hsz2 g1 g2 g3 g4 g3' hlong hgb
              go_wp2
              go_ret2
              rw [HV.out]
              exact Ret.mk ⟨_, _, by rw [HSL.out]; rfl, RL.out _⟩ (Ext.bwH hext _ _)
end Go.Proofs.YtppajpchibkneaaGreatDoor
