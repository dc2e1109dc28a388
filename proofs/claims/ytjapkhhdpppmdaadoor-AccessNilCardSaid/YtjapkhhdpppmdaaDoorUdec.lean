/-
Bytes by % and two digits, read: the program's Decode and the reference's.
-/
import Derived.Test.YtjapkhhdpppmdaaDoorUch
import Derived.Test.YtjapkhhdpppmdaaDoorQue1
import Derived.Test.YtjapkhhdpppmdaaDoorErr
set_option linter.unusedVariables false
set_option linter.unusedSimpArgs false
namespace Go.Proofs.YtjapkhhdpppmdaaDoor
open Go.RowKit

def decR (l : List UInt8) : List UInt8 × Int := match decL l with | some x => (x, 0) | none => ([], 40)
theorem decR_some {l x : List UInt8} (h : decL l = some x) : decR l = (x, 0) := by unfold decR; rw [h]
theorem decR_none {l : List UInt8} (h : decL l = none) : decR l = ([], 40) := by unfold decR; rw [h]
theorem dig_lt {b : UInt8} (h : isDig 16 b = true) : digV b < 16 := by
  unfold isDig at h; simp only [Bool.and_eq_true, decide_eq_true_eq] at h; exact h.2
theorem num_two (a b : UInt8) : numL 16 1152921504606846976 [a, b] = if isDig 16 (lowB a) = true ∧ isDig 16 (lowB b) = true then (((digV (lowB a) * 16 + digV (lowB b) : Nat) : Int), 0) else (0, 21) := by
  unfold numL lowL
  by_cases h : isDig 16 (lowB a) = true ∧ isDig 16 (lowB b) = true
  · have h1 := dig_lt h.1
    have h2 := dig_lt h.2
    rw [if_neg (by simp [h.1, h.2]), if_pos h]
    have e : valL 16 (List.map lowB [a, b]) = digV (lowB a) * 16 + digV (lowB b) := by simp [valL, valF]
    rw [e, if_pos (by omega)]
  · rw [if_pos (.inr (by simp only [List.map_cons, List.map_nil, List.all_cons, List.all_nil, Bool.and_true, Bool.and_eq_false_iff]; by_cases h1 : isDig 16 (lowB a) = true; exact .inr (by simpa using fun h2 => h ⟨h1, h2⟩); exact .inl (by simpa using h1))), if_neg h]

set_option maxRecDepth 100000 in
set_option maxHeartbeats 2000000 in
theorem uDecode_c (l : List UInt8) (hs : l.length ≤ 140737488351232) (w : World) (hE : ErrR w) :
    Calls Tryd.prog 40 #[.string (str l)] w (Gives (.tuple #[.string (str (decR l).1), .int .i64 (decR l).2]) w) := by
  have hms : maxLen = 9223372036854775807 := rfl
  have HE := Lib.hid hE
  clear hE
  go_enter Tryd.func40, Tryd.ntmps40
  go_wp2
  go_loopw [0, 4] (fun s v wr => ∃ acc l', s = .string (str l') ∧ decL l = (decL l').map (acc ++ ·) ∧ acc.length + l'.length ≤ l.length ∧ wr.ownsRow w.heap.size 5 1 v acc.length (bc acc) ∧ Ext w wr) (fun s _ _ => strLen s)
  case atStart => exact ⟨[], l, rfl, by simp, by simp, World.ownsRow_nil _ _ _ _, Ext.rfl' _⟩
  case round =>
    obtain ⟨acc, l', rfl, hinv, hll, hown, hext⟩ := hrel
    have HI := Lib.hid hinv
    have HO := Lib.hid hown
    clear hinv hown
    cases l' with
    | nil =>
      obtain ⟨A, c, rfl, hnc, hcm, hr, _⟩ := Rd.of_own HO.out
      have cv := conv_bs (P := Tryd.prog) 106 9 5 Tryd.underlying106 Tryd.underlying5 Tryd.underlying9 hr acc.length c rfl
      obtain ⟨s, hs2⟩ : ∃ s, s = str acc := ⟨_, rfl⟩
      rw [← hs2] at cv
      have HS := Lib.hid hs2
      have hemp : str ([] : List UInt8) = ⟨#[]⟩ := rfl
      rw [hemp]
      clear hs2 hr hemp
      go_wp2
      go_ret2
      exact ⟨ret_val (by rw [decR_some (x := acc) (by rw [HI.out]; simp [decL])]; show Value.tuple #[.string s, .int .i64 0] = _; rw [HS.out]), hext⟩
    | cons b t =>
      simp only [List.length_cons] at hll
      have h256 := UInt8.toNat_lt b
      by_cases hb : b = 37
      · subst hb
        by_cases h2 : t.length < 2
        · have hlt : decide ((t.length : Int) < 2) = true := by rw [decide_eq_true_eq]; omega
          have HB := Lib.hid (show decL l = none by rw [HI.out, dec_short _ h2]; rfl)
          go_wp2
          go_ret2
          exact ⟨ret_val (by rw [decR_none HB.out]; rfl), hext⟩
        · obtain ⟨a, t, rfl⟩ : ∃ a t', t = a :: t' := by cases t with | nil => simp at h2 | cons a t => exact ⟨a, t, rfl⟩
          obtain ⟨b, t, rfl⟩ : ∃ a t', t = a :: t' := by cases t with | nil => simp at h2 | cons a t => exact ⟨a, t, rfl⟩
          clear h2
          simp only [List.length_cons] at hll
          have h2 := num_two a b
          have CH := fun w hE => Hex_c [a, b] (by simp) w hE
          rw [h2] at CH
          have hlt : decide (((a :: b :: t).length : Int) < 2) = false := by rw [decide_eq_false_iff_not]; simp only [List.length_cons]; omega
          simp only [List.length_cons] at hlt
          by_cases hd : isDig 16 (lowB a) = true ∧ isDig 16 (lowB b) = true
          · rw [if_pos hd] at CH
            have d1 := dig_lt hd.1
            have d2 := dig_lt hd.2
            obtain ⟨n, hn⟩ : ∃ n : Nat, n = digV (lowB a) * 16 + digV (lowB b) := ⟨_, rfl⟩
            rw [← hn] at CH
            have hn2 : n < 256 := by omega
            have HS := Lib.hid (show decL l = (decL t).map ((acc ++ [UInt8.ofNat n]) ++ ·) by
              rw [HI.out, dec_pct, if_pos hd, ← hn]; simp [Option.map_map, Function.comp_def])
            have CH := Lib.hid CH
            have hbt : ((UInt8.ofNat n).toNat : Int) = (n : Int) := by rw [UInt8.toNat_ofNat']; omega
            have HBT := Lib.hid hbt
            clear hd hn h2 hbt d1 d2
            go_wp2_with (go_at_call 72; refine (CH.out _ (HE.out.ext (by (repeat (first | exact Ext.rfl' _ | assumption | refine Ext.dr ?_ | refine Ext.drN ?_ _ | refine Ext.al ?_ _ | refine Ext.st ?_ (by simp) _ | refine Ext.tr ?_ (by assumption)))))).mono ?_; rintro e w1 ⟨rfl, hx1⟩)
            go_quiet (fail)
            have hxq : Ext w (w1.drewN nq) := by (repeat (first | exact Ext.rfl' _ | assumption | refine Ext.dr ?_ | refine Ext.drN ?_ _ | refine Ext.al ?_ _ | refine Ext.st ?_ (by simp) _ | refine Ext.tr ?_ (by assumption)))
            go_wp2_with (at_builtin; refine wpL_app slt_u8 (.tmp 31) (.tmp 33) rfl rfl rfl rfl (hxq.al _) ((own_ext HO.out ((hx1.drN nq))).alloc _) (by rfl) (new_cells (w1.drewN nq) #[.int .u8 (n : Int)] 5) (by simp [Value.oneCell']) (by omega) (by simp only [maxLen]; omega) ?_; intro v' w' hown' hext' hgg; clear hgg)
            go_roundw
            case rel =>
              have hbc : bc [UInt8.ofNat n] = [.int .u8 (n : Int)] := by show [Value.int .u8 ((UInt8.ofNat n).toNat : Int)] = _; rw [HBT.out]
              exact ⟨acc ++ [UInt8.ofNat n], t, rfl, HS.out, by simp only [List.length_append, List.length_cons, List.length_nil]; omega, by rw [bc_app, List.length_append, hbc]; exact hown', hext'⟩
            case measure => simp [strLen]; try omega
          · rw [if_neg hd] at CH
            have HB := Lib.hid (show decL l = none by rw [HI.out, dec_pct, if_neg hd]; rfl)
            have CH := Lib.hid CH
            clear hd h2
            go_wp2_with (go_at_call 72; refine (CH.out _ (HE.out.ext (by (repeat (first | exact Ext.rfl' _ | assumption | refine Ext.dr ?_ | refine Ext.drN ?_ _ | refine Ext.al ?_ _ | refine Ext.st ?_ (by simp) _ | refine Ext.tr ?_ (by assumption)))))).mono ?_; rintro e w1 ⟨rfl, hx1⟩)
            go_ret2
            exact ⟨ret_val (by rw [decR_none HB.out]; rfl), by (repeat (first | exact Ext.rfl' _ | assumption | refine Ext.dr ?_ | refine Ext.drN ?_ _ | refine Ext.al ?_ _ | refine Ext.st ?_ (by simp) _ | refine Ext.tr ?_ (by assumption)))⟩
      · have hb1 : ((b.toNat : Int) == 37) = false := by
          rw [beq_eq_false_iff_ne]; intro h; exact hb (UInt8.toNat_inj.1 (by show b.toNat = 37; omega))
        have HS := Lib.hid (show decL l = (decL t).map ((acc ++ [b]) ++ ·) by
          rw [HI.out, dec_plain _ _ hb]; simp [Option.map_map, Function.comp_def])
        clear hb
        go_wp2_with (at_builtin; refine wpL_app slt_u8 (.tmp 31) (.tmp 33) rfl rfl rfl rfl (Ext.al (by (repeat (first | exact Ext.rfl' _ | assumption | refine Ext.dr ?_ | refine Ext.drN ?_ _ | refine Ext.al ?_ _ | refine Ext.st ?_ (by simp) _ | refine Ext.tr ?_ (by assumption)))) _) ((own_ext HO.out (by (repeat (first | exact Ext.rfl' _ | assumption | refine Ext.dr ?_ | refine Ext.drN ?_ _ | refine Ext.al ?_ _ | refine Ext.st ?_ (by simp) _ | refine Ext.tr ?_ (by assumption))))).alloc _) (by rfl) (new_cells wr #[.int .u8 (b.toNat : Int)] 5) (by simp [Value.oneCell']) (by omega) (by simp only [maxLen]; omega) ?_; intro v' w' hown' hext' hgg; clear hgg)
        go_roundw
        case rel => exact ⟨acc ++ [b], t, rfl, HS.out, by simp only [List.length_append, List.length_cons, List.length_nil]; omega, by rw [bc_app, List.length_append]; exact hown', hext'⟩
        case measure => simp [strLen]

/-- Where the reference's loop stands. -/
def DecAt (l acc : List UInt8) (k : Nat) : Prop := decL l = (decL (l.drop k)).map (acc ++ ·)
theorem wr_dig {b : UInt8} (h : isDig 16 (lowB b) = true) : wrV b = (digV (lowB b) : Int) := by unfold wrV; rw [if_pos h]
theorem wr_no {b : UInt8} (h : ¬ isDig 16 (lowB b) = true) : wrV b = -1 := by unfold wrV; rw [if_neg h]
theorem drop3 {l : List UInt8} {k : Nat} (h : k + 2 < l.length) : l.drop k = l[k] :: l[k + 1] :: l[k + 2] :: l.drop (k + 3) := by
  rw [List.drop_eq_getElem_cons (by omega), List.drop_eq_getElem_cons (by omega), List.drop_eq_getElem_cons (by omega)]
set_option maxRecDepth 100000 in
set_option maxHeartbeats 2000000 in
theorem urDecode_c (l : List UInt8) (hs : l.length ≤ 140737488351232) (w : World) :
    Calls Tryd.prog 41 #[.string (str l)] w (Gives (.tuple #[.string (str (decR l).1), .int .i64 (decR l).2]) w) := by
  have hms : maxLen = 9223372036854775807 := rfl
  go_enter Tryd.func41, Tryd.ntmps41
  go_wp2
  go_loopw [4, 5] (fun v i wr => ∃ acc k, i = .int .i64 (k : Nat) ∧ DecAt l acc k ∧ k ≤ l.length ∧ acc.length ≤ k ∧ wr.ownsRow w.heap.size 5 1 v acc.length (bc acc) ∧ Ext w wr) (fun _ i _ => l.length - (intOf i).toNat)
  case atStart => exact ⟨[], 0, rfl, by unfold DecAt; simp, by simp, Nat.le_refl _, World.ownsRow_nil _ _ _ _, Ext.rfl' _⟩
  case round =>
    obtain ⟨acc, k, rfl, hinv, hk, hak, hown, hext⟩ := hrel
    have HI := Lib.hid hinv
    have HO := Lib.hid hown
    clear hinv hown
    by_cases hlt : k < l.length
    · by_cases hb : l[k] = 37
      · have hb1 : ((l[k].toNat : Int) != 37) = false := by rw [hb]; rfl
        by_cases h2 : k + 2 < l.length
        · have i1 : IntKind.i64.wrap ((k : Int) + 2) = (k : Int) + 2 := by rw [IntKind.wrap_i64]; omega
          have i2 : IntKind.i64.wrap ((k : Int) + 1) = (k : Int) + 1 := by rw [IntKind.wrap_i64]; omega
          have i3 : decide ((l.length : Int) ≤ (k : Int) + 2) = false := by rw [decide_eq_false_iff_not]; omega
          have i4 : ((k : Int) + 1).toNat = k + 1 := by omega
          have i5 : ((k : Int) + 2).toNat = k + 2 := by omega
          have i6 : (0 : Int) ≤ (k : Int) + 1 := by omega
          have i7 : (0 : Int) ≤ (k : Int) + 2 := by omega
          have i8 : (k : Int) + 1 < (l.length : Int) := by omega
          have i9 : (k : Int) + 2 < (l.length : Int) := by omega
          have i10 : k + 1 < l.length := by omega
          have HD3 := Lib.hid (drop3 h2)
          have HB := Lib.hid hb
          clear hb
          by_cases d1 : isDig 16 (lowB l[k + 1]) = true
          · have v1 := wr_dig d1
            have l1 := dig_lt d1
            obtain ⟨x, hx⟩ : ∃ x : Nat, x = digV (lowB l[k + 1]) := ⟨_, rfl⟩
            rw [← hx] at v1 l1
            have V1 := Lib.hid v1
            by_cases d2 : isDig 16 (lowB l[k + 2]) = true
            · have v2 := wr_dig d2
              have l2 := dig_lt d2
              obtain ⟨y, hy⟩ : ∃ y : Nat, y = digV (lowB l[k + 2]) := ⟨_, rfl⟩
              rw [← hy] at v2 l2
              have V2 := Lib.hid v2
              have HS := Lib.hid (show DecAt l (acc ++ [UInt8.ofNat (x * 16 + y)]) (k + 3) by
                unfold DecAt
                have h0 := HI.out
                unfold DecAt at h0
                rw [h0, HD3.out, HB.out, dec_pct, if_pos ⟨d1, d2⟩, ← hx, ← hy]; simp [Option.map_map, Function.comp_def])
              clear d1 d2 hx hy v1 v2
              go_wp2_with (go_at_call 73; refine (urworth_c _ _).mono ?_; rintro e w1 ⟨rfl, hx1⟩; first | rw [V1.out] | rw [V2.out])
              have j1 : IntKind.i64.wrap (16 * (x : Int)) = 16 * (x : Int) := by rw [IntKind.wrap_i64]; omega
              have j2 : IntKind.i64.wrap (16 * (x : Int) + (y : Int)) = 16 * (x : Int) + (y : Int) := by rw [IntKind.wrap_i64]; omega
              have j3 : IntKind.u8.wrap (16 * (x : Int) + (y : Int)) = 16 * (x : Int) + (y : Int) := by rw [IntKind.wrap_u8]; omega
              have hxr : Ext wr w1 := by (repeat (first | exact Ext.rfl' _ | assumption | refine Ext.dr ?_ | refine Ext.drN ?_ _ | refine Ext.al ?_ _ | refine Ext.st ?_ (by simp) _ | refine Ext.tr ?_ (by assumption)))
              have hx0 : Ext w w1 := hext.tr hxr
              go_region_held3 (fun _ => True) (trivial) (first
                | (go_at_call 73; refine (urworth_c _ _).mono ?_; rintro e w1 ⟨rfl, hx1⟩; first | rw [V1.out] | rw [V2.out])
                | (refine step_app slt_u8 (.tmp 43) (.tmp 57) rfl rfl rfl rfl (by (repeat (first | exact Ext.rfl' _ | assumption | refine Ext.dr ?_ | refine Ext.drN ?_ _ | refine Ext.al ?_ _ | refine Ext.st ?_ (by simp) _ | refine Ext.tr ?_ (by assumption)))) (own_ext HO.out (by (repeat (first | exact Ext.rfl' _ | assumption | refine Ext.dr ?_ | refine Ext.drN ?_ _ | refine Ext.al ?_ _ | refine Ext.st ?_ (by simp) _ | refine Ext.tr ?_ (by assumption))))) (by rfl) (new_cells_g (by first | rfl | simp) #[.int .u8 (16 * (x : Int) + (y : Int))] 5) (by simp [Value.oneCell']) (by omega) (by simp only [maxLen]; omega) ?_; intro v' w' hown' hext' _))
              all_goals (
                have hown2 := Lib.hid hown'
                have hext2 := Lib.hid hext'
                clear hown' hext'
                go_wp2
                go_roundw
                case rel =>
                  have hbc : bc [UInt8.ofNat (x * 16 + y)] = [.int .u8 (16 * (x : Int) + (y : Int))] := by
                    show [Value.int .u8 ((UInt8.ofNat (x * 16 + y)).toNat : Int)] = _
                    have : ((UInt8.ofNat (x * 16 + y)).toNat : Int) = 16 * (x : Int) + (y : Int) := by rw [UInt8.toNat_ofNat']; omega
                    rw [this]
                  exact ⟨acc ++ [UInt8.ofNat (x * 16 + y)], k + 3, by go_num, HS.out, by omega, by simp only [List.length_append, List.length_cons, List.length_nil]; omega, by rw [bc_app, List.length_append, hbc]; exact hown2.out, hext2.out⟩
                case measure => simp [intOf]; omega)
            · have v2 := wr_no d2
              have V2 := Lib.hid v2
              have HN := Lib.hid (show decL l = none by
                have h0 := HI.out
                unfold DecAt at h0
                rw [h0, HD3.out, HB.out, dec_pct, if_neg (fun h => d2 h.2)]; rfl)
              clear d1 d2 hx v1 v2
              go_wp2_with (go_at_call 73; refine (urworth_c _ _).mono ?_; rintro e w1 ⟨rfl, hx1⟩; first | rw [V1.out] | rw [V2.out])
              go_ret2
              exact ⟨ret_val (by rw [decR_none HN.out]; rfl), by (repeat (first | exact Ext.rfl' _ | assumption | refine Ext.dr ?_ | refine Ext.drN ?_ _ | refine Ext.al ?_ _ | refine Ext.st ?_ (by simp) _ | refine Ext.tr ?_ (by assumption)))⟩
          · have v1 := wr_no d1
            have V1 := Lib.hid v1
            have HN := Lib.hid (show decL l = none by
              have h0 := HI.out
              unfold DecAt at h0
              rw [h0, HD3.out, HB.out, dec_pct, if_neg (fun h => d1 h.1)]; rfl)
            clear d1 v1
            go_wp2_with (go_at_call 73; refine (urworth_c _ _).mono ?_; rintro e w1 ⟨rfl, hx1⟩; rw [V1.out])
            go_ret2
            exact ⟨ret_val (by rw [decR_none HN.out]; rfl), by (repeat (first | exact Ext.rfl' _ | assumption | refine Ext.dr ?_ | refine Ext.drN ?_ _ | refine Ext.al ?_ _ | refine Ext.st ?_ (by simp) _ | refine Ext.tr ?_ (by assumption)))⟩
        · have i1 : IntKind.i64.wrap ((k : Int) + 2) = (k : Int) + 2 := by rw [IntKind.wrap_i64]; omega
          have i3 : decide ((l.length : Int) ≤ (k : Int) + 2) = true := by rw [decide_eq_true_eq]; omega
          have HN := Lib.hid (show decL l = none by
            have h0 := HI.out
            unfold DecAt at h0
            rw [h0, List.drop_eq_getElem_cons hlt, hb, dec_short _ (by rw [List.length_drop]; omega)]; rfl)
          clear hb h2
          go_wp2
          go_ret2
          exact ⟨ret_val (by rw [decR_none HN.out]; rfl), by (repeat (first | exact Ext.rfl' _ | assumption | refine Ext.dr ?_ | refine Ext.drN ?_ _ | refine Ext.al ?_ _ | refine Ext.st ?_ (by simp) _ | refine Ext.tr ?_ (by assumption)))⟩
      · have hb1 : ((l[k].toNat : Int) != 37) = true := by
          rw [bne_iff_ne]; intro h; exact hb (UInt8.toNat_inj.1 (by show l[k].toNat = 37; omega))
        have HS := Lib.hid (show DecAt l (acc ++ [l[k]]) (k + 1) by
          unfold DecAt
          have h0 := HI.out
          unfold DecAt at h0
          rw [h0, List.drop_eq_getElem_cons hlt, dec_plain _ _ hb]; simp [Option.map_map, Function.comp_def])
        clear hb
        go_wp2_with (at_builtin; refine wpL_app slt_u8 (.tmp 16) (.tmp 20) rfl rfl rfl rfl (Ext.al (by (repeat (first | exact Ext.rfl' _ | assumption | refine Ext.dr ?_ | refine Ext.drN ?_ _ | refine Ext.al ?_ _ | refine Ext.st ?_ (by simp) _ | refine Ext.tr ?_ (by assumption)))) _) ((own_ext HO.out (by (repeat (first | exact Ext.rfl' _ | assumption | refine Ext.dr ?_ | refine Ext.drN ?_ _ | refine Ext.al ?_ _ | refine Ext.st ?_ (by simp) _ | refine Ext.tr ?_ (by assumption))))).alloc _) (by rfl) (new_cells wr #[.int .u8 (l[k].toNat : Int)] 5) (by simp [Value.oneCell']) (by omega) (by simp only [maxLen]; omega) ?_; intro v' w' hown' hext' hgg; clear hgg)
        go_roundw
        case rel => exact ⟨acc ++ [l[k]], k + 1, by go_num, HS.out, by omega, by simp only [List.length_append, List.length_cons, List.length_nil]; omega, by rw [bc_app, List.length_append]; exact hown', hext'⟩
        case measure => simp [intOf]; omega
    · obtain rfl : k = l.length := by omega
      have HN := Lib.hid (show decL l = some acc by
        have h0 := HI.out
        unfold DecAt at h0
        rw [h0, List.drop_length]; simp [decL])
      obtain ⟨A, c, rfl, hnc, hcm, hr, _⟩ := Rd.of_own HO.out
      have cv := conv_bs (P := Tryd.prog) 106 9 5 Tryd.underlying106 Tryd.underlying5 Tryd.underlying9 hr acc.length c rfl
      obtain ⟨s, hs2⟩ : ∃ s, s = str acc := ⟨_, rfl⟩
      rw [← hs2] at cv
      have HS := Lib.hid hs2
      clear hs2 hr
      go_wp2
      go_ret2
      exact ⟨ret_val (by rw [decR_some HN.out]; show Value.tuple #[.string s, .int .i64 0] = _; rw [HS.out]), hext⟩
end Go.Proofs.YtjapkhhdpppmdaaDoor
