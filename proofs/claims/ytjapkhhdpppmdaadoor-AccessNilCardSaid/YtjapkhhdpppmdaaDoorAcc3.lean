/-
Texts of a log's line, read back: the program's unescape and the reference's plain.
-/
import Derived.Test.YtjapkhhdpppmdaaDoorAcc1
import Derived.Test.YtjapkhhdpppmdaaDoorUdec
set_option linter.unusedVariables false
set_option linter.unusedSimpArgs false
namespace Go.Proofs.YtjapkhhdpppmdaaDoor
open Go.RowKit

/-- What two signs behind a % say; none: 0. -/
def pctN (a b : UInt8) : Nat := if isDig 16 (lowB a) = true ∧ isDig 16 (lowB b) = true then digV (lowB a) * 16 + digV (lowB b) else 0
def unF : List UInt8 → List UInt8
  | [] => []
  | 37 :: a :: b :: l => UInt8.ofNat (pctN a b) :: unF l
  | c :: l => c :: unF l
/-- A text, read back. -/
def unL (l : List UInt8) : List UInt8 := if l = [45] then [] else unF l
theorem pctN_lt (a b : UInt8) : pctN a b < 256 := by
  unfold pctN
  split
  · rename_i h
    have h1 := dig_lt h.1
    have h2 := dig_lt h.2
    omega
  · omega
theorem num_pct (a b : UInt8) : ∃ e, numL 16 1152921504606846976 [a, b] = ((pctN a b : Int), e) := by
  rw [num_two]
  unfold pctN
  split
  · exact ⟨0, rfl⟩
  · exact ⟨21, rfl⟩
theorem unF_pct (a b : UInt8) (l : List UInt8) : unF (37 :: a :: b :: l) = UInt8.ofNat (pctN a b) :: unF l := by rw [unF]
theorem unF_plain (c : UInt8) (l : List UInt8) (h : c ≠ 37) : unF (c :: l) = c :: unF l := by
  conv => lhs; unfold unF
  split
  · simp_all
  · simp_all
  · rename_i heq
    injection heq with h1 h2
    rw [h1, h2]
theorem unF_short (l : List UInt8) (h : l.length < 2) : unF (37 :: l) = 37 :: unF l := by
  match l, h with
  | [], _ => rfl
  | [a], _ => rfl
theorem unF_len : ∀ l : List UInt8, (unF l).length ≤ l.length := by
  intro l
  induction h : l.length using Nat.strongRecOn generalizing l with
  | ind n ih =>
    subst h
    match l with
    | [] => simp [unF]
    | c :: t =>
      by_cases hc : c = 37
      · subst hc
        match t with
        | [] => simp [unF]
        | [a] =>
          rw [unF_short _ (by simp)]
          have := ih 1 (by simp) [a] rfl
          simp only [List.length_cons, List.length_nil] at *; omega
        | a :: b :: t =>
          rw [unF_pct]
          have := ih t.length (by simp; omega) t rfl
          simp only [List.length_cons] at *; omega
      · rw [unF_plain _ _ hc]
        have := ih t.length (by simp) t rfl
        simp only [List.length_cons] at *; omega
theorem unL_len (l : List UInt8) : (unL l).length ≤ l.length := by
  unfold unL
  split
  · simp
  · exact unF_len l
set_option maxRecDepth 100000 in
set_option maxHeartbeats 4000000 in
theorem aUnescape_c (l : List UInt8) (hs : l.length ≤ 140737488351232) (w : World) (hE : ErrR w) :
    Calls Tryd.prog 84 #[.string (str l)] w (Gives (.string (str (unL l))) w) := by
  by_cases h0 : l = [45]
  · subst h0
    rw [show unL [45] = [] from rfl, show str ([] : List UInt8) = ⟨#[]⟩ from rfl, show str ([45] : List UInt8) = ⟨#[45]⟩ from rfl]
    go_enter Tryd.func84, Tryd.ntmps84
    go_wp2
    go_ret
    exact ⟨rfl, by (repeat (first | exact Ext.rfl' _ | assumption | refine Ext.dr ?_ | refine Ext.drN ?_ _ | refine Ext.al ?_ _ | refine Ext.st ?_ (by simp) _ | refine Ext.tr ?_ (by assumption)))⟩
  have s1 := strNA h0
  have s2 : (l == [45]) = false := by rw [beq_eq_false_iff_ne]; exact h0
  obtain ⟨R, hR⟩ : ∃ R, R = unF l := ⟨_, rfl⟩
  rw [show unL l = R by unfold unL; rw [if_neg h0, hR]]
  have HR := Lib.hid hR
  clear hR
  have hms : maxLen = 9223372036854775807 := rfl
  have HE := Lib.hid hE
  clear hE
  go_enter Tryd.func84, Tryd.ntmps84
  go_wp2
  clear s1 s2 h0
  go_loopw [0, 3] (fun s v wr => ∃ acc l', s = .string (str l') ∧ R = acc ++ unF l' ∧ acc.length + l'.length ≤ l.length ∧ wr.ownsRow w.heap.size 5 1 v acc.length (bc acc) ∧ Ext w wr) (fun s _ _ => strLen s)
  case atStart => exact ⟨[], l, rfl, by rw [HR.out]; rfl, by simp, World.ownsRow_nil _ _ _ _, Ext.rfl' _⟩
  case round =>
    obtain ⟨acc, l', rfl, hinv, hll, hown, hext⟩ := hrel
    have HI := Lib.hid hinv
    have HO := Lib.hid hown
    clear hinv hown
    cases l' with
    | nil =>
      obtain ⟨A, c, rfl, hnc, hcm, hr, _⟩ := Rd.of_own HO.out
      have cv := conv_bs (P := Tryd.prog) 106 9 5 Tryd.underlying106 Tryd.underlying5 Tryd.underlying9 hr acc.length c rfl
      obtain ⟨s, hs2⟩ : ∃ s, s = str acc := ⟨_, rfl⟩
      rw [← hs2] at cv
      have HS := Lib.hid hs2
      have hemp : str ([] : List UInt8) = ⟨#[]⟩ := rfl
      rw [hemp]
      clear hs2 hr hemp
      go_wp2
      go_ret
      exact ⟨ret_val (by rw [HI.out, HS.out]; simp [unF]), hext⟩
    | cons b t =>
      simp only [List.length_cons] at hll
      have h256 := UInt8.toNat_lt b
      by_cases hb : b = 37
      · by_cases h2 : t.length < 2
        · have hlt : decide ((3 : Int) ≤ ((b :: t).length : Int)) = false := by rw [decide_eq_false_iff_not]; simp only [List.length_cons]; omega
          simp only [List.length_cons] at hlt
          have HS := Lib.hid (show R = (acc ++ [b]) ++ unF t by rw [HI.out, hb, unF_short _ h2]; simp)
          have hb1 : ((b.toNat : Int) == 37) = true := by rw [hb]; rfl
          clear hb
          go_wp2_with (at_builtin; refine wpL_app slt_u8 (.tmp 29) (.tmp 31) rfl rfl rfl rfl (Ext.al (by (repeat (first | exact Ext.rfl' _ | assumption | refine Ext.dr ?_ | refine Ext.drN ?_ _ | refine Ext.al ?_ _ | refine Ext.st ?_ (by simp) _ | refine Ext.tr ?_ (by assumption)))) _) ((own_ext HO.out (by (repeat (first | exact Ext.rfl' _ | assumption | refine Ext.dr ?_ | refine Ext.drN ?_ _ | refine Ext.al ?_ _ | refine Ext.st ?_ (by simp) _ | refine Ext.tr ?_ (by assumption))))).alloc _) (by rfl) (new_cells wr #[.int .u8 (b.toNat : Int)] 5) (by simp [Value.oneCell']) (by omega) (by simp only [maxLen]; omega) ?_; intro v' w' hown' hext' hgg; clear hgg)
          go_roundw
          case rel => exact ⟨acc ++ [b], t, rfl, HS.out, by simp only [List.length_append, List.length_cons, List.length_nil]; omega, by rw [bc_app, List.length_append]; exact hown', hext'⟩
          case measure => simp [strLen]
        · subst hb
          obtain ⟨a, t, rfl⟩ : ∃ a t', t = a :: t' := by cases t with | nil => simp at h2 | cons a t => exact ⟨a, t, rfl⟩
          obtain ⟨b, t, rfl⟩ : ∃ a t', t = a :: t' := by cases t with | nil => simp at h2 | cons a t => exact ⟨a, t, rfl⟩
          clear h2
          simp only [List.length_cons] at hll
          obtain ⟨e, h2⟩ := num_pct a b
          have CH := fun w hE => Hex_c [a, b] (by simp) w hE
          rw [h2] at CH
          have hlt : decide ((3 : Int) ≤ ((37 :: a :: b :: t : List UInt8).length : Int)) = true := by rw [decide_eq_true_eq]; simp only [List.length_cons]; omega
          simp only [List.length_cons] at hlt
          have hlt2 : (3 : Int) ≤ (t.length : Int) + 1 + 1 + 1 := by omega
          have hn2 := pctN_lt a b
          obtain ⟨n, hn⟩ : ∃ n : Nat, n = pctN a b := ⟨_, rfl⟩
          rw [← hn] at CH hn2
          have HS := Lib.hid (show R = (acc ++ [UInt8.ofNat n]) ++ unF t by rw [HI.out, unF_pct, ← hn]; simp)
          have CH := Lib.hid CH
          have hbt : ((UInt8.ofNat n).toNat : Int) = (n : Int) := by rw [UInt8.toNat_ofNat']; omega
          have HBT := Lib.hid hbt
          have hw8 : IntKind.u8.wrap (n : Int) = (n : Int) := by rw [IntKind.wrap_u8]; omega
          clear hn h2 hbt
          go_wp2_with (first
            | (go_at_call 72; refine (CH.out _ (HE.out.ext (by (repeat (first | exact Ext.rfl' _ | assumption | refine Ext.dr ?_ | refine Ext.drN ?_ _ | refine Ext.al ?_ _ | refine Ext.st ?_ (by simp) _ | refine Ext.tr ?_ (by assumption)))))).mono ?_; rintro e w1 ⟨rfl, hx1⟩)
            | (at_builtin; refine wpL_app slt_u8 (.tmp 29) (.tmp 31) rfl rfl rfl rfl (Ext.al (by (repeat (first | exact Ext.rfl' _ | assumption | refine Ext.dr ?_ | refine Ext.drN ?_ _ | refine Ext.al ?_ _ | refine Ext.st ?_ (by simp) _ | refine Ext.tr ?_ (by assumption)))) _) ((own_ext HO.out (by (repeat (first | exact Ext.rfl' _ | assumption | refine Ext.dr ?_ | refine Ext.drN ?_ _ | refine Ext.al ?_ _ | refine Ext.st ?_ (by simp) _ | refine Ext.tr ?_ (by assumption))))).alloc _) (by rfl) (new_cells w1 #[.int .u8 (n : Int)] 5) (by simp [Value.oneCell']) (by omega) (by simp only [maxLen]; omega) ?_; intro v' w' hown' hext' hgg; clear hgg))
          go_roundw
          case rel =>
            have hbc : bc [UInt8.ofNat n] = [.int .u8 (n : Int)] := by show [Value.int .u8 ((UInt8.ofNat n).toNat : Int)] = _; rw [HBT.out]
            exact ⟨acc ++ [UInt8.ofNat n], t, rfl, HS.out, by simp only [List.length_append, List.length_cons, List.length_nil]; omega, by rw [bc_app, List.length_append, hbc]; exact hown', hext'⟩
          case measure => simp [strLen]; try omega
      · have hb1 : ((b.toNat : Int) == 37) = false := by
          rw [beq_eq_false_iff_ne]; intro h; exact hb (UInt8.toNat_inj.1 (by show b.toNat = 37; omega))
        have HS := Lib.hid (show R = (acc ++ [b]) ++ unF t by rw [HI.out, unF_plain _ _ hb]; simp)
        clear hb
        go_wp2_with (at_builtin; refine wpL_app slt_u8 (.tmp 29) (.tmp 31) rfl rfl rfl rfl (Ext.al (by (repeat (first | exact Ext.rfl' _ | assumption | refine Ext.dr ?_ | refine Ext.drN ?_ _ | refine Ext.al ?_ _ | refine Ext.st ?_ (by simp) _ | refine Ext.tr ?_ (by assumption)))) _) ((own_ext HO.out (by (repeat (first | exact Ext.rfl' _ | assumption | refine Ext.dr ?_ | refine Ext.drN ?_ _ | refine Ext.al ?_ _ | refine Ext.st ?_ (by simp) _ | refine Ext.tr ?_ (by assumption))))).alloc _) (by rfl) (new_cells wr #[.int .u8 (b.toNat : Int)] 5) (by simp [Value.oneCell']) (by omega) (by simp only [maxLen]; omega) ?_; intro v' w' hown' hext' hgg; clear hgg)
        go_roundw
        case rel => exact ⟨acc ++ [b], t, rfl, HS.out, by simp only [List.length_append, List.length_cons, List.length_nil]; omega, by rw [bc_app, List.length_append]; exact hown', hext'⟩
        case measure => simp [strLen]
theorem slice3 {l : List UInt8} {k : Nat} (h : k + 2 < l.length) : (l.take (k + 3)).drop (k + 1) = [l[k + 1], l[k + 2]] := by
  have h1 : l.drop (k + 1) = l[k + 1] :: l[k + 2] :: l.drop (k + 3) := by
    rw [List.drop_eq_getElem_cons (by omega), List.drop_eq_getElem_cons (by omega)]
  rw [List.drop_take, h1, show k + 3 - (k + 1) = 2 by omega]
  rfl
set_option maxRecDepth 100000 in
set_option maxHeartbeats 4000000 in
theorem arPlain_c (l : List UInt8) (hs : l.length ≤ 140737488351232) (w : World) :
    Calls Tryd.prog 53 #[.string (str l)] w (Gives (.string (str (unL l))) w) := by
  by_cases h0 : l = [45]
  · subst h0
    rw [show unL [45] = [] from rfl, show str ([] : List UInt8) = ⟨#[]⟩ from rfl, show str ([45] : List UInt8) = ⟨#[45]⟩ from rfl]
    go_enter Tryd.func53, Tryd.ntmps53
    go_wp2
    go_ret
    exact ⟨rfl, by (repeat (first | exact Ext.rfl' _ | assumption | refine Ext.dr ?_ | refine Ext.drN ?_ _ | refine Ext.al ?_ _ | refine Ext.st ?_ (by simp) _ | refine Ext.tr ?_ (by assumption)))⟩
  have s1 := strNA h0
  have s2 : (l == [45]) = false := by rw [beq_eq_false_iff_ne]; exact h0
  obtain ⟨R, hR⟩ : ∃ R, R = unF l := ⟨_, rfl⟩
  rw [show unL l = R by unfold unL; rw [if_neg h0, hR]]
  have HR := Lib.hid hR
  clear hR
  have hms : maxLen = 9223372036854775807 := rfl
  go_enter Tryd.func53, Tryd.ntmps53
  go_wp2
  clear s1 s2 h0
  go_loopw [3, 4] (fun v i wr => ∃ acc k, i = .int .i64 (k : Nat) ∧ R = acc ++ unF (l.drop k) ∧ k ≤ l.length ∧ acc.length ≤ k ∧ wr.ownsRow w.heap.size 5 1 v acc.length (bc acc) ∧ Ext w wr) (fun _ i _ => l.length - (intOf i).toNat)
  case atStart => exact ⟨[], 0, rfl, by rw [HR.out]; rfl, by simp, Nat.le_refl _, World.ownsRow_nil _ _ _ _, Ext.rfl' _⟩
  case round =>
    obtain ⟨acc, k, rfl, hinv, hk, hak, hown, hext⟩ := hrel
    have HI := Lib.hid hinv
    have HO := Lib.hid hown
    clear hinv hown
    by_cases hlt : k < l.length
    · have hki : (k : Int) + 1 ≤ 9223372036854775807 := by omega
      by_cases hb : l[k] = 37
      · have hb1 : ((l[k].toNat : Int) == 37) = true := by rw [hb]; rfl
        have i1 : IntKind.i64.wrap ((k : Int) + 2) = (k : Int) + 2 := by rw [IntKind.wrap_i64]; omega
        by_cases h2 : k + 2 < l.length
        · have i2 : IntKind.i64.wrap ((k : Int) + 1) = (k : Int) + 1 := by rw [IntKind.wrap_i64]; omega
          have i22 : IntKind.i64.wrap ((k : Int) + 3) = (k : Int) + 3 := by rw [IntKind.wrap_i64]; omega
          have i3 : (k : Int) + 2 < (l.length : Int) := by omega
          have i4 : ((k : Int) + 1).toNat = k + 1 := by omega
          have i5 : ((k : Int) + 3).toNat = k + 3 := by omega
          have i6 : (0 : Int) ≤ (k : Int) + 1 := by omega
          have i7 : (k : Int) + 1 ≤ (k : Int) + 3 := by omega
          have i8 : (k : Int) + 3 ≤ (l.length : Int) := by omega
          have hdr := drop3 h2
          obtain ⟨e, hn0⟩ := num_pct l[k + 1] l[k + 2]
          have CH := fun w => rHex_c ((l.take (k + 3)).drop (k + 1)) (by rw [slice3 h2]; simp [maxLen]) w
          rw [show numL 16 1152921504606846976 ((l.take (k + 3)).drop (k + 1)) = ((pctN l[k + 1] l[k + 2] : Int), e) by rw [slice3 h2]; exact hn0] at CH
          have hn2 := pctN_lt l[k + 1] l[k + 2]
          obtain ⟨n, hn⟩ : ∃ n : Nat, n = pctN l[k + 1] l[k + 2] := ⟨_, rfl⟩
          rw [← hn] at CH hn2
          have HS := Lib.hid (show R = (acc ++ [UInt8.ofNat n]) ++ unF (l.drop (k + 3)) by rw [HI.out, hdr, hb, unF_pct, ← hn]; simp)
          have CH := Lib.hid CH
          have hbt : ((UInt8.ofNat n).toNat : Int) = (n : Int) := by rw [UInt8.toNat_ofNat']; omega
          have HBT := Lib.hid hbt
          have hw8 : IntKind.u8.wrap (n : Int) = (n : Int) := by rw [IntKind.wrap_u8]; omega
          clear hn hn0 hbt hdr hb
          go_wp2_with (first
            | (go_at_call 89; refine (CH.out _).mono ?_; rintro e w1 ⟨rfl, hx1⟩)
            | (at_builtin; refine wpL_app slt_u8 (.tmp 36) (.tmp 39) rfl rfl rfl rfl (Ext.al (by (repeat (first | exact Ext.rfl' _ | assumption | refine Ext.dr ?_ | refine Ext.drN ?_ _ | refine Ext.al ?_ _ | refine Ext.st ?_ (by simp) _ | refine Ext.tr ?_ (by assumption)))) _) ((own_ext HO.out (by (repeat (first | exact Ext.rfl' _ | assumption | refine Ext.dr ?_ | refine Ext.drN ?_ _ | refine Ext.al ?_ _ | refine Ext.st ?_ (by simp) _ | refine Ext.tr ?_ (by assumption))))).alloc _) (by rfl) (new_cells w1 #[.int .u8 (n : Int)] 5) (by simp [Value.oneCell']) (by omega) (by simp only [maxLen]; omega) ?_; intro v' w' hown' hext' hgg; clear hgg))
          go_roundw
          case rel =>
            have hbc : bc [UInt8.ofNat n] = [.int .u8 (n : Int)] := by show [Value.int .u8 ((UInt8.ofNat n).toNat : Int)] = _; rw [HBT.out]
            exact ⟨acc ++ [UInt8.ofNat n], k + 3, by go_num, HS.out, by omega, by simp only [List.length_append, List.length_cons, List.length_nil]; omega, by rw [bc_app, List.length_append, hbc]; exact hown', hext'⟩
          case measure => simp [intOf]; omega
        · have i3 : ¬ (k : Int) + 2 < (l.length : Int) := by omega
          have HS := Lib.hid (show R = (acc ++ [l[k]]) ++ unF (l.drop (k + 1)) by
            rw [HI.out, List.drop_eq_getElem_cons hlt, hb, unF_short _ (by rw [List.length_drop]; omega)]; simp)
          clear hb h2
          go_wp2_with (at_builtin; refine wpL_app slt_u8 (.tmp 43) (.tmp 47) rfl rfl rfl rfl (Ext.al (by (repeat (first | exact Ext.rfl' _ | assumption | refine Ext.dr ?_ | refine Ext.drN ?_ _ | refine Ext.al ?_ _ | refine Ext.st ?_ (by simp) _ | refine Ext.tr ?_ (by assumption)))) _) ((own_ext HO.out (by (repeat (first | exact Ext.rfl' _ | assumption | refine Ext.dr ?_ | refine Ext.drN ?_ _ | refine Ext.al ?_ _ | refine Ext.st ?_ (by simp) _ | refine Ext.tr ?_ (by assumption))))).alloc _) (by rfl) (new_cells wr #[.int .u8 (l[k].toNat : Int)] 5) (by simp [Value.oneCell']) (by omega) (by simp only [maxLen]; omega) ?_; intro v' w' hown' hext' hgg; clear hgg)
          go_roundw
          case rel => exact ⟨acc ++ [l[k]], k + 1, by go_num, HS.out, by omega, by simp only [List.length_append, List.length_cons, List.length_nil]; omega, by rw [bc_app, List.length_append]; exact hown', hext'⟩
          case measure => simp [intOf]; omega
      · have hb1 : ((l[k].toNat : Int) == 37) = false := by
          rw [beq_eq_false_iff_ne]; intro h; exact hb (UInt8.toNat_inj.1 (by show l[k].toNat = 37; omega))
        have HS := Lib.hid (show R = (acc ++ [l[k]]) ++ unF (l.drop (k + 1)) by
          rw [HI.out, List.drop_eq_getElem_cons hlt, unF_plain _ _ hb]; simp)
        clear hb
        go_wp2_with (at_builtin; refine wpL_app slt_u8 (.tmp 43) (.tmp 47) rfl rfl rfl rfl (Ext.al (by (repeat (first | exact Ext.rfl' _ | assumption | refine Ext.dr ?_ | refine Ext.drN ?_ _ | refine Ext.al ?_ _ | refine Ext.st ?_ (by simp) _ | refine Ext.tr ?_ (by assumption)))) _) ((own_ext HO.out (by (repeat (first | exact Ext.rfl' _ | assumption | refine Ext.dr ?_ | refine Ext.drN ?_ _ | refine Ext.al ?_ _ | refine Ext.st ?_ (by simp) _ | refine Ext.tr ?_ (by assumption))))).alloc _) (by rfl) (new_cells wr #[.int .u8 (l[k].toNat : Int)] 5) (by simp [Value.oneCell']) (by omega) (by simp only [maxLen]; omega) ?_; intro v' w' hown' hext' hgg; clear hgg)
        go_roundw
        case rel => exact ⟨acc ++ [l[k]], k + 1, by go_num, HS.out, by omega, by simp only [List.length_append, List.length_cons, List.length_nil]; omega, by rw [bc_app, List.length_append]; exact hown', hext'⟩
        case measure => simp [intOf]; omega
    · obtain rfl : k = l.length := by omega
      have HN := Lib.hid (show R = acc by rw [HI.out, List.drop_length]; simp [unF])
      obtain ⟨A, c, rfl, hnc, hcm, hr, _⟩ := Rd.of_own HO.out
      have cv := conv_bs (P := Tryd.prog) 106 9 5 Tryd.underlying106 Tryd.underlying5 Tryd.underlying9 hr acc.length c rfl
      obtain ⟨s, hs2⟩ : ∃ s, s = str acc := ⟨_, rfl⟩
      rw [← hs2] at cv
      have HS := Lib.hid hs2
      clear hs2 hr
      go_wp2
      go_ret
      exact ⟨ret_val (by show Value.string s = _; rw [HN.out, HS.out]), hext⟩
end Go.Proofs.YtjapkhhdpppmdaaDoor
