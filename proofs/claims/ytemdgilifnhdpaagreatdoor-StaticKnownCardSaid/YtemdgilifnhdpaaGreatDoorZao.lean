/-
The reference's Clean.
-/
import Derived.Test.YtemdgilifnhdpaaGreatDoorCln
import Derived.Test.YtemdgilifnhdpaaGreatDoorZae
set_option linter.unusedVariables false
set_option linter.unusedSimpArgs false
section
namespace Go.Proofs.YtemdgilifnhdpaaGreatDoor
open Go.RowKit

theorem segs_at (l : List UInt8) (f i : Nat) (hf : f ≤ i) (hi : l[i]? = some 47) (hn : ∀ j, f ≤ j → j < i → l[j]? ≠ some 47) :
    segsL (l.drop f) = (l.take i).drop f :: segsL (l.drop (i + 1)) := by
  obtain ⟨hl, hg⟩ := List.getElem?_eq_some_iff.1 hi
  have e : l.drop f = (l.take i).drop f ++ 47 :: l.drop (i + 1) := by
    have e1 : l = l.take i ++ 47 :: l.drop (i + 1) := by
      conv => lhs; rw [← List.take_append_drop i l, List.drop_eq_getElem_cons hl, hg]
    conv => lhs; rw [e1]
    rw [List.drop_append_of_le_length (by rw [List.length_take]; omega)]
  rw [e]
  refine segs_some _ _ (fun hm => ?_)
  obtain ⟨j, hj, hj2⟩ := List.getElem_of_mem hm
  simp only [List.length_drop, List.length_take] at hj
  refine hn (f + j) (by omega) (by omega) ?_
  rw [List.getElem_drop, List.getElem_take] at hj2
  rw [List.getElem?_eq_getElem (by omega), hj2]
theorem segs_end (l : List UInt8) (f : Nat) (hn : ∀ j, f ≤ j → j < l.length → l[j]? ≠ some 47) : segsL (l.drop f) = [l.drop f] := by
  refine segs_none _ (not_mem_of fun k => ?_)
  rw [List.getElem?_drop]
  rcases Nat.lt_or_ge (f + k) l.length with h | h
  · exact hn _ (by omega) h
  · rw [List.getElem?_eq_none h]; simp
def SegAt (l : List UInt8) (S acc : List (List UInt8)) (f i : Nat) : Prop :=
  (i ≤ l.length ∧ f ≤ i ∧ (∀ j, f ≤ j → j < i → l[j]? ≠ some 47) ∧ S = acc ++ segsL (l.drop f)) ∨ (i = l.length + 1 ∧ S = acc)

set_option maxRecDepth 100000 in
set_option maxHeartbeats 2000000 in
theorem rsegments_c (l : List UInt8) (h1 : 1 ≤ l.length) (hs : l.length ≤ 1099511627776) (w : World) :
    Calls Tryz.prog 115 #[.string (str l)] w (Ret (IsSlS (segsL (l.drop 1))) w) := by
  have hms : maxLen = 9223372036854775807 := rfl
  have htot := segs_cnt (l.drop 1)
  rw [List.length_drop] at htot
  obtain ⟨S, hS⟩ : ∃ S, S = segsL (l.drop 1) := ⟨_, rfl⟩
  rw [← hS] at htot ⊢
  have HS0 := Lib.hid hS
  clear hS
  go_enter Tryz.func115, Tryz.ntmps115
  go_wp2
  go_loopw [3, 4, 5] (fun v f i wr => ∃ acc fn k, f = .int .i64 (fn : Nat) ∧ i = .int .i64 (k : Nat) ∧ SegAt l S acc fn k ∧ wr.ownsRow w.heap.size 9 1 v acc.length (sc acc) ∧ Ext w wr) (fun _ _ i _ => l.length + 1 - (intOf i).toNat)
  case atStart => exact ⟨[], 1, 1, rfl, rfl, .inl ⟨h1, Nat.le_refl _, fun j _ h => by omega, by rw [HS0.out]; rfl⟩, World.ownsRow_nil _ _ _ _, Ext.rfl' _⟩
  case round =>
    obtain ⟨acc, f, k, rfl, rfl, hat, hown, hext⟩ := hrel
    rcases hat with ⟨hk, hf, hno, hinv⟩ | ⟨rfl, hinv⟩
    · have hacc : acc.length ≤ l.length + 1 := by
        have := congrArg List.length hinv; rw [List.length_append] at this; omega
      have HI := Lib.hid hinv
      have HN := Lib.hid hno
      have HO := Lib.hid hown
      clear hinv hown hno
      by_cases hlt : k < l.length
      · have k1 : ((k : Int) == (l.length : Int)) = false := by rw [beq_eq_false_iff_ne]; omega
        by_cases hc : l[k] = 47
        · have HS := Lib.hid (segs_at l f k hf (by rw [List.getElem?_eq_getElem hlt, hc]) HN.out)
          have b1 : ((l[k].toNat : Int) == 47) = true := by rw [hc]; rfl
          clear hc
          obtain ⟨q, hq⟩ : ∃ q, q = (l.take k).drop f := ⟨_, rfl⟩
          go_wp2_with (at_builtin; refine wpL_app slt_str (.tmp 22) (.tmp 27) rfl rfl rfl rfl (Ext.al (by (repeat (first | exact Ext.rfl' _ | assumption | refine Ext.dr ?_ | refine Ext.drN ?_ _ | refine Ext.al ?_ _ | refine Ext.st ?_ (by simp) _ | refine Ext.tr ?_ (by assumption)))) _) ((own_ext HO.out (by (repeat (first | exact Ext.rfl' _ | assumption | refine Ext.dr ?_ | refine Ext.drN ?_ _ | refine Ext.al ?_ _ | refine Ext.st ?_ (by simp) _ | refine Ext.tr ?_ (by assumption))))).alloc _) (by rfl) (new_cells wr #[.string (str ((l.take k).drop f))] 9) (by simp [Value.oneCell']) (by omega) (by omega) ?_; intro v' w' hown' hext' hgg; clear hgg)
          go_roundw
          case rel => exact ⟨acc ++ [(l.take k).drop f], k + 1, k + 1, by go_num, by go_num, .inl ⟨by omega, Nat.le_refl _, fun j h1 h2 => by omega, by rw [HI.out, HS.out]; simp⟩, by rw [sc_app, List.length_append]; exact hown', hext'⟩
          case measure => simp [intOf]; omega
        · have b1 : ((l[k].toNat : Int) == 47) = false := by rw [beq_eq_false_iff_ne]; intro h; exact hc (UInt8.toNat_inj.1 (by show l[k].toNat = 47; omega))
          have HC := Lib.hid hc
          clear hc
          go_wp2
          go_roundw
          case rel =>
            refine ⟨acc, f, k + 1, rfl, by go_num, .inl ⟨by omega, by omega, fun j h1 h2 => ?_, HI.out⟩, HO.out, hext⟩
            rcases Nat.lt_or_ge j k with h | h
            · exact HN.out j h1 h
            · obtain rfl : j = k := by omega
              rw [List.getElem?_eq_getElem hlt]
              intro e
              exact HC.out (Option.some.inj e)
          case measure => simp [intOf]; omega
      · obtain rfl : k = l.length := by omega
        have HS := Lib.hid (segs_end l f HN.out)
        go_wp2_with (at_builtin; refine wpL_app slt_str (.tmp 22) (.tmp 27) rfl rfl rfl rfl (Ext.al (by (repeat (first | exact Ext.rfl' _ | assumption | refine Ext.dr ?_ | refine Ext.drN ?_ _ | refine Ext.al ?_ _ | refine Ext.st ?_ (by simp) _ | refine Ext.tr ?_ (by assumption)))) _) ((own_ext HO.out (by (repeat (first | exact Ext.rfl' _ | assumption | refine Ext.dr ?_ | refine Ext.drN ?_ _ | refine Ext.al ?_ _ | refine Ext.st ?_ (by simp) _ | refine Ext.tr ?_ (by assumption))))).alloc _) (by rfl) (new_cells wr #[.string (str (l.drop f))] 9) (by simp [Value.oneCell']) (by omega) (by omega) ?_; intro v' w' hown' hext' hgg; clear hgg)
        go_roundw
        case rel => exact ⟨acc ++ [l.drop f], l.length + 1, l.length + 1, by go_num, by go_num, .inr ⟨rfl, by rw [HI.out, HS.out]⟩, by rw [sc_app, List.length_append]; exact hown', hext'⟩
        case measure => simp [intOf]
    · have HI := Lib.hid hinv
      clear hinv
      obtain ⟨A', c', rfl, hcc, hcm, hr, _⟩ := Rd.of_own hown
      clear hown
      go_wp2
      go_ret
      exact Ret.is rfl (IsSlS.mk (by rw [HI.out]) (by rw [HI.out]; exact hr) hcm) hext

theorem clean_no {l : List UInt8} (h : ¬ (l.head? = some 47 ∧ l.length ≤ 4096 ∧ 0 ∉ l)) : cleanL l = ([], 40) := by unfold cleanL; rw [if_neg h]
theorem clean_out {l : List UInt8} (h : l.head? = some 47 ∧ l.length ≤ 4096 ∧ 0 ∉ l) (hw : walkS [] (segsL (l.drop 1)) = none) : cleanL l = ([], 40) := by
  unfold cleanL; rw [if_pos h, ← List.drop_one, hw]
theorem clean_in {l : List UInt8} (h : l.head? = some 47 ∧ l.length ≤ 4096 ∧ 0 ∉ l) {L : List (List UInt8)} (hw : walkS [] (segsL (l.drop 1)) = some L) : cleanL l = (outS L (dotS ((segsL (l.drop 1)).getLastD [])), 0) := by
  unfold cleanL; rw [if_pos h, ← List.drop_one, hw]
theorem walk_take {S : List (List UInt8)} {k : Nat} {L : List (List UInt8)} (hk : k < S.length) (h : walkS [] (S.take k) = some L) : walkS [] (S.take (k + 1)) = walkS L [S[k]] := by
  rw [List.take_succ_eq_append_getElem hk, walk_app, h]; rfl
theorem walk_none {S : List (List UInt8)} {k : Nat} (h : walkS [] (S.take k) = none) : walkS [] S = none := walk_prefix (List.take_prefix k S) h
theorem flat_take (L : List (List UInt8)) (k : Nat) (h : k < L.length) : (L.take (k + 1)).flatMap (fun s => 47 :: s) = (L.take k).flatMap (fun s => 47 :: s) ++ 47 :: L[k] := by
  rw [List.take_succ_eq_append_getElem h, List.flatMap_append]; simp
theorem flatS_len (L : List (List UInt8)) (k : Nat) : ((L.take k).flatMap (fun s => 47 :: s)).length ≤ totS L := by
  rw [tot_flat]
  have : totS L = totS (L.take k) + totS (L.drop k) := by rw [← tot_app, List.take_append_drop]
  omega
theorem tot_mem {L : List (List UInt8)} {k : Nat} (h : k < L.length) : L[k].length ≤ totS L := by
  have e : L = L.take k ++ L[k] :: L.drop (k + 1) := by
    conv => lhs; rw [← List.take_append_drop k L, List.drop_eq_getElem_cons h]
  have : totS L = totS (L.take k) + (L[k].length + 1 + totS (L.drop (k + 1))) := by conv => lhs; rw [e, tot_app, tot_cons]
  omega

set_option maxRecDepth 100000 in
set_option maxHeartbeats 4000000 in
theorem rClean_bad (l : List UInt8) (hs : l.length ≤ 140737488355328) (h : ¬ (l.head? = some 47 ∧ l.length ≤ 4096 ∧ 0 ∉ l)) (w : World) :
    Calls Tryz.prog 82 #[.string (str l)] w (Gives (.tuple #[.string (str (cleanL l).1), .int .i64 (cleanL l).2]) w) := by
  have HN := Lib.hid (clean_no h)
  cases l with
  | nil =>
    have e : str ([] : List UInt8) = ⟨#[]⟩ := rfl
    rw [e]
    clear h e
    go_enter Tryz.func82, Tryz.ntmps82
    go_wp2
    go_ret2
    exact ⟨ret_val (by rw [HN.out]; rfl), by (repeat (first | exact Ext.rfl' _ | assumption | refine Ext.dr ?_ | refine Ext.drN ?_ _ | refine Ext.al ?_ _ | refine Ext.st ?_ (by simp) _ | refine Ext.tr ?_ (by assumption)))⟩
  | cons b t =>
    have hne : (str (b :: t)).toList.isEmpty = false := by rw [Lib.toList_data]; rfl
    have h256 := UInt8.toNat_lt b
    by_cases h1 : b = 47
    · subst h1
      by_cases h2 : (47 :: t : List UInt8).length ≤ 4096
      · have h3 : 0 ∈ (47 :: t : List UInt8) := Classical.byContradiction fun h3 => h ⟨rfl, h2, h3⟩
        obtain ⟨l, hl⟩ : ∃ l : List UInt8, l = 47 :: t := ⟨_, rfl⟩
        have hl0 : 0 < l.length := by rw [hl]; simp
        have e0 : l[0] = 47 := by subst hl; rfl
        have e1 : ((l[0].toNat : Int) != 47) = false := by rw [e0]; rfl
        have e2 : l.isEmpty = false := by rw [hl]; rfl
        rw [← hl] at HN h3 h2 hne ⊢
        have lt2 : decide ((4096 : Int) < (l.length : Int)) = false := by rw [decide_eq_false_iff_not]; omega
        have H3 := Lib.hid h3
        clear h h3 hl e0
        go_enter Tryz.func82, Tryz.ntmps82
        go_wp2
        go_loopw [4] (fun i wr => ∃ k : Nat, i = .int .i64 k ∧ k ≤ l.length ∧ 0 ∉ l.take k ∧ w = wr) (fun i _ => l.length - (intOf i).toNat)
        case atStart => exact ⟨0, rfl, Nat.zero_le _, by simp, rfl⟩
        case round =>
          obtain ⟨k, rfl, hk, hz, rfl⟩ := hrel
          have HZ := Lib.hid hz
          clear hz
          by_cases hlt : k < l.length
          · by_cases hc : l[k] = 0
            · have b1 : ((l[k].toNat : Int) == 0) = true := by rw [hc]; rfl
              clear hc
              go_wp2
              go_ret2
              exact ⟨ret_val (by rw [HN.out]; rfl), by (repeat (first | exact Ext.rfl' _ | assumption | refine Ext.dr ?_ | refine Ext.drN ?_ _ | refine Ext.al ?_ _ | refine Ext.st ?_ (by simp) _ | refine Ext.tr ?_ (by assumption)))⟩
            · have b1 : ((l[k].toNat : Int) == 0) = false := by rw [beq_eq_false_iff_ne]; intro h; exact hc (UInt8.toNat_inj.1 (by show l[k].toNat = 0; omega))
              have HZ2 := Lib.hid (show 0 ∉ l.take (k + 1) by
                rw [List.take_succ_eq_append_getElem hlt]; simp only [List.mem_append, List.mem_singleton, not_or]; exact ⟨HZ.out, fun e => hc e.symm⟩)
              clear hc
              go_wp2
              go_roundw
              case rel => exact ⟨k + 1, by go_num, by omega, HZ2.out, by trivial⟩
              case measure => simp [intOf]; omega
          · exfalso
            have : l.take k = l := List.take_of_length_le (by omega)
            have hh := HZ.out
            rw [this] at hh
            exact hh H3.out
      · obtain ⟨l, hl⟩ : ∃ l : List UInt8, l = 47 :: t := ⟨_, rfl⟩
        have hl0 : 0 < l.length := by rw [hl]; simp
        have e0 : l[0] = 47 := by subst hl; rfl
        have e1 : ((l[0].toNat : Int) != 47) = false := by rw [e0]; rfl
        have e2 : l.isEmpty = false := by rw [hl]; rfl
        rw [← hl] at HN h2 hne ⊢
        have lt2 : decide ((4096 : Int) < (l.length : Int)) = true := by rw [decide_eq_true_eq]; omega
        clear h h2 hl e0
        go_enter Tryz.func82, Tryz.ntmps82
        go_wp2
        go_ret2
        exact ⟨ret_val (by rw [HN.out]; rfl), by (repeat (first | exact Ext.rfl' _ | assumption | refine Ext.dr ?_ | refine Ext.drN ?_ _ | refine Ext.al ?_ _ | refine Ext.st ?_ (by simp) _ | refine Ext.tr ?_ (by assumption)))⟩
    · have b1 : ((b.toNat : Int) != 47) = true := by rw [bne_iff_ne]; intro h; exact h1 (UInt8.toNat_inj.1 (by show b.toNat = 47; omega))
      clear h h1
      go_enter Tryz.func82, Tryz.ntmps82
      go_wp2
      go_ret2
      exact ⟨ret_val (by rw [HN.out]; rfl), by (repeat (first | exact Ext.rfl' _ | assumption | refine Ext.dr ?_ | refine Ext.drN ?_ _ | refine Ext.al ?_ _ | refine Ext.st ?_ (by simp) _ | refine Ext.tr ?_ (by assumption)))⟩

set_option maxRecDepth 100000 in
set_option maxHeartbeats 8000000 in
theorem rClean_good (l : List UInt8) (h : l.head? = some 47 ∧ l.length ≤ 4096 ∧ 0 ∉ l) (w : World) :
    Calls Tryz.prog 82 #[.string (str l)] w (Gives (.tuple #[.string (str (cleanL l).1), .int .i64 (cleanL l).2]) w) := by
  have HH := Lib.hid h
  obtain ⟨h1, h2, h3⟩ := h
  have hl0 : 0 < l.length := by cases l with | nil => cases h1 | cons _ _ => simp
  have e0 : l[0] = 47 := by cases l with | nil => cases h1 | cons b _ => simpa using h1
  have e1 : ((l[0].toNat : Int) != 47) = false := by rw [e0]; rfl
  have e2 : l.isEmpty = false := by cases l with | nil => cases h1 | cons _ _ => rfl
  have hne : (str l).toList.isEmpty = false := by rw [Lib.toList_data]; exact e2
  have lt2 : decide ((4096 : Int) < (l.length : Int)) = false := by rw [decide_eq_false_iff_not]; omega
  have H3 := Lib.hid h3
  have hms : maxLen = 9223372036854775807 := rfl
  obtain ⟨S, hS⟩ : ∃ S, S = segsL (l.drop 1) := ⟨_, rfl⟩
  have hcnt := segs_cnt (l.drop 1)
  have hne0 := List.length_pos_iff.2 (segs_ne (l.drop 1))
  have hmem : ∀ t ∈ segsL (l.drop 1), 47 ∉ t ∧ 0 ∉ t := fun t ht => ⟨segs_no _ t ht, fun h0 => h3 (List.mem_of_mem_drop (segs_sub _ t ht 0 h0))⟩
  have htS := segs_len (l.drop 1)
  rw [List.length_drop] at hcnt htS
  rw [← hS] at hcnt hne0 hmem htS
  have HS0 := Lib.hid hS
  have HM := Lib.hid hmem
  have CS := fun w => rsegments_c l (by omega) (by omega) w
  rw [← hS] at CS
  have CS := Lib.hid CS
  clear h1 h3 e0 hS hmem
  go_enter Tryz.func82, Tryz.ntmps82
  go_wp2
  go_loopw [4] (fun i wr => ∃ k : Nat, i = .int .i64 k ∧ k ≤ l.length ∧ w = wr) (fun i _ => l.length - (intOf i).toNat)
  case atStart => exact ⟨0, rfl, Nat.zero_le _, rfl⟩
  case round =>
    obtain ⟨k, rfl, hk, rfl⟩ := hrel
    by_cases hlt : k < l.length
    · have hc : ¬ l[k] = 0 := fun e => H3.out (by rw [← e]; exact List.getElem_mem hlt)
      have b1 : ((l[k].toNat : Int) == 0) = false := by rw [beq_eq_false_iff_ne]; intro h; exact hc (UInt8.toNat_inj.1 (by show l[k].toNat = 0; omega))
      clear hc
      go_wp2
      go_roundw
      case rel => exact ⟨k + 1, by go_num, by omega, by trivial⟩
      case measure => simp [intOf]; omega
    · obtain rfl : k = l.length := by omega
      go_wp2_with (go_at_call 115; refine (CS.out _).mono ?_; rintro e w1 ⟨v, rfl, ⟨A1, c1, rfl, hr1, hc1⟩, hx1⟩)
      have HR1 := Lib.hid hr1
      clear hr1
      go_loopw [6, 7] (fun v i wr => ∃ k L, i = .int .i64 (k : Nat) ∧ k ≤ S.length ∧ walkS [] (S.take k) = some L ∧ wr.ownsRow w1.heap.size 9 1 v L.length (sc L) ∧ Ext w1 wr) (fun _ i _ => S.length - (intOf i).toNat)
      case atStart => exact ⟨0, [], rfl, Nat.zero_le _, rfl, World.ownsRow_nil _ _ _ _, Ext.rfl' _⟩
      case round =>
        obtain ⟨k, L, rfl, hk, hw, hown, hext⟩ := hrel
        have hLS : L.length ≤ k := by
          have := left_len _ _ _ hw
          rw [List.length_take] at this; simp only [List.length_nil] at this; omega
        have HO := Lib.hid hown
        have HW := Lib.hid hw
        clear hown hw
        by_cases hlt : k < S.length
        · obtain ⟨b, o, rfl, hbl, hSx⟩ := HR1.out.text (k := k) hlt
          have a0 := hSx.out wr hext
          have HT := Lib.hid (walk_take hlt HW.out)
          have k0 : (0 : Int) ≤ (k : Int) := by omega
          have k1 : (k : Int) < (S.length : Int) := by omega
          have k2 : (k : Int) + 1 ≤ 9223372036854775807 := by omega
          by_cases hsg : S[k] = [46, 46]
          · rw [hsg] at HT a0
            have es : str [46, 46] = ⟨#[46, 46]⟩ := rfl
            rw [es] at a0
            clear es hsg
            obtain ⟨A, c, rfl, hnc, hcm, hr, _⟩ := Rd.of_own HO.out
            clear hr
            by_cases h0 : L = []
            · have HN := Lib.hid (clean_out HH.out (by rw [← HS0.out]; exact walk_none (k := k + 1) (by rw [HT.out, h0]; rfl)))
              have z0 : ((L.length : Int) == 0) = true := by rw [h0]; rfl
              clear h0
              go_wp2
              go_ret2
              exact ⟨ret_val (by rw [HN.out]; rfl), by (repeat (first | exact Ext.rfl' _ | assumption | refine Ext.dr ?_ | refine Ext.drN ?_ _ | refine Ext.al ?_ _ | refine Ext.st ?_ (by simp) _ | refine Ext.tr ?_ (by assumption)))⟩
            · have hpos := List.length_pos_iff.2 h0
              have HS2 := Lib.hid (show walkS [] (S.take (k + 1)) = some L.dropLast by rw [HT.out]; simp [walkS, h0])
              have HR2 := Lib.hid (own_take HO.out (m := L.length - 1) (by omega) hpos)
              have hdl : L.dropLast.length = L.length - 1 := List.length_dropLast
              have hsc : (sc L).take (L.length - 1) = sc L.dropLast := by rw [List.dropLast_eq_take]; simp [sc]
              obtain ⟨n, hn⟩ : ∃ n, n = L.length := ⟨_, rfl⟩
              have HD := Lib.hid hdl
              have HSC := Lib.hid hsc
              rw [← hn] at hpos hnc hLS ⊢
              have e1' : ((n : Int) == 0) = false := by rw [beq_eq_false_iff_ne]; omega
              have e2' : IntKind.i64.wrap ((n : Int) - 1) = (n : Int) - 1 := by rw [IntKind.wrap_i64]; omega
              have e3' : (0 : Int) ≤ (n : Int) - 1 := by omega
              have e4' : (n : Int) - 1 ≤ (c : Int) := by omega
              have e5' : ((n : Int) - 1).toNat = n - 1 := by omega
              have HNN := Lib.hid hn
              clear hdl hsc h0 hn
              go_wp2
              go_roundw
              case rel => exact ⟨k + 1, L.dropLast, by go_num, by omega, HS2.out, by rw [HD.out, ← HSC.out, HNN.out]; exact HR2.out, hext⟩
              case measure => simp [intOf]; omega
          by_cases hsg2 : S[k] = []
          · rw [hsg2] at HT a0
            have es : str [] = ⟨#[]⟩ := rfl
            rw [es] at a0
            have HS2 := Lib.hid (show walkS [] (S.take (k + 1)) = some L by rw [HT.out]; simp [walkS])
            clear es hsg2
            obtain ⟨A, c, rfl, hnc, hcm, hr, _⟩ := Rd.of_own HO.out
            clear hr
            go_wp2
            go_roundw
            case rel => exact ⟨k + 1, L, by go_num, by omega, HS2.out, HO.out, hext⟩
            case measure => simp [intOf]; omega
          by_cases hsg3 : S[k] = [46]
          · rw [hsg3] at HT a0
            have es : str [46] = ⟨#[46]⟩ := rfl
            rw [es] at a0
            have HS2 := Lib.hid (show walkS [] (S.take (k + 1)) = some L by rw [HT.out]; simp [walkS])
            clear es hsg3
            obtain ⟨A, c, rfl, hnc, hcm, hr, _⟩ := Rd.of_own HO.out
            clear hr
            go_wp2
            go_roundw
            case rel => exact ⟨k + 1, L, by go_num, by omega, HS2.out, HO.out, hext⟩
            case measure => simp [intOf]; omega
          have HS2 := Lib.hid (show walkS [] (S.take (k + 1)) = some (L ++ [S[k]]) by rw [HT.out]; simp [walkS, hsg, hsg2, hsg3])
          obtain ⟨sv, hsv⟩ : ∃ sv, sv = str S[k] := ⟨_, rfl⟩
          have ne : ∀ t : List UInt8, ¬ S[k] = t → (sv.toList == t) = false ∧ ¬ sv.toList = t := fun t h => by
            rw [beq_eq_false_iff_ne, hsv, Lib.toList_data]; exact ⟨h, h⟩
          obtain ⟨m1, m2⟩ := ne _ hsg
          obtain ⟨m3, m4⟩ := ne _ hsg3
          have m5 : sv.toList.isEmpty = false := by rw [hsv, Lib.toList_data]; cases hz : S[k] with | nil => exact absurd hz hsg2 | cons _ _ => rfl
          rw [← hsv] at a0
          have HSV := Lib.hid hsv
          clear ne hsg hsg2 hsg3 hsv
          go_wp2_with (at_builtin; refine wpL_app slt_str (.tmp 45) (.tmp 50) rfl rfl rfl rfl (Ext.al (by (repeat (first | exact Ext.rfl' _ | assumption | refine Ext.dr ?_ | refine Ext.drN ?_ _ | refine Ext.al ?_ _ | refine Ext.st ?_ (by simp) _ | refine Ext.tr ?_ (by assumption)))) _) ((own_ext HO.out (by (repeat (first | exact Ext.rfl' _ | assumption | refine Ext.dr ?_ | refine Ext.drN ?_ _ | refine Ext.al ?_ _ | refine Ext.st ?_ (by simp) _ | refine Ext.tr ?_ (by assumption))))).alloc _) (by rfl) (new_cells wr #[.string sv] 9) (by simp [Value.oneCell']) (by omega) (by omega) ?_; intro v' w' hown' hext' hgg; clear hgg)
          go_roundw
          case rel => exact ⟨k + 1, L ++ [S[k]], by go_num, by omega, HS2.out, by rw [sc_app, List.length_append]; show w'.ownsRow w1.heap.size 9 1 v' _ (sc L ++ [.string (str S[k])]); rw [← HSV.out]; exact hown', hext'⟩
          case measure => simp [intOf]; omega
        · obtain rfl : k = S.length := by omega
          rw [List.take_length] at HW
          have htot := (walk_ok _ [] L HM.out (fun t ht => by cases ht) HW.out).2
          have e0 : totS [] = 0 := rfl
          have HCL := Lib.hid (clean_in HH.out (by rw [← HS0.out]; exact HW.out))
          rw [← HS0.out] at HCL
          obtain ⟨A, c, rfl, hnc, hcm, hr, _⟩ := Rd.of_own HO.out
          have HRL := Lib.hid hr
          clear hr
          go_wp2
          go_loopw [8, 9] (fun v i wz => ∃ k : Nat, i = .int .i64 (k : Nat) ∧ k ≤ L.length ∧ v = .string (str ((L.take k).flatMap fun s => 47 :: s)) ∧ wr = wz) (fun _ i _ => L.length - (intOf i).toNat)
          case atStart => exact ⟨0, rfl, Nat.zero_le _, rfl, rfl⟩
          case round =>
            obtain ⟨k, rfl, hk, rfl, rfl⟩ := hrel
            by_cases hlt : k < L.length
            · obtain ⟨b1, o1, rfl, hbl1, hSx1⟩ := HRL.out.text (k := k) hlt
              have a0 := hSx1.out wr (Ext.rfl' _)
              have hfl := flatS_len L k
              have htm := tot_mem hlt
              have HFT := Lib.hid (flat_take L k hlt)
              obtain ⟨p1, hp1⟩ : ∃ p, p = str ((L.take k).flatMap fun s => 47 :: s) := ⟨_, rfl⟩
              obtain ⟨p2, hp2⟩ : ∃ p, p = str (((L.take k).flatMap fun s => 47 :: s) ++ [47]) := ⟨_, rfl⟩
              obtain ⟨p3, hp3⟩ : ∃ p, p = str ((L.take (k + 1)).flatMap fun s => 47 :: s) := ⟨_, rfl⟩
              obtain ⟨lk, hlk⟩ : ∃ p, p = str L[k] := ⟨_, rfl⟩
              have cc1 : ∀ w, (Op.stringOp .add p1 ⟨#[47]⟩).run Tryz.prog w = .ok (.string p2) w := fun w => by
                rw [hp1, hp2, cat_ok _ _ (by rw [str_size]; show _ + 1 ≤ _; omega)]; simp
              have cc2 : ∀ w, (Op.stringOp .add p2 lk).run Tryz.prog w = .ok (.string p3) w := fun w => by
                rw [hp2, hp3, hlk, cat_ok _ _ (by rw [str_size, str_size, List.length_append]; simp only [List.length_cons, List.length_nil]; omega), HFT.out]; simp
              rw [← hlk] at a0
              rw [← hp1]
              have HP3 := Lib.hid hp3
              have k0 : (0 : Int) ≤ (k : Int) := by omega
              have k1 : (k : Int) < (L.length : Int) := by omega
              have k2 : (k : Int) + 1 ≤ 9223372036854775807 := by omega
              clear hp1 hp2 hp3 hlk hfl htm
              go_wp2
              go_roundw
              case rel => exact ⟨k + 1, by go_num, by omega, by rw [HP3.out], by trivial⟩
              case measure => simp [intOf]; omega
            · obtain rfl : k = L.length := by omega
              rw [List.take_length]
              have hS0 : S.length - 1 < S.length := by omega
              obtain ⟨b, o, rfl, hbl, hSx⟩ := HR1.out.text (k := S.length - 1) hS0
              have hb0 := hSx.out wr hext
              have n1 : IntKind.i64.wrap ((S.length : Int) - 1) = (S.length : Int) - 1 := by rw [IntKind.wrap_i64]; omega
              have n2 : (0 : Int) ≤ (S.length : Int) - 1 := by omega
              have n3 : (S.length : Int) - 1 < (S.length : Int) := by omega
              have n4 : ((S.length : Int) - 1).toNat = S.length - 1 := by omega
              have hgl : S.getLastD [] = S[S.length - 1] := by
                rw [List.getLastD_eq_getLast?, List.getLast?_eq_getElem?, List.getElem?_eq_getElem hS0]; rfl
              rw [hgl] at HCL
              obtain ⟨sg, hsg⟩ : ∃ sg, sg = S[S.length - 1] := ⟨_, rfl⟩
              rw [← hsg] at hb0 HCL
              obtain ⟨F, hF⟩ : ∃ F, F = L.flatMap fun s => 47 :: s := ⟨_, rfl⟩
              have hFl : F.length ≤ 5000 := by rw [hF, tot_flat]; omega
              rw [← hF]
              have HF := Lib.hid hF.symm
              by_cases hL0 : L = []
              · have HR := Lib.hid (show cleanL l = ([47], 0) by rw [HCL.out, hL0]; rfl)
                have ef : str F = ⟨#[]⟩ := by rw [hF, hL0]; rfl
                rw [ef]
                clear ef hF hgl hsg hL0
                go_wp2
                go_ret2
                exact ⟨ret_val (by rw [HR.out]; rfl), by (repeat (first | exact Ext.rfl' _ | assumption | refine Ext.dr ?_ | refine Ext.drN ?_ _ | refine Ext.al ?_ _ | refine Ext.st ?_ (by simp) _ | refine Ext.tr ?_ (by assumption)))⟩
              · have HL0 := Lib.hid hL0
                have hF0 : (str F).toList.isEmpty = false := by
                  rw [Lib.toList_data, str_data, hF]; cases L with | nil => exact absurd rfl hL0 | cons _ _ => rfl
                obtain ⟨f0, hf0⟩ : ∃ f0, f0 = str F := ⟨_, rfl⟩
                obtain ⟨f1, hf1⟩ : ∃ f1, f1 = str (F ++ [47]) := ⟨_, rfl⟩
                have cc : ∀ w, (Op.stringOp .add f0 ⟨#[47]⟩).run Tryz.prog w = .ok (.string f1) w := fun w => by
                  rw [hf0, hf1, cat_ok _ _ (by rw [str_size]; show _ + 1 ≤ _; omega)]; simp
                rw [← hf0] at hF0 ⊢
                have HF1 := Lib.hid hf1
                have HF0 := Lib.hid hf0
                have HD := Lib.hid (show dotS sg = dotS sg from rfl)
                clear hF hgl hsg hL0 hf0 hf1
                by_cases s1 : sg = []
                · subst s1
                  have es : str ([] : List UInt8) = ⟨#[]⟩ := rfl
                  rw [es] at hb0
                  have HR := Lib.hid (show cleanL l = (F ++ [47], 0) by rw [HCL.out]; show (outS L true, (0 : Int)) = _; unfold outS; rw [if_neg HL0.out, HF.out]; rfl)
                  clear es
                  go_wp2
                  go_ret2
                  exact ⟨ret_val (by rw [HR.out]; show Value.tuple #[.string f1, .int .i64 0] = _; rw [HF1.out]), by (repeat (first | exact Ext.rfl' _ | assumption | refine Ext.dr ?_ | refine Ext.drN ?_ _ | refine Ext.al ?_ _ | refine Ext.st ?_ (by simp) _ | refine Ext.tr ?_ (by assumption)))⟩
                by_cases s2 : sg = [46]
                · subst s2
                  have es : str ([46] : List UInt8) = ⟨#[46]⟩ := rfl
                  rw [es] at hb0
                  have HR := Lib.hid (show cleanL l = (F ++ [47], 0) by rw [HCL.out]; show (outS L true, (0 : Int)) = _; unfold outS; rw [if_neg HL0.out, HF.out]; rfl)
                  clear es s1
                  go_wp2
                  go_ret2
                  exact ⟨ret_val (by rw [HR.out]; show Value.tuple #[.string f1, .int .i64 0] = _; rw [HF1.out]), by (repeat (first | exact Ext.rfl' _ | assumption | refine Ext.dr ?_ | refine Ext.drN ?_ _ | refine Ext.al ?_ _ | refine Ext.st ?_ (by simp) _ | refine Ext.tr ?_ (by assumption)))⟩
                by_cases s3 : sg = [46, 46]
                · subst s3
                  have es : str ([46, 46] : List UInt8) = ⟨#[46, 46]⟩ := rfl
                  rw [es] at hb0
                  have HR := Lib.hid (show cleanL l = (F ++ [47], 0) by rw [HCL.out]; show (outS L true, (0 : Int)) = _; unfold outS; rw [if_neg HL0.out, HF.out]; rfl)
                  clear es s1 s2
                  go_wp2
                  go_ret2
                  exact ⟨ret_val (by rw [HR.out]; show Value.tuple #[.string f1, .int .i64 0] = _; rw [HF1.out]), by (repeat (first | exact Ext.rfl' _ | assumption | refine Ext.dr ?_ | refine Ext.drN ?_ _ | refine Ext.al ?_ _ | refine Ext.st ?_ (by simp) _ | refine Ext.tr ?_ (by assumption)))⟩
                have HR := Lib.hid (show cleanL l = (F, 0) by rw [HCL.out, show dotS sg = false by simp [dotS, s1, s2, s3]]; unfold outS; rw [if_neg HL0.out, HF.out]; simp)
                obtain ⟨sv, hsv⟩ : ∃ sv, sv = str sg := ⟨_, rfl⟩
                have ne : ∀ t : List UInt8, ¬ sg = t → (sv.toList == t) = false ∧ ¬ sv.toList = t := fun t h => by
                  rw [beq_eq_false_iff_ne, hsv, Lib.toList_data]; exact ⟨h, h⟩
                obtain ⟨m1, m2⟩ := ne _ s2
                obtain ⟨m3, m4⟩ := ne _ s3
                have m5 : sv.toList.isEmpty = false := by rw [hsv, Lib.toList_data]; cases hz : sg with | nil => exact absurd hz s1 | cons _ _ => rfl
                have m6 : ¬ sv.toList = [] := by rw [hsv, Lib.toList_data]; exact s1
                rw [← hsv] at hb0
                clear ne s1 s2 s3 hsv
                go_wp2
                go_ret2
                exact ⟨ret_val (by rw [HR.out]; show Value.tuple #[.string f0, .int .i64 0] = _; rw [HF0.out]), by (repeat (first | exact Ext.rfl' _ | assumption | refine Ext.dr ?_ | refine Ext.drN ?_ _ | refine Ext.al ?_ _ | refine Ext.st ?_ (by simp) _ | refine Ext.tr ?_ (by assumption)))⟩
theorem rClean_c (l : List UInt8) (hs : l.length ≤ 140737488355328) (w : World) :
    Calls Tryz.prog 82 #[.string (str l)] w (Gives (.tuple #[.string (str (cleanL l).1), .int .i64 (cleanL l).2]) w) := by
  by_cases h : l.head? = some 47 ∧ l.length ≤ 4096 ∧ 0 ∉ l
  · exact rClean_good l h w
  · exact rClean_bad l hs h w
end Go.Proofs.YtemdgilifnhdpaaGreatDoor
end

section
namespace Go.Proofs.YtemdgilifnhdpaaGreatDoor
open Go.RowKit

def digV (b : UInt8) : Nat := if b.toNat ≤ 57 then b.toNat - 48 else b.toNat - 87
def isDig (B : Nat) (b : UInt8) : Bool := ((decide (48 ≤ b.toNat) && decide (b.toNat ≤ 57)) || (decide (97 ≤ b.toNat) && decide (b.toNat ≤ 102))) && decide (digV b < B)
def valF (B : Nat) (a : Nat) (l : List UInt8) : Nat := l.foldl (fun a b => a * B + digV b) a
def valL (B : Nat) (l : List UInt8) : Nat := valF B 0 l
theorem valF_cons (B a : Nat) (b : UInt8) (l : List UInt8) : valF B a (b :: l) = valF B (a * B + digV b) l := rfl
theorem valF_ge (B : Nat) (hB : 1 ≤ B) : ∀ (l : List UInt8) (a : Nat), a ≤ valF B a l
  | [], a => Nat.le_refl _
  | b :: l, a => by
    rw [valF_cons]
    have h1 := valF_ge B hB l (a * B + digV b)
    have h2 : a ≤ a * B := Nat.le_mul_of_pos_right a hB
    omega
def puV (t : TypeId) (n : Nat) : Value := if n < 9223372036854775808 then .tuple #[.int .u64 (n : Int), .nilIface] else .tuple #[.int .u64 9223372036854775807, .iface t (.int .i64 1)]
theorem puV_lt {t : TypeId} {n : Nat} (h : n < 9223372036854775808) : puV t n = .tuple #[.int .u64 (n : Int), .nilIface] := by unfold puV; rw [if_pos h]
theorem puV_ge {t : TypeId} {n : Nat} (h : 9223372036854775808 ≤ n) : puV t n = .tuple #[.int .u64 9223372036854775807, .iface t (.int .i64 1)] := by unfold puV; rw [if_neg (by omega)]
theorem or32 : ∀ c : Nat, c < 256 → 97 ≤ c → c ≤ 102 → bits .or .u8 (c : Int) 32 = (c : Int) := by decide +kernel
theorem pulow_c (c : Int) (w : World) : Calls Tryz.prog 222 #[.int .u8 c] w fun e w' => e = .returned (.int .u8 (bits .or .u8 c 32)) ∧ w = w' := by
  go_enter Tryz.func222, Tryz.ntmps222
  go_wp2
  go_ret
  exact ⟨rfl, rfl⟩
end Go.Proofs.YtemdgilifnhdpaaGreatDoor
end

section
namespace Go.Proofs.YtemdgilifnhdpaaGreatDoor
open Go.RowKit

def numL (B most : Nat) (l : List UInt8) : Int × Int :=
  if l = [] ∨ (lowL l).all (isDig B) = false then (0, 21) else if valL B (lowL l) ≤ most then ((valL B (lowL l) : Int), 0) else (0, 11)

end Go.Proofs.YtemdgilifnhdpaaGreatDoor
end
