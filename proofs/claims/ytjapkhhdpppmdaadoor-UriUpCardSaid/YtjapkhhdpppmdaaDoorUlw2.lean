/-
The laws UriConfined and UriUp as walks: they answer true.
-/
import Derived.Test.YtjapkhhdpppmdaaDoorUlw1
set_option linter.unusedVariables false
set_option linter.unusedSimpArgs false
namespace Go.Proofs.YtjapkhhdpppmdaaDoor
open Go.RowKit

theorem part_at {l a : List UInt8} (h : cleanL l = (a, 0)) (f i : Nat) (h1 : 1 ≤ f) (hfi : f ≤ i) (hi : i ≤ a.length) (hs : a[f - 1]? = some 47) (hn : ∀ j, f ≤ j → j < i → a[j]? ≠ some 47) (he : i = a.length ∨ a[i]? = some 47) :
    ¬ (a.take i).drop f = [46] ∧ ¬ (a.take i).drop f = [46, 46] ∧ ((a.take i).drop f = [] → i = a.length) := by
  have e : a = a.take (f - 1) ++ 47 :: ((a.take i).drop f ++ a.drop i) := by
    obtain ⟨hl, hg⟩ := List.getElem?_eq_some_iff.1 hs
    have e1 : (a.take i).drop f ++ a.drop i = a.drop f := by
      have : a = a.take i ++ a.drop i := (List.take_append_drop i a).symm
      conv => rhs; rw [this]
      rw [List.drop_append_of_le_length (by rw [List.length_take]; omega)]
    rw [e1]
    conv => lhs; rw [← List.take_append_drop (f - 1) a, List.drop_eq_getElem_cons hl, hg]
    rw [show f - 1 + 1 = f by omega]
  have hw : 47 ∉ (a.take i).drop f := by
    intro hm
    obtain ⟨j, hj, hj2⟩ := List.getElem_of_mem hm
    simp only [List.length_drop, List.length_take] at hj
    refine hn (f + j) (by omega) (by omega) ?_
    rw [List.getElem_drop, List.getElem_take] at hj2
    rw [List.getElem?_eq_getElem (by omega), hj2]
  have hq : a.drop i = [] ∨ ∃ q', a.drop i = 47 :: q' := by
    rcases he with he | he
    · exact .inl (by rw [he, List.drop_length])
    · obtain ⟨hl, hg⟩ := List.getElem?_eq_some_iff.1 he
      exact .inr ⟨a.drop (i + 1), by rw [List.drop_eq_getElem_cons hl, hg]⟩
  obtain ⟨k1, k2, k3⟩ := clean_part h _ _ _ e hw hq
  refine ⟨k1, k2, fun hz => ?_⟩
  have := congrArg List.length (k3 hz)
  rw [List.length_drop] at this
  simp at this; omega

set_option maxRecDepth 100000 in
set_option maxHeartbeats 4000000 in
theorem UriConfined_w (l : List UInt8) (hs : l.length ≤ 140737488351232) (w : World) (hE : ErrR w) :
    Calls Tryd.prog 13 #[.string (str l)] w (Gives (.bool true) w) := by
  have CR := fun (w : World) (hE : ErrR w) => uResolve_c l (by omega) w hE
  have HE := Lib.hid hE
  clear hE
  rcases (show resU l = ([], 40) ∨ ∃ x a, cleanL x = (a, 0) ∧ resU l = (a, 0) from by
    cases hd : decL l with
    | none => exact .inl (resU_none hd)
    | some x =>
      rw [resU_some hd]
      rcases clean_two x with h | h
      · exact .inr ⟨x, (cleanL x).1, by rw [← h], by rw [← h]⟩
      · exact .inl h) with hr | ⟨x, a, hx, hr⟩
  · rw [hr] at CR
    have CR := Lib.hid CR
    have em : str ([] : List UInt8) = ⟨#[]⟩ := rfl
    rw [em] at CR
    clear hr em
    go_enter Tryd.func13, Tryd.ntmps13
    go_wp2_with (first
      | (go_at_call 38; refine (CR.out _ (HE.out.ext (by (repeat (first | exact Ext.rfl' _ | assumption | refine Ext.dr ?_ | refine Ext.drN ?_ _ | refine Ext.al ?_ _ | refine Ext.st ?_ (by simp) _ | refine Ext.tr ?_ (by assumption)))))).mono ?_; rintro e w1 ⟨rfl, hx1⟩)
      | (go_at_call 32; refine (num08_c _ _).mono ?_; rintro e w3 ⟨rfl, rfl⟩)
      | (go_at_call 33; refine (knows08_c _ (HE.out.ext (by (repeat (first | exact Ext.rfl' _ | assumption | refine Ext.dr ?_ | refine Ext.drN ?_ _ | refine Ext.al ?_ _ | refine Ext.st ?_ (by simp) _ | refine Ext.tr ?_ (by assumption)))))).mono ?_; rintro e w6 ⟨rfl, hx6⟩))
    go_ret
    exact ⟨rfl, by (repeat (first | exact Ext.rfl' _ | assumption | refine Ext.dr ?_ | refine Ext.drN ?_ _ | refine Ext.al ?_ _ | refine Ext.st ?_ (by simp) _ | refine Ext.tr ?_ (by assumption)))⟩
  · rw [hr] at CR
    have hcc := clean_clean hx
    obtain ⟨c1, c2, c3, _⟩ := clean_some hcc
    have CC := fun w => Clean_c a (by omega) w
    rw [hcc] at CC
    have CR := Lib.hid CR
    have CC := Lib.hid CC
    have HX := Lib.hid hx
    have H0 := Lib.hid c3
    have hl0 : 0 < a.length := by cases a with | nil => cases c1 | cons _ _ => simp
    have e0 : a[0] = 47 := by cases a with | nil => cases c1 | cons b _ => simpa using c1
    have E0 := Lib.hid e0
    have e1 : ((a[0].toNat : Int) != 47) = false := by rw [e0]; rfl
    have e2 : ((a.length : Int) == 0) = false := by rw [beq_eq_false_iff_ne]; omega
    have hms : maxLen = 9223372036854775807 := rfl
    clear hr hcc c1 c3 hx e0
    go_enter Tryd.func13, Tryd.ntmps13
    go_wp2_with (first
      | (go_at_call 38; refine (CR.out _ (HE.out.ext (by (repeat (first | exact Ext.rfl' _ | assumption | refine Ext.dr ?_ | refine Ext.drN ?_ _ | refine Ext.al ?_ _ | refine Ext.st ?_ (by simp) _ | refine Ext.tr ?_ (by assumption)))))).mono ?_; rintro e w1 ⟨rfl, hx1⟩)
      | (go_at_call 32; refine (num08_c _ _).mono ?_; rintro e w3 ⟨rfl, rfl⟩)
      | (go_at_call 33; refine (knows08_c _ (HE.out.ext (by (repeat (first | exact Ext.rfl' _ | assumption | refine Ext.dr ?_ | refine Ext.drN ?_ _ | refine Ext.al ?_ _ | refine Ext.st ?_ (by simp) _ | refine Ext.tr ?_ (by assumption)))))).mono ?_; rintro e w6 ⟨rfl, hx6⟩))
    have hxw : Ext w w6 := by (repeat (first | exact Ext.rfl' _ | assumption | refine Ext.dr ?_ | refine Ext.drN ?_ _ | refine Ext.al ?_ _ | refine Ext.st ?_ (by simp) _ | refine Ext.tr ?_ (by assumption)))
    clear e1 e2
    go_loopw [5, 6] (fun fv iv wr => ∃ f k : Nat, fv = .int .i64 (f : Nat) ∧ iv = .int .i64 (k : Nat) ∧ 1 ≤ f ∧ f ≤ k ∧ k ≤ a.length + 1 ∧ ((a[f - 1]? = some 47 ∧ ∀ j, f ≤ j → j < k → a[j]? ≠ some 47) ∨ k = a.length + 1) ∧ w6 = wr) (fun _ iv _ => a.length + 1 - (intOf iv).toNat)
    case atStart => exact ⟨1, 1, rfl, rfl, Nat.le_refl _, Nat.le_refl _, by omega, .inl ⟨by rw [List.getElem?_eq_getElem hl0, E0.out], fun j h1 h2 => by omega⟩, rfl⟩
    case round =>
      obtain ⟨f, k, rfl, rfl, h1, hfk, hk, hat, rfl⟩ := hrel
      have hki : (k : Int) + 1 ≤ 9223372036854775807 := by omega
      by_cases hlt : k < a.length
      · obtain ⟨hsl, hno⟩ : a[f - 1]? = some 47 ∧ ∀ j, f ≤ j → j < k → a[j]? ≠ some 47 := by
          rcases hat with h | h
          · exact h
          · omega
        have HS := Lib.hid hsl
        have HN := Lib.hid hno
        clear hat hsl hno
        by_cases hc : a[k] = 47
        · obtain ⟨n1, n2, n3⟩ := part_at HX.out f k h1 hfk (by omega) HS.out HN.out (.inr (by rw [List.getElem?_eq_getElem hlt, hc]))
          have n4 : ¬ (a.take k).drop f = [] := fun e => by have := n3 e; omega
          have HK := Lib.hid (show a[k]? = some 47 by rw [List.getElem?_eq_getElem hlt, hc])
          have b1 : ((a[k].toNat : Int) != 47) = false := by rw [hc]; rfl
          obtain ⟨sv, hsv⟩ : ∃ sv, str ((a.take k).drop f) = sv := ⟨_, rfl⟩
          have hst : sv.toList = (a.take k).drop f := by rw [← hsv, Lib.toList_data]; rfl
          have m1 : (sv.toList == [46]) = false := by rw [beq_eq_false_iff_ne, hst]; exact n1
          have m2 : (sv.toList == [46, 46]) = false := by rw [beq_eq_false_iff_ne, hst]; exact n2
          have m3 : sv.toList.isEmpty = false := by rw [List.isEmpty_eq_false_iff, hst]; exact n4
          have m4 : ¬ sv.toList = [46] := by rw [hst]; exact n1
          have m5 : ¬ sv.toList = [46, 46] := by rw [hst]; exact n2
          have m6 : ¬ sv.toList = [] := by rw [hst]; exact n4
          clear n1 n2 n4 hst
          have i1 : (0 : Int) ≤ (f : Int) := by omega
          have i2 : (f : Int) ≤ (k : Int) := by omega
          have i3 : (k : Int) ≤ (a.length : Int) := by omega
          clear hc n3
          go_upto_region 14 with fail
          clear hsv
          go_wp2
          go_roundw
          case rel => exact ⟨k + 1, k + 1, by go_num, by go_num, by omega, Nat.le_refl _, by omega, .inl ⟨HK.out, fun j h1 h2 => by omega⟩, by trivial⟩
          case measure => simp [intOf]; omega
        · have b1 : ((a[k].toNat : Int) != 47) = true := by rw [bne_iff_ne]; intro h; exact hc (UInt8.toNat_inj.1 (by show a[k].toNat = 47; omega))
          have hz : ¬ a[k] = 0 := fun e => H0.out (by rw [← e]; exact List.getElem_mem hlt)
          have b2 : ((a[k].toNat : Int) == 0) = false := by rw [beq_eq_false_iff_ne]; intro h; exact hz (UInt8.toNat_inj.1 (by show a[k].toNat = 0; omega))
          have HC := Lib.hid hc
          clear hc hz
          have i3 : (k : Int) ≤ (a.length : Int) := by omega
          go_wp2
          go_roundw
          case rel =>
            refine ⟨f, k + 1, rfl, by go_num, h1, by omega, by omega, .inl ⟨HS.out, fun j h1 h2 => ?_⟩, by trivial⟩
            rcases Nat.lt_or_ge j k with h | h
            · exact HN.out j h1 h
            · obtain rfl : j = k := by omega
              rw [List.getElem?_eq_getElem hlt]
              intro e
              exact HC.out (Option.some.inj e)
          case measure => simp [intOf]; omega
      · by_cases hke : k = a.length
        · subst hke
          obtain ⟨hsl, hno⟩ : a[f - 1]? = some 47 ∧ ∀ j, f ≤ j → j < a.length → a[j]? ≠ some 47 := by
            rcases hat with h | h
            · exact h
            · omega
          obtain ⟨n1, n2, _⟩ := part_at HX.out f a.length h1 hfk (Nat.le_refl _) hsl hno (.inl rfl)
          rw [List.take_length] at n1 n2
          clear hat hsl hno hlt
          obtain ⟨sv, hsv⟩ : ∃ sv, str (a.drop f) = sv := ⟨_, rfl⟩
          have hst : sv.toList = a.drop f := by rw [← hsv, Lib.toList_data]; rfl
          have m1 : (sv.toList == [46]) = false := by rw [beq_eq_false_iff_ne, hst]; exact n1
          have m2 : (sv.toList == [46, 46]) = false := by rw [beq_eq_false_iff_ne, hst]; exact n2
          have m4 : ¬ sv.toList = [46] := by rw [hst]; exact n1
          have m5 : ¬ sv.toList = [46, 46] := by rw [hst]; exact n2
          have i1 : (0 : Int) ≤ (f : Int) := by omega
          have i2 : (f : Int) ≤ (a.length : Int) := by omega
          have i4 : (a.length : Int) ≤ (a.length : Int) := by omega
          have i3 : decide ((a.length : Int) < (a.length : Int)) = false := by rw [decide_eq_false_iff_not]; omega
          by_cases hz : a.drop f = []
          · have m3 : sv.toList.isEmpty = true := by rw [hst, hz]; rfl
            have m6 : sv.toList = [] := by rw [hst, hz]
            clear hz hst n1 n2 m6
            go_wp2
            all_goals (
              go_roundw
              case rel => exact ⟨a.length + 1, a.length + 1, by go_num, by go_num, by omega, Nat.le_refl _, by omega, .inr rfl, by trivial⟩
              case measure => simp [intOf])
          · have m3 : sv.toList.isEmpty = false := by rw [List.isEmpty_eq_false_iff, hst]; exact hz
            have m6 : ¬ sv.toList = [] := by rw [hst]; exact hz
            clear hz hst n1 n2
            go_wp2
            all_goals (
              go_roundw
              case rel => exact ⟨a.length + 1, a.length + 1, by go_num, by go_num, by omega, Nat.le_refl _, by omega, .inr rfl, by trivial⟩
              case measure => simp [intOf])
        · obtain rfl : k = a.length + 1 := by omega
          clear hat hlt hke
          have z1 : decide ((a.length : Int) + 1 ≤ (a.length : Int)) = false := by rw [decide_eq_false_iff_not]; omega
          have z2 : ¬ ((a.length : Int) + 1 ≤ (a.length : Int)) := by omega
          go_wp2_with (first
            | (go_at_call 36; refine (CC.out _).mono ?_; rintro e w7 ⟨rfl, hx7⟩)
            | (go_at_call 32; refine (num08_c _ _).mono ?_; rintro e w3 ⟨rfl, rfl⟩))
          go_ret
          exact ⟨rfl, by (repeat (first | exact Ext.rfl' _ | assumption | refine Ext.dr ?_ | refine Ext.drN ?_ _ | refine Ext.al ?_ _ | refine Ext.st ?_ (by simp) _ | refine Ext.tr ?_ (by assumption)))⟩

set_option maxRecDepth 100000 in
set_option maxHeartbeats 4000000 in
theorem UriUp_w (s t : List UInt8) (hs : s.length ≤ 140737488351232) (ht : t.length ≤ 140737488351232) (w : World) (hE : ErrR w) :
    Calls Tryd.prog 11 #[.string (str s), .string (str t)] w (Gives (.bool true) w) := by
  have HE := Lib.hid hE
  clear hE
  go_enter Tryd.func11, Tryd.ntmps11
  go_wp2
  go_loopw [5] (fun i wr => ∃ k : Nat, i = .int .i64 (k : Nat) ∧ k ≤ t.length ∧ (47 ∉ t.take k ∧ 0 ∉ t.take k) ∧ w = wr) (fun i _ => t.length - (intOf i).toNat)
  case atStart => exact ⟨0, rfl, Nat.zero_le _, by simp, rfl⟩
  case round =>
    obtain ⟨k, rfl, hk, hz, rfl⟩ := hrel
    have HZ := Lib.hid hz
    clear hz
    by_cases hlt : k < t.length
    · have hki : (k : Int) + 1 ≤ 9223372036854775807 := by omega
      by_cases h1 : t[k] = 47
      · have b1 : ((t[k].toNat : Int) == 47) = true := by rw [h1]; rfl
        clear h1
        go_wp2_with (go_at_call 33; refine (knows08_c _ (HE.out.ext (by (repeat (first | exact Ext.rfl' _ | assumption | refine Ext.dr ?_ | refine Ext.drN ?_ _ | refine Ext.al ?_ _ | refine Ext.st ?_ (by simp) _ | refine Ext.tr ?_ (by assumption)))))).mono ?_; rintro e w6 ⟨rfl, hx6⟩)
        go_ret
        exact ⟨rfl, by (repeat (first | exact Ext.rfl' _ | assumption | refine Ext.dr ?_ | refine Ext.drN ?_ _ | refine Ext.al ?_ _ | refine Ext.st ?_ (by simp) _ | refine Ext.tr ?_ (by assumption)))⟩
      · have b1 : ((t[k].toNat : Int) == 47) = false := by rw [beq_eq_false_iff_ne]; intro h; exact h1 (UInt8.toNat_inj.1 (by show t[k].toNat = 47; omega))
        by_cases h2 : t[k] = 0
        · have b2 : ((t[k].toNat : Int) == 0) = true := by rw [h2]; rfl
          clear h1 h2
          go_wp2_with (go_at_call 33; refine (knows08_c _ (HE.out.ext (by (repeat (first | exact Ext.rfl' _ | assumption | refine Ext.dr ?_ | refine Ext.drN ?_ _ | refine Ext.al ?_ _ | refine Ext.st ?_ (by simp) _ | refine Ext.tr ?_ (by assumption)))))).mono ?_; rintro e w6 ⟨rfl, hx6⟩)
          go_ret
          exact ⟨rfl, by (repeat (first | exact Ext.rfl' _ | assumption | refine Ext.dr ?_ | refine Ext.drN ?_ _ | refine Ext.al ?_ _ | refine Ext.st ?_ (by simp) _ | refine Ext.tr ?_ (by assumption)))⟩
        · have b2 : ((t[k].toNat : Int) == 0) = false := by rw [beq_eq_false_iff_ne]; intro h; exact h2 (UInt8.toNat_inj.1 (by show t[k].toNat = 0; omega))
          have HS := Lib.hid (show 47 ∉ t.take (k + 1) ∧ 0 ∉ t.take (k + 1) by
            rw [List.take_succ_eq_append_getElem hlt]
            simp only [List.mem_append, List.mem_singleton, not_or]
            exact ⟨⟨HZ.out.1, fun e => h1 e.symm⟩, HZ.out.2, fun e => h2 e.symm⟩)
          clear h1 h2
          go_wp2
          go_roundw
          case rel => exact ⟨k + 1, by go_num, by omega, HS.out, by trivial⟩
          case measure => simp [intOf]; omega
    · obtain rfl : k = t.length := by omega
      rw [List.take_length] at HZ
      clear hlt
      obtain ⟨tv, htv⟩ : ∃ tv, tv = str t := ⟨_, rfl⟩
      have htl : tv.toList = t := by rw [htv, Lib.toList_data]; rfl
      have hts : tv.size = t.length := by rw [htv, str_size]
      rw [← htv]
      have hmid : IntKind.i64.wrap ((s.length : Int) + (t.length : Int)) = (s.length : Int) + (t.length : Int) := by rw [IntKind.wrap_i64]; omega
      by_cases t1 : t = []
      · have m1 : tv.toList.isEmpty = true := by rw [htl, t1]; rfl
        clear t1 htl htv hmid
        go_wp2_with (go_at_call 33; refine (knows08_c _ (HE.out.ext (by (repeat (first | exact Ext.rfl' _ | assumption | refine Ext.dr ?_ | refine Ext.drN ?_ _ | refine Ext.al ?_ _ | refine Ext.st ?_ (by simp) _ | refine Ext.tr ?_ (by assumption)))))).mono ?_; rintro e w6 ⟨rfl, hx6⟩)
        go_ret
        exact ⟨rfl, by (repeat (first | exact Ext.rfl' _ | assumption | refine Ext.dr ?_ | refine Ext.drN ?_ _ | refine Ext.al ?_ _ | refine Ext.st ?_ (by simp) _ | refine Ext.tr ?_ (by assumption)))⟩
      have m1 : tv.toList.isEmpty = false := by rw [htl, List.isEmpty_eq_false_iff]; exact t1
      have m1' : ¬ tv.toList = [] := by rw [htl]; exact t1
      by_cases t2 : t = [46]
      · have m2 : (tv.toList == [46]) = true := by rw [htl, t2]; rfl
        have m3 : tv.toList = [46] := by rw [htl, t2]
        have e2 : tv = ⟨#[46]⟩ := by rw [htv, t2]; rfl
        subst e2
        clear t1 t2 htl htv m1 m1' m2 m3 hmid
        go_wp2_with (go_at_call 33; refine (knows08_c _ (HE.out.ext (by (repeat (first | exact Ext.rfl' _ | assumption | refine Ext.dr ?_ | refine Ext.drN ?_ _ | refine Ext.al ?_ _ | refine Ext.st ?_ (by simp) _ | refine Ext.tr ?_ (by assumption)))))).mono ?_; rintro e w6 ⟨rfl, hx6⟩)
        go_ret
        exact ⟨rfl, by (repeat (first | exact Ext.rfl' _ | assumption | refine Ext.dr ?_ | refine Ext.drN ?_ _ | refine Ext.al ?_ _ | refine Ext.st ?_ (by simp) _ | refine Ext.tr ?_ (by assumption)))⟩
      by_cases t3 : t = [46, 46]
      · have e2 : tv = ⟨#[46, 46]⟩ := by rw [htv, t3]; rfl
        subst e2
        clear t1 t2 t3 htl htv m1 m1' hmid
        go_wp2_with (go_at_call 33; refine (knows08_c _ (HE.out.ext (by (repeat (first | exact Ext.rfl' _ | assumption | refine Ext.dr ?_ | refine Ext.drN ?_ _ | refine Ext.al ?_ _ | refine Ext.st ?_ (by simp) _ | refine Ext.tr ?_ (by assumption)))))).mono ?_; rintro e w6 ⟨rfl, hx6⟩)
        go_ret
        exact ⟨rfl, by (repeat (first | exact Ext.rfl' _ | assumption | refine Ext.dr ?_ | refine Ext.drN ?_ _ | refine Ext.al ?_ _ | refine Ext.st ?_ (by simp) _ | refine Ext.tr ?_ (by assumption)))⟩
      have m2 : (tv.toList == [46]) = false := by rw [beq_eq_false_iff_ne, htl]; exact t2
      have m3 : ¬ tv.toList = [46] := by rw [htl]; exact t2
      have m4 : (tv.toList == [46, 46]) = false := by rw [beq_eq_false_iff_ne, htl]; exact t3
      have m5 : ¬ tv.toList = [46, 46] := by rw [htl]; exact t3
      by_cases hsum : s.length + t.length ≤ 4000
      · have z1 : decide ((4000 : Int) < (s.length : Int) + (t.length : Int)) = false := by rw [decide_eq_false_iff_not]; omega
        have hup := clean_up s t HZ.out.1 HZ.out.2 t1 t2 t3 hsum
        have C1 := fun w => Clean_c (s ++ 47 :: (t ++ [47, 46, 46])) (by simp; omega) w
        have C2 := fun w => Clean_c (s ++ [47]) (by simp; omega) w
        rw [hup] at C1
        obtain ⟨p1, hp1⟩ : ∃ p, p = str (s ++ [47]) := ⟨_, rfl⟩
        obtain ⟨p2, hp2⟩ : ∃ p, p = str (s ++ 47 :: t) := ⟨_, rfl⟩
        obtain ⟨p3, hp3⟩ : ∃ p, p = str (s ++ 47 :: (t ++ [47, 46, 46])) := ⟨_, rfl⟩
        have cc1 : ∀ w, (Op.stringOp .add (str s) ⟨#[47]⟩).run Tryd.prog w = .ok (.string p1) w := fun w => by
          rw [hp1, cat_ok _ _ (by rw [str_size]; show _ + 1 ≤ _; omega)]; simp
        have cc2 : ∀ w, (Op.stringOp .add p1 tv).run Tryd.prog w = .ok (.string p2) w := fun w => by
          rw [hp1, hp2, htv, cat_ok _ _ (by rw [str_size, str_size, List.length_append]; simp only [List.length_cons, List.length_nil]; omega)]; simp
        have cc3 : ∀ w, (Op.stringOp .add p2 ⟨#[47, 46, 46]⟩).run Tryd.prog w = .ok (.string p3) w := fun w => by
          rw [hp2, hp3, cat_ok _ _ (by rw [str_size, List.length_append, List.length_cons]; show _ + 3 ≤ _; omega)]; simp
        rw [← hp3] at C1
        rw [← hp1] at C2
        obtain ⟨r1, hr1⟩ : ∃ r, r = str (cleanL (s ++ [47])).1 := ⟨_, rfl⟩
        obtain ⟨r2, hr2⟩ : ∃ r, r = (cleanL (s ++ [47])).2 := ⟨_, rfl⟩
        rw [← hr1, ← hr2] at C1 C2
        have C1 := Lib.hid C1
        have C2 := Lib.hid C2
        clear hup hp1 hp2 hp3 hr1 hr2 htl htv t1 t2 t3 hsum
        go_wp2_with (first
          | (go_at_call 36; first | (refine (C1.out _).mono ?_; rintro e w1 ⟨rfl, hx1⟩; clear C1) | (refine (C2.out _).mono ?_; rintro e w2 ⟨rfl, hx2⟩))
          | (go_at_call 32; refine (num08_c _ _).mono ?_; rintro e w3 ⟨rfl, rfl⟩)
          | (go_at_call 33; refine (knows08_c _ (HE.out.ext (by (repeat (first | exact Ext.rfl' _ | assumption | refine Ext.dr ?_ | refine Ext.drN ?_ _ | refine Ext.al ?_ _ | refine Ext.st ?_ (by simp) _ | refine Ext.tr ?_ (by assumption)))))).mono ?_; rintro e w6 ⟨rfl, hx6⟩))
        go_ret
        exact ⟨rfl, by (repeat (first | exact Ext.rfl' _ | assumption | refine Ext.dr ?_ | refine Ext.drN ?_ _ | refine Ext.al ?_ _ | refine Ext.st ?_ (by simp) _ | refine Ext.tr ?_ (by assumption)))⟩
      · have z1 : decide ((4000 : Int) < (s.length : Int) + (t.length : Int)) = true := by rw [decide_eq_true_eq]; omega
        clear hsum t1 t2 t3 htl htv
        go_wp2_with (go_at_call 33; refine (knows08_c _ (HE.out.ext (by (repeat (first | exact Ext.rfl' _ | assumption | refine Ext.dr ?_ | refine Ext.drN ?_ _ | refine Ext.al ?_ _ | refine Ext.st ?_ (by simp) _ | refine Ext.tr ?_ (by assumption)))))).mono ?_; rintro e w6 ⟨rfl, hx6⟩)
        go_ret
        exact ⟨rfl, by (repeat (first | exact Ext.rfl' _ | assumption | refine Ext.dr ?_ | refine Ext.drN ?_ _ | refine Ext.al ?_ _ | refine Ext.st ?_ (by simp) _ | refine Ext.tr ?_ (by assumption)))⟩
end Go.Proofs.YtjapkhhdpppmdaaDoor
