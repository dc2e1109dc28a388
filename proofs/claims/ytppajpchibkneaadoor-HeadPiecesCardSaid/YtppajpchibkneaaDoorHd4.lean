/-
Fields with other names: Without, the reference's; two lists of fields that are the same.
-/
import Derived.Test.YtppajpchibkneaaDoorHd3
set_option linter.unusedVariables false
set_option linter.unusedSimpArgs false
namespace Go.Proofs.YtppajpchibkneaaDoor
open Go.RowKit

theorem met_succ {x : List UInt8} {nms : List (List UInt8)} {t : Nat} (ht : t < nms.length) : metH x (nms.take (t + 1)) = (metH x (nms.take t) || (lowL x == lowL nms[t])) := by
  unfold metH
  rw [List.take_succ_eq_append_getElem ht, List.any_append]; simp
set_option maxRecDepth 100000 in
set_option maxHeartbeats 4000000 in
theorem hFields_c (fs : List Fld) (A B : Option Addr) (n c m d : Nat) (hn : fs.length = n) (hm : fs.length = m) (hb : n ≤ maxLen) (w : World) (h : Rd w A (fc fs)) (hB : Rd w B (fc fs)) :
    Calls Tryd.prog 18 #[.slice A n c, .slice B m d] w (Gives (.bool true) w) := by
  obtain rfl : n = m := hn.symm.trans hm
  unfold maxLen at hb
  go_enter Tryd.func18, Tryd.ntmps18
  go_wp2
  go_loopw [5] (fun i wr => ∃ k : Nat, k ≤ n ∧ i = .int .i64 (k : Int) ∧ Ext w wr) (fun i _ => n - (intOf i).toNat)
  case atStart => exact ⟨0, Nat.zero_le _, rfl, Ext.rfl' _⟩
  case round =>
    obtain ⟨k, hk, rfl, hext⟩ := hrel
    by_cases hlt : k < n
    · obtain ⟨b, o, rfl, hbl, hS⟩ := h.fld (k := k) (by omega)
      obtain ⟨b', o', rfl, hbl', hS'⟩ := hB.fld (k := k) (by omega)
      obtain ⟨a0, a1⟩ := hS.out wr hext
      obtain ⟨e0, e1⟩ := hS'.out wr hext
      obtain ⟨p, hp⟩ : ∃ p, p = fs[k] := ⟨_, rfl⟩
      rw [← hp] at a0 a1 e0 e1
      obtain ⟨x, y⟩ := p
      have hk0 : (0 : Int) ≤ (k : Int) := by omega
      have hk1 : (k : Int) < (n : Int) := by omega
      clear hp
      go_wp2
      go_quiet (fail)
      go_wp2
      go_roundw
      case rel => exact ⟨k + 1, by omega, by go_num, hext.drN _⟩
      case measure => simp [intOf]; omega
    · obtain rfl : k = n := by omega
      go_wp2
      go_ret
      exact ⟨rfl, hext⟩
set_option maxRecDepth 100000 in
set_option maxHeartbeats 4000000 in
theorem rhWithout_c (fs : List Fld) (nms : List (List UInt8)) (A B : Option Addr) (n c m d : Nat) (hn : fs.length = n) (hm : nms.length = m) (hb : n ≤ 4398046511102) (hbm : m ≤ 9223372036854775806) (hsz : ∀ p ∈ fs, p.1.length ≤ maxLen) (hsn : ∀ p ∈ nms, p.length ≤ maxLen) (w : World) (h : Rd w A (fc fs)) (hB : Rd w B (sc nms)) :
    Calls Tryd.prog 25 #[.slice A n c, .slice B m d] w (Ret (IsFl (withH fs nms)) w) := by
  go_enter Tryd.func25, Tryd.ntmps25
  go_wp2
  go_loopw [5, 6] (fun v i wr => ∃ k : Nat, i = .int .i64 (k : Int) ∧ k ≤ n ∧ wr.ownsRow w.heap.size 34 2 v (withH (fs.take k) nms).length (fc (withH (fs.take k) nms)) ∧ Ext w wr) (fun _ i _ => n - (intOf i).toNat)
  case atStart => exact ⟨0, rfl, Nat.zero_le _, World.ownsRow_nil _ _ _ _, Ext.rfl' _⟩
  case round =>
    obtain ⟨k, rfl, hk, hown, hext⟩ := hrel
    by_cases hlt : k < n
    · obtain ⟨b, o, rfl, hbl, hS⟩ := h.fld (k := k) (by omega)
      have hl1 := hsz _ (List.getElem_mem (show k < fs.length by omega))
      have hSu := with_succ fs nms k (by omega)
      have hle := with_len (fs.take k) nms
      rw [List.length_take] at hle
      obtain ⟨⟨x, y⟩, hp⟩ : ∃ p, p = fs[k] := ⟨_, rfl⟩
      rw [← hp] at hl1 hSu
      have hS2 : Hid (∀ w', Ext w w' → (w'.cell? ⟨b, o + k * 2, none⟩ = some (.string (str x)) ∧ w'.cell? ⟨b, o + k * 2 + 1, none⟩ = some (.string (str y)))) := by rw [← hp] at hS; exact hS
      dsimp only at hl1 hSu
      have HL1 := Lib.hid hl1
      obtain ⟨vs, hvs⟩ : ∃ v, v = withH (fs.take k) nms := ⟨_, rfl⟩
      rw [← hvs] at hown hSu hle
      have HO := Lib.hid hown
      have HSU := Lib.hid hSu
      have hk0 : (0 : Int) ≤ (k : Int) := by omega
      have hk1 : (k : Int) < (n : Int) := by omega
      obtain ⟨W1, hW1⟩ : ∃ W, W = wr := ⟨_, rfl⟩
      rw [← hW1] at HO hext ⊢
      have XW := Lib.hid hext
      clear hown hp hvs hl1 hS hSu hW1 hext
      go_wp2
      go_loopw [7, 8] (fun mt j w2 => ∃ t : Nat, j = .int .i64 (t : Int) ∧ t ≤ m ∧ mt = .bool (metH x (nms.take t)) ∧ Ext W1 w2) (fun _ j _ => m - (intOf j).toNat)
      case atStart => exact ⟨0, rfl, Nat.zero_le _, by simp [metH], Ext.rfl' _⟩
      case round =>
        obtain ⟨t, rfl, ht, rfl, hx2⟩ := hrel
        obtain ⟨c0, c1⟩ := hS2.out wr (XW.out.tr hx2)
        by_cases htl : t < m
        · obtain ⟨bb, f, hBe, hbb, hN⟩ := hB.text (k := t) (by omega)
          subst hBe
          have htn : t < nms.length := by omega
          have hms := met_succ (x := x) htn
          have e0 := hN.out wr (XW.out.tr hx2)
          have hq := hsn _ (List.getElem_mem htn)
          have t0 : (0 : Int) ≤ (t : Int) := by omega
          have t1 : (t : Int) < (m : Int) := by omega
          have t2 : (t : Int) + 1 ≤ 9223372036854775807 := by omega
          have C := fun w' => rEqual_c x nms[t] HL1.out hq w'
          have hks := Lib.hid (fun w' (e : Ext wr w') => And.intro (hS2.out w' ((XW.out.tr hx2).tr e)).1 (hN.out w' ((XW.out.tr hx2).tr e)))
          obtain ⟨q, hqe⟩ : ∃ q, q = nms[t] := ⟨_, rfl⟩
          rw [← hqe] at C e0 hms
          have hks : Hid (∀ w', Ext wr w' → (w'.cell? ⟨b, o + k * 2, none⟩ = some (.string (str x)) ∧ w'.cell? ⟨bb, f + t, none⟩ = some (.string (str q)))) := by rw [hqe]; exact hks
          obtain ⟨r, hr⟩ : ∃ r, r = (lowL x == lowL q) := ⟨_, rfl⟩
          rw [← hr] at C hms
          obtain ⟨m0, hm0⟩ : ∃ r, r = metH x (nms.take t) := ⟨_, rfl⟩
          rw [← hm0] at hms ⊢
          have HMS := Lib.hid hms
          have C := Lib.hid C
          clear hr hqe hq hN hms hm0
          cases m0 with
          | true =>
            go_wp2
            go_quiet (fail)
            go_wp2
            go_roundw
            case rel => exact ⟨t + 1, by go_num, by omega, by rw [HMS.out]; rfl, hx2.drN _⟩
            case measure => simp [intOf]; omega
          | false =>
            go_wp2
            go_region_held3 (fun w' => w'.cell? ⟨b, o + k * 2, none⟩ = some (.string (str x)) ∧ w'.cell? ⟨bb, f + t, none⟩ = some (.string (str q))) (exact hks.out _ (by (repeat (first | exact Ext.rfl' _ | assumption | refine Ext.dr ?_ | refine Ext.drN ?_ _ | refine Ext.al ?_ _ | refine Ext.st ?_ (by simp) _ | refine Ext.tr ?_ (by assumption))))) (first
              | (go_at_call 34; refine (C.out _).mono ?_; rintro e w2 ⟨rfl, hx3⟩))
            all_goals go_wp2
            all_goals go_roundw
            case rel => exact ⟨t + 1, by go_num, by omega, by rw [HMS.out]; rfl, by (repeat (first | exact Ext.rfl' _ | assumption | refine Ext.dr ?_ | refine Ext.drN ?_ _ | refine Ext.al ?_ _ | refine Ext.st ?_ (by simp) _ | refine Ext.tr ?_ (by assumption)))⟩
            case measure => simp [intOf]; omega
        · rw [List.take_of_length_le (by omega)]
          have htm : ¬ (t : Int) < (m : Int) := by omega
          have hs2 := HSU.out
          obtain ⟨r, hr⟩ : ∃ r, r = metH x nms := ⟨_, rfl⟩
          rw [← hr] at hs2 ⊢
          clear hr
          cases r with
          | true =>
            rw [if_pos rfl, List.append_nil] at hs2
            have HS2 := Lib.hid hs2
            clear hs2
            go_wp2
            go_roundw
            case rel => exact ⟨k + 1, by go_num, by omega, by rw [HS2.out]; exact own_ext HO.out hx2, XW.out.tr hx2⟩
            case measure => simp [intOf]; omega
          | false =>
            rw [if_neg (by decide)] at hs2
            have HS2 := Lib.hid hs2
            clear hs2
            go_wp2_with (first
              | (at_builtin; refine wpL_app slt_fld (.tmp 36) (.tmp 41) rfl rfl rfl rfl (Ext.al (XW.out.tr hx2) _) ((own_ext HO.out hx2).alloc _) (by rfl) (new_cells wr #[.string (str x), .string (str y)] 34) (by simp [Value.oneCell']) (by omega) (by simp only [maxLen]; omega) ?_; intro v' w' hown' hext' hgg; clear hgg))
            go_roundw
            case rel => exact ⟨k + 1, by go_num, by omega, by rw [HS2.out, fc_app, List.length_append]; exact hown', hext'⟩
            case measure => simp [intOf]; omega
    · have hkn : n = k := by omega
      subst hkn
      rw [List.take_of_length_le (by omega)] at hown
      obtain ⟨A', c', rfl, _, _, hr, _⟩ := Rd.of_own hown
      clear hown
      go_wp2
      go_ret
      exact Ret.mk ⟨A', c', rfl, hr⟩ hext
end Go.Proofs.YtppajpchibkneaaDoor
