/-
Fields with other names: Without, the program's.
-/
import Derived.Test.YtppajpchibkneaaDoorHd2
import Derived.WalkMore
set_option linter.unusedVariables false
set_option linter.unusedSimpArgs false
namespace Go.Proofs.YtppajpchibkneaaDoor
open Go.RowKit

theorem slt_fld : SlT Tryd.prog 29 34 (.agg #[.string ⟨#[]⟩, .string ⟨#[]⟩]) 2 32 := ⟨Tryd.underlying29, by kernel_rfl, rfl, by omega⟩
/-- Is a name among others? -/
def metH (x : List UInt8) (nms : List (List UInt8)) : Bool := nms.any fun q => lowL x == lowL q
def withH (fs : List Fld) (nms : List (List UInt8)) : List Fld := fs.filter fun p => !metH p.1 nms
def IsFl (fs : List Fld) (v : Value) (w : World) : Prop := ∃ A c, v = .slice A fs.length c ∧ Rd w A (fc fs)
theorem fc_app (a b : List Fld) : fc (a ++ b) = fc a ++ fc b := by simp [fc]
theorem with_succ (fs : List Fld) (nms : List (List UInt8)) (k : Nat) (h : k < fs.length) : withH (fs.take (k + 1)) nms = withH (fs.take k) nms ++ (if metH fs[k].1 nms = true then [] else [fs[k]]) := by
  unfold withH
  rw [List.take_succ_eq_append_getElem h, List.filter_append]
  congr 1
  by_cases hc : metH fs[k].1 nms = true
  · rw [if_pos hc]; simp [List.filter_cons, hc]
  · rw [if_neg hc]; simp [List.filter_cons, hc]
theorem with_len (fs : List Fld) (nms : List (List UInt8)) : (withH fs nms).length ≤ fs.length := List.length_filter_le _ _
theorem met_yes {x : List UInt8} {nms : List (List UInt8)} {t : Nat} (ht : t < nms.length) (h : (lowL x == lowL nms[t]) = true) : metH x nms = true := by
  unfold metH; rw [List.any_eq_true]; exact ⟨_, List.getElem_mem ht, h⟩
theorem met_no {x : List UInt8} {nms : List (List UInt8)} (h : ∀ i (hi : i < nms.length), (lowL x == lowL nms[i]) = false) : metH x nms = false := by
  unfold metH; rw [List.any_eq_false]
  intro q hq
  obtain ⟨i, hi, rfl⟩ := List.getElem_of_mem hq
  rw [h i hi]; decide
set_option maxRecDepth 100000 in
set_option maxHeartbeats 4000000 in
theorem hWithout_c (fs : List Fld) (nms : List (List UInt8)) (A B : Option Addr) (n c m d : Nat) (hn : fs.length = n) (hm : nms.length = m) (hb : n ≤ 4398046511102) (hbm : m ≤ 9223372036854775807) (hsz : ∀ p ∈ fs, p.1.length ≤ maxLen) (hsn : ∀ p ∈ nms, p.length ≤ maxLen) (w : World) (h : Rd w A (fc fs)) (hB : Rd w B (sc nms)) :
    Calls Tryd.prog 24 #[.slice A n c, .slice B m d] w (Ret (IsFl (withH fs nms)) w) := by
  go_enter Tryd.func24, Tryd.ntmps24
  go_wp2
  go_step3
  go_wp2
  go_step3
  go_wp2
  go_loopw [5, 12] (fun v i wr => ∃ k : Nat, i = .int .i64 (k : Int) ∧ k ≤ n ∧ wr.ownsRow w.heap.size 34 2 v (withH (fs.take k) nms).length (fc (withH (fs.take k) nms)) ∧ Ext w wr) (fun _ i _ => n - (intOf i).toNat)
  case atStart => exact ⟨0, rfl, Nat.zero_le _, World.ownsRow_nil _ _ _ _, Ext.rfl' _⟩
  case round =>
    obtain ⟨k, rfl, hk, hown, hext⟩ := hrel
    by_cases hlt : k < n
    · obtain ⟨b, o, rfl, hbl, hS⟩ := h.fld (k := k) (by omega)
      obtain ⟨a0, a1⟩ := hS.out wr hext
      have hl1 := hsz _ (List.getElem_mem (show k < fs.length by omega))
      have hSu := with_succ fs nms k (by omega)
      have hle := with_len (fs.take k) nms
      rw [List.length_take] at hle
      obtain ⟨⟨x, y⟩, hp⟩ : ∃ p, p = fs[k] := ⟨_, rfl⟩
      rw [← hp] at a0 a1 hl1 hSu
      dsimp only at hl1 hSu
      have HL1 := Lib.hid hl1
      obtain ⟨vs, hvs⟩ : ∃ v, v = withH (fs.take k) nms := ⟨_, rfl⟩
      rw [← hvs] at hown hSu hle
      have HO := Lib.hid hown
      have HSU := Lib.hid hSu
      have hk0 : (0 : Int) ≤ (k : Int) := by omega
      have hk1 : (k : Int) < (n : Int) := by omega
      clear hown hp hvs hl1 hS hSu
      go_wp2
      obtain ⟨W1, hW1⟩ : ∃ W1, W1 = wr.alloc (.cells #[.string (str x), .string (str y)] 34) := ⟨_, rfl⟩
      rw [← hW1]
      have x1 : Ext wr W1 := by rw [hW1]; exact (Ext.rfl' _).al _
      have HBX := Lib.hid (fun w' (e : Ext W1 w') => (show w'.cell? ⟨wr.heap.size, 0, none⟩ = some (.string (str x)) ∧ w'.cell? ⟨wr.heap.size, 1, none⟩ = some (.string (str y)) from by rw [hW1] at e; exact ⟨e.new 0 _ rfl, e.new 1 _ rfl⟩))
      have XW := Lib.hid (hext.tr x1)
      have HOW := Lib.hid (own_ext HO.out x1)
      clear hW1 x1 HO
      obtain ⟨G, hG⟩ : ∃ G, G = wr.heap.size := ⟨_, rfl⟩
      rw [← hG] at HBX ⊢
      clear hG hext a0 a1
      go_loopw [18] (fun j w2 => ∃ t : Nat, j = .int .i64 (t : Int) ∧ t ≤ m ∧ (∀ i (hi : i < nms.length), i < t → (lowL x == lowL nms[i]) = false) ∧ Ext W1 w2) (fun j _ => m - (intOf j).toNat)
      case atStart => exact ⟨0, rfl, Nat.zero_le _, fun i _ h => by omega, Ext.rfl' _⟩
      case round =>
        obtain ⟨t, rfl, ht, hno, hx2⟩ := hrel
        have HNO := Lib.hid hno
        clear hno
        obtain ⟨c0, c1⟩ := HBX.out wr hx2
        by_cases htl : t < m
        · obtain ⟨bb, f, hBe, hbb, hN⟩ := hB.text (k := t) (by omega)
          subst hBe
          have e0 := hN.out wr (XW.out.tr hx2)
          have hq := hsn _ (List.getElem_mem (show t < nms.length by omega))
          have t0 : (0 : Int) ≤ (t : Int) := by omega
          have t1 : (t : Int) < (m : Int) := by omega
          have t2 : (t : Int) + 1 ≤ 9223372036854775807 := by omega
          have C := fun w' => Equal_c x nms[t] HL1.out hq w'
          have htn : t < nms.length := by omega
          have HY : (lowL x == lowL nms[t]) = true → metH x nms = true := fun hc => met_yes htn hc
          obtain ⟨q, hqe⟩ : ∃ q, q = nms[t] := ⟨_, rfl⟩
          obtain ⟨r, hr⟩ : ∃ r, r = (lowL x == lowL nms[t]) := ⟨_, rfl⟩
          rw [← hr] at C HY
          have HR := Lib.hid hr
          rw [← hqe] at C e0
          have C := Lib.hid C
          clear hr hqe hq hN
          cases r with
          | true =>
            have hs2 := HSU.out
            rw [if_pos (HY rfl), List.append_nil] at hs2
            have HS2 := Lib.hid hs2
            clear hs2 HY
            go_wp2_with (go_at_call 33; refine (C.out _).mono ?_; rintro e w2 ⟨rfl, hx3⟩)
            go_roundw
            case rel => exact ⟨k + 1, by go_num, by omega, by rw [HS2.out]; exact own_ext HOW.out (hx2.tr hx3), XW.out.tr (hx2.tr hx3)⟩
            case measure => simp [intOf]; omega
          | false =>
            clear HY
            go_wp2_with (go_at_call 33; refine (C.out _).mono ?_; rintro e w2 ⟨rfl, hx3⟩)
            go_roundw
            case rel => exact ⟨t + 1, by go_num, by omega, fun i hi h2 => by
              rcases Nat.lt_or_ge i t with h3 | h3
              · exact HNO.out i hi h3
              · obtain rfl : i = t := by omega
                exact HR.out.symm, hx2.tr hx3⟩
            case measure => simp [intOf]; omega
        · have hno := met_no (x := x) (nms := nms) (fun i hi => HNO.out i hi (by omega))
          have hs2 := HSU.out
          rw [if_neg (by rw [hno]; decide)] at hs2
          have HS2 := Lib.hid hs2
          have htm : ¬ (t : Int) < (m : Int) := by omega
          clear hs2 hno
          go_wp2_with (first
            | (at_builtin; refine wpL_app slt_fld (.tmp 27) (.tmp 29) rfl rfl rfl rfl (Ext.al (XW.out.tr hx2) _) ((own_ext HOW.out hx2).alloc _) (by rfl) (new_cells wr #[.string (str x), .string (str y)] 34) (by simp [Value.oneCell']) (by omega) (by simp only [maxLen]; omega) ?_; intro v' w' hown' hext' hgg; clear hgg))
          go_roundw
          case rel => exact ⟨k + 1, by go_num, by omega, by rw [HS2.out, fc_app, List.length_append]; exact hown', hext'⟩
          case measure => simp [intOf]; omega
    · have hkn : n = k := by omega
      subst hkn
      rw [List.take_of_length_le (by omega)] at hown
      obtain ⟨A', c', rfl, _, _, hr, _⟩ := Rd.of_own hown
      clear hown
      go_wp2
      go_ret
      exact Ret.mk ⟨A', c', rfl, hr⟩ hext
end Go.Proofs.YtppajpchibkneaaDoor
