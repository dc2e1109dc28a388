/-
Static: kinds by names, as the document has them (written by a program).
-/
import Derived.Test.YtemdgilifnhdpaaGreatDoorSt3
import Derived.Deep.CutBlock
set_option linter.unusedVariables false
set_option linter.unusedSimpArgs false
namespace Go.Proofs.YtemdgilifnhdpaaGreatDoor
open Go.RowKit

/-- what stands behind the last point, lowered; nothing where there is none -/
def endL (l : List UInt8) : List UInt8 := match extL l with | none => [] | some e => lowL e
theorem mime_end (l : List UInt8) : mimeL l = typL (endL l) := by
  unfold mimeL endL
  cases extL l with
  | none => exact (by decide +kernel : octT = typL [])
  | some e => rfl
/-- where the search from behind stands still -/
def StopR (l : List UInt8) (k : Nat) : Prop := k ≤ l.length ∧ (∀ x ∈ l.drop k, x ≠ 47 ∧ x ≠ 46) ∧ (k = 0 ∨ ∃ j, k = j + 1 ∧ (l[j]? = some 47 ∨ l[j]? = some 46))
set_option maxRecDepth 100000 in
set_option maxHeartbeats 8000000 in
theorem rMime_c (l : List UInt8) (hs : l.length ≤ 140737488355328) (w : World) : Calls Tryz.prog 13 #[.string (str l)] w (Gives (.string (str (mimeL l))) w) := by
  obtain ⟨R, hR⟩ : ∃ R, R = mimeL l := ⟨_, rfl⟩
  rw [← hR]
  have HRR := Lib.hid (hR.trans (mime_end l))
  have HSS := Lib.hid hs
  obtain ⟨s0, hs0⟩ : ∃ x, x = str l := ⟨_, rfl⟩
  have hz : s0.size = l.length := by rw [hs0]; exact str_size l
  obtain ⟨n, hn⟩ : ∃ x, x = l.length := ⟨_, rfl⟩
  rw [← hn] at hz
  rw [← hs0]
  have HS0 := Lib.hid hs0
  have HN := Lib.hid hn
  have HAT := Lib.hid (fun (j : Nat) (x : UInt8) (hj : j < s0.size) (h : l[j]? = some x) => (show s0[j]'hj = x from by
    subst hs0
    have hjl : j < l.length := by rw [str_size] at hj; exact hj
    have h1 : (str l)[j]'hj = l[j] := by simp [str, ByteArray.getElem_eq_getElem_data]
    rw [List.getElem?_eq_getElem hjl] at h
    rw [h1]; exact Option.some.inj h))
  clear hR hs0 hn hs
  go_enter Tryz.func13, Tryz.ntmps13
  go_upto_block 0 with (fail)
  go_cut [3] (fun v3 wq => ∃ k : Nat, v3 = .int .i64 (k : Int) ∧ StopR l k ∧ w = wq)
  case first =>
    go_wp2
    go_loopw [3] (fun v wr => ∃ k : Nat, v = .int .i64 (k : Int) ∧ k ≤ n ∧ (∀ x ∈ l.drop k, x ≠ 47 ∧ x ≠ 46) ∧ w = wr) (fun v _ => (intOf v).toNat)
    case atStart => exact ⟨n, rfl, Nat.le_refl _, by rw [HN.out, List.drop_length]; exact (fun x hx => by cases hx), rfl⟩
    case round =>
      obtain ⟨k, rfl, hk, hx, hw⟩ := hrel
      subst hw
      have HX := Lib.hid hx
      clear hx
      by_cases hk0 : k = 0
      · have HK0 := Lib.hid hk0
        have k0 : ¬ (0 : Int) < (k : Int) := by omega
        clear hk0
        go_wp2_with fail
        go_meet
        exact ⟨k, rfl, ⟨by rw [← HN.out]; exact hk, HX.out, .inl HK0.out⟩, rfl⟩
      · obtain ⟨j, hj⟩ : ∃ j, k = j + 1 := ⟨k - 1, by omega⟩
        have HJ := Lib.hid hj
        have hjn : (j : Int) < (n : Int) := by omega
        have hj0 : (0 : Int) ≤ (j : Int) := by omega
        have hj1 : (0 : Int) < (k : Int) := by omega
        have hj2 : (k : Int) - 1 = (j : Int) := by omega
        have hjl : j < l.length := by rw [← HN.out]; omega
        obtain ⟨x, hxe⟩ : ∃ x, l[j]? = some x := ⟨_, List.getElem?_eq_getElem hjl⟩
        have hw1 : wrap64 (j : Int) = (j : Int) := by have := HSS.out; unfold wrap64; omega
        have hjs : j < s0.size := by rw [hz]; omega
        have hv : s0[j]'hjs = x := HAT.out j x hjs hxe
        have HXE := Lib.hid hxe
        clear hxe hk0 hj
        by_cases h47 : x = 47
        · subst h47
          go_wp2_with fail
          go_meet
          exact ⟨k, rfl, ⟨by rw [← HN.out]; exact hk, HX.out, .inr ⟨j, HJ.out, .inl HXE.out⟩⟩, rfl⟩
        · by_cases h46 : x = 46
          · subst h46
            clear h47
            go_wp2_with fail
            go_meet
            exact ⟨k, rfl, ⟨by rw [← HN.out]; exact hk, HX.out, .inr ⟨j, HJ.out, .inr HXE.out⟩⟩, rfl⟩
          · have g1 : ¬ (x.toNat : Int) = 47 := fun h => h47 (UInt8.toNat_inj.1 (by show x.toNat = 47; omega))
            have g2 : ¬ (x.toNat : Int) = 46 := fun h => h46 (UInt8.toNat_inj.1 (by show x.toNat = 46; omega))
            have g3 : ((x.toNat : Int) != 47) = true := by rw [bne_iff_ne]; exact g1
            have g4 : ((x.toNat : Int) != 46) = true := by rw [bne_iff_ne]; exact g2
            have HQ := Lib.hid (And.intro h47 h46)
            clear h47 h46
            go_wp2
            go_roundw
            case rel =>
              rw [hw1]
              exact ⟨j, rfl, (Nat.le_of_lt (by have := HJ.out; omega)), (fun y hy => by
              rw [List.drop_eq_getElem_cons hjl] at hy
              have h2 : l[j] = x := by
                have := List.getElem?_eq_getElem hjl
                rw [HXE.out] at this
                exact (Option.some.inj this).symm
              rcases List.mem_cons.1 hy with h | h
              · rw [h, h2]; exact HQ.out
              · exact HX.out y (by rw [HJ.out]; exact h)), trivial⟩
            case measure =>
              have h9 := HJ.out
              rw [hw1]
              simp only [intOf, Int.toNat_natCast]
              omega
  case rest =>
    obtain ⟨k, rfl, ⟨hk, hx, hor⟩, hw⟩ := hcut
    subst hw
    have HX := Lib.hid hx
    have HOR := Lib.hid hor
    clear hx hor
    go_step
    go_step
    go_step
    go_step
    go_step
    go_step
    go_step
    go_step
    go_step
    go_step
    go_cut [4] (fun v4 wq => v4 = .string (str (endL l)) ∧ Ext w wq)
    case first =>
      by_cases hk0 : k = 0
      · have hE : endL l = [] := by unfold endL; rw [(ext_from hk HX.out).1 hk0]
        have k0 : ¬ (0 : Int) < (k : Int) := by omega
        have HE := Lib.hid hE
        clear hk0 hE
        go_wp2_with fail
        go_meet
        exact ⟨by rw [HE.out]; rfl, by (repeat (first | exact Ext.rfl' _ | assumption | refine Ext.dr ?_ | refine Ext.drN ?_ _ | refine Ext.al ?_ _ | refine Ext.st ?_ (by simp) _ | refine Ext.tr ?_ (by assumption)))⟩
      · obtain ⟨j, hj⟩ : ∃ j, k = j + 1 := ⟨k - 1, by omega⟩
        have hj0 : (0 : Int) ≤ (j : Int) := by omega
        have hj1 : (0 : Int) < (k : Int) := by omega
        have hj2 : (k : Int) - 1 = (j : Int) := by omega
        have hkn : (k : Int) ≤ (n : Int) := by rw [HN.out]; omega
        have hjn : (j : Int) < (n : Int) := by omega
        have hw1 : wrap64 (j : Int) = (j : Int) := by have := HSS.out; unfold wrap64; omega
        have hjs : j < s0.size := by rw [hz, HN.out]; omega
        rcases HOR.out with h | ⟨j', h1, h2⟩
        · exact absurd h hk0
        obtain rfl : j' = j := by omega
        rcases h2 with h2 | h2
        · have hv : s0[j']'hjs = 47 := HAT.out j' 47 hjs h2
          have hE : endL l = [] := by unfold endL; rw [((ext_from hk HX.out).2 j' hj).1 h2]
          have HE := Lib.hid hE
          clear hk0 hE h2 hj h1
          go_wp2_with fail
          go_meet
          exact ⟨by rw [HE.out]; rfl, by (repeat (first | exact Ext.rfl' _ | assumption | refine Ext.dr ?_ | refine Ext.drN ?_ _ | refine Ext.al ?_ _ | refine Ext.st ?_ (by simp) _ | refine Ext.tr ?_ (by assumption)))⟩
        · have hv : s0[j']'hjs = 46 := HAT.out j' 46 hjs h2
          obtain ⟨e, he⟩ : ∃ e, e = l.drop k := ⟨_, rfl⟩
          have hse := str_drop l k hk
          rw [← he, ← HS0.out, ← HN.out] at hse
          have CL := fun w => rLower_c e (by rw [he, List.length_drop]; have := HSS.out; unfold maxLen; omega) w
          have hE : endL l = lowL e := by unfold endL; rw [((ext_from hk HX.out).2 j' hj).2 h2, he, hj]
          have HE := Lib.hid hE
          obtain ⟨se, hse2⟩ : ∃ x, x = str e := ⟨_, rfl⟩
          rw [← hse2] at hse CL
          clear hk0 hE h2 hj h1 he hse2
          go_wp2_with (go_at_call 40; refine (CL _).mono ?_; rintro e w3 ⟨rfl, hx3⟩)
          go_meet
          exact ⟨by rw [HE.out], by (repeat (first | exact Ext.rfl' _ | assumption | refine Ext.dr ?_ | refine Ext.drN ?_ _ | refine Ext.al ?_ _ | refine Ext.st ?_ (by simp) _ | refine Ext.tr ?_ (by assumption)))⟩
    case rest =>
      obtain ⟨rfl, hxq⟩ := hcut
      obtain ⟨E, hE⟩ : ∃ E, E = endL l := ⟨_, rfl⟩
      have hV : R = typL E := by rw [hE]; exact HRR.out
      rw [← hE]
      clear hE HX HOR HAT HRR hk
      rcases typ_cases E with ⟨rfl, ht⟩ | ⟨rfl, ht⟩ | ⟨rfl, ht⟩ | ⟨rfl, ht⟩ | ⟨rfl, ht⟩ | ⟨rfl, ht⟩ | ⟨rfl, ht⟩ | ⟨rfl, ht⟩ | ⟨rfl, ht⟩ | ⟨rfl, ht⟩ | ⟨rfl, ht⟩ | ⟨hno, ht⟩
      · rw [ht] at hV
        rw [show str [104, 116, 109, 108] = ⟨#[104, 116, 109, 108]⟩ from rfl]
        have HV := Lib.hid hV
        clear ht hV
        go_wp2_with fail
        go_ret
        exact ⟨by rw [HV.out]; rfl, by (repeat (first | exact Ext.rfl' _ | assumption | refine Ext.dr ?_ | refine Ext.drN ?_ _ | refine Ext.al ?_ _ | refine Ext.st ?_ (by simp) _ | refine Ext.tr ?_ (by assumption)))⟩
      · rw [ht] at hV
        rw [show str [104, 116, 109] = ⟨#[104, 116, 109]⟩ from rfl]
        have HV := Lib.hid hV
        clear ht hV
        go_wp2_with fail
        go_ret
        exact ⟨by rw [HV.out]; rfl, by (repeat (first | exact Ext.rfl' _ | assumption | refine Ext.dr ?_ | refine Ext.drN ?_ _ | refine Ext.al ?_ _ | refine Ext.st ?_ (by simp) _ | refine Ext.tr ?_ (by assumption)))⟩
      · rw [ht] at hV
        rw [show str [99, 115, 115] = ⟨#[99, 115, 115]⟩ from rfl]
        have HV := Lib.hid hV
        clear ht hV
        go_wp2_with fail
        go_ret
        exact ⟨by rw [HV.out]; rfl, by (repeat (first | exact Ext.rfl' _ | assumption | refine Ext.dr ?_ | refine Ext.drN ?_ _ | refine Ext.al ?_ _ | refine Ext.st ?_ (by simp) _ | refine Ext.tr ?_ (by assumption)))⟩
      · rw [ht] at hV
        rw [show str [106, 115] = ⟨#[106, 115]⟩ from rfl]
        have HV := Lib.hid hV
        clear ht hV
        go_wp2_with fail
        go_ret
        exact ⟨by rw [HV.out]; rfl, by (repeat (first | exact Ext.rfl' _ | assumption | refine Ext.dr ?_ | refine Ext.drN ?_ _ | refine Ext.al ?_ _ | refine Ext.st ?_ (by simp) _ | refine Ext.tr ?_ (by assumption)))⟩
      · rw [ht] at hV
        rw [show str [106, 115, 111, 110] = ⟨#[106, 115, 111, 110]⟩ from rfl]
        have HV := Lib.hid hV
        clear ht hV
        go_wp2_with fail
        go_ret
        exact ⟨by rw [HV.out]; rfl, by (repeat (first | exact Ext.rfl' _ | assumption | refine Ext.dr ?_ | refine Ext.drN ?_ _ | refine Ext.al ?_ _ | refine Ext.st ?_ (by simp) _ | refine Ext.tr ?_ (by assumption)))⟩
      · rw [ht] at hV
        rw [show str [116, 120, 116] = ⟨#[116, 120, 116]⟩ from rfl]
        have HV := Lib.hid hV
        clear ht hV
        go_wp2_with fail
        go_ret
        exact ⟨by rw [HV.out]; rfl, by (repeat (first | exact Ext.rfl' _ | assumption | refine Ext.dr ?_ | refine Ext.drN ?_ _ | refine Ext.al ?_ _ | refine Ext.st ?_ (by simp) _ | refine Ext.tr ?_ (by assumption)))⟩
      · rw [ht] at hV
        rw [show str [115, 118, 103] = ⟨#[115, 118, 103]⟩ from rfl]
        have HV := Lib.hid hV
        clear ht hV
        go_wp2_with fail
        go_ret
        exact ⟨by rw [HV.out]; rfl, by (repeat (first | exact Ext.rfl' _ | assumption | refine Ext.dr ?_ | refine Ext.drN ?_ _ | refine Ext.al ?_ _ | refine Ext.st ?_ (by simp) _ | refine Ext.tr ?_ (by assumption)))⟩
      · rw [ht] at hV
        rw [show str [112, 110, 103] = ⟨#[112, 110, 103]⟩ from rfl]
        have HV := Lib.hid hV
        clear ht hV
        go_wp2_with fail
        go_ret
        exact ⟨by rw [HV.out]; rfl, by (repeat (first | exact Ext.rfl' _ | assumption | refine Ext.dr ?_ | refine Ext.drN ?_ _ | refine Ext.al ?_ _ | refine Ext.st ?_ (by simp) _ | refine Ext.tr ?_ (by assumption)))⟩
      · rw [ht] at hV
        rw [show str [106, 112, 103] = ⟨#[106, 112, 103]⟩ from rfl]
        have HV := Lib.hid hV
        clear ht hV
        go_wp2_with fail
        go_ret
        exact ⟨by rw [HV.out]; rfl, by (repeat (first | exact Ext.rfl' _ | assumption | refine Ext.dr ?_ | refine Ext.drN ?_ _ | refine Ext.al ?_ _ | refine Ext.st ?_ (by simp) _ | refine Ext.tr ?_ (by assumption)))⟩
      · rw [ht] at hV
        rw [show str [106, 112, 101, 103] = ⟨#[106, 112, 101, 103]⟩ from rfl]
        have HV := Lib.hid hV
        clear ht hV
        go_wp2_with fail
        go_ret
        exact ⟨by rw [HV.out]; rfl, by (repeat (first | exact Ext.rfl' _ | assumption | refine Ext.dr ?_ | refine Ext.drN ?_ _ | refine Ext.al ?_ _ | refine Ext.st ?_ (by simp) _ | refine Ext.tr ?_ (by assumption)))⟩
      · rw [ht] at hV
        rw [show str [103, 122] = ⟨#[103, 122]⟩ from rfl]
        have HV := Lib.hid hV
        clear ht hV
        go_wp2_with fail
        go_ret
        exact ⟨by rw [HV.out]; rfl, by (repeat (first | exact Ext.rfl' _ | assumption | refine Ext.dr ?_ | refine Ext.drN ?_ _ | refine Ext.al ?_ _ | refine Ext.st ?_ (by simp) _ | refine Ext.tr ?_ (by assumption)))⟩
      · rw [ht] at hV
        obtain ⟨sv, hsv⟩ : ∃ x, x = str E := ⟨_, rfl⟩
        obtain ⟨k0, k1, k2, k3, k4, k5, k6, k7, k8, k9, k10⟩ := hno
        have g0 : ¬ sv.toList = [104, 116, 109, 108] := fun h => k0 (by rw [hsv] at h; simpa using h)
        have f0 : (sv.toList == [104, 116, 109, 108]) = false := by rw [beq_eq_false_iff_ne]; exact g0
        have g1 : ¬ sv.toList = [104, 116, 109] := fun h => k1 (by rw [hsv] at h; simpa using h)
        have f1 : (sv.toList == [104, 116, 109]) = false := by rw [beq_eq_false_iff_ne]; exact g1
        have g2 : ¬ sv.toList = [99, 115, 115] := fun h => k2 (by rw [hsv] at h; simpa using h)
        have f2 : (sv.toList == [99, 115, 115]) = false := by rw [beq_eq_false_iff_ne]; exact g2
        have g3 : ¬ sv.toList = [106, 115] := fun h => k3 (by rw [hsv] at h; simpa using h)
        have f3 : (sv.toList == [106, 115]) = false := by rw [beq_eq_false_iff_ne]; exact g3
        have g4 : ¬ sv.toList = [106, 115, 111, 110] := fun h => k4 (by rw [hsv] at h; simpa using h)
        have f4 : (sv.toList == [106, 115, 111, 110]) = false := by rw [beq_eq_false_iff_ne]; exact g4
        have g5 : ¬ sv.toList = [116, 120, 116] := fun h => k5 (by rw [hsv] at h; simpa using h)
        have f5 : (sv.toList == [116, 120, 116]) = false := by rw [beq_eq_false_iff_ne]; exact g5
        have g6 : ¬ sv.toList = [115, 118, 103] := fun h => k6 (by rw [hsv] at h; simpa using h)
        have f6 : (sv.toList == [115, 118, 103]) = false := by rw [beq_eq_false_iff_ne]; exact g6
        have g7 : ¬ sv.toList = [112, 110, 103] := fun h => k7 (by rw [hsv] at h; simpa using h)
        have f7 : (sv.toList == [112, 110, 103]) = false := by rw [beq_eq_false_iff_ne]; exact g7
        have g8 : ¬ sv.toList = [106, 112, 103] := fun h => k8 (by rw [hsv] at h; simpa using h)
        have f8 : (sv.toList == [106, 112, 103]) = false := by rw [beq_eq_false_iff_ne]; exact g8
        have g9 : ¬ sv.toList = [106, 112, 101, 103] := fun h => k9 (by rw [hsv] at h; simpa using h)
        have f9 : (sv.toList == [106, 112, 101, 103]) = false := by rw [beq_eq_false_iff_ne]; exact g9
        have g10 : ¬ sv.toList = [103, 122] := fun h => k10 (by rw [hsv] at h; simpa using h)
        have f10 : (sv.toList == [103, 122]) = false := by rw [beq_eq_false_iff_ne]; exact g10
        rw [← hsv]
        have HV := Lib.hid hV
        clear ht hV hsv k0 k1 k2 k3 k4 k5 k6 k7 k8 k9 k10
        go_wp2_with fail
        go_ret
        exact ⟨by rw [HV.out]; rfl, by (repeat (first | exact Ext.rfl' _ | assumption | refine Ext.dr ?_ | refine Ext.drN ?_ _ | refine Ext.al ?_ _ | refine Ext.st ?_ (by simp) _ | refine Ext.tr ?_ (by assumption)))⟩
end Go.Proofs.YtemdgilifnhdpaaGreatDoor
