/-
Static: kinds by names, both.
-/
import Derived.Test.YtemdgilifnhdpaaGreatDoorZak
import Derived.Test.YtemdgilifnhdpaaGreatDoorZad
import Derived.Test.YtemdgilifnhdpaaGreatDoorShelf
import Derived.Test.YtemdgilifnhdpaaGreatDoorZae
import Derived.Test.YtemdgilifnhdpaaGreatDoorZaa
set_option linter.unusedVariables false
set_option linter.unusedSimpArgs false
section
namespace Go.Proofs.YtemdgilifnhdpaaGreatDoor
open Go.RowKit

theorem LastIB_c (l : List UInt8) (hs : l.length ≤ 140737488355328) (c : UInt8) (w : World) : Calls Tryz.prog 38 #[.string (str l), .int .u8 (c.toNat : Int)] w fun e w' => e = .returned (.int .i64 (Lib.lastIndexByte (str l) (c.toNat : Int))) ∧ w = w' :=
  (Tryz.strings_LastIndexByte _ _ (by rw [str_size]; omega) w).mono fun e w' ⟨he, hw⟩ => ⟨he, hw.symm⟩
theorem name_at (l : List UInt8) : ∃ p : Nat, p ≤ l.length ∧ Lib.lastIndexByte (str l) 47 = (p : Int) - 1 ∧ l.drop p = fnameL l := by
  rcases last_at l 47 with ⟨h1, h2⟩ | ⟨r, h1, h2, h3, h4⟩
  · exact ⟨0, Nat.zero_le _, by rw [show ((47 : Int)) = ((47 : UInt8).toNat : Int) from rfl, h2]; rfl, by unfold fnameL; rw [h1]; rfl⟩
  · exact ⟨l.length - r.length, by omega, by rw [show ((47 : Int)) = ((47 : UInt8).toNat : Int) from rfl, h3]; omega, by unfold fnameL; rw [h1]; exact h4⟩
theorem ext_at (l : List UInt8) : (aftL 46 l = none ∧ Lib.lastIndexByte (str l) 46 = -1) ∨ ∃ e p, aftL 46 l = some e ∧ p < l.length ∧ Lib.lastIndexByte (str l) 46 = ((p : Nat) : Int) ∧ l.drop (p + 1) = e := by
  rcases last_at l 46 with ⟨h1, h2⟩ | ⟨r, h1, h2, h3, h4⟩
  · exact .inl ⟨h1, h2⟩
  · exact .inr ⟨r, l.length - r.length - 1, h1, by omega, h3, by rw [show l.length - r.length - 1 + 1 = l.length - r.length from by omega]; exact h4⟩
theorem str_drop (l : List UInt8) (p : Nat) (_hp : p ≤ l.length) : (str l).extract p l.length = str (l.drop p) := by
  apply ByteArray.ext
  apply Array.ext'
  simp [str]
  rw [List.take_of_length_le (by rw [List.length_drop]; omega)]

theorem typ_cases (e : List UInt8) : (e = [104, 116, 109, 108] ∧ typL e = [116, 101, 120, 116, 47, 104, 116, 109, 108]) ∨ (e = [104, 116, 109] ∧ typL e = [116, 101, 120, 116, 47, 104, 116, 109, 108]) ∨ (e = [99, 115, 115] ∧ typL e = [116, 101, 120, 116, 47, 99, 115, 115]) ∨ (e = [106, 115] ∧ typL e = [116, 101, 120, 116, 47, 106, 97, 118, 97, 115, 99, 114, 105, 112, 116]) ∨ (e = [106, 115, 111, 110] ∧ typL e = [97, 112, 112, 108, 105, 99, 97, 116, 105, 111, 110, 47, 106, 115, 111, 110]) ∨ (e = [116, 120, 116] ∧ typL e = [116, 101, 120, 116, 47, 112, 108, 97, 105, 110]) ∨ (e = [115, 118, 103] ∧ typL e = [105, 109, 97, 103, 101, 47, 115, 118, 103, 43, 120, 109, 108]) ∨ (e = [112, 110, 103] ∧ typL e = [105, 109, 97, 103, 101, 47, 112, 110, 103]) ∨ (e = [106, 112, 103] ∧ typL e = [105, 109, 97, 103, 101, 47, 106, 112, 101, 103]) ∨ (e = [106, 112, 101, 103] ∧ typL e = [105, 109, 97, 103, 101, 47, 106, 112, 101, 103]) ∨ (e = [103, 122] ∧ typL e = [97, 112, 112, 108, 105, 99, 97, 116, 105, 111, 110, 47, 103, 122, 105, 112]) ∨ ((¬ e = [104, 116, 109, 108] ∧ ¬ e = [104, 116, 109] ∧ ¬ e = [99, 115, 115] ∧ ¬ e = [106, 115] ∧ ¬ e = [106, 115, 111, 110] ∧ ¬ e = [116, 120, 116] ∧ ¬ e = [115, 118, 103] ∧ ¬ e = [112, 110, 103] ∧ ¬ e = [106, 112, 103] ∧ ¬ e = [106, 112, 101, 103] ∧ ¬ e = [103, 122]) ∧ typL e = octT) := by
  by_cases h0 : e = [104, 116, 109, 108]
  · exact .inl ⟨h0, by rw [h0]; decide +kernel⟩
  by_cases h1 : e = [104, 116, 109]
  · exact .inr (.inl ⟨h1, by rw [h1]; decide +kernel⟩)
  by_cases h2 : e = [99, 115, 115]
  · exact .inr (.inr (.inl ⟨h2, by rw [h2]; decide +kernel⟩))
  by_cases h3 : e = [106, 115]
  · exact .inr (.inr (.inr (.inl ⟨h3, by rw [h3]; decide +kernel⟩)))
  by_cases h4 : e = [106, 115, 111, 110]
  · exact .inr (.inr (.inr (.inr (.inl ⟨h4, by rw [h4]; decide +kernel⟩))))
  by_cases h5 : e = [116, 120, 116]
  · exact .inr (.inr (.inr (.inr (.inr (.inl ⟨h5, by rw [h5]; decide +kernel⟩)))))
  by_cases h6 : e = [115, 118, 103]
  · exact .inr (.inr (.inr (.inr (.inr (.inr (.inl ⟨h6, by rw [h6]; decide +kernel⟩))))))
  by_cases h7 : e = [112, 110, 103]
  · exact .inr (.inr (.inr (.inr (.inr (.inr (.inr (.inl ⟨h7, by rw [h7]; decide +kernel⟩)))))))
  by_cases h8 : e = [106, 112, 103]
  · exact .inr (.inr (.inr (.inr (.inr (.inr (.inr (.inr (.inl ⟨h8, by rw [h8]; decide +kernel⟩))))))))
  by_cases h9 : e = [106, 112, 101, 103]
  · exact .inr (.inr (.inr (.inr (.inr (.inr (.inr (.inr (.inr (.inl ⟨h9, by rw [h9]; decide +kernel⟩)))))))))
  by_cases h10 : e = [103, 122]
  · exact .inr (.inr (.inr (.inr (.inr (.inr (.inr (.inr (.inr (.inr (.inl ⟨h10, by rw [h10]; decide +kernel⟩))))))))))
  exact .inr (.inr (.inr (.inr (.inr (.inr (.inr (.inr (.inr (.inr (.inr (⟨⟨h0, h1, h2, h3, h4, h5, h6, h7, h8, h9, h10⟩, by
    unfold typL typT
    simp only [List.find?_cons, List.find?_nil]
    rw [decide_eq_false (fun h => h0 h.symm), decide_eq_false (fun h => h1 h.symm), decide_eq_false (fun h => h2 h.symm), decide_eq_false (fun h => h3 h.symm), decide_eq_false (fun h => h4 h.symm), decide_eq_false (fun h => h5 h.symm), decide_eq_false (fun h => h6 h.symm), decide_eq_false (fun h => h7 h.symm), decide_eq_false (fun h => h8 h.symm), decide_eq_false (fun h => h9 h.symm), decide_eq_false (fun h => h10 h.symm)]
    rfl⟩)))))))))))
set_option maxRecDepth 100000 in
set_option maxHeartbeats 4000000 in
theorem Mime_c (l : List UInt8) (hs : l.length ≤ 140737488355328) (w : World) : Calls Tryz.prog 12 #[.string (str l)] w (Gives (.string (str (mimeL l))) w) := by
  obtain ⟨R, hR⟩ : ∃ R, R = mimeL l := ⟨_, rfl⟩
  rw [← hR]
  obtain ⟨p, hp, hi, hd⟩ := name_at l
  have hnl : (fnameL l).length ≤ l.length := by rw [← hd, List.length_drop]; omega
  have hsl := str_drop l p hp
  rw [hd] at hsl
  have C1 := LastIB_c l hs 47 w
  rw [show (((47 : UInt8).toNat : Nat) : Int) = 47 from rfl, hi] at C1
  have hw1 : wrap64 (p : Int) = (p : Int) := by unfold wrap64; omega
  have hpl : (p : Int) ≤ (l.length : Int) := by omega
  have hp0 : (0 : Int) ≤ (p : Int) := by omega
  have hz : (str l).size = l.length := str_size l
  obtain ⟨s0, hs0⟩ : ∃ x, x = str l := ⟨_, rfl⟩
  obtain ⟨n, hn⟩ : ∃ x, x = l.length := ⟨_, rfl⟩
  rw [← hs0] at C1 hsl hz
  rw [← hn] at hsl hz hpl
  rw [← hs0]
  obtain ⟨nm, hnm⟩ : ∃ x, x = fnameL l := ⟨_, rfl⟩
  have hR2 : R = match aftL 46 nm with | none => octT | some e => typL (lowL e) := by rw [hR, hnm]; rfl
  rw [← hnm] at hsl hnl
  obtain ⟨sn, hsn⟩ : ∃ x, x = str nm := ⟨_, rfl⟩
  rw [← hsn] at hsl
  have C1 := Lib.hid C1
  have C2 := LastIB_c nm (by omega) 46 w
  rw [show (((46 : UInt8).toNat : Nat) : Int) = 46 from rfl, ← hsn] at C2
  have HR2 := Lib.hid hR2
  have HSN := Lib.hid hsn
  have HNL := Lib.hid hnl
  have hzn : sn.size = nm.length := by rw [hsn]; exact str_size nm
  clear hR hi hd hp hs0 hn hnm hR2 hnl
  rcases ext_at nm with ⟨h1, h2⟩ | ⟨e, q, h1, h2, h3, h4⟩
  · rw [hsn, h2, ← hsn] at C2
    have C2 := Lib.hid C2
    have HV := Lib.hid (show R = octT from by rw [HR2.out, h1])
    clear h1 h2 hsn hzn
    go_enter Tryz.func12, Tryz.ntmps12
    go_wp2_with (first
      | (go_at_call 38; refine (C1.out).mono ?_; clear C1; rintro e w2 ⟨rfl, hw⟩; subst hw)
      | (go_at_call 38; refine (C2.out).mono ?_; rintro e w2 ⟨rfl, hw⟩; subst hw))
    go_ret
    exact ⟨by rw [HV.out]; rfl, by (repeat (first | exact Ext.rfl' _ | assumption | refine Ext.dr ?_ | refine Ext.drN ?_ _ | refine Ext.al ?_ _ | refine Ext.st ?_ (by simp) _ | refine Ext.tr ?_ (by assumption)))⟩
  · rw [hsn, h3, ← hsn] at C2
    have C2 := Lib.hid C2
    have hq1 : wrap64 ((q : Int) + 1) = (q : Int) + 1 := by have := HNL.out; unfold wrap64; omega
    have hq0 : (0 : Int) ≤ (q : Int) := by omega
    have hq2 : (q : Int) + 1 ≤ (nm.length : Int) := by omega
    have hse := str_drop nm (q + 1) (by omega)
    rw [h4, ← hsn] at hse
    have CL := Lib.hid (fun w => Lower_c e (by rw [← h4, List.length_drop]; have := HNL.out; unfold maxLen; omega) w)
    have HV := Lib.hid (show R = typL (lowL e) from by rw [HR2.out, h1])
    obtain ⟨se, hse2⟩ : ∃ x, x = str e := ⟨_, rfl⟩
    obtain ⟨nn, hnn⟩ : ∃ x, x = nm.length := ⟨_, rfl⟩
    rw [← hse2] at hse CL
    rw [← hnn] at hse hq2 hzn
    obtain ⟨lo, hlo⟩ : ∃ x, x = lowL e := ⟨_, rfl⟩
    rw [← hlo] at CL HV
    clear h1 h2 h3 h4 hsn hse2 hnn hlo
    rcases typ_cases lo with ⟨rfl, ht⟩ | ⟨rfl, ht⟩ | ⟨rfl, ht⟩ | ⟨rfl, ht⟩ | ⟨rfl, ht⟩ | ⟨rfl, ht⟩ | ⟨rfl, ht⟩ | ⟨rfl, ht⟩ | ⟨rfl, ht⟩ | ⟨rfl, ht⟩ | ⟨rfl, ht⟩ | ⟨hno, ht⟩
    · rw [ht] at HV
      rw [show str [104, 116, 109, 108] = ⟨#[104, 116, 109, 108]⟩ from rfl] at CL
      clear ht
      go_enter Tryz.func12, Tryz.ntmps12
      go_wp2_with (first
      | (go_at_call 38; refine (C1.out).mono ?_; clear C1; rintro e w2 ⟨rfl, hw⟩; subst hw)
      | (go_at_call 38; refine (C2.out).mono ?_; rintro e w2 ⟨rfl, hw⟩; subst hw)
      | (go_at_call 39; refine (CL.out _).mono ?_; rintro e w3 ⟨rfl, hx3⟩))
      go_ret
      exact ⟨by rw [HV.out]; rfl, by (repeat (first | exact Ext.rfl' _ | assumption | refine Ext.dr ?_ | refine Ext.drN ?_ _ | refine Ext.al ?_ _ | refine Ext.st ?_ (by simp) _ | refine Ext.tr ?_ (by assumption)))⟩
    · rw [ht] at HV
      rw [show str [104, 116, 109] = ⟨#[104, 116, 109]⟩ from rfl] at CL
      clear ht
      go_enter Tryz.func12, Tryz.ntmps12
      go_wp2_with (first
      | (go_at_call 38; refine (C1.out).mono ?_; clear C1; rintro e w2 ⟨rfl, hw⟩; subst hw)
      | (go_at_call 38; refine (C2.out).mono ?_; rintro e w2 ⟨rfl, hw⟩; subst hw)
      | (go_at_call 39; refine (CL.out _).mono ?_; rintro e w3 ⟨rfl, hx3⟩))
      go_ret
      exact ⟨by rw [HV.out]; rfl, by (repeat (first | exact Ext.rfl' _ | assumption | refine Ext.dr ?_ | refine Ext.drN ?_ _ | refine Ext.al ?_ _ | refine Ext.st ?_ (by simp) _ | refine Ext.tr ?_ (by assumption)))⟩
    · rw [ht] at HV
      rw [show str [99, 115, 115] = ⟨#[99, 115, 115]⟩ from rfl] at CL
      clear ht
      go_enter Tryz.func12, Tryz.ntmps12
      go_wp2_with (first
      | (go_at_call 38; refine (C1.out).mono ?_; clear C1; rintro e w2 ⟨rfl, hw⟩; subst hw)
      | (go_at_call 38; refine (C2.out).mono ?_; rintro e w2 ⟨rfl, hw⟩; subst hw)
      | (go_at_call 39; refine (CL.out _).mono ?_; rintro e w3 ⟨rfl, hx3⟩))
      go_ret
      exact ⟨by rw [HV.out]; rfl, by (repeat (first | exact Ext.rfl' _ | assumption | refine Ext.dr ?_ | refine Ext.drN ?_ _ | refine Ext.al ?_ _ | refine Ext.st ?_ (by simp) _ | refine Ext.tr ?_ (by assumption)))⟩
    · rw [ht] at HV
      rw [show str [106, 115] = ⟨#[106, 115]⟩ from rfl] at CL
      clear ht
      go_enter Tryz.func12, Tryz.ntmps12
      go_wp2_with (first
      | (go_at_call 38; refine (C1.out).mono ?_; clear C1; rintro e w2 ⟨rfl, hw⟩; subst hw)
      | (go_at_call 38; refine (C2.out).mono ?_; rintro e w2 ⟨rfl, hw⟩; subst hw)
      | (go_at_call 39; refine (CL.out _).mono ?_; rintro e w3 ⟨rfl, hx3⟩))
      go_ret
      exact ⟨by rw [HV.out]; rfl, by (repeat (first | exact Ext.rfl' _ | assumption | refine Ext.dr ?_ | refine Ext.drN ?_ _ | refine Ext.al ?_ _ | refine Ext.st ?_ (by simp) _ | refine Ext.tr ?_ (by assumption)))⟩
    · rw [ht] at HV
      rw [show str [106, 115, 111, 110] = ⟨#[106, 115, 111, 110]⟩ from rfl] at CL
      clear ht
      go_enter Tryz.func12, Tryz.ntmps12
      go_wp2_with (first
      | (go_at_call 38; refine (C1.out).mono ?_; clear C1; rintro e w2 ⟨rfl, hw⟩; subst hw)
      | (go_at_call 38; refine (C2.out).mono ?_; rintro e w2 ⟨rfl, hw⟩; subst hw)
      | (go_at_call 39; refine (CL.out _).mono ?_; rintro e w3 ⟨rfl, hx3⟩))
      go_ret
      exact ⟨by rw [HV.out]; rfl, by (repeat (first | exact Ext.rfl' _ | assumption | refine Ext.dr ?_ | refine Ext.drN ?_ _ | refine Ext.al ?_ _ | refine Ext.st ?_ (by simp) _ | refine Ext.tr ?_ (by assumption)))⟩
    · rw [ht] at HV
      rw [show str [116, 120, 116] = ⟨#[116, 120, 116]⟩ from rfl] at CL
      clear ht
      go_enter Tryz.func12, Tryz.ntmps12
      go_wp2_with (first
      | (go_at_call 38; refine (C1.out).mono ?_; clear C1; rintro e w2 ⟨rfl, hw⟩; subst hw)
      | (go_at_call 38; refine (C2.out).mono ?_; rintro e w2 ⟨rfl, hw⟩; subst hw)
      | (go_at_call 39; refine (CL.out _).mono ?_; rintro e w3 ⟨rfl, hx3⟩))
      go_ret
      exact ⟨by rw [HV.out]; rfl, by (repeat (first | exact Ext.rfl' _ | assumption | refine Ext.dr ?_ | refine Ext.drN ?_ _ | refine Ext.al ?_ _ | refine Ext.st ?_ (by simp) _ | refine Ext.tr ?_ (by assumption)))⟩
    · rw [ht] at HV
      rw [show str [115, 118, 103] = ⟨#[115, 118, 103]⟩ from rfl] at CL
      clear ht
      go_enter Tryz.func12, Tryz.ntmps12
      go_wp2_with (first
      | (go_at_call 38; refine (C1.out).mono ?_; clear C1; rintro e w2 ⟨rfl, hw⟩; subst hw)
      | (go_at_call 38; refine (C2.out).mono ?_; rintro e w2 ⟨rfl, hw⟩; subst hw)
      | (go_at_call 39; refine (CL.out _).mono ?_; rintro e w3 ⟨rfl, hx3⟩))
      go_ret
      exact ⟨by rw [HV.out]; rfl, by (repeat (first | exact Ext.rfl' _ | assumption | refine Ext.dr ?_ | refine Ext.drN ?_ _ | refine Ext.al ?_ _ | refine Ext.st ?_ (by simp) _ | refine Ext.tr ?_ (by assumption)))⟩
    · rw [ht] at HV
      rw [show str [112, 110, 103] = ⟨#[112, 110, 103]⟩ from rfl] at CL
      clear ht
      go_enter Tryz.func12, Tryz.ntmps12
      go_wp2_with (first
      | (go_at_call 38; refine (C1.out).mono ?_; clear C1; rintro e w2 ⟨rfl, hw⟩; subst hw)
      | (go_at_call 38; refine (C2.out).mono ?_; rintro e w2 ⟨rfl, hw⟩; subst hw)
      | (go_at_call 39; refine (CL.out _).mono ?_; rintro e w3 ⟨rfl, hx3⟩))
      go_ret
      exact ⟨by rw [HV.out]; rfl, by (repeat (first | exact Ext.rfl' _ | assumption | refine Ext.dr ?_ | refine Ext.drN ?_ _ | refine Ext.al ?_ _ | refine Ext.st ?_ (by simp) _ | refine Ext.tr ?_ (by assumption)))⟩
    · rw [ht] at HV
      rw [show str [106, 112, 103] = ⟨#[106, 112, 103]⟩ from rfl] at CL
      clear ht
      go_enter Tryz.func12, Tryz.ntmps12
      go_wp2_with (first
      | (go_at_call 38; refine (C1.out).mono ?_; clear C1; rintro e w2 ⟨rfl, hw⟩; subst hw)
      | (go_at_call 38; refine (C2.out).mono ?_; rintro e w2 ⟨rfl, hw⟩; subst hw)
      | (go_at_call 39; refine (CL.out _).mono ?_; rintro e w3 ⟨rfl, hx3⟩))
      go_ret
      exact ⟨by rw [HV.out]; rfl, by (repeat (first | exact Ext.rfl' _ | assumption | refine Ext.dr ?_ | refine Ext.drN ?_ _ | refine Ext.al ?_ _ | refine Ext.st ?_ (by simp) _ | refine Ext.tr ?_ (by assumption)))⟩
    · rw [ht] at HV
      rw [show str [106, 112, 101, 103] = ⟨#[106, 112, 101, 103]⟩ from rfl] at CL
      clear ht
      go_enter Tryz.func12, Tryz.ntmps12
      go_wp2_with (first
      | (go_at_call 38; refine (C1.out).mono ?_; clear C1; rintro e w2 ⟨rfl, hw⟩; subst hw)
      | (go_at_call 38; refine (C2.out).mono ?_; rintro e w2 ⟨rfl, hw⟩; subst hw)
      | (go_at_call 39; refine (CL.out _).mono ?_; rintro e w3 ⟨rfl, hx3⟩))
      go_ret
      exact ⟨by rw [HV.out]; rfl, by (repeat (first | exact Ext.rfl' _ | assumption | refine Ext.dr ?_ | refine Ext.drN ?_ _ | refine Ext.al ?_ _ | refine Ext.st ?_ (by simp) _ | refine Ext.tr ?_ (by assumption)))⟩
    · rw [ht] at HV
      rw [show str [103, 122] = ⟨#[103, 122]⟩ from rfl] at CL
      clear ht
      go_enter Tryz.func12, Tryz.ntmps12
      go_wp2_with (first
      | (go_at_call 38; refine (C1.out).mono ?_; clear C1; rintro e w2 ⟨rfl, hw⟩; subst hw)
      | (go_at_call 38; refine (C2.out).mono ?_; rintro e w2 ⟨rfl, hw⟩; subst hw)
      | (go_at_call 39; refine (CL.out _).mono ?_; rintro e w3 ⟨rfl, hx3⟩))
      go_ret
      exact ⟨by rw [HV.out]; rfl, by (repeat (first | exact Ext.rfl' _ | assumption | refine Ext.dr ?_ | refine Ext.drN ?_ _ | refine Ext.al ?_ _ | refine Ext.st ?_ (by simp) _ | refine Ext.tr ?_ (by assumption)))⟩
    · rw [ht] at HV
      obtain ⟨sv, hsv⟩ : ∃ x, x = str lo := ⟨_, rfl⟩
      obtain ⟨k0, k1, k2, k3, k4, k5, k6, k7, k8, k9, k10⟩ := hno
      have g0 : ¬ sv.toList = [104, 116, 109, 108] := fun h => k0 (by rw [hsv] at h; simpa using h)
      have f0 : (sv.toList == [104, 116, 109, 108]) = false := by rw [beq_eq_false_iff_ne]; exact g0
      have g1 : ¬ sv.toList = [104, 116, 109] := fun h => k1 (by rw [hsv] at h; simpa using h)
      have f1 : (sv.toList == [104, 116, 109]) = false := by rw [beq_eq_false_iff_ne]; exact g1
      have g2 : ¬ sv.toList = [99, 115, 115] := fun h => k2 (by rw [hsv] at h; simpa using h)
      have f2 : (sv.toList == [99, 115, 115]) = false := by rw [beq_eq_false_iff_ne]; exact g2
      have g3 : ¬ sv.toList = [106, 115] := fun h => k3 (by rw [hsv] at h; simpa using h)
      have f3 : (sv.toList == [106, 115]) = false := by rw [beq_eq_false_iff_ne]; exact g3
      have g4 : ¬ sv.toList = [106, 115, 111, 110] := fun h => k4 (by rw [hsv] at h; simpa using h)
      have f4 : (sv.toList == [106, 115, 111, 110]) = false := by rw [beq_eq_false_iff_ne]; exact g4
      have g5 : ¬ sv.toList = [116, 120, 116] := fun h => k5 (by rw [hsv] at h; simpa using h)
      have f5 : (sv.toList == [116, 120, 116]) = false := by rw [beq_eq_false_iff_ne]; exact g5
      have g6 : ¬ sv.toList = [115, 118, 103] := fun h => k6 (by rw [hsv] at h; simpa using h)
      have f6 : (sv.toList == [115, 118, 103]) = false := by rw [beq_eq_false_iff_ne]; exact g6
      have g7 : ¬ sv.toList = [112, 110, 103] := fun h => k7 (by rw [hsv] at h; simpa using h)
      have f7 : (sv.toList == [112, 110, 103]) = false := by rw [beq_eq_false_iff_ne]; exact g7
      have g8 : ¬ sv.toList = [106, 112, 103] := fun h => k8 (by rw [hsv] at h; simpa using h)
      have f8 : (sv.toList == [106, 112, 103]) = false := by rw [beq_eq_false_iff_ne]; exact g8
      have g9 : ¬ sv.toList = [106, 112, 101, 103] := fun h => k9 (by rw [hsv] at h; simpa using h)
      have f9 : (sv.toList == [106, 112, 101, 103]) = false := by rw [beq_eq_false_iff_ne]; exact g9
      have g10 : ¬ sv.toList = [103, 122] := fun h => k10 (by rw [hsv] at h; simpa using h)
      have f10 : (sv.toList == [103, 122]) = false := by rw [beq_eq_false_iff_ne]; exact g10
      rw [← hsv] at CL
      clear ht hsv k0 k1 k2 k3 k4 k5 k6 k7 k8 k9 k10
      go_enter Tryz.func12, Tryz.ntmps12
      go_wp2_with (first
      | (go_at_call 38; refine (C1.out).mono ?_; clear C1; rintro e w2 ⟨rfl, hw⟩; subst hw)
      | (go_at_call 38; refine (C2.out).mono ?_; rintro e w2 ⟨rfl, hw⟩; subst hw)
      | (go_at_call 39; refine (CL.out _).mono ?_; rintro e w3 ⟨rfl, hx3⟩))
      go_ret
      exact ⟨by rw [HV.out]; rfl, by (repeat (first | exact Ext.rfl' _ | assumption | refine Ext.dr ?_ | refine Ext.drN ?_ _ | refine Ext.al ?_ _ | refine Ext.st ?_ (by simp) _ | refine Ext.tr ?_ (by assumption)))⟩
end Go.Proofs.YtemdgilifnhdpaaGreatDoor
end

section
namespace Go.Proofs.YtemdgilifnhdpaaGreatDoor
open Go.RowKit

abbrev Fld := List UInt8 × List UInt8
def fc (fs : List Fld) : List Value := fs.flatMap fun p => [.string (str p.1), .string (str p.2)]
theorem fc_len (fs : List Fld) : (fc fs).length = fs.length * 2 := by
  induction fs with
  | nil => rfl
  | cons p fs ih => simp [fc, List.flatMap_cons] at *; omega
theorem fc_at : ∀ (fs : List Fld) (k : Nat) (h : k < fs.length), (fc fs)[k * 2]? = some (.string (str fs[k].1)) ∧ (fc fs)[k * 2 + 1]? = some (.string (str fs[k].2))
  | [], k, h => by simp at h
  | p :: fs, 0, _ => ⟨rfl, rfl⟩
  | p :: fs, k + 1, h => by
    have ih := fc_at fs k (by simpa using h)
    have e : fc (p :: fs) = .string (str p.1) :: .string (str p.2) :: fc fs := rfl
    rw [e, show (k + 1) * 2 = k * 2 + 1 + 1 from by omega]
    simpa using ih
theorem Rd.fld {w : World} {A : Option Addr} {fs : List Fld} (h : Rd w A (fc fs)) {k : Nat} (hk : k < fs.length) :
    ∃ b o, A = some ⟨b, o, none⟩ ∧ b < w.heap.size ∧ Hid (∀ w', Ext w w' → (w'.cell? ⟨b, o + k * 2, none⟩ = some (.string (str fs[k].1)) ∧ w'.cell? ⟨b, o + k * 2 + 1, none⟩ = some (.string (str fs[k].2)))) := by
  obtain ⟨b, o, rfl, hb, hc⟩ := h.at_ (by rw [fc_len]; omega)
  obtain ⟨h1, h2⟩ := fc_at fs k hk
  refine ⟨b, o, rfl, hb, fun w' e => ⟨(e.cell (p := ⟨b, o + k * 2, none⟩) hb).trans (hc _ _ h1), (e.cell (p := ⟨b, o + k * 2 + 1, none⟩) hb).trans (hc _ _ h2)⟩⟩
def valsH (fs : List Fld) (nm : List UInt8) : List (List UInt8) := (fs.filter fun p => lowL p.1 == lowL nm).map Prod.snd
theorem vals_succ (fs : List Fld) (nm : List UInt8) (k : Nat) (h : k < fs.length) : valsH (fs.take (k + 1)) nm = valsH (fs.take k) nm ++ (if (lowL fs[k].1 == lowL nm) = true then [fs[k].2] else []) := by
  unfold valsH
  rw [List.take_succ_eq_append_getElem h, List.filter_append, List.map_append]
  congr 1
  by_cases hc : (lowL fs[k].1 == lowL nm) = true
  · rw [if_pos hc]; simp [List.filter_cons, hc]
  · rw [if_neg hc]; simp [List.filter_cons, hc]
theorem vals_len (fs : List Fld) (nm : List UInt8) : (valsH fs nm).length ≤ fs.length := by
  unfold valsH; rw [List.length_map]; exact List.length_filter_le _ _
def IsTx (ls : List (List UInt8)) (v : Value) (w : World) : Prop := ∃ A c, v = .slice A ls.length c ∧ Rd w A (sc ls)
set_option maxRecDepth 100000 in
set_option maxHeartbeats 2000000 in
theorem hValues_c (fs : List Fld) (nm : List UInt8) (A : Option Addr) (n c : Nat) (hn : fs.length = n) (hb : n ≤ 8796093022206) (hnm : nm.length ≤ maxLen) (hsz : ∀ p ∈ fs, p.1.length ≤ maxLen) (w : World) (h : Rd w A (fc fs)) :
    Calls Tryz.prog 35 #[.slice A n c, .string (str nm)] w (Ret (IsTx (valsH fs nm)) w) := by
  go_enter Tryz.func35, Tryz.ntmps35
  go_wp2
  go_loopw [5, 10] (fun v i wr => ∃ k : Nat, i = .int .i64 (k : Int) ∧ k ≤ n ∧ wr.ownsRow w.heap.size 9 1 v (valsH (fs.take k) nm).length (sc (valsH (fs.take k) nm)) ∧ Ext w wr) (fun _ i _ => n - (intOf i).toNat)
  case atStart => exact ⟨0, rfl, Nat.zero_le _, World.ownsRow_nil _ _ _ _, Ext.rfl' _⟩
  case round =>
    obtain ⟨k, rfl, hk, hown, hext⟩ := hrel
    by_cases hlt : k < n
    · obtain ⟨b, o, rfl, hbl, hS⟩ := h.fld (k := k) (by omega)
      obtain ⟨a0, a1⟩ := hS.out wr hext
      have hks := Lib.hid (fun w' (e : Ext wr w') => hS.out w' (hext.tr e))
      have hl1 := hsz _ (List.getElem_mem (show k < fs.length by omega))
      have hSu := vals_succ fs nm k (by omega)
      have hle := vals_len (fs.take k) nm
      rw [List.length_take] at hle
      obtain ⟨⟨x, y⟩, hp⟩ : ∃ p, p = fs[k] := ⟨_, rfl⟩
      rw [← hp] at a0 a1 hl1 hSu
      have hks : Hid (∀ w', Ext wr w' → (w'.cell? ⟨b, o + k * 2, none⟩ = some (.string (str x)) ∧ w'.cell? ⟨b, o + k * 2 + 1, none⟩ = some (.string (str y)))) := by rw [← hp] at hks; exact hks
      dsimp only at hl1 hSu
      have HL1 := Lib.hid hl1
      obtain ⟨vs, hvs⟩ : ∃ v, v = valsH (fs.take k) nm := ⟨_, rfl⟩
      rw [← hvs] at hown hSu hle
      have HO := Lib.hid hown
      have hk0 : (0 : Int) ≤ (k : Int) := by omega
      have hk1 : (k : Int) < (n : Int) := by omega
      clear hown hp hvs hl1 hS
      by_cases hc : (lowL x == lowL nm) = true
      · rw [if_pos hc] at hSu
        have HSU := Lib.hid hSu
        have C := fun w' => Equal_c x nm HL1.out hnm w'
        rw [hc] at C
        have C := Lib.hid C
        clear hSu hc
        go_wp2_with (first
          | (go_at_call 79; refine (C.out _).mono ?_; rintro e w2 ⟨rfl, hx2⟩; have t1 := hx2.new 1 _ rfl; have x3 : Ext wr w2 := (by (repeat (first | exact Ext.rfl' _ | assumption | refine Ext.dr ?_ | refine Ext.drN ?_ _ | refine Ext.al ?_ _ | refine Ext.st ?_ (by simp) _ | refine Ext.tr ?_ (by assumption)))))
          | (at_builtin; refine wpL_app slt_str (.tmp 18) (.tmp 21) rfl rfl rfl rfl (Ext.al (hext.tr x3) _) ((own_ext HO.out x3).alloc _) (by rfl) (new_cells w2 #[.string (str y)] 9) (by simp [Value.oneCell']) (by omega) (by simp only [maxLen]; omega) ?_; intro v' w' hown' hext' hgg; clear hgg))
        go_roundw
        case rel => exact ⟨k + 1, by go_num, by omega, by rw [HSU.out, sc_app, List.length_append]; exact hown', hext'⟩
        case measure => simp [intOf]; omega
      · rw [if_neg hc] at hSu
        have HSU := Lib.hid hSu
        have C := fun w' => Equal_c x nm HL1.out hnm w'
        rw [show (lowL x == lowL nm) = false from by revert hc; cases (lowL x == lowL nm) <;> simp] at C
        have C := Lib.hid C
        clear hSu hc
        go_wp2_with (first
          | (go_at_call 79; refine (C.out _).mono ?_; rintro e w2 ⟨rfl, hx2⟩; have t1 := hx2.new 1 _ rfl; have x3 : Ext wr w2 := (by (repeat (first | exact Ext.rfl' _ | assumption | refine Ext.dr ?_ | refine Ext.drN ?_ _ | refine Ext.al ?_ _ | refine Ext.st ?_ (by simp) _ | refine Ext.tr ?_ (by assumption))))))
        go_roundw
        case rel => exact ⟨k + 1, by go_num, by omega, by rw [HSU.out, List.append_nil]; exact own_ext HO.out x3, hext.tr x3⟩
        case measure => simp [intOf]; omega
    · have hkn : n = k := by omega
      subst hkn
      rw [List.take_of_length_le (by omega)] at hown
      obtain ⟨A', c', rfl, _, _, hr, _⟩ := Rd.of_own hown
      clear hown
      go_wp2
      go_ret
      exact Ret.mk ⟨A', c', rfl, hr⟩ hext
end Go.Proofs.YtemdgilifnhdpaaGreatDoor
end

section
namespace Go.Proofs.YtemdgilifnhdpaaGreatDoor
open Go.RowKit

def firstV : List (List UInt8) → Value
  | [] => .tuple #[.string ⟨#[]⟩, .bool false]
  | v :: _ => .tuple #[.string (str v), .bool true]
theorem sc_first {w : World} {A : Option Addr} {v : List UInt8} {ls : List (List UInt8)} (h : Rd w A (sc (v :: ls))) : ∃ b f, A = some ⟨b, f, none⟩ ∧ w.cell? ⟨b, f, none⟩ = some (.string (str v)) := by
  obtain ⟨b, f, rfl, _, hc⟩ := h.at_ (by simp)
  exact ⟨b, f, rfl, hc 0 _ rfl⟩
set_option maxRecDepth 100000 in
set_option maxHeartbeats 2000000 in
theorem hFirst_c (fs : List Fld) (nm : List UInt8) (A : Option Addr) (n c : Nat) (hn : fs.length = n) (hb : n ≤ 8796093022206) (hnm : nm.length ≤ maxLen) (hsz : ∀ p ∈ fs, p.1.length ≤ maxLen) (w : World) (h : Rd w A (fc fs)) :
    Calls Tryz.prog 72 #[.slice A n c, .string (str nm)] w (Gives (firstV (valsH fs nm)) w) := by
  have C := fun w' h' => hValues_c fs nm A n c hn hb hnm hsz w' h'
  have H := Lib.hid h
  have hle := vals_len fs nm
  obtain ⟨vs, hvs⟩ : ∃ v, v = valsH fs nm := ⟨_, rfl⟩
  rw [← hvs] at C hle ⊢
  clear hvs h hsz
  have C := Lib.hid C
  cases vs with
  | nil =>
    go_enter Tryz.func72, Tryz.ntmps72
    go_wp2_with (go_at_call 35; refine (C.out _ (H.out.ext (by (repeat (first | exact Ext.rfl' _ | assumption | refine Ext.dr ?_ | refine Ext.drN ?_ _ | refine Ext.al ?_ _ | refine Ext.st ?_ (by simp) _ | refine Ext.tr ?_ (by assumption)))))).mono ?_; rintro e w1 ⟨v, rfl, ⟨A1, c1, rfl, hr1⟩, hx1⟩)
    go_loopw [12] (fun i wr => i = .int .i64 0 ∧ w1 = wr) (fun i _ => 1 - (intOf i).toNat)
    case atStart => exact ⟨rfl, by trivial⟩
    case round =>
      obtain ⟨rfl, rfl⟩ := hrel
      go_wp2
      go_ret2
      exact ⟨rfl, hx1⟩
  | cons v ls =>
    go_enter Tryz.func72, Tryz.ntmps72
    go_wp2_with (go_at_call 35; refine (C.out _ (H.out.ext (by (repeat (first | exact Ext.rfl' _ | assumption | refine Ext.dr ?_ | refine Ext.drN ?_ _ | refine Ext.al ?_ _ | refine Ext.st ?_ (by simp) _ | refine Ext.tr ?_ (by assumption)))))).mono ?_; rintro e w1 ⟨v, rfl, ⟨A1, c1, rfl, hr1⟩, hx1⟩)
    obtain ⟨b, f, rfl, hc⟩ := sc_first hr1
    go_loopw [12] (fun i wr => i = .int .i64 0 ∧ w1 = wr) (fun i _ => 1 - (intOf i).toNat)
    case atStart => exact ⟨rfl, by trivial⟩
    case round =>
      obtain ⟨rfl, rfl⟩ := hrel
      have h0 : (0 : Int) < ((ls.length + 1 : Nat) : Int) := by omega
      have h1 : (0 : Int) < (ls.length : Int) + 1 := by omega
      go_wp2
      go_ret2
      exact ⟨rfl, hx1⟩
end Go.Proofs.YtemdgilifnhdpaaGreatDoor
end

section
namespace Go.Proofs.YtemdgilifnhdpaaGreatDoor
open Go.RowKit

theorem doe_of (d o : Int) (h0 : 0 ≤ d) (h1 : d ≤ 146096) (ho : o = (d - d / 1460 + d / 36524 - d / 146096) / 365) : 0 ≤ o ∧ o ≤ 399 ∧ 0 ≤ d - (365 * o + o / 4 - o / 100) ∧ d - (365 * o + o / 4 - o / 100) ≤ 365 := by
  have hb : d / 36524 = 0 ∨ d / 36524 = 1 ∨ d / 36524 = 2 ∨ d / 36524 = 3 ∨ d / 36524 = 4 := by omega
  have hc : d / 146096 = 0 ∨ d / 146096 = 1 := by omega
  have h5 : o / 100 = 0 ∨ o / 100 = 1 ∨ o / 100 = 2 ∨ o / 100 = 3 := by omega
  rcases hb with hb | hb | hb | hb | hb <;> rcases hc with hc | hc <;> rw [hb, hc] at ho <;> rcases h5 with h5 | h5 | h5 | h5 <;> rw [h5] <;> omega
end Go.Proofs.YtemdgilifnhdpaaGreatDoor
end
