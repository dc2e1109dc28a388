/-
internal/strconv.ParseUint at a row of digits, to the bases 10 and 16, at 63 bits.
-/
import Derived.Test.YtemdgilifnhdpaaGreatDoorZao
set_option linter.unusedVariables false
set_option linter.unusedSimpArgs false
namespace Go.Proofs.YtemdgilifnhdpaaGreatDoor
open Go.RowKit

set_option maxHeartbeats 4000000 in
set_option maxRecDepth 100000 in
theorem iParseUint16_c (l : List UInt8) (hne : 0 < l.length) (hs : l.length ≤ 140737488355328) (hd : ∀ b ∈ l, isDig 16 b = true) (w : World) :
    Calls Tryz.prog 217 #[.string (str l), .int .i64 16, .int .i64 63] w (Gives (puV 291 (valL 16 l)) w) := by
  have kc := cv_run (P := Tryz.prog) (src := 9) (dst := 22) (e := 5) (str l) Tryz.underlying9 Tryz.underlying22 Tryz.underlying5 w
  have hemp : l.isEmpty = false := by cases l with | nil => simp at hne | cons _ _ => rfl
  have ho := cv_own w 5 l
  have hx := cv_ext w 5 (str l)
  obtain ⟨hc1, hc2⟩ := cv_cap w 5 l.length (by unfold maxLen; omega)
  rw [str_size] at kc
  generalize cvW w 5 (str l) = w1 at *
  generalize cvC w 5 l.length = cc at *
  have HO := Lib.hid ho
  have HD := Lib.hid hd
  clear ho hd
  have hmv : IntKind.u64.wrap (IntKind.u64.wrap 9223372036854775808 - 1) = 9223372036854775807 := by
    rw [IntKind.wrap_u64, IntKind.wrap_u64]
    decide
  go_enter Tryz.func217, Tryz.ntmps217
  go_wp2
  go_loop [12, 13, 101] (fun vu vn vi => ∃ (k acc : Nat) (a : Int), vu = .bool false ∧ vn = .int .u64 a ∧ vi = .int .i64 k ∧ k ≤ l.length ∧ Hid (a = (acc : Int) ∧ acc < 9223372036854775808 ∧ valL 16 l = valF 16 acc (l.drop k)))
    (fun _ _ vi => l.length - (intOf vi).toNat)
  case atStart => exact ⟨0, 0, 0, rfl, rfl, rfl, by omega, rfl, by omega, rfl⟩
  case round =>
    obtain ⟨k, acc, a, rfl, rfl, rfl, hk, hh⟩ := hrel
    obtain ⟨ha, hacc, hval⟩ := hh.out
    clear hh
    have a0 : 0 ≤ a := by omega
    have a1 : a < 9223372036854775808 := by omega
    by_cases hkn : k < l.length
    · have hc := HO.out.cell k hkn
      have hdig := HD.out l[k] (List.getElem_mem hkn)
      rw [List.drop_eq_getElem_cons hkn, valF_cons] at hval
      generalize l[k] = c at *
      have hc256 : c.toNat < 256 := c.toNat_lt
      simp only [isDig, Bool.and_eq_true, Bool.or_eq_true, decide_eq_true_eq] at hdig
      obtain ⟨hdig, hdB⟩ := hdig
      rcases hdig with ⟨d0, d1⟩ | ⟨d0, d1⟩
      · have HDV : Hid (digV c = c.toNat - 48) := Lib.hid (by unfold digV; rw [if_pos d1])
        rw [HDV.out] at hdB
        · by_cases hcut : 1152921504606846976 ≤ acc
          · have icut : (1152921504606846976 : Int) ≤ a := by omega
            have hge : 9223372036854775808 ≤ valL 16 l := by rw [hval]; exact Nat.le_trans (by omega) (valF_ge 16 (by omega) _ _)
            rw [puV_ge hge]
            clear hcut hacc ha hval hge
            go_wp2
            go_ret2
            exact ⟨rfl, hx⟩
          · have hdv : ((((c.toNat : Int) - 48) : Int)) = (digV c : Int) := by rw [HDV.out]; omega
            have hd0 : (0 : Int) ≤ (((c.toNat : Int) - 48) : Int) := by omega
            have hd1 : (((c.toNat : Int) - 48) : Int) < 16 := by omega
            by_cases hov : 18446744073709551616 ≤ a * 16 + ((c.toNat : Int) - 48)
            · have icut : a < 1152921504606846976 := by omega
              have hwr : IntKind.u64.wrap (a * 16 + ((c.toNat : Int) - 48)) = a * 16 + ((c.toNat : Int) - 48) - 18446744073709551616 := by
                rw [IntKind.wrap_u64]; omega
              have hge : 9223372036854775808 ≤ valL 16 l := by rw [hval]; exact Nat.le_trans (by omega) (valF_ge 16 (by omega) _ _)
              rw [puV_ge hge]
              clear hcut hacc hval hge ha hdv
              go_wp2
              all_goals go_ret2
              all_goals exact ⟨rfl, hx⟩
            · by_cases hbig : 9223372036854775808 ≤ a * 16 + ((c.toNat : Int) - 48)
              · have icut : a < 1152921504606846976 := by omega
                have hge : 9223372036854775808 ≤ valL 16 l := by rw [hval]; exact Nat.le_trans (by omega) (valF_ge 16 (by omega) _ _)
                rw [puV_ge hge]
                clear hcut hacc hval hge ha hdv
                go_wp2
                go_ret2
                exact ⟨rfl, hx⟩
              · have HN : Hid (a * 16 + ((c.toNat : Int) - 48) = ((acc * 16 + digV c : Nat) : Int) ∧ acc * 16 + digV c < 9223372036854775808 ∧ valL 16 l = valF 16 (acc * 16 + digV c) (l.drop (k + 1))) := Lib.hid ⟨by push_cast; rw [← hdv, ha], by omega, hval⟩
                have icut : a < 1152921504606846976 := by omega
                clear hcut hacc hval ha hdv
                go_wp2
                refine ⟨⟨k + 1, acc * 16 + digV c, a * 16 + ((c.toNat : Int) - 48), rfl, (by first | rfl | (congr 1; omega)), (by first | rfl | (congr 1; omega)), by omega, HN⟩, by simp [intOf]; omega⟩
      · have HDV : Hid (digV c = c.toNat - 87) := Lib.hid (by unfold digV; rw [if_neg (by omega)])
        rw [HDV.out] at hdB
        have hor := or32 c.toNat hc256 d0 d1
        · by_cases hcut : 1152921504606846976 ≤ acc
          · have icut : (1152921504606846976 : Int) ≤ a := by omega
            have hge : 9223372036854775808 ≤ valL 16 l := by rw [hval]; exact Nat.le_trans (by omega) (valF_ge 16 (by omega) _ _)
            rw [puV_ge hge]
            clear hcut hacc ha hval hge
            go_wp2_with (go_at_call 222; refine (pulow_c _ _).mono ?_; rintro e w2 ⟨rfl, rfl⟩; rw [hor])
            go_ret2
            exact ⟨rfl, hx⟩
          · have hdv : ((((c.toNat : Int) - 87) : Int)) = (digV c : Int) := by rw [HDV.out]; omega
            have hd0 : (0 : Int) ≤ (((c.toNat : Int) - 87) : Int) := by omega
            have hd1 : (((c.toNat : Int) - 87) : Int) < 16 := by omega
            by_cases hov : 18446744073709551616 ≤ a * 16 + ((c.toNat : Int) - 87)
            · have icut : a < 1152921504606846976 := by omega
              have hwr : IntKind.u64.wrap (a * 16 + ((c.toNat : Int) - 87)) = a * 16 + ((c.toNat : Int) - 87) - 18446744073709551616 := by
                rw [IntKind.wrap_u64]; omega
              have hge : 9223372036854775808 ≤ valL 16 l := by rw [hval]; exact Nat.le_trans (by omega) (valF_ge 16 (by omega) _ _)
              rw [puV_ge hge]
              clear hcut hacc hval hge ha hdv
              go_wp2_with (go_at_call 222; refine (pulow_c _ _).mono ?_; rintro e w2 ⟨rfl, rfl⟩; rw [hor])
              all_goals go_ret2
              all_goals exact ⟨rfl, hx⟩
            · by_cases hbig : 9223372036854775808 ≤ a * 16 + ((c.toNat : Int) - 87)
              · have icut : a < 1152921504606846976 := by omega
                have hge : 9223372036854775808 ≤ valL 16 l := by rw [hval]; exact Nat.le_trans (by omega) (valF_ge 16 (by omega) _ _)
                rw [puV_ge hge]
                clear hcut hacc hval hge ha hdv
                go_wp2_with (go_at_call 222; refine (pulow_c _ _).mono ?_; rintro e w2 ⟨rfl, rfl⟩; rw [hor])
                go_ret2
                exact ⟨rfl, hx⟩
              · have HN : Hid (a * 16 + ((c.toNat : Int) - 87) = ((acc * 16 + digV c : Nat) : Int) ∧ acc * 16 + digV c < 9223372036854775808 ∧ valL 16 l = valF 16 (acc * 16 + digV c) (l.drop (k + 1))) := Lib.hid ⟨by push_cast; rw [← hdv, ha], by omega, hval⟩
                have icut : a < 1152921504606846976 := by omega
                clear hcut hacc hval ha hdv
                go_wp2_with (go_at_call 222; refine (pulow_c _ _).mono ?_; rintro e w2 ⟨rfl, rfl⟩; rw [hor])
                refine ⟨⟨k + 1, acc * 16 + digV c, a * 16 + ((c.toNat : Int) - 87), rfl, (by first | rfl | (congr 1; omega)), (by first | rfl | (congr 1; omega)), by omega, HN⟩, by simp [intOf]; omega⟩
    · obtain rfl : k = l.length := by omega
      rw [List.drop_of_length_le (Nat.le_refl _)] at hval
      have hv : valL 16 l = acc := hval
      have hr : puV 291 (valL 16 l) = .tuple #[.int .u64 a, .nilIface] := by rw [hv, puV_lt hacc, ha]
      have HR := Lib.hid hr
      clear hacc hv hval ha hr
      go_wp2
      go_ret2
      exact ⟨by rw [HR.out]; rfl, hx⟩
end Go.Proofs.YtemdgilifnhdpaaGreatDoor
