/-
Letters made small by the reference.
-/
import Derived.Test.YtemdgilifnhdpaaGreatDoorAsc7
set_option linter.unusedVariables false
set_option linter.unusedSimpArgs false
namespace Go.Proofs.YtemdgilifnhdpaaGreatDoor
open Go.RowKit

theorem upp_cases : ∀ c, c < 256 → (uppB c = true ∧ 65 ≤ c ∧ c ≤ 90) ∨ (uppB c = false ∧ (c < 65 ∨ 90 < c)) := by decide +kernel

set_option maxRecDepth 100000 in
set_option maxHeartbeats 2000000 in
theorem rLower_c (l : List UInt8) (hs : l.length ≤ maxLen) (w : World) :
    Calls Tryz.prog 40 #[.string (str l)] w (Gives (.string (str (lowL l))) w) := by
  unfold maxLen at hs
  have kc := fun W => cv_run (P := Tryz.prog) (src := 9) (dst := 22) (e := 5) (str l) Tryz.underlying9 Tryz.underlying22 Tryz.underlying5 W
  go_enter Tryz.func40, Tryz.ntmps40
  go_wp2_with fail
  clear kc
  have ho := cv_own w 5 l
  have hx := cv_ext w 5 (str l)
  obtain ⟨hc1, hc2⟩ := cv_cap w 5 l.length (by unfold maxLen; omega)
  generalize cvW w 5 (str l) = w1 at *
  generalize cvC w 5 l.length = c at *
  go_loopw [4] (fun i wr => ∃ k : Nat, k ≤ l.length ∧ i = .int .i64 k ∧ Own wr w.heap.size (lowL (l.take k) ++ l.drop k) ∧ Ext w wr) (fun i _ => l.length - (intOf i).toNat)
  case atStart => exact ⟨0, Nat.zero_le _, rfl, ho, hx⟩
  case round =>
    clear hx ho
    obtain ⟨k, hk, rfl, hown, hext⟩ := hrel
    have HO := Lib.hid hown
    clear hown
    by_cases hlt : k < l.length
    · have ce := HO.out.cell k (by rw [low_len]; exact hlt)
      have fe := HO.out.free k (by rw [low_len]; exact hlt)
      rw [low_at l k hlt] at ce
      have h256 : (l[k].toNat : Int) < 256 := by have := UInt8.toNat_lt l[k]; omega
      have h000 : (0 : Int) ≤ (l[k].toNat : Int) := by omega
      have hadd : ((l[k].toNat : Int) + 32) % 256 = ((l[k] + 32).toNat : Int) := by
        rw [UInt8.toNat_add]; simp
      have HAD0 := Lib.hid hadd
      clear hadd
      rcases upp_cases l[k].toNat (UInt8.toNat_lt _) with ⟨hu, h1, h2⟩ | ⟨hu, hp⟩
      · have HU := Lib.hid hu
        clear hu
        have g1 : (65 : Int) ≤ (l[k].toNat : Int) := by omega
        have g2 : (l[k].toNat : Int) ≤ 90 := by omega
        have hadd : (l[k].toNat : Int) + 32 = ((l[k] + 32).toNat : Int) := by have := HAD0.out; omega
        have HAD := Lib.hid hadd
        clear hadd
        go_wp2
        go_roundw
        case rel =>
          refine ⟨k + 1, by omega, by go_num, ?_, Ext.st hext (Nat.le_refl _) _⟩
          rw [← low_set l k hlt, HAD.out]
          have hb : lowB l[k] = l[k] + 32 := by unfold lowB; rw [HU.out]; rfl
          rw [hb]
          exact HO.out.set_ k (by rw [low_len]; exact hlt) _
        case measure => simp [intOf]; omega
      · have HU := Lib.hid hu
        clear hu
        rcases hp with hp | hp
        · have g1 : ¬ (65 : Int) ≤ (l[k].toNat : Int) := by omega
          clear hp
          go_wp2
          go_roundw
          case rel => exact ⟨k + 1, by omega, by go_num, by rw [← low_same l k hlt HU.out]; exact HO.out, hext⟩
          case measure => simp [intOf]; omega
        · have g1 : (65 : Int) ≤ (l[k].toNat : Int) := by omega
          have g2 : ¬ (l[k].toNat : Int) ≤ 90 := by omega
          clear hp
          go_wp2
          go_roundw
          case rel => exact ⟨k + 1, by omega, by go_num, by rw [← low_same l k hlt HU.out]; exact HO.out, hext⟩
          case measure => simp [intOf]; omega
    · obtain rfl : k = l.length := by omega
      rw [List.take_of_length_le (Nat.le_refl _), List.drop_of_length_le (Nat.le_refl _), List.append_nil] at HO
      have kb := conv_bs (P := Tryz.prog) 22 9 5 Tryz.underlying22 Tryz.underlying5 Tryz.underlying9 HO.out.rd l.length c (by simp [lowL])
      go_wp2
      go_ret
      exact ⟨rfl, hext⟩

theorem str_inj (a b : List UInt8) : (str a = str b) ↔ a = b := by
  constructor
  · intro h; have := congrArg (fun s : ByteArray => s.data.toList) h; simpa [str] using this
  · rintro rfl; rfl
theorem low_length (l : List UInt8) : (lowL l).length = l.length := by simp [lowL]

end Go.Proofs.YtemdgilifnhdpaaGreatDoor
