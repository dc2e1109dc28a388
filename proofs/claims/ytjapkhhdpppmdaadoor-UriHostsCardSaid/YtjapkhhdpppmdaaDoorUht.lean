/-
The program's Host, ahead of which there is no bracket.
-/
import Derived.Test.YtjapkhhdpppmdaaDoorUhs
set_option linter.unusedVariables false
set_option linter.unusedSimpArgs false
namespace Go.Proofs.YtjapkhhdpppmdaaDoor
open Go.RowKit

theorem CutPrefix_y (q : List UInt8) (w : World) : Calls Tryd.prog 66 #[.string (str (58 :: q)), .string ⟨#[58]⟩] w fun e w' => e = .returned (.tuple #[.string (str q), .bool true]) ∧ w = w' := by
  refine (Tryd.strings_CutPrefix _ _ w).mono ?_
  rintro e w' ⟨rfl, rfl⟩
  have h1 : Lib.hasPrefix (str (58 :: q)).data.toList (⟨#[58]⟩ : ByteArray).data.toList = true := by
    show Lib.hasPrefix (58 :: q) [58] = true
    simp [Lib.hasPrefix]
  have h2 : Lib.trimPrefix (str (58 :: q)).data.toList (⟨#[58]⟩ : ByteArray).data.toList = q := by
    show Lib.trimPrefix (58 :: q) [58] = q
    simp [Lib.trimPrefix, Lib.hasPrefix]
  rw [h1, h2]
  exact ⟨rfl, rfl⟩
theorem CutPrefix_n (r : List UInt8) (h : ¬ r.head? = some 58) (w : World) : Calls Tryd.prog 66 #[.string (str r), .string ⟨#[58]⟩] w fun e w' => e = .returned (.tuple #[.string (str r), .bool false]) ∧ w = w' := by
  refine (Tryd.strings_CutPrefix _ _ w).mono ?_
  rintro e w' ⟨rfl, rfl⟩
  have h1 : Lib.hasPrefix (str r).data.toList (⟨#[58]⟩ : ByteArray).data.toList = false := pre_no h
  have h2 : Lib.trimPrefix (str r).data.toList (⟨#[58]⟩ : ByteArray).data.toList = r := by
    have h3 : Lib.hasPrefix r [58] = false := pre_no h
    show Lib.trimPrefix r [58] = r
    simp [Lib.trimPrefix, h3]
  rw [h1, h2]
  exact ⟨rfl, rfl⟩

/-- Without brackets: what the answer is, by the place of the colon. -/
theorem host_pl {l : List UInt8} (h : l.head? ≠ some 91) (n : Nat) (hn : n ≤ l.length) (hb : ∀ h : n < l.length, l[n] = 58) (hno : 58 ∉ l.take n) :
    hostL l = if (1 ≤ n ∧ n ≤ 255) ∧ (l.take n).all plnB = true then portL (l.take n) (l.drop n) else ([], 0, 40) := by
  by_cases ha : (l.take n).all plnB = true
  · have h1 := name_pl h n hn hb ha
    unfold hostL
    rw [h1]
    by_cases h2 : n ≤ 255
    · rw [if_pos h2]
      by_cases h3 : n = 0
      · rw [if_pos h3, if_neg (by omega)]
      · rw [if_neg h3, if_pos ⟨⟨by omega, h2⟩, ha⟩]
    · rw [if_neg h2, if_pos rfl, if_neg (by omega)]
  · rw [host_pl_bad h n hn hno (by simpa using ha), if_neg (fun h => ha h.2)]

set_option maxRecDepth 100000 in
set_option maxHeartbeats 4000000 in
theorem uHost_no (l : List UInt8) (hs : l.length ≤ 140737488355328) (h91 : l.head? ≠ some 91) (h58 : 58 ∉ l) (w : World) (hE : ErrR w) :
    Calls Tryd.prog 34 #[.string (str l)] w (Gives (hostV (hostL l)) w) := by
  have HE := Lib.hid hE
  clear hE
  have P1 := Lib.hid (fun w => HasPrefix_c l [91] false (pre_no h91) w)
  have P2 := Lib.hid (fun w => IndexByteS_c l 58 (-1) (idx_no h58) w)
  have hh := host_pl h91 l.length (Nat.le_refl _) (fun h => by omega) (by rw [List.take_length]; exact h58)
  rw [List.take_length, List.drop_length, port_nil] at hh
  rw [hh]
  have P3 := fun w => all_plain l (by omega) w
  have P6 := Lib.hid (fun w => Lower_c l (by unfold maxLen; omega) w)
  clear h91 h58 hh
  by_cases g1 : 1 ≤ l.length
  · have d1 : decide ((l.length : Int) < 1) = false := by rw [decide_eq_false_iff_not]; omega
    by_cases g2 : l.length ≤ 255
    · have d2 : decide ((255 : Int) < (l.length : Int)) = false := by rw [decide_eq_false_iff_not]; omega
      by_cases g3 : l.all plnB = true
      · rw [g3] at P3
        rw [if_pos ⟨⟨g1, g2⟩, g3⟩]
        have P3 := Lib.hid P3
        clear g3
        go_enter Tryd.func34, Tryd.ntmps34
        go_wp2_with (first
          | (go_at_call 62; refine (P1.out _).mono ?_; rintro e w1 ⟨rfl, rfl⟩)
          | (go_at_call 64; refine (P2.out _).mono ?_; rintro e w1 ⟨rfl, rfl⟩))
        go_quiet (fail)
        go_wp2_with (first
          | (go_at_call 58; refine (P3.out _).mono ?_; rintro e w1 ⟨rfl, rfl⟩)
          | (go_at_call 66; refine (P4.out _).mono ?_; rintro e w1 ⟨rfl, rfl⟩)
          | (go_at_call 67; refine (P5.out _ (HE.out.ext (by (repeat (first | exact Ext.rfl' _ | assumption | refine Ext.dr ?_ | refine Ext.drN ?_ _ | refine Ext.al ?_ _ | refine Ext.st ?_ (by simp) _ | refine Ext.tr ?_ (by assumption)))))).mono ?_; rintro e w1 ⟨rfl, hx1⟩)
          | (go_at_call 68; refine (P6.out _).mono ?_; rintro e w2 ⟨rfl, hx2⟩))
        go_ret3
        exact ⟨rfl, by (repeat (first | exact Ext.rfl' _ | assumption | refine Ext.dr ?_ | refine Ext.drN ?_ _ | refine Ext.al ?_ _ | refine Ext.st ?_ (by simp) _ | refine Ext.tr ?_ (by assumption)))⟩
      · rw [show l.all plnB = false by simpa using g3] at P3
        rw [if_neg (fun h => g3 h.2)]
        have P3 := Lib.hid P3
        clear g3
        go_enter Tryd.func34, Tryd.ntmps34
        go_wp2_with (first
          | (go_at_call 62; refine (P1.out _).mono ?_; rintro e w1 ⟨rfl, rfl⟩)
          | (go_at_call 64; refine (P2.out _).mono ?_; rintro e w1 ⟨rfl, rfl⟩))
        go_quiet (fail)
        go_wp2_with (first
          | (go_at_call 58; refine (P3.out _).mono ?_; rintro e w1 ⟨rfl, rfl⟩)
          | (go_at_call 66; refine (P4.out _).mono ?_; rintro e w1 ⟨rfl, rfl⟩)
          | (go_at_call 67; refine (P5.out _ (HE.out.ext (by (repeat (first | exact Ext.rfl' _ | assumption | refine Ext.dr ?_ | refine Ext.drN ?_ _ | refine Ext.al ?_ _ | refine Ext.st ?_ (by simp) _ | refine Ext.tr ?_ (by assumption)))))).mono ?_; rintro e w1 ⟨rfl, hx1⟩)
          | (go_at_call 68; refine (P6.out _).mono ?_; rintro e w2 ⟨rfl, hx2⟩))
        go_ret3
        exact ⟨rfl, by (repeat (first | exact Ext.rfl' _ | assumption | refine Ext.dr ?_ | refine Ext.drN ?_ _ | refine Ext.al ?_ _ | refine Ext.st ?_ (by simp) _ | refine Ext.tr ?_ (by assumption)))⟩
    · have d2 : decide ((255 : Int) < (l.length : Int)) = true := by rw [decide_eq_true_eq]; omega
      rw [if_neg (fun h => g2 h.1.2)]
      go_enter Tryd.func34, Tryd.ntmps34
      go_wp2_with (first
        | (go_at_call 62; refine (P1.out _).mono ?_; rintro e w1 ⟨rfl, rfl⟩)
        | (go_at_call 64; refine (P2.out _).mono ?_; rintro e w1 ⟨rfl, rfl⟩))
      go_quiet (fail)
      go_wp2_with (first
        | (go_at_call 58; refine (P3.out _).mono ?_; rintro e w1 ⟨rfl, rfl⟩)
        | (go_at_call 66; refine (P4.out _).mono ?_; rintro e w1 ⟨rfl, rfl⟩)
        | (go_at_call 67; refine (P5.out _ (HE.out.ext (by (repeat (first | exact Ext.rfl' _ | assumption | refine Ext.dr ?_ | refine Ext.drN ?_ _ | refine Ext.al ?_ _ | refine Ext.st ?_ (by simp) _ | refine Ext.tr ?_ (by assumption)))))).mono ?_; rintro e w1 ⟨rfl, hx1⟩)
        | (go_at_call 68; refine (P6.out _).mono ?_; rintro e w2 ⟨rfl, hx2⟩))
      go_ret3
      exact ⟨rfl, by (repeat (first | exact Ext.rfl' _ | assumption | refine Ext.dr ?_ | refine Ext.drN ?_ _ | refine Ext.al ?_ _ | refine Ext.st ?_ (by simp) _ | refine Ext.tr ?_ (by assumption)))⟩
  · have d1 : decide ((l.length : Int) < 1) = true := by rw [decide_eq_true_eq]; omega
    rw [if_neg (fun h => g1 h.1.1)]
    go_enter Tryd.func34, Tryd.ntmps34
    go_wp2_with (first
      | (go_at_call 62; refine (P1.out _).mono ?_; rintro e w1 ⟨rfl, rfl⟩)
      | (go_at_call 64; refine (P2.out _).mono ?_; rintro e w1 ⟨rfl, rfl⟩))
    go_quiet (fail)
    go_wp2_with (first
      | (go_at_call 58; refine (P3.out _).mono ?_; rintro e w1 ⟨rfl, rfl⟩)
      | (go_at_call 66; refine (P4.out _).mono ?_; rintro e w1 ⟨rfl, rfl⟩)
      | (go_at_call 67; refine (P5.out _ (HE.out.ext (by (repeat (first | exact Ext.rfl' _ | assumption | refine Ext.dr ?_ | refine Ext.drN ?_ _ | refine Ext.al ?_ _ | refine Ext.st ?_ (by simp) _ | refine Ext.tr ?_ (by assumption)))))).mono ?_; rintro e w1 ⟨rfl, hx1⟩)
      | (go_at_call 68; refine (P6.out _).mono ?_; rintro e w2 ⟨rfl, hx2⟩))
    go_ret3
    exact ⟨rfl, by (repeat (first | exact Ext.rfl' _ | assumption | refine Ext.dr ?_ | refine Ext.drN ?_ _ | refine Ext.al ?_ _ | refine Ext.st ?_ (by simp) _ | refine Ext.tr ?_ (by assumption)))⟩
end Go.Proofs.YtjapkhhdpppmdaaDoor
