/-
The program's plain: strings.ContainsFunc with a closure.
-/
import Derived.Test.YtllpffdjlhamkaaDoorMul4
set_option linter.unusedVariables false
set_option linter.unusedSimpArgs false
namespace Go.Proofs.YtllpffdjlhamkaaDoor
open Go.RowKit

theorem idx_al (l : List UInt8) : ∀ f i, l.length ≤ f + i → alL (l.take i) = true → (decide (0 ≤ Lib.idxFuncFrom (fun x => !alB x) true (str l) f i)) = !alL l := by
  intro f
  induction f with
  | zero =>
    intro i hf h
    rw [List.take_of_length_le (by omega)] at h
    rw [h]; simp [Lib.idxFuncFrom]
  | succ f ih =>
    intro i hf h
    unfold Lib.idxFuncFrom
    by_cases hi : i < l.length
    · have hg : ((str l).get! i) = l[i] := by
        have : (str l).get! i = (str l).data.toList[i]! := by simp [ByteArray.get!, str]
        rw [this]; simp [hi]
      rw [if_pos (by simpa using hi)]
      by_cases hb : alB l[i].toNat = true
      · have hsm := al_small hb
        have hd : Utf8.decode (str l) i = (l[i].toNat, 1) := by
          unfold Utf8.decode
          simp only [Nat.add_zero, hg]
          rw [if_pos hsm]
        rw [hd]
        simp only [hb, Bool.not_true, Bool.false_eq_true, if_false]
        exact ih (i + 1) (by omega) (by rw [al_take l i hi, h, hb]; rfl)
      · have hb' : alB l[i].toNat = false := by simpa using hb
        have hf2 := al_false l i hi hb'
        have hr : alB (Utf8.decode (str l) i).1 = false := by
          by_cases h8 : l[i].toNat < 128
          · have hd : Utf8.decode (str l) i = (l[i].toNat, 1) := by
              unfold Utf8.decode
              simp only [Nat.add_zero, hg]
              rw [if_pos h8]
            rw [hd]; exact hb'
          · exact alB_rune _ _ (by rw [hg]; omega)
        rw [hr, hf2]
        simp
    · rw [if_neg (by simpa using hi)]
      rw [List.take_of_length_le (by omega)] at h
      rw [h]; simp

set_option maxRecDepth 100000 in
set_option maxHeartbeats 2000000 in
theorem plainF_c (n : Nat) (w : World) : Calls Tryd.prog 32 #[.int .i32 (n : Int)] w fun e w' => e = .returned (.bool (!alB n)) ∧ ∃ q, w' = w.drewN q := by
  obtain ⟨x, hx⟩ : ∃ x : Int, x = (n : Int) := ⟨_, rfl⟩
  have hc := al_cases n
  rw [← hx] at hc ⊢
  obtain ⟨v, hv⟩ : ∃ v, v = alB n := ⟨_, rfl⟩
  rw [← hv] at hc ⊢
  clear hv hx
  go_enter Tryd.func32, Tryd.ntmps32
  rcases hc with ⟨rfl, c1, c2, c3⟩ | ⟨rfl, c1, c2, c3, c4⟩ | ⟨rfl, c1, c2, c3, c4⟩ | ⟨rfl, c1, c2, c3⟩ | ⟨rfl, c1, c2, c3, c4, c5⟩ | ⟨rfl, c1, c2⟩ | ⟨rfl, c1, c2, c3, c4, c5, c6⟩
  · go_wp2
    go_ret
    exact ⟨rfl, 0, rfl⟩
  · go_wp2
    go_ret
    exact ⟨rfl, 0, rfl⟩
  · go_wp2
    go_ret
    exact ⟨rfl, 0, rfl⟩
  · go_wp2
    go_ret
    exact ⟨rfl, 0, rfl⟩
  · go_wp2
    go_ret
    exact ⟨rfl, 0, rfl⟩
  · go_wp2
    go_ret
    exact ⟨rfl, 0, rfl⟩
  · go_wp2
    go_ret
    exact ⟨rfl, 0, rfl⟩

theorem predF (w : World) : PredAtRunes Tryd.prog 32 #[] (fun x => !alB x) w := fun W x _ _ => plainF_c x W

set_option maxRecDepth 100000 in
set_option maxHeartbeats 2000000 in
theorem plain_c (l : List UInt8) (hs : l.length ≤ maxLen) (w : World) :
    Calls Tryd.prog 20 #[.string (str l)] w fun e w' => e = .returned (.bool (plainL l)) ∧ Ext w w' := by
  unfold maxLen at hs
  have hI := idx_al l l.length 0 (by omega) (by simp [alL])
  have CF := fun w => Tryd.strings_ContainsFunc_runes 32 #[] (fun _ _ => rfl) (fun x => !alB x) (str l) w (predF w)
  have he : (decide (0 ≤ Lib.idxFunc (fun x => !alB x) true (str l))) = !alL l := by rw [← hI]; unfold Lib.idxFunc; rw [str_size]
  rw [he] at CF
  obtain ⟨v, hv⟩ : ∃ v, v = alL l := ⟨_, rfl⟩
  rw [← hv] at CF
  have CF := Lib.hid CF
  have HV := Lib.hid hv
  clear hI he hv
  go_enter Tryd.func20, Tryd.ntmps20
  by_cases p1 : 1 ≤ l.length
  · have q1 : decide ((1 : Int) ≤ (l.length : Int)) = true := by rw [decide_eq_true_eq]; omega
    by_cases p2 : l.length ≤ 60
    · have q2 : decide ((l.length : Int) ≤ 60) = true := by rw [decide_eq_true_eq]; omega
      go_wp2_with (go_at_call 31; refine (CF.out _).mono ?_; rintro e w1 ⟨rfl, hx⟩)
      go_ret
      exact ⟨ret_bool (by unfold plainL; rw [← HV.out]; simp [p1, p2]), by (repeat (first | exact Ext.rfl' _ | assumption | refine Ext.dr ?_ | refine Ext.drN ?_ _ | refine Ext.al ?_ _ | refine Ext.st ?_ (by simp) _ | refine Ext.tr ?_ (by assumption)))⟩
    · have q2 : decide ((l.length : Int) ≤ 60) = false := by rw [decide_eq_false_iff_not]; omega
      go_wp2
      go_ret
      exact ⟨ret_bool (by unfold plainL; simp [p2]), by (repeat (first | exact Ext.rfl' _ | assumption | refine Ext.dr ?_ | refine Ext.drN ?_ _ | refine Ext.al ?_ _ | refine Ext.st ?_ (by simp) _ | refine Ext.tr ?_ (by assumption)))⟩
  · have q1 : decide ((1 : Int) ≤ (l.length : Int)) = false := by rw [decide_eq_false_iff_not]; omega
    go_wp2
    go_ret
    exact ⟨ret_bool (by unfold plainL; simp [p1]), by (repeat (first | exact Ext.rfl' _ | assumption | refine Ext.dr ?_ | refine Ext.drN ?_ _ | refine Ext.al ?_ _ | refine Ext.st ?_ (by simp) _ | refine Ext.tr ?_ (by assumption)))⟩
end Go.Proofs.YtllpffdjlhamkaaDoor
