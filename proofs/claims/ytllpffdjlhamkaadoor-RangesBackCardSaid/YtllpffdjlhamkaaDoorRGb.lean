/-
ContentRange of the program and of the reference: the same text.
-/
import Derived.Test.YtllpffdjlhamkaaDoorDig
import Derived.Test.YtllpffdjlhamkaaDoorRng4
import Derived.IntWalk
set_option linter.unusedVariables false
set_option linter.unusedSimpArgs false
/-
ContentRange of the program and of the reference: the same text.
-/
section
namespace Go.Proofs.YtllpffdjlhamkaaDoor
open Go.RowKit

/-- The text of a part of a size. -/
def crL (a b n : Int) : List UInt8 :=
  [98, 121, 116, 101, 115, 32] ++ (if a < b then Lib.itoa a ++ [45] ++ Lib.itoa (b - 1) else [42]) ++ [47] ++ Lib.itoa n
theorem itoa_len (n : Int) (h0 : -9223372036854775808 ≤ n) (h1 : n ≤ 9223372036854775807) : (Lib.itoa n).length ≤ 21 := by
  unfold Lib.itoa
  split
  · have := Lib.nDigits_le20 n.natAbs (by omega)
    rw [← Lib.decDigits_length] at this
    simp; omega
  · have := Lib.nDigits_le20 n.toNat (by omega)
    rw [← Lib.decDigits_length] at this
    omega
theorem decB_size (n : Int) (h0 : -9223372036854775808 ≤ n) (h1 : n ≤ 9223372036854775807) : (decB n).size ≤ 21 := by
  unfold decB; rw [str_size]; exact itoa_len n h0 h1
theorem Digits_c' (n : Int) (w : World) (h : Pow w) (h0 : -9223372036854775808 ≤ n) (h1 : n ≤ 9223372036854775807) :
    Calls Tryd.prog 18 #[.int .i64 n] w (Gives (.string (decB n)) w) := Digits_c n w h h0 h1
set_option maxRecDepth 100000 in
set_option maxHeartbeats 1000000 in
theorem ContentRange_c (a b n : Int) (w : World) (hp : Pow w) (a0 : -9223372036854775808 ≤ a) (a1 : a ≤ 9223372036854775807) (b0 : -9223372036854775808 ≤ b) (b1 : b ≤ 9223372036854775807) (n0 : -9223372036854775808 ≤ n) (n1 : n ≤ 9223372036854775807) :
    Calls Tryd.prog 12 #[.agg #[.int .i64 a, .int .i64 b], .int .i64 n] w (Gives (.string (str (crL a b n))) w) := by
  have s1 := decB_size a a0 a1
  have s3 := decB_size n n0 n1
  by_cases hab : a < b
  · have s2 := decB_size (b - 1) (by omega) (by omega)
    have HP := Lib.hid hp
    clear hp
    have hks := Lib.hid (show ∀ w', Ext (w.alloc (.cells #[.int .i64 a, .int .i64 b] 40)) w' → (w'.cell? ⟨w.heap.size, 0, none⟩ = some (.int .i64 a) ∧ w'.cell? ⟨w.heap.size, 1, none⟩ = some (.int .i64 b)) from fun w' e => ⟨e.new 0 _ rfl, e.new 1 _ rfl⟩)
    have hx0 := Ext.al (Ext.rfl' w) (.cells #[.int .i64 a, .int .i64 b] 40)
    have hc1 := cat_ok (P := Tryd.prog) (decB a) ⟨#[45]⟩ (by have : ByteArray.size ⟨#[45]⟩ = 1 := rfl; omega)
    have hc2 := cat_ok (P := Tryd.prog) (decB a ++ ⟨#[45]⟩) (decB (b - 1)) (by have : ByteArray.size ⟨#[45]⟩ = 1 := rfl; rw [ByteArray.size_append]; omega)
    have b2 : -9223372036854775808 ≤ b - 1 := by omega
    have b3 : b - 1 ≤ 9223372036854775807 := by omega
    have a2 : -9223372036854775808 ≤ a := by omega
    have hw : IntKind.i64.wrap (b - 1) = b - 1 := IntWalk.i64_in _ (by omega)
    go_enter Tryd.func12, Tryd.ntmps12
    go_wp2_with fail
    go_cut [5] (fun v wx => v = .string (decB a ++ str [45] ++ decB (b - 1)) ∧ Ext (w.alloc (.cells #[.int .i64 a, .int .i64 b] 40)) wx)
    case first =>
      go_region_held3 (fun w' => w'.cell? ⟨w.heap.size, 0, none⟩ = some (.int .i64 a) ∧ w'.cell? ⟨w.heap.size, 1, none⟩ = some (.int .i64 b))
        (exact hks.out _ (by (repeat (first | exact Ext.rfl' _ | assumption | refine Ext.dr ?_ | refine Ext.al ?_ _ | refine Ext.st ?_ (by simp) _ | refine Ext.tr ?_ (by assumption)))))
        (first | (go_at_call 18; refine (Digits_c' _ _ (HP.out.ext (by (repeat (first | exact Ext.rfl' _ | assumption | refine Ext.dr ?_ | refine Ext.al ?_ _ | refine Ext.st ?_ (by simp) _ | refine Ext.tr ?_ (by assumption))))) (by assumption) (by assumption)).mono ?_; rintro e w2 ⟨rfl, hx2⟩))
      all_goals (go_wp2_with fail; go_meet)
      all_goals exact ⟨by simp [decB], by (repeat (first | exact Ext.rfl' _ | assumption | refine Ext.dr ?_ | refine Ext.al ?_ _ | refine Ext.st ?_ (by simp) _ | refine Ext.tr ?_ (by assumption)))⟩
    case rest =>
      obtain ⟨rfl, hxc⟩ := hcut
      go_wp2_with (go_at_call 18; refine (Digits_c' _ _ (HP.out.ext (by (repeat (first | exact Ext.rfl' _ | assumption | refine Ext.dr ?_ | refine Ext.al ?_ _ | refine Ext.st ?_ (by simp) _ | refine Ext.tr ?_ (by assumption))))) (by omega) (by omega)).mono ?_; rintro e w2 ⟨rfl, hx2⟩)
      go_ret
      exact ⟨ret_val (congrArg Value.string (by simp [crL, decB, hab])), by (repeat (first | exact Ext.rfl' _ | assumption | refine Ext.dr ?_ | refine Ext.al ?_ _ | refine Ext.st ?_ (by simp) _ | refine Ext.tr ?_ (by assumption)))⟩
  · have HP := Lib.hid hp
    clear hp
    have hx0 := Ext.al (Ext.rfl' w) (.cells #[.int .i64 a, .int .i64 b] 40)
    go_enter Tryd.func12, Tryd.ntmps12
    go_wp2_with (go_at_call 18; refine (Digits_c' _ _ (HP.out.ext (by (repeat (first | exact Ext.rfl' _ | assumption | refine Ext.dr ?_ | refine Ext.al ?_ _ | refine Ext.st ?_ (by simp) _ | refine Ext.tr ?_ (by assumption))))) (by omega) (by omega)).mono ?_; rintro e w2 ⟨rfl, hx2⟩)
    go_ret
    exact ⟨ret_val (congrArg Value.string (by unfold crL decB; rw [if_neg (by omega)]; simp)), by (repeat (first | exact Ext.rfl' _ | assumption | refine Ext.dr ?_ | refine Ext.al ?_ _ | refine Ext.st ?_ (by simp) _ | refine Ext.tr ?_ (by assumption)))⟩
end Go.Proofs.YtllpffdjlhamkaaDoor
end

/-
The statement RangesResolves: its helpers and its walk.
-/
section
namespace Go.Proofs.YtllpffdjlhamkaaDoor
open Go.RowKit

theorem num17_c (n : Int) (w : World) : Calls Tryd.prog 7 #[.int .i64 n] w fun e w' => e = .returned (.int .i64 n) ∧ w = w' := by
  go_enter Tryd.func7, Tryd.ntmps7
  go_wp2
  go_ret
  exact ⟨rfl, rfl⟩

end Go.Proofs.YtllpffdjlhamkaaDoor
end

/-
What must come of Resolve and ContentRange: the closed facts.
-/
section
namespace Go.Proofs.YtllpffdjlhamkaaDoor
open Go.RowKit

theorem res1 : resolveL [(0, 4), (-1, 3)] 10 = ([(0, 5), (7, 10)], 0) := by decide +kernel
theorem res2 : resolveL [(10, -1)] 10 = ([], 62) := by decide +kernel
theorem dd0 : Lib.decDigits 0 = [48] := Lib.decDigits_one (by omega)
theorem dd4 : Lib.decDigits 4 = [52] := Lib.decDigits_one (by omega)
theorem dd10 : Lib.decDigits 10 = [49, 48] := Lib.decDigits_two (by omega) (by omega)
theorem cr1 : str (crL 0 5 10) = ⟨#[98, 121, 116, 101, 115, 32, 48, 45, 52, 47, 49, 48]⟩ := by
  have h : crL 0 5 10 = [98, 121, 116, 101, 115, 32, 48, 45, 52, 47, 49, 48] := by
    unfold crL Lib.itoa
    simp [dd0, dd4, dd10]
  rw [h]; rfl
set_option maxRecDepth 100000 in
set_option maxHeartbeats 1000000 in
theorem knows17_c (w : World) (hp : Pow w) : Calls Tryd.prog 4 #[] w (Gives (.bool true) w) := by
  have HP := Lib.hid hp
  clear hp
  go_enter Tryd.func4, Tryd.ntmps4
  go_wp2_with fail
  refine (Resolve_c _ _ 2 2 [(0, 4), (-1, 3)] 10 rfl (by simp [maxLen]) (.inr ⟨_, _, rfl, fun j u hj => by rw [Nat.zero_add]; exact new_at _ _ _ j u (by simpa [pc] using hj)⟩) (by omega) (by omega)).mono ?_
  rintro e w1 h1
  rw [res1] at h1
  obtain ⟨v, rfl, ⟨A1, c1, rfl, hr1, hc1⟩, hx1⟩ := h1.out
  go_wp2_with fail
  refine (Resolve_c _ _ 1 1 [(10, -1)] 10 rfl (by simp [maxLen]) (.inr ⟨_, _, rfl, fun j u hj => by rw [Nat.zero_add]; exact new_at _ _ _ j u (by simpa [pc] using hj)⟩) (by omega) (by omega)).mono ?_
  rintro e w2 h2
  rw [res2] at h2
  obtain ⟨v, rfl, ⟨A2, c2, rfl, hr2, hc2⟩, hx2⟩ := h2.out
  obtain ⟨b, o, rfl, hbl, hS0⟩ := hr1.pair (k := 0) (by simp)
  obtain ⟨_, _, he, _, hS1⟩ := hr1.pair (k := 1) (by simp)
  cases he
  obtain ⟨c0, d0⟩ := hS0.out w2 (by (repeat (first | exact Ext.rfl' _ | assumption | refine Ext.dr ?_ | refine Ext.al ?_ _ | refine Ext.st ?_ (by simp) _ | refine Ext.tr ?_ (by assumption))))
  obtain ⟨c1, d1⟩ := hS1.out w2 (by (repeat (first | exact Ext.rfl' _ | assumption | refine Ext.dr ?_ | refine Ext.al ?_ _ | refine Ext.st ?_ (by simp) _ | refine Ext.tr ?_ (by assumption))))
  simp only [Nat.zero_mul, Nat.one_mul, Nat.add_zero, List.getElem_cons_zero, List.getElem_cons_succ] at c0 d0 c1 d1
  go_wp2_with (first | (go_at_call 7; refine (num17_c _ _).mono ?_; rintro e w3 ⟨rfl, rfl⟩) | (go_at_call 12; refine (ContentRange_c _ _ _ _ (HP.out.ext (by (repeat (first | exact Ext.rfl' _ | assumption | refine Ext.dr ?_ | refine Ext.al ?_ _ | refine Ext.st ?_ (by simp) _ | refine Ext.tr ?_ (by assumption))))) (by omega) (by omega) (by omega) (by omega) (by omega) (by omega)).mono ?_; rintro e w3 ⟨rfl, hx3⟩; rw [cr1]))
  go_ret
  exact ⟨rfl, by (repeat (first | exact Ext.rfl' _ | assumption | refine Ext.dr ?_ | refine Ext.al ?_ _ | refine Ext.st ?_ (by simp) _ | refine Ext.tr ?_ (by assumption)))⟩
end Go.Proofs.YtllpffdjlhamkaaDoor
end
