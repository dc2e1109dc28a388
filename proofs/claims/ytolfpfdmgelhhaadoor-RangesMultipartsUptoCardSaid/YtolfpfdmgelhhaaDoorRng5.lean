/-
ContentRange of the program and of the reference: the same text.
-/
import Derived.Test.YtolfpfdmgelhhaaDoorDig
import Derived.Test.YtolfpfdmgelhhaaDoorRng4
import Derived.IntWalk
set_option linter.unusedVariables false
set_option linter.unusedSimpArgs false
namespace Go.Proofs.YtolfpfdmgelhhaaDoor
open Go.RowKit

/-- The text of a part of a size. -/
def crL (a b n : Int) : List UInt8 :=
  [98, 121, 116, 101, 115, 32] ++ (if a < b then Lib.itoa a ++ [45] ++ Lib.itoa (b - 1) else [42]) ++ [47] ++ Lib.itoa n
theorem itoa_len (n : Int) (h0 : -9223372036854775808 ≤ n) (h1 : n ≤ 9223372036854775807) : (Lib.itoa n).length ≤ 21 := by
  unfold Lib.itoa
  split
  · have := Lib.nDigits_le20 n.natAbs (by omega)
    rw [← Lib.decDigits_length] at this
    simp; omega
  · have := Lib.nDigits_le20 n.toNat (by omega)
    rw [← Lib.decDigits_length] at this
    omega
theorem decB_size (n : Int) (h0 : -9223372036854775808 ≤ n) (h1 : n ≤ 9223372036854775807) : (decB n).size ≤ 21 := by
  unfold decB; rw [str_size]; exact itoa_len n h0 h1
theorem Digits_c' (n : Int) (w : World) (h : Pow w) (h0 : -9223372036854775808 ≤ n) (h1 : n ≤ 9223372036854775807) :
    Calls Tryd.prog 64 #[.int .i64 n] w (Gives (.string (decB n)) w) := Digits_c n w h h0 h1
theorem rDigits_c' (n : Int) (w : World) (_ : Pow w) (h0 : -9223372036854775808 ≤ n) (h1 : n ≤ 9223372036854775807) :
    Calls Tryd.prog 65 #[.int .i64 n] w (Gives (.string (decB n)) w) := rDigits_c n w h0 h1
set_option maxRecDepth 100000 in
set_option maxHeartbeats 1000000 in
theorem ContentRange_c (a b n : Int) (w : World) (hp : Pow w) (a0 : -9223372036854775808 ≤ a) (a1 : a ≤ 9223372036854775807) (b0 : -9223372036854775808 ≤ b) (b1 : b ≤ 9223372036854775807) (n0 : -9223372036854775808 ≤ n) (n1 : n ≤ 9223372036854775807) :
    Calls Tryd.prog 59 #[.agg #[.int .i64 a, .int .i64 b], .int .i64 n] w (Gives (.string (str (crL a b n))) w) := by
  have s1 := decB_size a a0 a1
  have s3 := decB_size n n0 n1
  by_cases hab : a < b
  · have s2 := decB_size (b - 1) (by omega) (by omega)
    have HP := Lib.hid hp
    clear hp
    have hks := Lib.hid (show ∀ w', Ext (w.alloc (.cells #[.int .i64 a, .int .i64 b] 101)) w' → (w'.cell? ⟨w.heap.size, 0, none⟩ = some (.int .i64 a) ∧ w'.cell? ⟨w.heap.size, 1, none⟩ = some (.int .i64 b)) from fun w' e => ⟨e.new 0 _ rfl, e.new 1 _ rfl⟩)
    have hx0 := Ext.al (Ext.rfl' w) (.cells #[.int .i64 a, .int .i64 b] 101)
    have hc1 := cat_ok (P := Tryd.prog) (decB a) ⟨#[45]⟩ (by have : ByteArray.size ⟨#[45]⟩ = 1 := rfl; omega)
    have hc2 := cat_ok (P := Tryd.prog) (decB a ++ ⟨#[45]⟩) (decB (b - 1)) (by have : ByteArray.size ⟨#[45]⟩ = 1 := rfl; rw [ByteArray.size_append]; omega)
    have b2 : -9223372036854775808 ≤ b - 1 := by omega
    have b3 : b - 1 ≤ 9223372036854775807 := by omega
    have a2 : -9223372036854775808 ≤ a := by omega
    have hw : IntKind.i64.wrap (b - 1) = b - 1 := IntWalk.i64_in _ (by omega)
    go_enter Tryd.func59, Tryd.ntmps59
    go_wp2_with fail
    go_cut [5] (fun v wx => v = .string (decB a ++ str [45] ++ decB (b - 1)) ∧ Ext (w.alloc (.cells #[.int .i64 a, .int .i64 b] 101)) wx)
    case first =>
      go_region_held3 (fun w' => w'.cell? ⟨w.heap.size, 0, none⟩ = some (.int .i64 a) ∧ w'.cell? ⟨w.heap.size, 1, none⟩ = some (.int .i64 b))
        (exact hks.out _ (by (repeat (first | exact Ext.rfl' _ | assumption | refine Ext.dr ?_ | refine Ext.al ?_ _ | refine Ext.st ?_ (by simp) _ | refine Ext.tr ?_ (by assumption)))))
        (first | (go_at_call 64; refine (Digits_c' _ _ (HP.out.ext (by (repeat (first | exact Ext.rfl' _ | assumption | refine Ext.dr ?_ | refine Ext.al ?_ _ | refine Ext.st ?_ (by simp) _ | refine Ext.tr ?_ (by assumption))))) (by assumption) (by assumption)).mono ?_; rintro e w2 ⟨rfl, hx2⟩))
      all_goals (go_wp2_with fail; go_meet)
      all_goals exact ⟨by simp [decB], by (repeat (first | exact Ext.rfl' _ | assumption | refine Ext.dr ?_ | refine Ext.al ?_ _ | refine Ext.st ?_ (by simp) _ | refine Ext.tr ?_ (by assumption)))⟩
    case rest =>
      obtain ⟨rfl, hxc⟩ := hcut
      go_wp2_with (go_at_call 64; refine (Digits_c' _ _ (HP.out.ext (by (repeat (first | exact Ext.rfl' _ | assumption | refine Ext.dr ?_ | refine Ext.al ?_ _ | refine Ext.st ?_ (by simp) _ | refine Ext.tr ?_ (by assumption))))) (by omega) (by omega)).mono ?_; rintro e w2 ⟨rfl, hx2⟩)
      go_ret
      exact ⟨ret_val (congrArg Value.string (by simp [crL, decB, hab])), by (repeat (first | exact Ext.rfl' _ | assumption | refine Ext.dr ?_ | refine Ext.al ?_ _ | refine Ext.st ?_ (by simp) _ | refine Ext.tr ?_ (by assumption)))⟩
  · have HP := Lib.hid hp
    clear hp
    have hx0 := Ext.al (Ext.rfl' w) (.cells #[.int .i64 a, .int .i64 b] 101)
    go_enter Tryd.func59, Tryd.ntmps59
    go_wp2_with (go_at_call 64; refine (Digits_c' _ _ (HP.out.ext (by (repeat (first | exact Ext.rfl' _ | assumption | refine Ext.dr ?_ | refine Ext.al ?_ _ | refine Ext.st ?_ (by simp) _ | refine Ext.tr ?_ (by assumption))))) (by omega) (by omega)).mono ?_; rintro e w2 ⟨rfl, hx2⟩)
    go_ret
    exact ⟨ret_val (congrArg Value.string (by unfold crL decB; rw [if_neg (by omega)]; simp)), by (repeat (first | exact Ext.rfl' _ | assumption | refine Ext.dr ?_ | refine Ext.al ?_ _ | refine Ext.st ?_ (by simp) _ | refine Ext.tr ?_ (by assumption)))⟩
set_option maxRecDepth 100000 in
set_option maxHeartbeats 1000000 in
theorem rContentRange_c (a b n : Int) (w : World) (hp : Pow w) (a0 : -9223372036854775808 ≤ a) (a1 : a ≤ 9223372036854775807) (b0 : -9223372036854775808 ≤ b) (b1 : b ≤ 9223372036854775807) (n0 : -9223372036854775808 ≤ n) (n1 : n ≤ 9223372036854775807) :
    Calls Tryd.prog 62 #[.agg #[.int .i64 a, .int .i64 b], .int .i64 n] w (Gives (.string (str (crL a b n))) w) := by
  have s1 := decB_size a a0 a1
  have s3 := decB_size n n0 n1
  by_cases hab : a < b
  · have s2 := decB_size (b - 1) (by omega) (by omega)
    have HP := Lib.hid hp
    clear hp
    have hks := Lib.hid (show ∀ w', Ext (w.alloc (.cells #[.int .i64 a, .int .i64 b] 103)) w' → (w'.cell? ⟨w.heap.size, 0, none⟩ = some (.int .i64 a) ∧ w'.cell? ⟨w.heap.size, 1, none⟩ = some (.int .i64 b)) from fun w' e => ⟨e.new 0 _ rfl, e.new 1 _ rfl⟩)
    have hx0 := Ext.al (Ext.rfl' w) (.cells #[.int .i64 a, .int .i64 b] 103)
    have hc1 := cat_ok (P := Tryd.prog) (decB a) ⟨#[45]⟩ (by have : ByteArray.size ⟨#[45]⟩ = 1 := rfl; omega)
    have hc2 := cat_ok (P := Tryd.prog) (decB a ++ ⟨#[45]⟩) (decB (b - 1)) (by have : ByteArray.size ⟨#[45]⟩ = 1 := rfl; rw [ByteArray.size_append]; omega)
    have b2 : -9223372036854775808 ≤ b - 1 := by omega
    have b3 : b - 1 ≤ 9223372036854775807 := by omega
    have a2 : -9223372036854775808 ≤ a := by omega
    have hw : IntKind.i64.wrap (b - 1) = b - 1 := IntWalk.i64_in _ (by omega)
    go_enter Tryd.func62, Tryd.ntmps62
    go_wp2_with fail
    go_cut [5] (fun v wx => v = .string (decB a ++ str [45] ++ decB (b - 1)) ∧ Ext (w.alloc (.cells #[.int .i64 a, .int .i64 b] 103)) wx)
    case first =>
      go_region_held3 (fun w' => w'.cell? ⟨w.heap.size, 0, none⟩ = some (.int .i64 a) ∧ w'.cell? ⟨w.heap.size, 1, none⟩ = some (.int .i64 b))
        (exact hks.out _ (by (repeat (first | exact Ext.rfl' _ | assumption | refine Ext.dr ?_ | refine Ext.al ?_ _ | refine Ext.st ?_ (by simp) _ | refine Ext.tr ?_ (by assumption)))))
        (first | (go_at_call 65; refine (rDigits_c' _ _ (HP.out.ext (by (repeat (first | exact Ext.rfl' _ | assumption | refine Ext.dr ?_ | refine Ext.al ?_ _ | refine Ext.st ?_ (by simp) _ | refine Ext.tr ?_ (by assumption))))) (by assumption) (by assumption)).mono ?_; rintro e w2 ⟨rfl, hx2⟩))
      all_goals (go_wp2_with fail; go_meet)
      all_goals exact ⟨by simp [decB], by (repeat (first | exact Ext.rfl' _ | assumption | refine Ext.dr ?_ | refine Ext.al ?_ _ | refine Ext.st ?_ (by simp) _ | refine Ext.tr ?_ (by assumption)))⟩
    case rest =>
      obtain ⟨rfl, hxc⟩ := hcut
      go_wp2_with (go_at_call 65; refine (rDigits_c' _ _ (HP.out.ext (by (repeat (first | exact Ext.rfl' _ | assumption | refine Ext.dr ?_ | refine Ext.al ?_ _ | refine Ext.st ?_ (by simp) _ | refine Ext.tr ?_ (by assumption))))) (by omega) (by omega)).mono ?_; rintro e w2 ⟨rfl, hx2⟩)
      go_ret
      exact ⟨ret_val (congrArg Value.string (by simp [crL, decB, hab])), by (repeat (first | exact Ext.rfl' _ | assumption | refine Ext.dr ?_ | refine Ext.al ?_ _ | refine Ext.st ?_ (by simp) _ | refine Ext.tr ?_ (by assumption)))⟩
  · have HP := Lib.hid hp
    clear hp
    have hx0 := Ext.al (Ext.rfl' w) (.cells #[.int .i64 a, .int .i64 b] 103)
    go_enter Tryd.func62, Tryd.ntmps62
    go_wp2_with (go_at_call 65; refine (rDigits_c' _ _ (HP.out.ext (by (repeat (first | exact Ext.rfl' _ | assumption | refine Ext.dr ?_ | refine Ext.al ?_ _ | refine Ext.st ?_ (by simp) _ | refine Ext.tr ?_ (by assumption))))) (by omega) (by omega)).mono ?_; rintro e w2 ⟨rfl, hx2⟩)
    go_ret
    exact ⟨ret_val (congrArg Value.string (by unfold crL decB; rw [if_neg (by omega)]; simp)), by (repeat (first | exact Ext.rfl' _ | assumption | refine Ext.dr ?_ | refine Ext.al ?_ _ | refine Ext.st ?_ (by simp) _ | refine Ext.tr ?_ (by assumption)))⟩
end Go.Proofs.YtolfpfdmgelhhaaDoor
