/-
Numbers written to the base 10: the program's Digits and the reference's give the same text.
-/
import Derived.Test.YtppajpchibkneaaGreatDoorProg
import Derived.Test.YtppajpchibkneaaGreatDoorBytes
import Derived.Test.YtppajpchibkneaaGreatDoorShelf
import Derived.Lib.AppendIntMem
import Derived.Lib.ItoaLen
import Derived.Lib.ItoaMem
set_option linter.unusedVariables false
set_option linter.unusedSimpArgs false
namespace Go.Proofs.YtppajpchibkneaaGreatDoor
open Go.RowKit

/-- The library's table of powers of ten lies in this world. -/
def Pow (w : World) : Prop := Lib.TabIs Tryz.prog w "internal/strconv.uint64pow10" .u64 Lib.pow10Tab
theorem gPow : Tryz.prog.globalNamed "internal/strconv.uint64pow10" = some 1 := by kernel_rfl
theorem Pow.ext {w w' : World} (h : Pow w) (e : Ext w w') : Pow w' := by
  have h0 := h.cell gPow 0 (by rw [Lib.pow10Tab_length]; omega)
  exact var?_below e gPow (lt_of_cell h0) h

/-- The text of a number. -/
def decB (n : Int) : ByteArray := str (Lib.itoa n)

theorem Digits_c (n : Int) (w : World) (h : Pow w) (h0 : -9223372036854775808 ≤ n) (h1 : n ≤ 9223372036854775807) :
    Calls Tryz.prog 22 #[.int .i64 n] w (Gives (.string (decB n)) w) := by
  go_enter Tryz.func22, Tryz.ntmps22
  go_wp2_with (go_at_call 39; refine (Tryz.strconv_Itoa n h0 h1 _ h).mono ?_; rintro e w1 ⟨rfl, k, os, rfl⟩)
  go_ret
  exact ⟨rfl, Lib.below_grow _ _ (Nat.le_refl _) _ _⟩

theorem dec_step {N : Nat} {y : Nat} {out : List UInt8} (h : Lib.decDigits N = Lib.decDigits y ++ out) (hy : ¬ y < 10) :
    Lib.decDigits N = Lib.decDigits (y / 10) ++ (UInt8.ofNat (48 + y % 10) :: out) := by
  rw [h, Lib.decDigits, dif_neg hy]; simp
theorem dec_last {N : Nat} {y : Nat} {out : List UInt8} (h : Lib.decDigits N = Lib.decDigits y ++ out) (hy : y < 10) :
    Lib.decDigits N = UInt8.ofNat (48 + y % 10) :: out := by
  rw [h, Lib.decDigits, dif_pos hy, Nat.mod_eq_of_lt hy]; rfl

set_option maxRecDepth 100000 in
set_option maxHeartbeats 1000000 in
theorem rDigits_c (n : Int) (w : World) (h0 : -9223372036854775808 ≤ n) (h1 : n ≤ 9223372036854775807) :
    Calls Tryz.prog 26 #[.int .i64 n] w (Gives (.string (decB n)) w) := by
  have kc := fun (x : Int) (hx : 0 ≤ x) (hx' : x < 256) (w : World) => conv_one (P := Tryz.prog) 25 9 5 Tryz.underlying25 Tryz.underlying5 Tryz.underlying9 x hx hx' w
  by_cases hn : 0 ≤ n
  · go_enter Tryz.func26, Tryz.ntmps26
    go_wp2
    go_loopw [0, 4, 5] (fun i o _ wr => ∃ (y : Nat) (out : List UInt8), i = .int .i64 y ∧ (y : Int) ≤ n ∧ o = .string (str out) ∧ Lib.decDigits n.toNat = Lib.decDigits y ++ out ∧ Ext w wr) (fun i _ _ _ => (intOf i).toNat)
    case atStart => exact ⟨n.toNat, [], by simp; omega, by omega, rfl, by simp, Ext.rfl' _⟩
    case round =>
      obtain ⟨y, out, rfl, hy, rfl, hd, hext⟩ := hrel
      have hol : out.length ≤ 20 := by
        have h2 := Lib.nDigits_le20 n.toNat (by omega)
        rw [← Lib.decDigits_length, hd, List.length_append] at h2
        omega
      have hsucc : ¬ y < 10 → _ := fun h => dec_step hd h
      have hlast : y < 10 → _ := fun h => dec_last hd h
      have HS := Lib.hid hsucc
      have HL := Lib.hid hlast
      clear hd hsucc hlast
      have kc' := kc (48 + (y : Int) % 10) (by omega) (by omega) wr
      by_cases hy0 : y < 10
      · go_wp2
        go_ret
        refine ⟨ret_val ?_, by (repeat (first | exact Ext.rfl' _ | assumption | refine Ext.dr ?_ | refine Ext.al ?_ _ | refine Ext.st ?_ (by simp) _ | refine Ext.tr ?_ (by assumption)))⟩
        have hit : Lib.itoa n = Lib.decDigits n.toNat := by unfold Lib.itoa; rw [if_neg (by omega)]
        have := HL.out hy0
        unfold decB
        rw [hit, this]
        have e : (48 + (y : Int) % 10).toNat = 48 + y % 10 := by omega
        simp [str]; try omega
      · go_wp2
        go_roundw
        case rel => exact ⟨y / 10, UInt8.ofNat (48 + y % 10) :: out, by go_num, by omega, by simp, HS.out hy0, by (repeat (first | exact Ext.rfl' _ | assumption | refine Ext.dr ?_ | refine Ext.al ?_ _ | refine Ext.st ?_ (by simp) _ | refine Ext.tr ?_ (by assumption)))⟩
        case measure => simp [intOf]; omega
  · go_enter Tryz.func26, Tryz.ntmps26
    go_wp2
    go_loopw [0, 4, 5] (fun i o _ wr => ∃ (y : Nat) (out : List UInt8), i = .int .i64 (-(y : Int)) ∧ (y : Int) ≤ -n ∧ o = .string (str out) ∧ Lib.decDigits n.natAbs = Lib.decDigits y ++ out ∧ Ext w wr) (fun i _ _ _ => (-(intOf i)).toNat)
    case atStart => exact ⟨n.natAbs, [], by simp; omega, by omega, rfl, by simp, Ext.rfl' _⟩
    case round =>
      obtain ⟨y, out, rfl, hy, rfl, hd, hext⟩ := hrel
      have hol : out.length ≤ 20 := by
        have h2 := Lib.nDigits_le20 n.natAbs (by omega)
        rw [← Lib.decDigits_length, hd, List.length_append] at h2
        omega
      have hsucc : ¬ y < 10 → _ := fun h => dec_step hd h
      have hlast : y < 10 → _ := fun h => dec_last hd h
      have HS := Lib.hid hsucc
      have HL := Lib.hid hlast
      clear hd hsucc hlast
      have kc' := kc (48 + (y : Int) % 10) (by omega) (by omega) wr
      have t1 : (-(y : Int)).tmod 10 = -((y : Int) % 10) := by rw [Int.neg_tmod, Int.tmod_eq_emod_of_nonneg (by omega)]
      have t2 : (-(y : Int)).tdiv 10 = -((y : Int) / 10) := by rw [Int.neg_tdiv, Int.tdiv_eq_ediv_of_nonneg (by omega)]
      have hfin : y < 10 → ∀ c : UInt8, c = UInt8.ofNat (48 + y % 10) → str (45 :: c :: out) = decB n := by
        intro h c hc
        have hit : Lib.itoa n = 45 :: Lib.decDigits n.natAbs := by unfold Lib.itoa; rw [if_pos (by omega)]
        unfold decB
        rw [hit, HL.out h, hc]
      have HF := Lib.hid hfin
      clear hfin
      by_cases hm : (y : Int) % 10 = 0
      · have hmn : y % 10 = 0 := by omega
        by_cases hy0 : y < 10
        · go_wp2
          go_ret
          refine ⟨ret_val (congrArg Value.string ?_), by (repeat (first | exact Ext.rfl' _ | assumption | refine Ext.dr ?_ | refine Ext.al ?_ _ | refine Ext.st ?_ (by simp) _ | refine Ext.tr ?_ (by assumption)))⟩
          refine Eq.trans ?_ (HF.out hy0 48 (by rw [hmn]; rfl))
          simp
        · go_wp2
          go_roundw
          case rel => exact ⟨y / 10, UInt8.ofNat (48 + y % 10) :: out, by go_num, by omega, by rw [hmn]; rfl, HS.out hy0, by (repeat (first | exact Ext.rfl' _ | assumption | refine Ext.dr ?_ | refine Ext.al ?_ _ | refine Ext.st ?_ (by simp) _ | refine Ext.tr ?_ (by assumption)))⟩
          case measure => simp [intOf]; omega
      · by_cases hy0 : y < 10
        · go_wp2
          go_ret
          refine ⟨ret_val (congrArg Value.string ?_), by (repeat (first | exact Ext.rfl' _ | assumption | refine Ext.dr ?_ | refine Ext.al ?_ _ | refine Ext.st ?_ (by simp) _ | refine Ext.tr ?_ (by assumption)))⟩
          exact HF.out hy0 _ (by simp)
        · go_wp2
          go_roundw
          case rel => exact ⟨y / 10, UInt8.ofNat (48 + y % 10) :: out, by go_num, by omega, by simp, HS.out hy0, by (repeat (first | exact Ext.rfl' _ | assumption | refine Ext.dr ?_ | refine Ext.al ?_ _ | refine Ext.st ?_ (by simp) _ | refine Ext.tr ?_ (by assumption)))⟩
          case measure => simp [intOf]; omega
end Go.Proofs.YtppajpchibkneaaGreatDoor
