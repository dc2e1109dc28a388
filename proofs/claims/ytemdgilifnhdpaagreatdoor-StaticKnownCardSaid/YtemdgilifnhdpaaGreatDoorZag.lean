/-
Dates: digits.
-/
import Derived.Test.YtemdgilifnhdpaaGreatDoorZaf
import Derived.Deep.OwnRows
set_option linter.unusedVariables false
set_option linter.unusedSimpArgs false
section
namespace Go.Proofs.YtemdgilifnhdpaaGreatDoor
open Go.RowKit

def digD : Nat → Nat → List UInt8
  | 0, _ => []
  | k + 1, n => digD k (n / 10) ++ [UInt8.ofNat (48 + n % 10)]
theorem digD_len : ∀ (k n : Nat), (digD k n).length = k
  | 0, _ => rfl
  | k + 1, n => by unfold digD; rw [List.length_append, digD_len k]; rfl
theorem made_u8 (n : Nat) : madeCells #[.int .u8 0] n = (bc (List.replicate n 0)).toArray := by
  apply Array.ext'
  unfold madeCells
  simp [bc, Nat.mod_one, Array.toList_range]
  induction n with
  | zero => rfl
  | succ k ih => rw [List.range_succ, List.map_append, ih, List.replicate_succ']; rfl
theorem dig_set (j : Nat) (out : List UInt8) (c : UInt8) : (bc (List.replicate (j + 1) 0 ++ out)).toArray.setIfInBounds j (.int .u8 (c.toNat : Int)) = (bc (List.replicate j 0 ++ c :: out)).toArray := by
  apply Array.ext'
  rw [Array.toList_setIfInBounds]
  show (bc (List.replicate (j + 1) 0 ++ out)).set j (.int .u8 (c.toNat : Int)) = bc (List.replicate j 0 ++ c :: out)
  unfold bc
  rw [List.replicate_succ', List.append_assoc, List.map_append, List.map_append, List.set_append_right _ _ (by simp)]
  simp
theorem dig_set2 (j : Nat) (out : List UInt8) (c : UInt8) : (bc (List.replicate j 0 ++ c :: out)).toArray.setIfInBounds j (.int .u8 (c.toNat : Int)) = (bc (List.replicate j 0 ++ c :: out)).toArray := by
  apply Array.ext'
  rw [Array.toList_setIfInBounds]
  show (bc (List.replicate j 0 ++ c :: out)).set j (.int .u8 (c.toNat : Int)) = bc (List.replicate j 0 ++ c :: out)
  unfold bc
  rw [List.map_append, List.set_append_right _ _ (by simp)]
  simp
theorem dig_at (j : Nat) (out : List UInt8) : ∃ u, (bc (List.replicate (j + 1) 0 ++ out)).toArray[j]? = some u := by
  have h : j < (bc (List.replicate (j + 1) 0 ++ out)).length := by rw [bc_len]; simp; omega
  exact ⟨_, by rw [List.getElem?_toArray]; exact List.getElem?_eq_getElem h⟩
set_option maxRecDepth 100000 in
set_option maxHeartbeats 4000000 in
theorem daDigits_c (n size : Nat) (hs1 : 0 < size) (hs : size ≤ 8) (hn : n ≤ 1000000) (w : World) : Calls Tryz.prog 137 #[.int .i64 (n : Int), .int .i64 (size : Int), .int .u8 48] w (Gives (.string (str (digD size n))) w) := by
  have hmk := fun w => run_make_row' (P := Tryz.prog) 22 5 (.int .u8 0) 1 Tryz.underlying22 (by kernel_rfl) rfl .i64 .i64 size (by omega) (by omega) w
  obtain ⟨R, hR⟩ : ∃ R, R = digD size n := ⟨_, rfl⟩
  rw [← hR]
  have HR := Lib.hid hR
  clear hR
  go_enter Tryz.func137, Tryz.ntmps137
  go_upto_region 3 with (fail)
  clear hmk
  go_loopw [0, 8] (fun v0 v8 wr => ∃ i m out, v8 = .int .i64 (((i : Nat) : Int) - 1) ∧ v0 = .int .i64 ((m : Nat) : Int) ∧ m ≤ 1000000 ∧ out.length + i = size ∧ R = digD i m ++ out ∧ wr.heap[w.heap.size]? = some (.cells (bc (List.replicate i 0 ++ out)).toArray 5 (0, 0)) ∧ Ext w wr) (fun _ v8 _ => (intOf v8 + 1).toNat)
  case atStart => exact ⟨size, n, [], rfl, rfl, hn, by simp, by rw [HR.out, List.append_nil], by rw [List.append_nil, ← made_u8]; exact heap_alloc_new w _, by (repeat (first | exact Ext.rfl' _ | assumption | refine Ext.dr ?_ | refine Ext.drN ?_ _ | refine Ext.al ?_ _ | refine Ext.st ?_ (by simp) _ | refine Ext.tr ?_ (by assumption)))⟩
  case round =>
    obtain ⟨i, m, out, rfl, rfl, hm, hlen, hdg, hrow, hx⟩ := hrel
    have HX := Lib.hid hx
    have HDG := Lib.hid hdg
    cases i with
    | zero =>
      have k1 : ¬ (0 : Int) ≤ ((0 : Nat) : Int) - 1 := by omega
      have hro : R = out := by rw [HDG.out]; rfl
      have hrd : Rd wr (some ⟨w.heap.size, 0, none⟩) (bc R) := .inr ⟨_, 0, rfl, fun j u hj => by rw [Nat.zero_add]; exact (row_facts hrow j u (by rw [List.getElem?_toArray, List.replicate_zero, List.nil_append, ← hro]; exact hj)).1⟩
      have cv := conv_bs (P := Tryz.prog) 22 9 5 Tryz.underlying22 Tryz.underlying5 Tryz.underlying9 hrd size size (by rw [hro]; omega)
      clear hrow hdg hlen hro hrd hx
      go_wp2
      go_ret
      exact ⟨rfl, HX.out⟩
    | succ j =>
      have hj0 : (0 : Int) ≤ ((j + 1 : Nat) : Int) - 1 := by omega
      have hj1 : ((j + 1 : Nat) : Int) - 1 = (j : Int) := by omega
      have hj2 : (0 : Int) ≤ (j : Int) := by omega
      have hj3 : (j : Int) < (size : Int) := by omega
      have hm0 : (0 : Int) ≤ (m : Int) := by omega
      obtain ⟨d, hd⟩ : ∃ d, d = m % 10 := ⟨_, rfl⟩
      have hd10 : d < 10 := by omega
      have t1 : (m : Int).tmod 10 = (d : Int) := by rw [Int.tmod_eq_emod_of_nonneg (by omega)]; omega
      have t2 : (m : Int) % 10 = (d : Int) := by omega
      have t3 : IntKind.u8.wrap (48 + (d : Int)) = 48 + (d : Int) := by rw [IntKind.wrap_u8]; omega
      obtain ⟨u, hu⟩ := dig_at j out
      obtain ⟨c0, c1⟩ := row_facts hrow j u hu
      have hrow2 := row_set hrow j (.int .u8 (48 + (d : Int)))
      have hc : (48 + (d : Int)) = ((UInt8.ofNat (48 + d)).toNat : Int) := by rw [UInt8.toNat_ofNat']; omega
      have hset := dig_set j out (UInt8.ofNat (48 + d))
      rw [← hc] at hset
      rw [hset] at hrow2
      have HROW2 := Lib.hid hrow2
      have HD := Lib.hid hd
      clear hrow hdg hd hu hc hset hx
      have hq : ((m : Int) / 10) = ((m / 10 : Nat) : Int) := by omega
      have hR2 : R = digD j (m / 10) ++ UInt8.ofNat (48 + d) :: out := by
        rw [HDG.out, HD.out]
        show digD j (m / 10) ++ [UInt8.ofNat (48 + m % 10)] ++ out = _
        rw [List.append_assoc]
        rfl
      have HR2 := Lib.hid hR2
      have HQ := Lib.hid hq
      have HM := Lib.hid hm
      clear hR2 hq
      by_cases hm00 : m = 0
      · subst hm00
        have hd0 : d = 0 := by have := HD.out; omega
        subst hd0
        by_cases hlast : j + 1 < size
        · have hl1 : (j : Int) < (size : Int) - 1 := by omega
          have hrow3 := row_set hrow2 j (.int .u8 48)
          rw [show (48 : Int) = (((48 : UInt8)).toNat : Int) from rfl, show (UInt8.ofNat (48 + 0)) = (48 : UInt8) from rfl, dig_set2] at hrow3
          have HROW3 := Lib.hid hrow3
          have hat : (bc (List.replicate j 0 ++ UInt8.ofNat (48 + 0) :: out)).toArray[j]? = some (.int .u8 48) := by rw [List.getElem?_toArray]; unfold bc; simp
          obtain ⟨e0, e1⟩ := row_facts hrow2 j _ hat
          have HLEN := Lib.hid hlen
          clear hrow2 hrow3 hlast hat hlen
          go_wp2
          go_roundw
          case rel => exact ⟨j, 0, 48 :: out, rfl, rfl, by omega, by have := HLEN.out; simp; omega, HR2.out, HROW3.out, (HX.out.st (Nat.le_refl _) _).st (Nat.le_refl _) _⟩
          case measure => simp [intOf]
        · have hl1 : ¬ (j : Int) < (size : Int) - 1 := by omega
          clear hrow2
          go_wp2
          go_roundw
          case rel => exact ⟨j, 0, 48 :: out, rfl, rfl, by omega, by simp; omega, HR2.out, HROW2.out, HX.out.st (Nat.le_refl _) _⟩
          case measure => simp [intOf]
      · have hm1 : ¬ (m : Int) = 0 := by omega
        have hm2 : ((m : Int) == 0) = false := by rw [beq_eq_false_iff_ne]; exact hm1
        clear hrow2
        go_wp2
        go_roundw
        case rel => exact ⟨j, m / 10, UInt8.ofNat (48 + d) :: out, rfl, by rw [HQ.out], by have := HM.out; omega, by simp; omega, HR2.out, HROW2.out, HX.out.st (Nat.le_refl _) _⟩
        case measure => simp [intOf]
end Go.Proofs.YtemdgilifnhdpaaGreatDoor
end

section
namespace Go.Proofs.YtemdgilifnhdpaaGreatDoor
open Go.RowKit

def doeD (n : Int) : Int := (n + 719468) % 146097
def ofD (n : Int) : Int := (doeD n - doeD n / 1460 + doeD n / 36524 - doeD n / 146096) / 365
def doyD (n : Int) : Int := doeD n - (365 * ofD n + ofD n / 4 - ofD n / 100)
def mpD (n : Int) : Int := (5 * doyD n + 2) / 153
def monD (n : Int) : Int := (mpD n + 2) % 12 + 1
def dayD (n : Int) : Int := doyD n - (153 * mpD n + 2) / 5 + 1
def yearD (n : Int) : Int := (n + 719468) / 146097 * 400 + ofD n + (if monD n ≤ 2 then 1 else 0)
theorem civ_ok (n : Int) (h0 : 0 ≤ n) (h1 : n ≤ 2932896) : (0 ≤ doeD n ∧ doeD n ≤ 146096) ∧ (0 ≤ ofD n ∧ ofD n ≤ 399) ∧ (0 ≤ doyD n ∧ doyD n ≤ 365) ∧ (0 ≤ mpD n ∧ mpD n ≤ 11) ∧ (1 ≤ monD n ∧ monD n ≤ 12) ∧ (1 ≤ dayD n ∧ dayD n ≤ 40) := by
  have a1 : 0 ≤ doeD n ∧ doeD n ≤ 146096 := by unfold doeD; omega
  obtain ⟨b1, b2, b3, b4⟩ := doe_of (doeD n) (ofD n) a1.1 a1.2 rfl
  have a3 : 0 ≤ doyD n ∧ doyD n ≤ 365 := ⟨b3, b4⟩
  have a4 : 0 ≤ mpD n ∧ mpD n ≤ 11 := by unfold mpD; omega
  have a5 : 1 ≤ monD n ∧ monD n ≤ 12 := by unfold monD; omega
  refine ⟨a1, ⟨b1, b2⟩, a3, a4, a5, ?_⟩
  unfold dayD mpD
  omega
set_option maxRecDepth 100000 in
set_option maxHeartbeats 4000000 in
theorem daCivil_c (n : Int) (h0 : 0 ≤ n) (h1 : n ≤ 2932896) (w : World) : Calls Tryz.prog 134 #[.int .i64 n] w fun e w' => e = .returned (.tuple #[.int .i64 (yearD n), .int .i64 (monD n), .int .i64 (dayD n)]) ∧ w = w' := by
  obtain ⟨⟨a1, a2⟩, ⟨b1, b2⟩, ⟨c1, c2⟩, ⟨d1, d2⟩, ⟨e1, e2⟩, f1, f2⟩ := civ_ok n h0 h1
  obtain ⟨z, hz⟩ : ∃ z, z = n + 719468 := ⟨_, rfl⟩
  obtain ⟨era, hera⟩ : ∃ x, x = z / 146097 := ⟨_, rfl⟩
  obtain ⟨doe, hdoe⟩ : ∃ x, x = doeD n := ⟨_, rfl⟩
  obtain ⟨yo, hof⟩ : ∃ x, x = ofD n := ⟨_, rfl⟩
  obtain ⟨doy, hdoy⟩ : ∃ x, x = doyD n := ⟨_, rfl⟩
  obtain ⟨mp, hmp⟩ : ∃ x, x = mpD n := ⟨_, rfl⟩
  have k1 : doe = z % 146097 := by rw [hdoe, hz]; rfl
  have k2 : yo = (doe - doe / 1460 + doe / 36524 - doe / 146096) / 365 := by rw [hof, hdoe]; rfl
  have k3 : doy = doe - (365 * yo + yo / 4 - yo / 100) := by rw [hdoy, hdoe, hof]; rfl
  have k4 : mp = (5 * doy + 2) / 153 := by rw [hmp, hdoy]; rfl
  have k5 : monD n = (mp + 2) % 12 + 1 := by rw [hmp]; rfl
  have k6 : dayD n = doy - (153 * mp + 2) / 5 + 1 := by rw [hmp, hdoy]; rfl
  have k7 : yearD n = era * 400 + yo + (if monD n ≤ 2 then 1 else 0) := by rw [hera, hz, hof]; rfl
  rw [← hdoe] at a1 a2
  rw [← hof] at b1 b2
  rw [← hdoy] at c1 c2
  rw [← hmp] at d1 d2
  obtain ⟨mo, hmo⟩ : ∃ x, x = monD n := ⟨_, rfl⟩
  obtain ⟨da, hda⟩ : ∃ x, x = dayD n := ⟨_, rfl⟩
  obtain ⟨ye, hye⟩ : ∃ x, x = yearD n := ⟨_, rfl⟩
  rw [← hmo] at k5 k7 e1 e2
  rw [← hda] at k6 f1 f2
  rw [← hye] at k7
  rw [← hmo, ← hda, ← hye]
  have hz0 : 719468 ≤ z ∧ z ≤ 3652364 := by omega
  obtain ⟨z0, z1⟩ := hz0
  have r0 : 0 ≤ era ∧ era ≤ 30 := by omega
  obtain ⟨r0, r1⟩ := r0
  have K1 := Lib.hid k1
  have K2 := Lib.hid k2
  have K3 := Lib.hid k3
  have K4 := Lib.hid k4
  have K5 := Lib.hid k5
  have K6 := Lib.hid k6
  have K7 := Lib.hid k7
  have HZ := Lib.hid hz
  have HR := Lib.hid hera
  clear k1 k2 k3 k4 k5 k6 k7 hz hera hdoe hof hdoy hmp hmo hda hye
  go_enter Tryz.func134, Tryz.ntmps134
  go_upto_region 1 with (fail)
  go_cut [0] (fun v wx => v = .int .i64 z ∧ w = wx)
  case first =>
    go_wp2
    go_meet
    exact ⟨by rw [HZ.out], rfl⟩
  case rest =>
    obtain ⟨rfl, hw⟩ := hcut
    subst hw
    clear h0 h1 HZ
    go_upto_region 2 with (fail)
    go_cut [5, 6] (fun v5 v6 wx => v5 = .int .i64 era ∧ v6 = .int .i64 doe ∧ w = wx)
    case first =>
      go_wp2
      go_meet
      exact ⟨by rw [HR.out], by rw [K1.out], rfl⟩
    case rest =>
      obtain ⟨rfl, rfl, hw⟩ := hcut
      subst hw
      go_upto_region 3 with (fail)
      go_cut [7] (fun v wx => v = .int .i64 yo ∧ w = wx)
      case first =>
        go_wp2
        go_meet
        exact ⟨by rw [K2.out], rfl⟩
      case rest =>
        obtain ⟨rfl, hw⟩ := hcut
        subst hw
        go_upto_region 4 with (fail)
        go_cut [8] (fun v wx => v = .int .i64 doy ∧ w = wx)
        case first =>
          go_wp2
          go_meet
          exact ⟨by rw [K3.out], rfl⟩
        case rest =>
          obtain ⟨rfl, hw⟩ := hcut
          subst hw
          go_upto_region 5 with (fail)
          go_cut [9] (fun v wx => v = .int .i64 mp ∧ w = wx)
          case first =>
            go_wp2
            go_meet
            exact ⟨by rw [K4.out], rfl⟩
          case rest =>
            obtain ⟨rfl, hw⟩ := hcut
            subst hw
            go_upto_region 6 with (fail)
            go_cut [2, 3, 4] (fun v2 v3 v4 wx => v2 = .int .i64 (era * 400 + yo) ∧ v3 = .int .i64 mo ∧ v4 = .int .i64 da ∧ w = wx)
            case first =>
              have hp : (0 : Int) ≤ 153 * mp + 2 := by omega
              have hp2 : (0 : Int) ≤ mp + 2 := by omega
              go_wp2
              go_meet
              exact ⟨rfl, by rw [K5.out], by rw [K6.out], rfl⟩
            case rest =>
              obtain ⟨rfl, rfl, rfl, hw⟩ := hcut
              subst hw
              by_cases hm2 : mo ≤ 2
              · have HV := Lib.hid (show ye = era * 400 + yo + 1 from by rw [K7.out, if_pos hm2])
                go_wp2
                refine bodyPost_ret (v := .tuple #[.int .i64 (era * 400 + yo + 1), .int .i64 mo, .int .i64 da]) (by simp [results, Tryz.results134, go_sem]) rfl ?_
                exact ⟨by rw [HV.out], rfl⟩
              · have HV := Lib.hid (show ye = era * 400 + yo from by rw [K7.out, if_neg hm2, Int.add_zero])
                go_wp2
                refine bodyPost_ret (v := .tuple #[.int .i64 (era * 400 + yo), .int .i64 mo, .int .i64 da]) (by simp [results, Tryz.results134, go_sem]) rfl ?_
                exact ⟨by rw [HV.out], rfl⟩
end Go.Proofs.YtemdgilifnhdpaaGreatDoor
end

section
namespace Go.Proofs.YtemdgilifnhdpaaGreatDoor
open Go.RowKit

def hourD (n : Int) : Int := n % 86400 / 3600
def minD (n : Int) : Int := n % 3600 / 60
def secD (n : Int) : Int := n % 60
def wdayD (n : Int) : Int := (n / 86400 + 4) % 7
def dateV (n : Int) : Value := .agg #[.int .i64 (yearD (n / 86400)), .int .i64 (monD (n / 86400)), .int .i64 (dayD (n / 86400)), .int .i64 (hourD n), .int .i64 (minD n), .int .i64 (secD n), .int .i64 (wdayD n)]
set_option maxRecDepth 100000 in
set_option maxHeartbeats 4000000 in
theorem daSplit_c (n : Int) (h0 : 0 ≤ n) (h1 : n ≤ 253402300799) (w : World) : Calls Tryz.prog 99 #[.int .i64 n] w (Gives (.tuple #[dateV n, .int .i64 0]) w) := by
  have CC := Lib.hid (fun w => daCivil_c (n / 86400) (by omega) (by omega) w)
  obtain ⟨y, hy⟩ : ∃ x, x = yearD (n / 86400) := ⟨_, rfl⟩
  obtain ⟨mo, hmo⟩ : ∃ x, x = monD (n / 86400) := ⟨_, rfl⟩
  obtain ⟨da, hda⟩ : ∃ x, x = dayD (n / 86400) := ⟨_, rfl⟩
  unfold dateV
  rw [← hy, ← hmo, ← hda] at CC ⊢
  clear hy hmo hda
  go_enter Tryz.func99, Tryz.ntmps99
  go_wp2_with (go_at_call 134; refine (CC.out _).mono ?_; rintro e w1 ⟨rfl, hw⟩; subst hw)
  refine bodyPost_ret (v := .tuple #[.agg #[.int .i64 y, .int .i64 mo, .int .i64 da, .int .i64 (n % 86400 / 3600), .int .i64 (n % 3600 / 60), .int .i64 (n % 60), .int .i64 ((n / 86400 + 4) % 7)], .int .i64 0]) (by simp [results, Tryz.results99, go_sem]) rfl ?_
  exact ⟨rfl, by (repeat (first | exact Ext.rfl' _ | assumption | refine Ext.dr ?_ | refine Ext.drN ?_ _ | refine Ext.al ?_ _ | refine Ext.st ?_ (by simp) _ | refine Ext.tr ?_ (by assumption)))⟩
def weekT : List (List UInt8) := [[83, 117, 110, 100, 97, 121], [77, 111, 110, 100, 97, 121], [84, 117, 101, 115, 100, 97, 121], [87, 101, 100, 110, 101, 115, 100, 97, 121], [84, 104, 117, 114, 115, 100, 97, 121], [70, 114, 105, 100, 97, 121], [83, 97, 116, 117, 114, 100, 97, 121]]
def monT : List (List UInt8) := [[74, 97, 110], [70, 101, 98], [77, 97, 114], [65, 112, 114], [77, 97, 121], [74, 117, 110], [74, 117, 108], [65, 117, 103], [83, 101, 112], [79, 99, 116], [78, 111, 118], [68, 101, 99]]
set_option maxRecDepth 100000 in
set_option maxHeartbeats 4000000 in
theorem daWeek_c (w : World) : Calls Tryz.prog 135 #[] w (Gives (.agg #[.string ⟨#[83, 117, 110, 100, 97, 121]⟩, .string ⟨#[77, 111, 110, 100, 97, 121]⟩, .string ⟨#[84, 117, 101, 115, 100, 97, 121]⟩, .string ⟨#[87, 101, 100, 110, 101, 115, 100, 97, 121]⟩, .string ⟨#[84, 104, 117, 114, 115, 100, 97, 121]⟩, .string ⟨#[70, 114, 105, 100, 97, 121]⟩, .string ⟨#[83, 97, 116, 117, 114, 100, 97, 121]⟩]) w) := by
  go_enter Tryz.func135, Tryz.ntmps135
  go_wp2
  refine bodyPost_ret (v := .agg #[.string ⟨#[83, 117, 110, 100, 97, 121]⟩, .string ⟨#[77, 111, 110, 100, 97, 121]⟩, .string ⟨#[84, 117, 101, 115, 100, 97, 121]⟩, .string ⟨#[87, 101, 100, 110, 101, 115, 100, 97, 121]⟩, .string ⟨#[84, 104, 117, 114, 115, 100, 97, 121]⟩, .string ⟨#[70, 114, 105, 100, 97, 121]⟩, .string ⟨#[83, 97, 116, 117, 114, 100, 97, 121]⟩]) (by simp [results, Tryz.results135, go_sem]) rfl ?_
  exact ⟨rfl, by (repeat (first | exact Ext.rfl' _ | assumption | refine Ext.dr ?_ | refine Ext.drN ?_ _ | refine Ext.al ?_ _ | refine Ext.st ?_ (by simp) _ | refine Ext.tr ?_ (by assumption)))⟩
set_option maxRecDepth 100000 in
set_option maxHeartbeats 4000000 in
theorem daMonths_c (w : World) : Calls Tryz.prog 136 #[] w (Gives (.agg #[.string ⟨#[74, 97, 110]⟩, .string ⟨#[70, 101, 98]⟩, .string ⟨#[77, 97, 114]⟩, .string ⟨#[65, 112, 114]⟩, .string ⟨#[77, 97, 121]⟩, .string ⟨#[74, 117, 110]⟩, .string ⟨#[74, 117, 108]⟩, .string ⟨#[65, 117, 103]⟩, .string ⟨#[83, 101, 112]⟩, .string ⟨#[79, 99, 116]⟩, .string ⟨#[78, 111, 118]⟩, .string ⟨#[68, 101, 99]⟩]) w) := by
  go_enter Tryz.func136, Tryz.ntmps136
  go_wp2
  refine bodyPost_ret (v := .agg #[.string ⟨#[74, 97, 110]⟩, .string ⟨#[70, 101, 98]⟩, .string ⟨#[77, 97, 114]⟩, .string ⟨#[65, 112, 114]⟩, .string ⟨#[77, 97, 121]⟩, .string ⟨#[74, 117, 110]⟩, .string ⟨#[74, 117, 108]⟩, .string ⟨#[65, 117, 103]⟩, .string ⟨#[83, 101, 112]⟩, .string ⟨#[79, 99, 116]⟩, .string ⟨#[78, 111, 118]⟩, .string ⟨#[68, 101, 99]⟩]) (by simp [results, Tryz.results136, go_sem]) rfl ?_
  exact ⟨rfl, by (repeat (first | exact Ext.rfl' _ | assumption | refine Ext.dr ?_ | refine Ext.drN ?_ _ | refine Ext.al ?_ _ | refine Ext.st ?_ (by simp) _ | refine Ext.tr ?_ (by assumption)))⟩
def clockL (h m s : Nat) : List UInt8 := digD 2 h ++ [58] ++ digD 2 m ++ [58] ++ digD 2 s
theorem catD {P : Program} (l m : List UInt8) (h : l.length + m.length ≤ 140737488355328) (w : World) : (Op.stringOp .add (str l) (str m)).run P w = .ok (.string (str (l ++ m))) w := by
  rw [cat_ok _ _ (by rw [str_size, str_size]; omega)]; simp
set_option maxRecDepth 100000 in
set_option maxHeartbeats 4000000 in
theorem daClock_c (y mo d wd : Int) (h m s : Nat) (hh : h ≤ 100) (hm : m ≤ 100) (hs : s ≤ 100) (w : World) : Calls Tryz.prog 138 #[.agg #[.int .i64 y, .int .i64 mo, .int .i64 d, .int .i64 (h : Int), .int .i64 (m : Int), .int .i64 (s : Int), .int .i64 wd]] w (Gives (.string (str (clockL h m s))) w) := by
  obtain ⟨s1, e1⟩ : ∃ x, x = str (digD 2 h) := ⟨_, rfl⟩
  obtain ⟨s2, e2⟩ : ∃ x, x = str (digD 2 h ++ [58]) := ⟨_, rfl⟩
  obtain ⟨s3, e3⟩ : ∃ x, x = str (digD 2 m) := ⟨_, rfl⟩
  obtain ⟨s4, e4⟩ : ∃ x, x = str (digD 2 h ++ [58] ++ digD 2 m) := ⟨_, rfl⟩
  obtain ⟨s5, e5⟩ : ∃ x, x = str (digD 2 h ++ [58] ++ digD 2 m ++ [58]) := ⟨_, rfl⟩
  obtain ⟨s6, e6⟩ : ∃ x, x = str (digD 2 s) := ⟨_, rfl⟩
  obtain ⟨s7, e7⟩ : ∃ x, x = str (clockL h m s) := ⟨_, rfl⟩
  have c1 : ∀ w, (Op.stringOp .add s1 ⟨#[58]⟩).run Tryz.prog w = .ok (.string s2) w := fun w => by rw [e1, e2]; exact catD _ [58] (by simp [digD_len]) w
  have c2 : ∀ w, (Op.stringOp .add s2 s3).run Tryz.prog w = .ok (.string s4) w := fun w => by rw [e2, e3, e4]; exact catD _ _ (by simp [digD_len]) w
  have c3 : ∀ w, (Op.stringOp .add s4 ⟨#[58]⟩).run Tryz.prog w = .ok (.string s5) w := fun w => by rw [e4, e5]; exact catD _ [58] (by simp [digD_len]) w
  have c4 : ∀ w, (Op.stringOp .add s5 s6).run Tryz.prog w = .ok (.string s7) w := fun w => by rw [e5, e6, e7]; exact catD _ _ (by simp [digD_len]) w
  have C1 := fun w => daDigits_c h 2 (by decide) (by decide) (by omega) w
  have C2 := fun w => daDigits_c m 2 (by decide) (by decide) (by omega) w
  have C3 := fun w => daDigits_c s 2 (by decide) (by decide) (by omega) w
  rw [← e1] at C1
  rw [← e3] at C2
  rw [← e6] at C3
  rw [← e7]
  have C1 := Lib.hid (fun w => (C1 w : Calls Tryz.prog 137 #[.int .i64 (h : Int), .int .i64 2, .int .u8 48] w (Gives (.string s1) w)))
  have C2 := Lib.hid (fun w => (C2 w : Calls Tryz.prog 137 #[.int .i64 (m : Int), .int .i64 2, .int .u8 48] w (Gives (.string s3) w)))
  have C3 := Lib.hid (fun w => (C3 w : Calls Tryz.prog 137 #[.int .i64 (s : Int), .int .i64 2, .int .u8 48] w (Gives (.string s6) w)))
  clear e1 e2 e3 e4 e5 e6 e7 hh hm hs
  go_enter Tryz.func138, Tryz.ntmps138
  go_upto_region 1 with (fail)
  obtain ⟨Wb, hWb⟩ : ∃ W, W = w.alloc (.cells #[.int .i64 y, .int .i64 mo, .int .i64 d, .int .i64 (h : Int), .int .i64 (m : Int), .int .i64 (s : Int), .int .i64 wd] 169) := ⟨_, rfl⟩
  rw [← hWb]
  have hxb : Ext w Wb := by rw [hWb]; (repeat (first | exact Ext.rfl' _ | assumption | refine Ext.dr ?_ | refine Ext.drN ?_ _ | refine Ext.al ?_ _ | refine Ext.st ?_ (by simp) _ | refine Ext.tr ?_ (by assumption)))
  have hrow : Wb.heap[w.heap.size]? = some (.cells #[.int .i64 y, .int .i64 mo, .int .i64 d, .int .i64 (h : Int), .int .i64 (m : Int), .int .i64 (s : Int), .int .i64 wd] 169 (0, 0)) := by rw [hWb]; exact heap_alloc_new w _
  have hks := Lib.hid (fun w' (e : Ext Wb w') => (show w'.cell? ⟨w.heap.size, 3, none⟩ = some (.int .i64 (h : Int)) ∧ w'.cell? ⟨w.heap.size, 4, none⟩ = some (.int .i64 (m : Int)) ∧ w'.cell? ⟨w.heap.size, 5, none⟩ = some (.int .i64 (s : Int)) from by
    have h := (e.block w.heap.size (row_lt hrow)).trans hrow
    exact ⟨(row_facts h 3 _ rfl).1, (row_facts h 4 _ rfl).1, (row_facts h 5 _ rfl).1⟩))
  have HXB := Lib.hid hxb
  clear hWb hxb hrow
  go_region_held3 (fun w' => w'.cell? ⟨w.heap.size, 3, none⟩ = some (.int .i64 (h : Int)) ∧ w'.cell? ⟨w.heap.size, 4, none⟩ = some (.int .i64 (m : Int)) ∧ w'.cell? ⟨w.heap.size, 5, none⟩ = some (.int .i64 (s : Int))) (exact hks.out _ (by (repeat (first | exact Ext.rfl' _ | assumption | refine Ext.dr ?_ | refine Ext.al ?_ _ | refine Ext.st ?_ (by simp) _ | refine Ext.tr ?_ (by assumption))))) (first
    | (go_at_call 137; refine (C1.out _).mono ?_; clear C1; rintro e w2 ⟨rfl, hx2⟩)
    | (go_at_call 137; refine (C2.out _).mono ?_; clear C2; rintro e w3 ⟨rfl, hx3⟩)
    | (go_at_call 137; refine (C3.out _).mono ?_; rintro e w4 ⟨rfl, hx4⟩))
  all_goals (
    go_wp2
    go_ret
    exact ⟨rfl, HXB.out.tr (by (repeat (first | exact Ext.rfl' _ | assumption | refine Ext.dr ?_ | refine Ext.drN ?_ _ | refine Ext.al ?_ _ | refine Ext.st ?_ (by simp) _ | refine Ext.tr ?_ (by assumption))))⟩)
end Go.Proofs.YtemdgilifnhdpaaGreatDoor
end

section
namespace Go.Proofs.YtemdgilifnhdpaaGreatDoor
open Go.RowKit

theorem run_idx_arrD {P : Program} {t e : TypeId} {n : Nat} {cs : Array Value} {k : IntKind} {i : Int} {v : Value} (h : P.underlying t = some (.array n e)) (ha : ∀ w, (isAgg e).run P w = .ok false w) (hs : ∀ w, (Go.sizeOf e).run P w = .ok 1 w) (h0 : 0 ≤ i) (h1 : i < (n : Int)) (hv : cs[i.toNat]? = some v) (w : World) :
    (Instr.index t (.agg cs) (.int k i)).run P w = .ok v w := by
  simp [Instr.index, run_underlying h, asIntOf, h0, h1, go_sem, part, ha, hs, hv]
def weekL (wd : Nat) : List UInt8 := weekT.getD wd []
def monL (m : Nat) : List UInt8 := monT.getD (m - 1) []
def formL (y mo d h m s wd : Nat) : List UInt8 := (weekL wd).take 3 ++ [44, 32] ++ digD 2 d ++ [32] ++ monL mo ++ [32] ++ digD 4 y ++ [32] ++ clockL h m s ++ [32, 71, 77, 84]
theorem week_at : ∀ wd, wd < 7 → (#[.string ⟨#[83, 117, 110, 100, 97, 121]⟩, .string ⟨#[77, 111, 110, 100, 97, 121]⟩, .string ⟨#[84, 117, 101, 115, 100, 97, 121]⟩, .string ⟨#[87, 101, 100, 110, 101, 115, 100, 97, 121]⟩, .string ⟨#[84, 104, 117, 114, 115, 100, 97, 121]⟩, .string ⟨#[70, 114, 105, 100, 97, 121]⟩, .string ⟨#[83, 97, 116, 117, 114, 100, 97, 121]⟩] : Array Value)[((wd : Nat) : Int).toNat]? = some (.string (str (weekL wd))) ∧ (str (weekL wd)).extract 0 3 = str ((weekL wd).take 3) ∧ 6 ≤ (weekL wd).length ∧ (weekL wd).length ≤ 9 := by
  intro wd h
  have : wd = 0 ∨ wd = 1 ∨ wd = 2 ∨ wd = 3 ∨ wd = 4 ∨ wd = 5 ∨ wd = 6 := by omega
  rcases this with rfl | rfl | rfl | rfl | rfl | rfl | rfl <;> exact ⟨rfl, by rfl, by decide, by decide⟩
theorem mon_at : ∀ m, 1 ≤ m → m ≤ 12 → (#[.string ⟨#[74, 97, 110]⟩, .string ⟨#[70, 101, 98]⟩, .string ⟨#[77, 97, 114]⟩, .string ⟨#[65, 112, 114]⟩, .string ⟨#[77, 97, 121]⟩, .string ⟨#[74, 117, 110]⟩, .string ⟨#[74, 117, 108]⟩, .string ⟨#[65, 117, 103]⟩, .string ⟨#[83, 101, 112]⟩, .string ⟨#[79, 99, 116]⟩, .string ⟨#[78, 111, 118]⟩, .string ⟨#[68, 101, 99]⟩] : Array Value)[((m : Nat) : Int).toNat - 1]? = some (.string (str (monL m))) ∧ (monL m).length = 3 := by
  intro m h h2
  have : m = 1 ∨ m = 2 ∨ m = 3 ∨ m = 4 ∨ m = 5 ∨ m = 6 ∨ m = 7 ∨ m = 8 ∨ m = 9 ∨ m = 10 ∨ m = 11 ∨ m = 12 := by omega
  rcases this with rfl | rfl | rfl | rfl | rfl | rfl | rfl | rfl | rfl | rfl | rfl | rfl <;> exact ⟨rfl, by decide⟩
set_option maxRecDepth 100000 in
set_option maxHeartbeats 4000000 in
theorem daForm_c (y mo d h m s wd : Nat) (hy : y ≤ 1000000) (hmo : 1 ≤ mo ∧ mo ≤ 12) (hd : d ≤ 100) (hh : h ≤ 100) (hm : m ≤ 100) (hs : s ≤ 100) (hwd : wd < 7) (w : World) : Calls Tryz.prog 100 #[.agg #[.int .i64 (y : Int), .int .i64 (mo : Int), .int .i64 (d : Int), .int .i64 (h : Int), .int .i64 (m : Int), .int .i64 (s : Int), .int .i64 (wd : Int)], .int .i64 0] w (Gives (.string (str (formL y mo d h m s wd))) w) := by
  obtain ⟨w1, w2, w3, w4⟩ := week_at wd hwd
  obtain ⟨m1, m2⟩ := mon_at mo hmo.1 hmo.2
  obtain ⟨WV, hWV⟩ : ∃ v, v = Value.agg #[.string ⟨#[83, 117, 110, 100, 97, 121]⟩, .string ⟨#[77, 111, 110, 100, 97, 121]⟩, .string ⟨#[84, 117, 101, 115, 100, 97, 121]⟩, .string ⟨#[87, 101, 100, 110, 101, 115, 100, 97, 121]⟩, .string ⟨#[84, 104, 117, 114, 115, 100, 97, 121]⟩, .string ⟨#[70, 114, 105, 100, 97, 121]⟩, .string ⟨#[83, 97, 116, 117, 114, 100, 97, 121]⟩] := ⟨_, rfl⟩
  obtain ⟨MV, hMV⟩ : ∃ v, v = Value.agg #[.string ⟨#[74, 97, 110]⟩, .string ⟨#[70, 101, 98]⟩, .string ⟨#[77, 97, 114]⟩, .string ⟨#[65, 112, 114]⟩, .string ⟨#[77, 97, 121]⟩, .string ⟨#[74, 117, 110]⟩, .string ⟨#[74, 117, 108]⟩, .string ⟨#[65, 117, 103]⟩, .string ⟨#[83, 101, 112]⟩, .string ⟨#[79, 99, 116]⟩, .string ⟨#[78, 111, 118]⟩, .string ⟨#[68, 101, 99]⟩] := ⟨_, rfl⟩
  have CW := daWeek_c
  have CM := daMonths_c
  rw [← hWV] at CW
  rw [← hMV] at CM
  have CW := Lib.hid CW
  have CM := Lib.hid CM
  obtain ⟨sw, hsw⟩ : ∃ x, x = str (weekL wd) := ⟨_, rfl⟩
  obtain ⟨sm, hsm⟩ : ∃ x, x = str (monL mo) := ⟨_, rfl⟩
  have ixw : ∀ w, (Instr.index 215 WV (.int .i64 (wd : Int))).run Tryz.prog w = .ok (.string sw) w := fun w => by rw [hWV, hsw]; exact run_idx_arrD (e := 9) Tryz.underlying215 (fun _ => by rfl) (fun _ => by rfl) (by omega) (by omega) w1 w
  have ixm : ∀ w, (Instr.index 217 MV (.int .i64 ((mo : Int) - 1))).run Tryz.prog w = .ok (.string sm) w := fun w => by rw [hMV, hsm]; exact run_idx_arrD (e := 9) Tryz.underlying217 (fun _ => by rfl) (fun _ => by rfl) (by omega) (by omega) (by rw [show ((mo : Int) - 1).toNat = ((mo : Nat) : Int).toNat - 1 from by omega]; exact m1) w
  clear hWV hMV
  go_enter Tryz.func100, Tryz.ntmps100
  go_upto_region 1 with (fail)
  obtain ⟨Wb, hWb⟩ : ∃ W, W = w.alloc (.cells #[.int .i64 (y : Int), .int .i64 (mo : Int), .int .i64 (d : Int), .int .i64 (h : Int), .int .i64 (m : Int), .int .i64 (s : Int), .int .i64 (wd : Int)] 169) := ⟨_, rfl⟩
  rw [← hWb]
  have hxb : Ext w Wb := by rw [hWb]; (repeat (first | exact Ext.rfl' _ | assumption | refine Ext.dr ?_ | refine Ext.drN ?_ _ | refine Ext.al ?_ _ | refine Ext.st ?_ (by simp) _ | refine Ext.tr ?_ (by assumption)))
  have hrow : Wb.heap[w.heap.size]? = some (.cells #[.int .i64 (y : Int), .int .i64 (mo : Int), .int .i64 (d : Int), .int .i64 (h : Int), .int .i64 (m : Int), .int .i64 (s : Int), .int .i64 (wd : Int)] 169 (0, 0)) := by rw [hWb]; exact heap_alloc_new w _
  have HROW := Lib.hid hrow
  have hks := Lib.hid (fun w' (e : Ext Wb w') => (show w'.cell? ⟨w.heap.size, 1, none⟩ = some (.int .i64 (mo : Int)) ∧ w'.cell? ⟨w.heap.size, 6, none⟩ = some (.int .i64 (wd : Int)) from by
    have h := (e.block w.heap.size (row_lt hrow)).trans hrow
    exact ⟨(row_facts h 1 _ rfl).1, (row_facts h 6 _ rfl).1⟩))
  have HXB := Lib.hid hxb
  have k1 : IntKind.i64.wrap ((mo : Int) - 1) = (mo : Int) - 1 := by rw [IntKind.wrap_i64]; omega
  clear hWb hxb hrow w1 m1
  go_cut [5, 6] (fun v5 v6 wx => v5 = .string sw ∧ v6 = .string sm ∧ Ext Wb wx)
  case first =>
    go_region_held3 (fun w' => w'.cell? ⟨w.heap.size, 1, none⟩ = some (.int .i64 (mo : Int)) ∧ w'.cell? ⟨w.heap.size, 6, none⟩ = some (.int .i64 (wd : Int))) (exact hks.out _ (by (repeat (first | exact Ext.rfl' _ | assumption | refine Ext.dr ?_ | refine Ext.al ?_ _ | refine Ext.st ?_ (by simp) _ | refine Ext.tr ?_ (by assumption))))) (first
      | (go_at_call 135; refine (CW.out _).mono ?_; rintro e w2 ⟨rfl, hx2⟩)
      | (go_at_call 136; refine (CM.out _).mono ?_; rintro e w3 ⟨rfl, hx3⟩))
    all_goals (go_wp2_with fail; go_meet)
    all_goals exact ⟨by first | rfl | rw [hsw], by first | rfl | rw [hsm], by (repeat (first | exact Ext.rfl' _ | assumption | refine Ext.dr ?_ | refine Ext.drN ?_ _ | refine Ext.al ?_ _ | refine Ext.st ?_ (by simp) _ | refine Ext.tr ?_ (by assumption)))⟩
  case rest =>
    obtain ⟨rfl, rfl, hx⟩ := hcut
    have HX := Lib.hid hx
    obtain ⟨s3, e3⟩ : ∃ x, x = str ((weekL wd).take 3) := ⟨_, rfl⟩
    obtain ⟨sdd, edd⟩ : ∃ x, x = str (digD 2 d) := ⟨_, rfl⟩
    obtain ⟨syy, eyy⟩ : ∃ x, x = str (digD 4 y) := ⟨_, rfl⟩
    obtain ⟨scl, ecl⟩ : ∃ x, x = str (clockL h m s) := ⟨_, rfl⟩
    have hcl : (clockL h m s).length = 8 := by unfold clockL; simp [digD_len]
    have hw3 : ((weekL wd).take 3).length = 3 := by rw [List.length_take]; omega
    have hex : sw.extract 0 3 = s3 := by rw [hsw, e3]; exact w2
    have hsz : (3 : Int) ≤ (sw.size : Int) := by rw [hsw, str_size]; omega
    obtain ⟨t1, f1⟩ : ∃ x, x = str ((weekL wd).take 3 ++ [44, 32]) := ⟨_, rfl⟩
    have c1 : ∀ w, (Op.stringOp .add s3 ⟨#[44, 32]⟩).run Tryz.prog w = .ok (.string t1) w := fun w => by rw [e3, f1]; exact catD _ [44, 32] (by simp [digD_len, m2, hcl, hw3]) w
    obtain ⟨t2, f2⟩ : ∃ x, x = str ((weekL wd).take 3 ++ [44, 32] ++ digD 2 d) := ⟨_, rfl⟩
    have c2 : ∀ w, (Op.stringOp .add t1 sdd).run Tryz.prog w = .ok (.string t2) w := fun w => by rw [f1, edd, f2]; exact catD _ _ (by simp [digD_len, m2, hcl, hw3]) w
    obtain ⟨t3, f3⟩ : ∃ x, x = str ((weekL wd).take 3 ++ [44, 32] ++ digD 2 d ++ [32]) := ⟨_, rfl⟩
    have c3 : ∀ w, (Op.stringOp .add t2 ⟨#[32]⟩).run Tryz.prog w = .ok (.string t3) w := fun w => by rw [f2, f3]; exact catD _ [32] (by simp [digD_len, m2, hcl, hw3]) w
    obtain ⟨t4, f4⟩ : ∃ x, x = str ((weekL wd).take 3 ++ [44, 32] ++ digD 2 d ++ [32] ++ monL mo) := ⟨_, rfl⟩
    have c4 : ∀ w, (Op.stringOp .add t3 sm).run Tryz.prog w = .ok (.string t4) w := fun w => by rw [f3, hsm, f4]; exact catD _ _ (by simp [digD_len, m2, hcl, hw3]) w
    obtain ⟨t5, f5⟩ : ∃ x, x = str ((weekL wd).take 3 ++ [44, 32] ++ digD 2 d ++ [32] ++ monL mo ++ [32]) := ⟨_, rfl⟩
    have c5 : ∀ w, (Op.stringOp .add t4 ⟨#[32]⟩).run Tryz.prog w = .ok (.string t5) w := fun w => by rw [f4, f5]; exact catD _ [32] (by simp [digD_len, m2, hcl, hw3]) w
    obtain ⟨t6, f6⟩ : ∃ x, x = str ((weekL wd).take 3 ++ [44, 32] ++ digD 2 d ++ [32] ++ monL mo ++ [32] ++ digD 4 y) := ⟨_, rfl⟩
    have c6 : ∀ w, (Op.stringOp .add t5 syy).run Tryz.prog w = .ok (.string t6) w := fun w => by rw [f5, eyy, f6]; exact catD _ _ (by simp [digD_len, m2, hcl, hw3]) w
    obtain ⟨t7, f7⟩ : ∃ x, x = str ((weekL wd).take 3 ++ [44, 32] ++ digD 2 d ++ [32] ++ monL mo ++ [32] ++ digD 4 y ++ [32]) := ⟨_, rfl⟩
    have c7 : ∀ w, (Op.stringOp .add t6 ⟨#[32]⟩).run Tryz.prog w = .ok (.string t7) w := fun w => by rw [f6, f7]; exact catD _ [32] (by simp [digD_len, m2, hcl, hw3]) w
    obtain ⟨t8, f8⟩ : ∃ x, x = str ((weekL wd).take 3 ++ [44, 32] ++ digD 2 d ++ [32] ++ monL mo ++ [32] ++ digD 4 y ++ [32] ++ clockL h m s) := ⟨_, rfl⟩
    have c8 : ∀ w, (Op.stringOp .add t7 scl).run Tryz.prog w = .ok (.string t8) w := fun w => by rw [f7, ecl, f8]; exact catD _ _ (by simp [digD_len, m2, hcl, hw3]) w
    obtain ⟨t9, f9⟩ : ∃ x, x = str ((weekL wd).take 3 ++ [44, 32] ++ digD 2 d ++ [32] ++ monL mo ++ [32] ++ digD 4 y ++ [32] ++ clockL h m s ++ [32, 71, 77, 84]) := ⟨_, rfl⟩
    have c9 : ∀ w, (Op.stringOp .add t8 ⟨#[32, 71, 77, 84]⟩).run Tryz.prog w = .ok (.string t9) w := fun w => by rw [f8, f9]; exact catD _ [32, 71, 77, 84] (by simp [digD_len, m2, hcl, hw3]) w
    have HR := Lib.hid (show t9 = str (formL y mo d h m s wd) from f9)
    have C1 := fun w => daDigits_c d 2 (by decide) (by decide) (by omega) w
    have C2 := fun w => daDigits_c y 4 (by decide) (by decide) (by omega) w
    have C3 := fun w => daClock_c (y : Int) (mo : Int) (d : Int) (wd : Int) h m s hh hm hs w
    rw [← edd] at C1
    rw [← eyy] at C2
    rw [← ecl] at C3
    have C1 := Lib.hid (fun w => (C1 w : Calls Tryz.prog 137 #[.int .i64 (d : Int), .int .i64 2, .int .u8 48] w (Gives (.string sdd) w)))
    have C2 := Lib.hid (fun w => (C2 w : Calls Tryz.prog 137 #[.int .i64 (y : Int), .int .i64 4, .int .u8 48] w (Gives (.string syy) w)))
    have C3 := Lib.hid C3
    clear hks
    have hks := Lib.hid (fun w' (e : Ext Wb w') => (show (w'.cell? ⟨w.heap.size, 0, none⟩ = some (.int .i64 (y : Int)) ∧ w'.cell? ⟨w.heap.size, 1, none⟩ = some (.int .i64 (mo : Int)) ∧ w'.cell? ⟨w.heap.size, 2, none⟩ = some (.int .i64 (d : Int)) ∧ w'.cell? ⟨w.heap.size, 3, none⟩ = some (.int .i64 (h : Int)) ∧ w'.cell? ⟨w.heap.size, 4, none⟩ = some (.int .i64 (m : Int)) ∧ w'.cell? ⟨w.heap.size, 5, none⟩ = some (.int .i64 (s : Int)) ∧ w'.cell? ⟨w.heap.size, 6, none⟩ = some (.int .i64 (wd : Int))) from by
      have h := (e.block w.heap.size (row_lt HROW.out)).trans HROW.out
      exact ⟨(row_facts h 0 _ rfl).1, (row_facts h 1 _ rfl).1, (row_facts h 2 _ rfl).1, (row_facts h 3 _ rfl).1, (row_facts h 4 _ rfl).1, (row_facts h 5 _ rfl).1, (row_facts h 6 _ rfl).1⟩))
    clear hx hsw hsm e3 edd eyy ecl CW CM ixw ixm w2 w3 w4 m2 hcl hw3 hh hm hs hd hy hmo hwd f1 f2 f3 f4 f5 f6 f7 f8 f9
    go_upto_region 4 with (fail)
    go_region_held3 (fun w' => w'.cell? ⟨w.heap.size, 0, none⟩ = some (.int .i64 (y : Int)) ∧ w'.cell? ⟨w.heap.size, 1, none⟩ = some (.int .i64 (mo : Int)) ∧ w'.cell? ⟨w.heap.size, 2, none⟩ = some (.int .i64 (d : Int)) ∧ w'.cell? ⟨w.heap.size, 3, none⟩ = some (.int .i64 (h : Int)) ∧ w'.cell? ⟨w.heap.size, 4, none⟩ = some (.int .i64 (m : Int)) ∧ w'.cell? ⟨w.heap.size, 5, none⟩ = some (.int .i64 (s : Int)) ∧ w'.cell? ⟨w.heap.size, 6, none⟩ = some (.int .i64 (wd : Int))) (exact hks.out _ (Ext.tr HX.out (by (repeat (first | exact Ext.rfl' _ | assumption | refine Ext.dr ?_ | refine Ext.al ?_ _ | refine Ext.st ?_ (by simp) _ | refine Ext.tr ?_ (by assumption)))))) (first
      | (go_at_call 137; refine (C1.out _).mono ?_; clear C1; rintro e w2 ⟨rfl, hx2⟩)
      | (go_at_call 137; refine (C2.out _).mono ?_; rintro e w3 ⟨rfl, hx3⟩)
      | (go_at_call 138; refine (C3.out _).mono ?_; rintro e w4 ⟨rfl, hx4⟩))
    all_goals (
      go_wp2
      go_ret
      exact ⟨by rw [HR.out]; first | done | rfl, HXB.out.tr (HX.out.tr (by (repeat (first | exact Ext.rfl' _ | assumption | refine Ext.dr ?_ | refine Ext.drN ?_ _ | refine Ext.al ?_ _ | refine Ext.st ?_ (by simp) _ | refine Ext.tr ?_ (by assumption)))))⟩)
end Go.Proofs.YtemdgilifnhdpaaGreatDoor
end

section
namespace Go.Proofs.YtemdgilifnhdpaaGreatDoor
open Go.RowKit

def fmtD (n : Int) : List UInt8 := formL (yearD (n / 86400)).toNat (monD (n / 86400)).toNat (dayD (n / 86400)).toNat (hourD n).toNat (minD n).toNat (secD n).toNat (wdayD n).toNat
set_option maxRecDepth 100000 in
set_option maxHeartbeats 4000000 in
theorem daFormat_c (n : Int) (h0 : 0 ≤ n) (h1 : n ≤ 253402300799) (w : World) : Calls Tryz.prog 69 #[.int .i64 n] w (Gives (.tuple #[.string (str (fmtD n)), .int .i64 0]) w) := by
  obtain ⟨a1, a2, a3, a4, a5, a6⟩ := civ_ok (n / 86400) (by omega) (by omega)
  have hy : ∃ y : Nat, yearD (n / 86400) = (y : Int) ∧ y ≤ 1000000 := ⟨(yearD (n / 86400)).toNat, by unfold yearD; split <;> omega, by unfold yearD; split <;> omega⟩
  have hmo : ∃ y : Nat, monD (n / 86400) = (y : Int) ∧ 1 ≤ y ∧ y ≤ 12 := ⟨(monD (n / 86400)).toNat, by omega, by omega, by omega⟩
  have hd : ∃ y : Nat, dayD (n / 86400) = (y : Int) ∧ y ≤ 100 := ⟨(dayD (n / 86400)).toNat, by omega, by omega⟩
  have hh : ∃ y : Nat, hourD n = (y : Int) ∧ y ≤ 100 := ⟨(hourD n).toNat, by unfold hourD; omega, by unfold hourD; omega⟩
  have hm : ∃ y : Nat, minD n = (y : Int) ∧ y ≤ 100 := ⟨(minD n).toNat, by unfold minD; omega, by unfold minD; omega⟩
  have hs : ∃ y : Nat, secD n = (y : Int) ∧ y ≤ 100 := ⟨(secD n).toNat, by unfold secD; omega, by unfold secD; omega⟩
  have hwd : ∃ y : Nat, wdayD n = (y : Int) ∧ y < 7 := ⟨(wdayD n).toNat, by unfold wdayD; omega, by unfold wdayD; omega⟩
  clear a1 a2 a3 a4 a5 a6
  have CS := daSplit_c n h0 h1
  obtain ⟨y, ey, by_⟩ := hy
  obtain ⟨mo, emo, bmo⟩ := hmo
  obtain ⟨d, ed, bd⟩ := hd
  obtain ⟨h, eh, bh⟩ := hh
  obtain ⟨m, em, bm⟩ := hm
  obtain ⟨s, es, bs⟩ := hs
  obtain ⟨wd, ewd, bwd⟩ := hwd
  unfold dateV at CS
  unfold fmtD
  rw [ey, emo, ed, eh, em, es, ewd] at CS ⊢
  simp only [Int.toNat_natCast]
  have CS := Lib.hid CS
  have CF := Lib.hid (fun w => daForm_c y mo d h m s wd by_ bmo bd bh bm bs bwd w)
  clear ey emo ed eh em es ewd by_ bmo bd bh bm bs bwd h0 h1
  go_enter Tryz.func69, Tryz.ntmps69
  go_wp2_with (first
    | (go_at_call 99; refine (CS.out _).mono ?_; clear CS; rintro e w1 ⟨rfl, hx1⟩)
    | (go_at_call 100; refine (CF.out _).mono ?_; rintro e w2 ⟨rfl, hx2⟩))
  refine bodyPost_ret (v := .tuple #[.string (str (formL y mo d h m s wd)), .int .i64 0]) (by simp [results, Tryz.results69, go_sem]) rfl ?_
  exact ⟨rfl, by (repeat (first | exact Ext.rfl' _ | assumption | refine Ext.dr ?_ | refine Ext.drN ?_ _ | refine Ext.al ?_ _ | refine Ext.st ?_ (by simp) _ | refine Ext.tr ?_ (by assumption)))⟩
end Go.Proofs.YtemdgilifnhdpaaGreatDoor
end
