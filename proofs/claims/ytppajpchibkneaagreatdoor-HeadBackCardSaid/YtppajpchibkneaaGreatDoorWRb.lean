/-
The reasons of statuses: as a list; strings.Split at a byte.
-/
import Derived.Test.YtppajpchibkneaaGreatDoorHs1
import Derived.Lib.CountLaws
import Derived.Test.YtppajpchibkneaaGreatDoorHXa
import Derived.Test.YtppajpchibkneaaGreatDoorDig
set_option linter.unusedVariables false
set_option linter.unusedSimpArgs false
/-
The reasons of statuses: as a list; strings.Split at a byte.
-/
section
namespace Go.Proofs.YtppajpchibkneaaGreatDoor
open Go.RowKit

/-- A text's parts between bytes c. -/
def pcs (c : UInt8) : List UInt8 → List (List UInt8)
  | [] => [[]]
  | b :: l => if b = c then [] :: pcs c l else
      match pcs c l with
      | [] => [[b]]
      | s :: ss => (b :: s) :: ss
theorem pcs_ne (c : UInt8) (l : List UInt8) : pcs c l ≠ [] := by
  cases l with
  | nil => simp [pcs]
  | cons b l =>
    unfold pcs
    split
    · simp
    · split <;> simp
theorem pcs_none {c : UInt8} : ∀ {l : List UInt8}, c ∉ l → pcs c l = [l]
  | [], _ => rfl
  | b :: l, h => by
    have h1 : ¬ b = c := fun e => h (by rw [e]; exact List.mem_cons_self)
    have h2 := pcs_none (l := l) (fun e => h (List.mem_cons_of_mem _ e))
    unfold pcs
    rw [if_neg h1, h2]
theorem pcs_some {c : UInt8} : ∀ {a : List UInt8} (r : List UInt8), c ∉ a → pcs c (a ++ c :: r) = a :: pcs c r
  | [], r, _ => by show pcs c (c :: r) = _; simp [pcs]
  | b :: a, r, h => by
    have h1 : ¬ b = c := fun e => h (by rw [e]; exact List.mem_cons_self)
    have h2 := pcs_some (a := a) r (fun e => h (List.mem_cons_of_mem _ e))
    show pcs c (b :: (a ++ c :: r)) = _
    simp only [pcs, if_neg h1, h2]
theorem split_pcs (c : UInt8) : ∀ (n : Nat) (l : List UInt8), l.length ≤ n → Lib.countB (str l) ⟨#[c]⟩ + 1 = (pcs c l).length ∧ Lib.splitB ⟨#[c]⟩ 0 (Lib.countB (str l) ⟨#[c]⟩) (str l) = (pcs c l).map str := by
  intro n
  induction n with
  | zero =>
    intro l hl
    obtain rfl : l = [] := List.eq_nil_of_length_eq_zero (by omega)
    have hx : Lib.indexB (str []) ⟨#[c]⟩ = -1 := (Lib.index_one [] c).trans (idx_no (by simp))
    rw [Lib.countB_miss _ _ hx, pcs_none (by simp)]
    exact ⟨rfl, rfl⟩
  | succ n ih =>
    intro l hl
    rcases cut_cases l c with hno | ⟨a, r, rfl, hno⟩
    · have hx : Lib.indexB (str l) ⟨#[c]⟩ = -1 := (Lib.index_one l c).trans (idx_no hno)
      rw [Lib.countB_miss _ _ hx, pcs_none hno]
      exact ⟨rfl, rfl⟩
    · have hx : Lib.indexB (str (a ++ c :: r)) ⟨#[c]⟩ = (a.length : Int) := (Lib.index_one _ c).trans (idx_at hno)
      have hc := Lib.countB_hit (str (a ++ c :: r)) ⟨#[c]⟩ a.length (by show 1 ≤ 1; exact Nat.le_refl _) hx
      have he : (str (a ++ c :: r)).extract (a.length + (⟨#[c]⟩ : ByteArray).size) (str (a ++ c :: r)).size = str r := by
        rw [show (⟨#[c]⟩ : ByteArray).size = 1 from rfl]
        apply ByteArray.ext
        apply Array.ext'
        simp [str]
        exact List.take_of_length_le (by simp [ByteArray.size]; omega)
      have he2 : (str (a ++ c :: r)).extract 0 (a.length + 0) = str a := by
        apply ByteArray.ext
        apply Array.ext'
        simp [str]
      rw [he] at hc
      obtain ⟨i1, i2⟩ := ih r (by simp at hl; omega)
      have hsp := Lib.splitB_hit ⟨#[c]⟩ 0 (Lib.countB (str r) ⟨#[c]⟩) (str (a ++ c :: r)) a.length hx
      rw [he, he2] at hsp
      rw [hc, pcs_some r hno, Nat.add_comm 1, hsp, i2]
      refine ⟨by simp only [List.length_cons]; omega, rfl⟩
theorem Split_pcs (c : UInt8) (l : List UInt8) (hl : l.length ≤ 4000000000) (w : World) (hM : Mx w) :
    Calls Tryz.prog 27 #[.string (str l), .string ⟨#[c]⟩] w fun e w' => e = .returned (.slice (some ⟨w.heap.size, 0, none⟩) (pcs c l).length (pcs c l).length) ∧ w' = w.alloc (.cells (sc (pcs c l)).toArray 9) := by
  obtain ⟨m, hm⟩ := hM
  have K := Tryz.strings_Split (str l) ⟨#[c]⟩ m w (by simp; omega) hm (by show 1 ≤ 1; exact Nat.le_refl _)
  obtain ⟨h1, h2⟩ := split_pcs c l.length l (Nat.le_refl _)
  rw [h1, h2] at K
  refine K.mono fun e w' ⟨h3, h4⟩ => ⟨h3, ?_⟩
  rw [h4]
  simp [sc, Function.comp_def]
/-- The statuses that have a reason, and it. -/
def rsT : List (Nat × List UInt8 × List UInt8) := [(100, [49, 48, 48], [67, 111, 110, 116, 105, 110, 117, 101]), (200, [50, 48, 48], [79, 75]), (201, [50, 48, 49], [67, 114, 101, 97, 116, 101, 100]), (204, [50, 48, 52], [78, 111, 32, 67, 111, 110, 116, 101, 110, 116]), (206, [50, 48, 54], [80, 97, 114, 116, 105, 97, 108, 32, 67, 111, 110, 116, 101, 110, 116]), (301, [51, 48, 49], [77, 111, 118, 101, 100, 32, 80, 101, 114, 109, 97, 110, 101, 110, 116, 108, 121]), (302, [51, 48, 50], [70, 111, 117, 110, 100]), (304, [51, 48, 52], [78, 111, 116, 32, 77, 111, 100, 105, 102, 105, 101, 100]), (400, [52, 48, 48], [66, 97, 100, 32, 82, 101, 113, 117, 101, 115, 116]), (403, [52, 48, 51], [70, 111, 114, 98, 105, 100, 100, 101, 110]), (404, [52, 48, 52], [78, 111, 116, 32, 70, 111, 117, 110, 100]), (405, [52, 48, 53], [77, 101, 116, 104, 111, 100, 32, 78, 111, 116, 32, 65, 108, 108, 111, 119, 101, 100]), (408, [52, 48, 56], [82, 101, 113, 117, 101, 115, 116, 32, 84, 105, 109, 101, 111, 117, 116]), (412, [52, 49, 50], [80, 114, 101, 99, 111, 110, 100, 105, 116, 105, 111, 110, 32, 70, 97, 105, 108, 101, 100]), (413, [52, 49, 51], [67, 111, 110, 116, 101, 110, 116, 32, 84, 111, 111, 32, 76, 97, 114, 103, 101]), (414, [52, 49, 52], [85, 82, 73, 32, 84, 111, 111, 32, 76, 111, 110, 103]), (416, [52, 49, 54], [82, 97, 110, 103, 101, 32, 78, 111, 116, 32, 83, 97, 116, 105, 115, 102, 105, 97, 98, 108, 101]), (417, [52, 49, 55], [69, 120, 112, 101, 99, 116, 97, 116, 105, 111, 110, 32, 70, 97, 105, 108, 101, 100]), (429, [52, 50, 57], [84, 111, 111, 32, 77, 97, 110, 121, 32, 82, 101, 113, 117, 101, 115, 116, 115]), (431, [52, 51, 49], [82, 101, 113, 117, 101, 115, 116, 32, 72, 101, 97, 100, 101, 114, 32, 70, 105, 101, 108, 100, 115, 32, 84, 111, 111, 32, 76, 97, 114, 103, 101]), (500, [53, 48, 48], [73, 110, 116, 101, 114, 110, 97, 108, 32, 83, 101, 114, 118, 101, 114, 32, 69, 114, 114, 111, 114]), (501, [53, 48, 49], [78, 111, 116, 32, 73, 109, 112, 108, 101, 109, 101, 110, 116, 101, 100]), (502, [53, 48, 50], [66, 97, 100, 32, 71, 97, 116, 101, 119, 97, 121]), (503, [53, 48, 51], [83, 101, 114, 118, 105, 99, 101, 32, 85, 110, 97, 118, 97, 105, 108, 97, 98, 108, 101]), (504, [53, 48, 52], [71, 97, 116, 101, 119, 97, 121, 32, 84, 105, 109, 101, 111, 117, 116])]
def rsAll : List UInt8 := [49, 48, 48, 32, 67, 111, 110, 116, 105, 110, 117, 101, 124, 50, 48, 48, 32, 79, 75, 124, 50, 48, 49, 32, 67, 114, 101, 97, 116, 101, 100, 124, 50, 48, 52, 32, 78, 111, 32, 67, 111, 110, 116, 101, 110, 116, 124, 50, 48, 54, 32, 80, 97, 114, 116, 105, 97, 108, 32, 67, 111, 110, 116, 101, 110, 116, 124, 51, 48, 49, 32, 77, 111, 118, 101, 100, 32, 80, 101, 114, 109, 97, 110, 101, 110, 116, 108, 121, 124, 51, 48, 50, 32, 70, 111, 117, 110, 100, 124, 51, 48, 52, 32, 78, 111, 116, 32, 77, 111, 100, 105, 102, 105, 101, 100, 124, 52, 48, 48, 32, 66, 97, 100, 32, 82, 101, 113, 117, 101, 115, 116, 124, 52, 48, 51, 32, 70, 111, 114, 98, 105, 100, 100, 101, 110, 124, 52, 48, 52, 32, 78, 111, 116, 32, 70, 111, 117, 110, 100, 124, 52, 48, 53, 32, 77, 101, 116, 104, 111, 100, 32, 78, 111, 116, 32, 65, 108, 108, 111, 119, 101, 100, 124, 52, 48, 56, 32, 82, 101, 113, 117, 101, 115, 116, 32, 84, 105, 109, 101, 111, 117, 116, 124, 52, 49, 50, 32, 80, 114, 101, 99, 111, 110, 100, 105, 116, 105, 111, 110, 32, 70, 97, 105, 108, 101, 100, 124, 52, 49, 51, 32, 67, 111, 110, 116, 101, 110, 116, 32, 84, 111, 111, 32, 76, 97, 114, 103, 101, 124, 52, 49, 52, 32, 85, 82, 73, 32, 84, 111, 111, 32, 76, 111, 110, 103, 124, 52, 49, 54, 32, 82, 97, 110, 103, 101, 32, 78, 111, 116, 32, 83, 97, 116, 105, 115, 102, 105, 97, 98, 108, 101, 124, 52, 49, 55, 32, 69, 120, 112, 101, 99, 116, 97, 116, 105, 111, 110, 32, 70, 97, 105, 108, 101, 100, 124, 52, 50, 57, 32, 84, 111, 111, 32, 77, 97, 110, 121, 32, 82, 101, 113, 117, 101, 115, 116, 115, 124, 52, 51, 49, 32, 82, 101, 113, 117, 101, 115, 116, 32, 72, 101, 97, 100, 101, 114, 32, 70, 105, 101, 108, 100, 115, 32, 84, 111, 111, 32, 76, 97, 114, 103, 101, 124, 53, 48, 48, 32, 73, 110, 116, 101, 114, 110, 97, 108, 32, 83, 101, 114, 118, 101, 114, 32, 69, 114, 114, 111, 114, 124, 53, 48, 49, 32, 78, 111, 116, 32, 73, 109, 112, 108, 101, 109, 101, 110, 116, 101, 100, 124, 53, 48, 50, 32, 66, 97, 100, 32, 71, 97, 116, 101, 119, 97, 121, 124, 53, 48, 51, 32, 83, 101, 114, 118, 105, 99, 101, 32, 85, 110, 97, 118, 97, 105, 108, 97, 98, 108, 101, 124, 53, 48, 52, 32, 71, 97, 116, 101, 119, 97, 121, 32, 84, 105, 109, 101, 111, 117, 116]
def rsP : List (List UInt8) := rsT.map fun p => p.2.1 ++ 32 :: p.2.2
theorem rs_pcs : pcs 124 rsAll = rsP := by decide +kernel
theorem rs_code : ∀ p ∈ rsT, Lib.itoa (p.1 : Int) = p.2.1 ∧ 32 ∉ p.2.1 := by decide +kernel
/-- The reason of a status. -/
def reaL (s : Int) : List UInt8 := match rsT.find? (fun p => decide ((p.1 : Int) = s)) with
  | some p => p.2.2
  | none => []
end Go.Proofs.YtppajpchibkneaaGreatDoor
end

/-
The reason of a status: the program's and the reference's.
-/
section
namespace Go.Proofs.YtppajpchibkneaaGreatDoor
open Go.RowKit

theorem itoa_eq {st : Int} {c : Nat} (h : Lib.itoa st = Lib.itoa (c : Int)) : st = (c : Int) := by
  obtain ⟨h1, h2, _, _⟩ := decL_all c
  have hc : Lib.itoa (c : Int) = Lib.decDigits c := by unfold Lib.itoa; rw [if_neg (by omega)]; simp
  rw [hc] at h
  by_cases hs : st < 0
  · unfold Lib.itoa at h
    rw [if_pos hs] at h
    rw [← h] at h1
    simp at h1
    exact absurd h1.1 (by decide)
  · obtain ⟨n, rfl⟩ : ∃ n : Nat, st = (n : Int) := ⟨st.toNat, by omega⟩
    have hn : Lib.itoa (n : Int) = Lib.decDigits n := by unfold Lib.itoa; rw [if_neg (by omega)]; simp
    rw [hn] at h
    have h3 := (decL_all n).2.1
    rw [h, h2] at h3
    rw [h3]
theorem rs_len : rsT.length = 25 := rfl
theorem rsP_len : rsP.length = 25 := rfl
theorem rea_at : ∀ k (h : k < 25), reaL ((rsT[k]'(by rw [rs_len]; exact h)).1 : Int) = (rsT[k]'(by rw [rs_len]; exact h)).2.2 := by
  have : ∀ k : Fin 25, reaL ((rsT[k.val]'(by rw [rs_len]; exact k.isLt)).1 : Int) = (rsT[k.val]'(by rw [rs_len]; exact k.isLt)).2.2 := by decide +kernel
  exact fun k h => this ⟨k, h⟩
theorem rea_none {st : Int} (h : ∀ j (hj : j < 25), ((rsT[j]'(by rw [rs_len]; exact hj)).1 : Int) ≠ st) : reaL st = [] := by
  unfold reaL
  have : rsT.find? (fun p => decide ((p.1 : Int) = st)) = none := by
    rw [List.find?_eq_none]
    intro p hp
    obtain ⟨j, hj, rfl⟩ := List.getElem_of_mem hp
    have := h j (by rw [← rs_len]; exact hj)
    simpa using this
  rw [this]
set_option maxRecDepth 100000 in
set_option maxHeartbeats 4000000 in
theorem hReason_c (st : Int) (h0 : -9223372036854775808 ≤ st) (h1 : st ≤ 9223372036854775807) (w : World) (hM : Mx w) (hP : Pow w) :
    Calls Tryz.prog 10 #[.int .i64 st] w (Gives (.string (str (reaL st))) w) := by
  have HM := Lib.hid hM
  have HP := Lib.hid hP
  clear hM hP
  have CD := Lib.hid (fun w hP => Digits_c st w hP h0 h1)
  have CS := Lib.hid (fun w hM => (by have := Split_pcs 124 rsAll (by decide) w hM; rw [rs_pcs, rsP_len] at this; exact this : Calls Tryz.prog 27 #[.string (str rsAll), .string ⟨#[124]⟩] w fun e w' => e = .returned (.slice (some ⟨w.heap.size, 0, none⟩) 25 25) ∧ w' = w.alloc (.cells (sc rsP).toArray 9)))
  obtain ⟨R, hR⟩ : ∃ R, R = str (reaL st) := ⟨_, rfl⟩
  rw [← hR]
  have HR := Lib.hid hR
  clear hR
  go_enter Tryz.func10, Tryz.ntmps10
  go_wp2_with (first
    | (go_at_call 27; refine (CS.out _ HM.out).mono ?_; rintro e w2 ⟨rfl, hw2⟩; have HW2 := Lib.hid hw2; clear hw2))
  have hb2 := heap_alloc_new w (.cells (sc rsP).toArray 9)
  rw [← HW2.out] at hb2
  have x2 : Ext w w2 := by rw [HW2.out]; exact (Ext.rfl' w).al _
  obtain ⟨G, hG⟩ : ∃ G, G = w.heap.size := ⟨_, rfl⟩
  rw [← hG] at hb2 ⊢
  have HC := Lib.hid (fun w' (x : Ext w2 w') (k : Nat) (hk : k < 25) => (show w'.cell? ⟨G, k, none⟩ = some (.string (str (rsP[k]'(by rw [rsP_len]; exact hk)))) from by
    have hb := (x.block G (row_lt hb2)).trans hb2
    exact (row_facts hb k _ (by simp [sc, rsP_len, hk])).1))
  have X2 := Lib.hid x2
  clear hb2 x2 hG
  go_loopw [10] (fun vi wr => ∃ k : Nat, vi = .int .i64 (k : Int) ∧ k ≤ 25 ∧ (∀ j (hj : j < 25), j < k → ((rsT[j]'(by rw [rs_len]; exact hj)).1 : Int) ≠ st) ∧ Ext w2 wr) (fun vi _ => 25 - (intOf vi).toNat)
  case atStart => exact ⟨0, rfl, Nat.zero_le _, fun j _ h => by omega, Ext.rfl' _⟩
  case round =>
    obtain ⟨k, rfl, hk, hno, hx⟩ := hrel
    have HNO := Lib.hid hno
    clear hno
    by_cases hlt : k < 25
    · have hc := HC.out wr hx k hlt
      have hpk := rs_code _ (List.getElem_mem (show k < rsT.length by rw [rs_len]; exact hlt))
      have hrk := rea_at k hlt
      have hP2 : rsP[k]'(by rw [rsP_len]; exact hlt) = (rsT[k]'(by rw [rs_len]; exact hlt)).2.1 ++ 32 :: (rsT[k]'(by rw [rs_len]; exact hlt)).2.2 := by unfold rsP; simp
      have hlen : ∀ p ∈ rsT, p.2.1.length + p.2.2.length ≤ 100 := by decide +kernel
      have hlk := hlen _ (List.getElem_mem (show k < rsT.length by rw [rs_len]; exact hlt))
      rw [hP2] at hc
      clear hP2 hlen
      obtain ⟨⟨cn, cd, tx⟩, hp⟩ : ∃ p, p = rsT[k]'(by rw [rs_len]; exact hlt) := ⟨_, rfl⟩
      rw [← hp] at hc hpk hrk hlk
      dsimp only at hc hpk hrk hlk
      have HPK := Lib.hid hp
      have CU := fun w => Cut_at cd tx 32 hpk.2 (by unfold maxLen; omega) w
      obtain ⟨sl, hsl⟩ : ∃ s, s = str (cd ++ 32 :: tx) := ⟨_, rfl⟩
      rw [← hsl] at hc CU
      have CU := Lib.hid CU
      have k0 : (0 : Int) ≤ (k : Int) := by omega
      have k1 : (k : Int) < 25 := by omega
      clear hp hsl
      by_cases hq : (cn : Int) = st
      · have hcd : decB st = str cd := by unfold decB; rw [← hq, hpk.1]
        have CD2 : Hid (∀ w, Pow w → Calls Tryz.prog 22 #[.int .i64 st] w (Gives (.string (str cd)) w)) := by rw [← hcd]; exact CD
        have HV := Lib.hid (show str tx = R from by rw [HR.out, ← hq, hrk])
        clear hpk hrk hlk hcd hq
        go_wp2_with (first
          | (go_at_call 28; refine (CU.out _).mono ?_; rintro e w5 ⟨rfl, q5, rfl⟩)
          | (go_at_call 22; refine (CD2.out _ (HP.out.ext (X2.out.tr (hx.tr (by (repeat (first | exact Ext.rfl' _ | assumption | refine Ext.dr ?_ | refine Ext.drN ?_ _ | refine Ext.al ?_ _ | refine Ext.st ?_ (by simp) _ | refine Ext.tr ?_ (by assumption)))))))).mono ?_; rintro e w6 ⟨rfl, hx6⟩))
        go_ret
        rw [HV.out]
        exact ⟨rfl, X2.out.tr (hx.tr (Ext.tr (by (repeat (first | exact Ext.rfl' _ | assumption | refine Ext.dr ?_ | refine Ext.drN ?_ _ | refine Ext.al ?_ _ | refine Ext.st ?_ (by simp) _ | refine Ext.tr ?_ (by assumption)))) hx6))⟩
      · obtain ⟨sd, hsd⟩ : ∃ s, s = decB st := ⟨_, rfl⟩
        obtain ⟨scd, hscd⟩ : ∃ s, s = str cd := ⟨_, rfl⟩
        have hne : (scd.toList == sd.toList) = false := by
          rw [hscd, hsd]
          unfold decB
          rw [show str cd = ⟨cd.toArray⟩ from rfl, show str (Lib.itoa st) = ⟨(Lib.itoa st).toArray⟩ from rfl, Lib.toList_data, Lib.toList_data, beq_eq_false_iff_ne]
          intro e
          rw [← hpk.1] at e
          exact hq (itoa_eq e.symm).symm
        rw [← hscd] at CU
        have CD2 : Hid (∀ w, Pow w → Calls Tryz.prog 22 #[.int .i64 st] w (Gives (.string sd) w)) := by rw [hsd]; exact CD
        have HQ := Lib.hid hq
        clear hpk hrk hlk hsd hscd hq
        go_wp2_with (first
          | (go_at_call 28; refine (CU.out _).mono ?_; rintro e w5 ⟨rfl, q5, rfl⟩)
          | (go_at_call 22; refine (CD2.out _ (HP.out.ext (X2.out.tr (hx.tr (by (repeat (first | exact Ext.rfl' _ | assumption | refine Ext.dr ?_ | refine Ext.drN ?_ _ | refine Ext.al ?_ _ | refine Ext.st ?_ (by simp) _ | refine Ext.tr ?_ (by assumption)))))))).mono ?_; rintro e w6 ⟨rfl, hx6⟩))
        go_roundw
        case rel => exact ⟨k + 1, by go_num, by omega, fun j hj h2 => (by
          rcases Nat.lt_or_ge j k with h3 | h3
          · exact HNO.out j hj h3
          · obtain rfl : j = k := by omega
            rw [← HPK.out]; exact HQ.out), hx.tr (Ext.tr (by (repeat (first | exact Ext.rfl' _ | assumption | refine Ext.dr ?_ | refine Ext.drN ?_ _ | refine Ext.al ?_ _ | refine Ext.st ?_ (by simp) _ | refine Ext.tr ?_ (by assumption)))) hx6)⟩
        case measure => simp [intOf]; omega
    · have hk1 : ¬ (k : Int) < 25 := by omega
      have hv : R = ⟨#[]⟩ := by rw [HR.out, rea_none (fun j hj => HNO.out j hj (by omega))]; rfl
      have HV := Lib.hid hv
      clear hv
      go_wp2
      go_ret
      exact ⟨by rw [HV.out]; rfl, X2.out.tr hx⟩
end Go.Proofs.YtppajpchibkneaaGreatDoor
end

/-
The reason of a status: the reference's.
-/
section
namespace Go.Proofs.YtppajpchibkneaaGreatDoor
open Go.RowKit

set_option maxRecDepth 100000 in
set_option maxHeartbeats 4000000 in
theorem rhReason_c (st : Int) (w : World) : Calls Tryz.prog 11 #[.int .i64 st] w (Gives (.string (str (reaL st))) w) := by
  by_cases e0 : st = 100
  · subst e0
    rw [show reaL 100 = [67, 111, 110, 116, 105, 110, 117, 101] from by decide +kernel]
    go_enter Tryz.func11, Tryz.ntmps11
    go_wp2
    go_ret
    exact ⟨rfl, Ext.rfl' _⟩
  have d0 : (st == 100) = false := by rw [beq_eq_false_iff_ne]; exact e0
  by_cases e1 : st = 200
  · subst e1
    rw [show reaL 200 = [79, 75] from by decide +kernel]
    go_enter Tryz.func11, Tryz.ntmps11
    go_wp2
    go_ret
    exact ⟨rfl, Ext.rfl' _⟩
  have d1 : (st == 200) = false := by rw [beq_eq_false_iff_ne]; exact e1
  by_cases e2 : st = 201
  · subst e2
    rw [show reaL 201 = [67, 114, 101, 97, 116, 101, 100] from by decide +kernel]
    go_enter Tryz.func11, Tryz.ntmps11
    go_wp2
    go_ret
    exact ⟨rfl, Ext.rfl' _⟩
  have d2 : (st == 201) = false := by rw [beq_eq_false_iff_ne]; exact e2
  by_cases e3 : st = 204
  · subst e3
    rw [show reaL 204 = [78, 111, 32, 67, 111, 110, 116, 101, 110, 116] from by decide +kernel]
    go_enter Tryz.func11, Tryz.ntmps11
    go_wp2
    go_ret
    exact ⟨rfl, Ext.rfl' _⟩
  have d3 : (st == 204) = false := by rw [beq_eq_false_iff_ne]; exact e3
  by_cases e4 : st = 206
  · subst e4
    rw [show reaL 206 = [80, 97, 114, 116, 105, 97, 108, 32, 67, 111, 110, 116, 101, 110, 116] from by decide +kernel]
    go_enter Tryz.func11, Tryz.ntmps11
    go_wp2
    go_ret
    exact ⟨rfl, Ext.rfl' _⟩
  have d4 : (st == 206) = false := by rw [beq_eq_false_iff_ne]; exact e4
  by_cases e5 : st = 301
  · subst e5
    rw [show reaL 301 = [77, 111, 118, 101, 100, 32, 80, 101, 114, 109, 97, 110, 101, 110, 116, 108, 121] from by decide +kernel]
    go_enter Tryz.func11, Tryz.ntmps11
    go_wp2
    go_ret
    exact ⟨rfl, Ext.rfl' _⟩
  have d5 : (st == 301) = false := by rw [beq_eq_false_iff_ne]; exact e5
  by_cases e6 : st = 302
  · subst e6
    rw [show reaL 302 = [70, 111, 117, 110, 100] from by decide +kernel]
    go_enter Tryz.func11, Tryz.ntmps11
    go_wp2
    go_ret
    exact ⟨rfl, Ext.rfl' _⟩
  have d6 : (st == 302) = false := by rw [beq_eq_false_iff_ne]; exact e6
  by_cases e7 : st = 304
  · subst e7
    rw [show reaL 304 = [78, 111, 116, 32, 77, 111, 100, 105, 102, 105, 101, 100] from by decide +kernel]
    go_enter Tryz.func11, Tryz.ntmps11
    go_wp2
    go_ret
    exact ⟨rfl, Ext.rfl' _⟩
  have d7 : (st == 304) = false := by rw [beq_eq_false_iff_ne]; exact e7
  by_cases e8 : st = 400
  · subst e8
    rw [show reaL 400 = [66, 97, 100, 32, 82, 101, 113, 117, 101, 115, 116] from by decide +kernel]
    go_enter Tryz.func11, Tryz.ntmps11
    go_wp2
    go_ret
    exact ⟨rfl, Ext.rfl' _⟩
  have d8 : (st == 400) = false := by rw [beq_eq_false_iff_ne]; exact e8
  by_cases e9 : st = 403
  · subst e9
    rw [show reaL 403 = [70, 111, 114, 98, 105, 100, 100, 101, 110] from by decide +kernel]
    go_enter Tryz.func11, Tryz.ntmps11
    go_wp2
    go_ret
    exact ⟨rfl, Ext.rfl' _⟩
  have d9 : (st == 403) = false := by rw [beq_eq_false_iff_ne]; exact e9
  by_cases e10 : st = 404
  · subst e10
    rw [show reaL 404 = [78, 111, 116, 32, 70, 111, 117, 110, 100] from by decide +kernel]
    go_enter Tryz.func11, Tryz.ntmps11
    go_wp2
    go_ret
    exact ⟨rfl, Ext.rfl' _⟩
  have d10 : (st == 404) = false := by rw [beq_eq_false_iff_ne]; exact e10
  by_cases e11 : st = 405
  · subst e11
    rw [show reaL 405 = [77, 101, 116, 104, 111, 100, 32, 78, 111, 116, 32, 65, 108, 108, 111, 119, 101, 100] from by decide +kernel]
    go_enter Tryz.func11, Tryz.ntmps11
    go_wp2
    go_ret
    exact ⟨rfl, Ext.rfl' _⟩
  have d11 : (st == 405) = false := by rw [beq_eq_false_iff_ne]; exact e11
  by_cases e12 : st = 408
  · subst e12
    rw [show reaL 408 = [82, 101, 113, 117, 101, 115, 116, 32, 84, 105, 109, 101, 111, 117, 116] from by decide +kernel]
    go_enter Tryz.func11, Tryz.ntmps11
    go_wp2
    go_ret
    exact ⟨rfl, Ext.rfl' _⟩
  have d12 : (st == 408) = false := by rw [beq_eq_false_iff_ne]; exact e12
  by_cases e13 : st = 412
  · subst e13
    rw [show reaL 412 = [80, 114, 101, 99, 111, 110, 100, 105, 116, 105, 111, 110, 32, 70, 97, 105, 108, 101, 100] from by decide +kernel]
    go_enter Tryz.func11, Tryz.ntmps11
    go_wp2
    go_ret
    exact ⟨rfl, Ext.rfl' _⟩
  have d13 : (st == 412) = false := by rw [beq_eq_false_iff_ne]; exact e13
  by_cases e14 : st = 413
  · subst e14
    rw [show reaL 413 = [67, 111, 110, 116, 101, 110, 116, 32, 84, 111, 111, 32, 76, 97, 114, 103, 101] from by decide +kernel]
    go_enter Tryz.func11, Tryz.ntmps11
    go_wp2
    go_ret
    exact ⟨rfl, Ext.rfl' _⟩
  have d14 : (st == 413) = false := by rw [beq_eq_false_iff_ne]; exact e14
  by_cases e15 : st = 414
  · subst e15
    rw [show reaL 414 = [85, 82, 73, 32, 84, 111, 111, 32, 76, 111, 110, 103] from by decide +kernel]
    go_enter Tryz.func11, Tryz.ntmps11
    go_wp2
    go_ret
    exact ⟨rfl, Ext.rfl' _⟩
  have d15 : (st == 414) = false := by rw [beq_eq_false_iff_ne]; exact e15
  by_cases e16 : st = 416
  · subst e16
    rw [show reaL 416 = [82, 97, 110, 103, 101, 32, 78, 111, 116, 32, 83, 97, 116, 105, 115, 102, 105, 97, 98, 108, 101] from by decide +kernel]
    go_enter Tryz.func11, Tryz.ntmps11
    go_wp2
    go_ret
    exact ⟨rfl, Ext.rfl' _⟩
  have d16 : (st == 416) = false := by rw [beq_eq_false_iff_ne]; exact e16
  by_cases e17 : st = 417
  · subst e17
    rw [show reaL 417 = [69, 120, 112, 101, 99, 116, 97, 116, 105, 111, 110, 32, 70, 97, 105, 108, 101, 100] from by decide +kernel]
    go_enter Tryz.func11, Tryz.ntmps11
    go_wp2
    go_ret
    exact ⟨rfl, Ext.rfl' _⟩
  have d17 : (st == 417) = false := by rw [beq_eq_false_iff_ne]; exact e17
  by_cases e18 : st = 429
  · subst e18
    rw [show reaL 429 = [84, 111, 111, 32, 77, 97, 110, 121, 32, 82, 101, 113, 117, 101, 115, 116, 115] from by decide +kernel]
    go_enter Tryz.func11, Tryz.ntmps11
    go_wp2
    go_ret
    exact ⟨rfl, Ext.rfl' _⟩
  have d18 : (st == 429) = false := by rw [beq_eq_false_iff_ne]; exact e18
  by_cases e19 : st = 431
  · subst e19
    rw [show reaL 431 = [82, 101, 113, 117, 101, 115, 116, 32, 72, 101, 97, 100, 101, 114, 32, 70, 105, 101, 108, 100, 115, 32, 84, 111, 111, 32, 76, 97, 114, 103, 101] from by decide +kernel]
    go_enter Tryz.func11, Tryz.ntmps11
    go_wp2
    go_ret
    exact ⟨rfl, Ext.rfl' _⟩
  have d19 : (st == 431) = false := by rw [beq_eq_false_iff_ne]; exact e19
  by_cases e20 : st = 500
  · subst e20
    rw [show reaL 500 = [73, 110, 116, 101, 114, 110, 97, 108, 32, 83, 101, 114, 118, 101, 114, 32, 69, 114, 114, 111, 114] from by decide +kernel]
    go_enter Tryz.func11, Tryz.ntmps11
    go_wp2
    go_ret
    exact ⟨rfl, Ext.rfl' _⟩
  have d20 : (st == 500) = false := by rw [beq_eq_false_iff_ne]; exact e20
  by_cases e21 : st = 501
  · subst e21
    rw [show reaL 501 = [78, 111, 116, 32, 73, 109, 112, 108, 101, 109, 101, 110, 116, 101, 100] from by decide +kernel]
    go_enter Tryz.func11, Tryz.ntmps11
    go_wp2
    go_ret
    exact ⟨rfl, Ext.rfl' _⟩
  have d21 : (st == 501) = false := by rw [beq_eq_false_iff_ne]; exact e21
  by_cases e22 : st = 502
  · subst e22
    rw [show reaL 502 = [66, 97, 100, 32, 71, 97, 116, 101, 119, 97, 121] from by decide +kernel]
    go_enter Tryz.func11, Tryz.ntmps11
    go_wp2
    go_ret
    exact ⟨rfl, Ext.rfl' _⟩
  have d22 : (st == 502) = false := by rw [beq_eq_false_iff_ne]; exact e22
  by_cases e23 : st = 503
  · subst e23
    rw [show reaL 503 = [83, 101, 114, 118, 105, 99, 101, 32, 85, 110, 97, 118, 97, 105, 108, 97, 98, 108, 101] from by decide +kernel]
    go_enter Tryz.func11, Tryz.ntmps11
    go_wp2
    go_ret
    exact ⟨rfl, Ext.rfl' _⟩
  have d23 : (st == 503) = false := by rw [beq_eq_false_iff_ne]; exact e23
  by_cases e24 : st = 504
  · subst e24
    rw [show reaL 504 = [71, 97, 116, 101, 119, 97, 121, 32, 84, 105, 109, 101, 111, 117, 116] from by decide +kernel]
    go_enter Tryz.func11, Tryz.ntmps11
    go_wp2
    go_ret
    exact ⟨rfl, Ext.rfl' _⟩
  have d24 : (st == 504) = false := by rw [beq_eq_false_iff_ne]; exact e24
  have hn : reaL st = [] := rea_none (fun j hj => by
    have key : ∀ j : Fin 25, ((rsT[j.val]'(by rw [rs_len]; exact j.isLt)).1 : Int) ∈ ([100, 200, 201, 204, 206, 301, 302, 304, 400, 403, 404, 405, 408, 412, 413, 414, 416, 417, 429, 431, 500, 501, 502, 503, 504] : List Int) := by decide +kernel
    intro h
    have := key ⟨j, hj⟩
    rw [h] at this
    simp only [List.mem_cons, List.mem_nil_iff, or_false] at this
    omega)
  rw [hn]
  clear hn e0 e1 e2 e3 e4 e5 e6 e7 e8 e9 e10 e11 e12 e13 e14 e15 e16 e17 e18 e19 e20 e21 e22 e23 e24
  go_enter Tryz.func11, Tryz.ntmps11
  go_wp2
  go_ret
  exact ⟨rfl, Ext.rfl' _⟩
end Go.Proofs.YtppajpchibkneaaGreatDoor
end
