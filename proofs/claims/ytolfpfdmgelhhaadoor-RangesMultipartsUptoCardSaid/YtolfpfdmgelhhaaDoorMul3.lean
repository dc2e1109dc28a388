/-
The reference's Boundary: the first name that does not stand in the bytes.
-/
import Derived.Test.YtolfpfdmgelhhaaDoorMul2
set_option linter.unusedVariables false
set_option linter.unusedSimpArgs false
namespace Go.Proofs.YtolfpfdmgelhhaaDoor
open Go.RowKit

/-- Does a text stand somewhere in l? -/
def HasW (l ww : List UInt8) : Prop := ∃ k, k + ww.length ≤ l.length ∧ standsAt l ww k
theorem least_of {p : Nat → Prop} : ∀ n, p n → ∃ k, k ≤ n ∧ p k ∧ ∀ i, i < k → ¬ p i := by
  intro n
  induction n using Nat.strongRecOn with
  | ind n ih =>
    intro hn
    by_cases h : ∃ i, i < n ∧ p i
    · obtain ⟨i, hi, hp⟩ := h
      obtain ⟨k, h1, h2, h3⟩ := ih i hi hp
      exact ⟨k, by omega, h2, h3⟩
    · exact ⟨n, Nat.le_refl _, hn, fun i hi hp => h ⟨i, hi, hp⟩⟩
theorem HasW.first {l ww : List UInt8} (h : HasW l ww) : ∃ k, k + ww.length ≤ l.length ∧ standsAt l ww k ∧ ∀ i, 0 ≤ i → i < k → ¬ standsAt l ww i := by
  obtain ⟨n, h1, h2⟩ := h
  obtain ⟨k, k1, k2, k3⟩ := least_of (p := standsAt l ww) n h2
  exact ⟨k, by omega, k2, fun i _ hi => k3 i hi⟩
/-- The name, and the mark. -/
def ghL (n : Nat) : List UInt8 := [103, 97, 116, 101, 104, 111, 117, 115, 101] ++ Lib.decDigits n
def mkL (n : Nat) : List UInt8 := [45, 45] ++ ghL n
theorem mk_app (n : Nat) : mkL n = [45, 45, 103, 97, 116, 101, 104, 111, 117, 115, 101] ++ Lib.decDigits n := rfl
/-- The least number whose mark does not stand in l. -/
theorem free_num (l : List UInt8) (hl : l.length ≤ 140737488355328) : ∃ N, N ≤ l.length * 21 + 22 ∧ ¬ HasW l (mkL N) ∧ ∀ m, m < N → HasW l (mkL m) := by
  obtain ⟨n, hn, hf⟩ := some_free l [45, 45, 103, 97, 116, 101, 104, 111, 117, 115, 101] (l.length * 21 + 22) (by omega) (by omega)
  obtain ⟨k, h1, h2, h3⟩ := least_of (p := fun m => ¬ HasW l (mkL m)) n (fun ⟨i, hi, hs⟩ => hf i hi hs)
  exact ⟨k, by omega, h2, fun m hm => Classical.byContradiction fun h => h3 m hm h⟩
theorem mk_len (n : Nat) (hn : n < 18446744073709551616) : 11 ≤ (mkL n).length ∧ (mkL n).length ≤ 31 := by
  rw [mk_app, List.length_append]
  have h1 : (Lib.decDigits n).length ≤ 20 := by rw [Lib.decDigits_length]; exact Lib.nDigits_le20 n hn
  simp only [List.length_cons, List.length_nil]
  omega
theorem dec_nat (n : Nat) : decB (n : Int) = str (Lib.decDigits n) := by unfold decB; rw [Lib.itoa_nonneg]

set_option maxRecDepth 100000 in
set_option maxHeartbeats 2000000 in
theorem rBoundary_c (l : List UInt8) (A : Option Addr) (n c : Nat) (N : Nat) (hn : n = l.length) (hnc : n ≤ c) (hb : n ≤ 140737488355328) (hN : N ≤ n * 21 + 22) (hfree : ¬ HasW l (mkL N)) (hall : ∀ m, m < N → HasW l (mkL m)) (w : World) (hA : Rd w A (bc l)) :
    Calls Tryd.prog 19 #[.slice A n c] w (Gives (.string (str (ghL N))) w) := by
  subst hn
  have HA := Lib.hid hA
  have HF := Lib.hid hfree
  have HH := Lib.hid hall
  clear hA hfree hall
  go_enter Tryd.func19, Tryd.ntmps19
  go_wp2
  go_loopw [3] (fun x wr => ∃ k : Nat, x = .int .i64 (k : Int) ∧ k ≤ N ∧ Ext w wr) (fun x _ => N + 1 - (intOf x).toNat)
  case atStart => exact ⟨0, rfl, Nat.zero_le _, Ext.rfl' _⟩
  case round =>
    obtain ⟨k, rfl, hk, hext⟩ := hrel
    obtain ⟨d, hd⟩ : ∃ d, d = decB (k : Int) := ⟨_, rfl⟩
    obtain ⟨s1, hs1⟩ : ∃ s, s = str (ghL k) := ⟨_, rfl⟩
    obtain ⟨s2, hs2⟩ : ∃ s, s = str (mkL k) := ⟨_, rfl⟩
    have hml := mk_len k (by omega)
    have hdl : d.size ≤ 20 := by rw [hd, dec_nat, str_size, Lib.decDigits_length]; exact Lib.nDigits_le20 k (by omega)
    have cc1 : ∀ w, (Op.stringOp .add ⟨#[103, 97, 116, 101, 104, 111, 117, 115, 101]⟩ d).run Tryd.prog w = .ok (.string s1) w := by
      intro w
      rw [cat_ok _ d (by have : ByteArray.size ⟨#[103, 97, 116, 101, 104, 111, 117, 115, 101]⟩ = 9 := rfl; omega), hs1, hd, dec_nat]
      rfl
    have hs1l : s1.size ≤ 40 := by rw [hs1, str_size]; have : (mkL k).length = 2 + (ghL k).length := by simp [mkL]; omega
                                   omega
    have cc2 : ∀ w, (Op.stringOp .add ⟨#[45, 45]⟩ s1).run Tryd.prog w = .ok (.string s2) w := by
      intro w
      rw [cat_ok _ s1 (by have : ByteArray.size ⟨#[45, 45]⟩ = 2 := rfl; omega), hs1, hs2]
      rfl
    have CD := fun w => rDigits_c (k : Int) w (by omega) (by omega)
    rw [← hd] at CD
    have CD := Lib.hid CD
    have ki : (k : Int) + 1 ≤ 9223372036854775807 := by omega
    by_cases he : k = N
    · subst he
      have CH := Lib.hid (fun wx (x : Ext w wx) => (show Calls Tryd.prog 66 #[.slice A l.length c, .string s2, .int .i64 0] wx (fun e w' => e = .returned (.int .i64 (-1)) ∧ wx = w') from by
        rw [hs2]
        exact rhas_no l (mkL k) A l.length c 0 rfl hnc hb (by omega) (by omega) (by omega) (fun i _ hi hs => HF.out ⟨i, hi, hs⟩) wx (HA.out.ext x)))
      have HS := Lib.hid hs1
      clear hd hs1 hs2
      go_wp2_with (first
        | (go_at_call 65; refine (CD.out _).mono ?_; rintro e w1 ⟨rfl, hx1⟩)
        | (go_at_call 66; refine (CH.out w1 (hext.tr hx1)).mono ?_; rintro e w2 ⟨rfl, rfl⟩))
      go_ret
      exact ⟨ret_val (by rw [← HS.out]; rfl), hext.tr (by (repeat (first | exact Ext.rfl' _ | assumption | refine Ext.dr ?_ | refine Ext.drN ?_ _ | refine Ext.al ?_ _ | refine Ext.st ?_ (by simp) _ | refine Ext.tr ?_ (by assumption))))⟩
    · obtain ⟨q, q1, q2, q3⟩ := (HH.out k (by omega)).first
      obtain ⟨z, hz⟩ : ∃ z : Int, z = (q : Int) := ⟨_, rfl⟩
      have CH := Lib.hid (fun wx (x : Ext w wx) => (show Calls Tryd.prog 66 #[.slice A l.length c, .string s2, .int .i64 0] wx (fun e w' => e = .returned (.int .i64 z) ∧ wx = w') from by
        rw [hs2, hz]
        exact rhas_at l (mkL k) A l.length c q 0 rfl hnc hb (by omega) (Nat.zero_le _) q1 q2 q3 wx (HA.out.ext x)))
      clear hd hs1 hs2 q1 q2 q3
      have q0 : ¬ z < 0 := by omega
      clear hz
      go_wp2_with (go_at_call 65; refine (CD.out _).mono ?_; rintro e w1 ⟨rfl, hx1⟩)
      go_at_call 66
      refine (CH.out w1 (hext.tr hx1)).mono ?_
      rintro e w2 ⟨rfl, rfl⟩
      have hlt : k < N := by omega
      have HLT := Lib.hid hlt
      clear hN hml hdl hs1l cc1 cc2 he hk hlt CD CH hnc hb
      dsimp only
      have q0 : decide (z < 0) = false := by simp; omega
      go_upto_region 2 with fail
      clear q0
      go_wp2
      go_roundw
      case rel => exact ⟨k + 1, by go_num, HLT.out, hext.tr (by (repeat (first | exact Ext.rfl' _ | assumption | refine Ext.dr ?_ | refine Ext.drN ?_ _ | refine Ext.al ?_ _ | refine Ext.st ?_ (by simp) _ | refine Ext.tr ?_ (by assumption))))⟩
      case measure => have := HLT.out; simp [intOf]; omega
end Go.Proofs.YtolfpfdmgelhhaaDoor
