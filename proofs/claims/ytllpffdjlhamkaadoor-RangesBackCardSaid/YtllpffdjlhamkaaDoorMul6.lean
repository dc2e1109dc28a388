/-
The program's Boundary: bytes.Contains with the marks.
-/
import Derived.Test.YtllpffdjlhamkaaDoorMul5
import Derived.Lib.ConvBytes
import Derived.Lib.IndexMore
import Derived.Test.YtllpffdjlhamkaaDoorBy1
import Derived.Test.YtllpffdjlhamkaaDoorRGb
set_option linter.unusedVariables false
set_option linter.unusedSimpArgs false
namespace Go.Proofs.YtllpffdjlhamkaaDoor
open Go.RowKit

theorem Ext.bw {a b : World} (h : Ext a b) (e : TypeId) (s : ByteArray) : Ext a (Lib.bytesWorld b e s) :=
  ⟨by simpa [Lib.bytesWorld, World.freeze, World.alloc, World.drew, -World.alloc_eq, -World.drew_eq] using h.os,
   by simpa [Lib.bytesWorld, World.freeze, World.alloc, World.drew, -World.alloc_eq, -World.drew_eq] using h.tape,
   by simpa [Lib.bytesWorld, World.freeze, World.alloc, World.drew, -World.alloc_eq, -World.drew_eq] using h.output,
   by rw [Lib.bytesWorld_size]; have := h.size; omega,
   fun i hi => by rw [Lib.bytesWorld_at_old _ _ _ _ (by have := h.size; omega)]; exact h.block i hi⟩
/-- The library's own number holds some number. -/
def Mx (w : World) : Prop := ∃ m, w.cell? ⟨0, 0, none⟩ = some (.int .i64 m)
theorem Mx.ext {w w' : World} (h : Mx w) (x : Ext w w') : Mx w' := by
  obtain ⟨m, h⟩ := h
  exact ⟨m, by rw [← h]; exact x.cell (lt_of_cell h)⟩
theorem occ_iff (l ww : List UInt8) (i : Nat) : Lib.occAt l ww i = true ↔ standsAt l ww i := by
  unfold Lib.occAt standsAt
  rw [List.isPrefixOf_iff_prefix, List.prefix_iff_eq_take]
  exact eq_comm
theorem contains_iff (l ww : List UInt8) (hw : 0 < ww.length) : Lib.contains l ww = true ↔ HasW l ww := by
  unfold Lib.contains
  rw [decide_eq_true_eq]
  rcases Lib.index_spec l ww with ⟨h1, h2⟩ | ⟨i, h1, h2, h3, _⟩
  · rw [h1]
    refine ⟨fun h => by omega, fun ⟨k, k1, k2⟩ => ?_⟩
    have := h2 k (by omega)
    rw [(occ_iff l ww k).2 k2] at this; cases this
  · refine ⟨fun _ => ⟨i, ?_, (occ_iff l ww i).1 h3⟩, fun _ => by rw [h1]; omega⟩
    have h4 := (occ_iff l ww i).1 h3
    unfold standsAt at h4
    have := congrArg List.length h4
    simp only [List.length_take, List.length_drop] at this
    omega

/-- A call of bytes.Contains with a new row. -/
theorem bContains_c (l ww : List UInt8) (A : Option Addr) (n c d g : Nat) (hn : n = l.length) (hnc : n ≤ c) (hA : A = none → c = 0) (hb : n < 4294967281) (hw : 1 < ww.length) (hw2 : ww.length ≤ 100) (w : World) (hM : Mx w) (hR : Rd w A (bc l))
    (hg : ∀ j u, (bc ww)[j]? = some u → w.cell? ⟨g, j, none⟩ = some u) :
    Calls Tryd.prog 17 #[.slice A n c, .slice (some ⟨g, 0, none⟩) ww.length d] w fun e w' => e = .returned (.bool (Lib.contains l ww)) ∧ Ext w w' := by
  subst hn
  have u8 : ∀ (q : List UInt8), ∀ x ∈ xsOf q, 0 ≤ x ∧ x < 256 := fun q x hx => by
    simp only [xsOf, List.mem_map] at hx
    obtain ⟨b, _, rfl⟩ := hx
    have := UInt8.toNat_lt b; omega
  have hg2 : ∀ i, i < ww.length → w.cell? ((⟨g, 0, none⟩ : Addr).add i) = some (.int .u8 ((xsOf ww).getD i 0)) := fun i hi => by
    rw [add_mk, Nat.zero_add, xsOf_get ww i hi]
    exact hg i _ (bc_at ww i hi)
  obtain ⟨m, hm⟩ := hM
  cases A with
  | none =>
    have hc0 := hA rfl
    subst hc0
    obtain rfl : l = [] := List.eq_nil_of_length_eq_zero (by omega)
    refine (Tryd.bytes_Contains_nil _ ww.length d w (by omega) (fun h => by omega)).mono ?_
    rintro e w' ⟨rfl, rfl⟩
    refine ⟨ret_bool ?_, Ext.rfl' _⟩
    cases ww with
    | nil => simp at hw
    | cons a t => simp [Lib.contains, Lib.index]
  | some a =>
    have hc1 : ∀ i, i < l.length → w.cell? (a.add i) = some (.int .u8 ((xsOf l).getD i 0)) := fun i hi => by
      obtain ⟨b, f, hb, _, hc⟩ := hR.at_ (by simp; omega)
      cases hb
      rw [add_mk, xsOf_get l i hi]
      exact hc i _ (bc_at l i hi)
    refine (Tryd.bytes_Contains_at a ⟨g, 0, none⟩ l.length c ww.length d (xsOf l) (xsOf ww) m w (by simp) (by simp) (u8 l) (u8 ww) hc1 hg2 hnc hb (by omega) hm).mono ?_
    rintro e w' ⟨rfl, q, rfl⟩
    exact ⟨by rw [bytesOf_xs, bytesOf_xs], (Ext.rfl' _).drN q⟩

set_option maxRecDepth 100000 in
set_option maxHeartbeats 2000000 in
theorem Boundary_c (l : List UInt8) (A : Option Addr) (n c : Nat) (N : Nat) (hn : n = l.length) (hnc : n ≤ c) (hA0 : A = none → c = 0) (hb : n ≤ 4000000000) (hN : N ≤ n * 21 + 22) (hfree : ¬ HasW l (mkL N)) (hall : ∀ m, m < N → HasW l (mkL m)) (w : World) (hM : Mx w) (hp : Pow w) (hA : Rd w A (bc l)) :
    Calls Tryd.prog 8 #[.slice A n c] w (Gives (.string (str (ghL N))) w) := by
  subst hn
  have HA := Lib.hid hA
  have HF := Lib.hid hfree
  have HH := Lib.hid hall
  clear hA hfree hall
  go_enter Tryd.func8, Tryd.ntmps8
  go_wp2
  go_loopw [3] (fun x wr => ∃ k : Nat, x = .int .i64 (k : Int) ∧ k ≤ N ∧ Ext w wr) (fun x _ => N + 1 - (intOf x).toNat)
  case atStart => exact ⟨0, rfl, Nat.zero_le _, Ext.rfl' _⟩
  case round =>
    obtain ⟨k, rfl, hk, hext⟩ := hrel
    obtain ⟨d, hd⟩ : ∃ d, d = decB (k : Int) := ⟨_, rfl⟩
    obtain ⟨s1, hs1⟩ : ∃ s, s = str (ghL k) := ⟨_, rfl⟩
    obtain ⟨s2, hs2⟩ : ∃ s, s = str (mkL k) := ⟨_, rfl⟩
    have hml := mk_len k (by omega)
    have hdl : d.size ≤ 20 := by rw [hd, dec_nat, str_size, Lib.decDigits_length]; exact Lib.nDigits_le20 k (by omega)
    have hsz2 : s2.size = (mkL k).length := by rw [hs2, str_size]
    have cc1 : ∀ w, (Op.stringOp .add ⟨#[103, 97, 116, 101, 104, 111, 117, 115, 101]⟩ d).run Tryd.prog w = .ok (.string s1) w := by
      intro w
      rw [cat_ok _ d (by have : ByteArray.size ⟨#[103, 97, 116, 101, 104, 111, 117, 115, 101]⟩ = 9 := rfl; omega), hs1, hd, dec_nat]
      rfl
    have cc2 : ∀ w, (Op.stringOp .add ⟨#[45, 45, 103, 97, 116, 101, 104, 111, 117, 115, 101]⟩ d).run Tryd.prog w = .ok (.string s2) w := by
      intro w
      rw [cat_ok _ d (by have : ByteArray.size ⟨#[45, 45, 103, 97, 116, 101, 104, 111, 117, 115, 101]⟩ = 11 := rfl; omega), hs2, hd, dec_nat]
      rfl
    have CV := fun w => Lib.run_convert_string_bytes (P := Tryd.prog) w 9 22 5 s2 Tryd.underlying9 Tryd.underlying22 Tryd.underlying5
    have CD := fun (wx : World) (x : Ext w wx) => Digits_c' (k : Int) wx (hp.ext x) (by omega) (by omega)
    rw [← hd] at CD
    have CD := Lib.hid CD
    have ki : (k : Int) + 1 ≤ 9223372036854775807 := by omega
    have CB := fun (g dd : Nat) (wx : World) (x : Ext w wx) (hg : ∀ j u, (bc (mkL k))[j]? = some u → wx.cell? ⟨g, j, none⟩ = some u) =>
      bContains_c l (mkL k) A l.length c dd g rfl hnc hA0 (by omega) (by omega) (by omega) wx (hM.ext x) (HA.out.ext x) hg
    have CB := Lib.hid CB
    have HG := Lib.hid (show ∀ (wx : World) j u, (bc (mkL k))[j]? = some u → (Lib.bytesWorld wx 5 s2).cell? ⟨wx.heap.size, j, none⟩ = some u from fun wx j u hj => by
      rw [hs2]
      have hjl : j < (mkL k).length := by have := (List.getElem?_eq_some_iff.1 hj).1; simpa using this
      rw [Lib.bytesWorld_cell _ _ _ _ (by simpa using hjl), ← hj, bc_at _ _ hjl]
      simp [List.getD, hjl])
    by_cases he : k = N
    · subst he
      have hv : Lib.contains l (mkL k) = false := by
        rw [Bool.eq_false_iff]; intro h; exact HF.out ((contains_iff l _ (by omega)).1 h)
      rw [hv] at CB
      have HS := Lib.hid hs1
      clear hd hs1 hs2 hv
      go_wp2_with (first
        | (go_at_call 18; refine (CD.out _ (by (repeat (first | exact Ext.rfl' _ | assumption | refine Ext.bwH ?_ _ _ | refine Ext.bw ?_ _ _ | refine Ext.dr ?_ | refine Ext.drN ?_ _ | refine Ext.al ?_ _ | refine Ext.st ?_ (by simp) _ | refine Ext.tr ?_ (by assumption))))).mono ?_; rintro e w1 ⟨rfl, hx1⟩)
        | (go_at_call 17; refine (CB.out _ _ _ (Ext.bw (by (repeat (first | exact Ext.rfl' _ | assumption | refine Ext.bwH ?_ _ _ | refine Ext.bw ?_ _ _ | refine Ext.dr ?_ | refine Ext.drN ?_ _ | refine Ext.al ?_ _ | refine Ext.st ?_ (by simp) _ | refine Ext.tr ?_ (by assumption)))) _ _) (HG.out _)).mono ?_; rintro e w2 ⟨rfl, hx2⟩))
      go_ret
      exact ⟨ret_val (by rw [← HS.out]; rfl), by (repeat (first | exact Ext.rfl' _ | assumption | refine Ext.bwH ?_ _ _ | refine Ext.bw ?_ _ _ | refine Ext.dr ?_ | refine Ext.drN ?_ _ | refine Ext.al ?_ _ | refine Ext.st ?_ (by simp) _ | refine Ext.tr ?_ (by assumption)))⟩
    · have hv : Lib.contains l (mkL k) = true := (contains_iff l _ (by omega)).2 (HH.out k (by omega))
      rw [hv] at CB
      have hlt : k < N := by omega
      clear hd hs1 hs2 hv he
      go_wp2_with (first
        | (go_at_call 18; refine (CD.out _ (by (repeat (first | exact Ext.rfl' _ | assumption | refine Ext.bwH ?_ _ _ | refine Ext.bw ?_ _ _ | refine Ext.dr ?_ | refine Ext.drN ?_ _ | refine Ext.al ?_ _ | refine Ext.st ?_ (by simp) _ | refine Ext.tr ?_ (by assumption))))).mono ?_; rintro e w1 ⟨rfl, hx1⟩)
        | (go_at_call 17; refine (CB.out _ _ _ (Ext.bw (by (repeat (first | exact Ext.rfl' _ | assumption | refine Ext.bwH ?_ _ _ | refine Ext.bw ?_ _ _ | refine Ext.dr ?_ | refine Ext.drN ?_ _ | refine Ext.al ?_ _ | refine Ext.st ?_ (by simp) _ | refine Ext.tr ?_ (by assumption)))) _ _) (HG.out _)).mono ?_; rintro e w2 ⟨rfl, hx2⟩))
      go_roundw
      case rel => exact ⟨k + 1, by go_num, by omega, by (repeat (first | exact Ext.rfl' _ | assumption | refine Ext.bwH ?_ _ _ | refine Ext.bw ?_ _ _ | refine Ext.dr ?_ | refine Ext.drN ?_ _ | refine Ext.al ?_ _ | refine Ext.st ?_ (by simp) _ | refine Ext.tr ?_ (by assumption)))⟩
      case measure => simp [intOf]; omega
end Go.Proofs.YtllpffdjlhamkaaDoor
