/-
Whatever comes as a head: the law as a walk.
-/
import Derived.Test.YtppajpchibkneaaDoorHw2
import Derived.Test.YtppajpchibkneaaDoorOPa
set_option linter.unusedVariables false
set_option linter.unusedSimpArgs false
namespace Go.Proofs.YtppajpchibkneaaDoor
open Go.RowKit

/-- A text without a byte that could end a line, or hide one. -/
def clnL (l : List UInt8) : Prop := ∀ j (h : j < l.length), l[j].toNat ≠ 0 ∧ l[j].toNat ≠ 10 ∧ l[j].toNat ≠ 13 ∧ l[j].toNat ≠ 127
set_option maxRecDepth 100000 in
set_option maxHeartbeats 1000000 in
theorem hCln_c (l : List UInt8) (hl : l.length ≤ maxLen) (hc : clnL l) (w : World) : Calls Tryd.prog 12 #[.string (str l)] w (Gives (.bool true) w) := by
  unfold maxLen at hl
  have HC := Lib.hid hc
  clear hc
  go_enter Tryd.func12, Tryd.ntmps12
  go_wp2
  go_loopw [3] (fun i wr => ∃ k : Nat, i = .int .i64 (k : Int) ∧ k ≤ l.length ∧ Ext w wr) (fun i _ => l.length - (intOf i).toNat)
  case atStart => exact ⟨0, rfl, Nat.zero_le _, Ext.rfl' _⟩
  case round =>
    obtain ⟨k, rfl, hk, hx⟩ := hrel
    by_cases hlt : k < l.length
    · obtain ⟨h0, h1, h2, h3⟩ := HC.out k hlt
      have hk0 : (0 : Int) ≤ (k : Int) := by omega
      have hk1 : (k : Int) < (l.length : Int) := by omega
      obtain ⟨b, hb⟩ : ∃ b, b = l[k].toNat := ⟨_, rfl⟩
      have HB := Lib.hid hb
      rw [← hb] at h0 h1 h2 h3
      have d0 : ((b : Int) == 0) = false := by rw [beq_eq_false_iff_ne]; omega
      have d1 : ((b : Int) == 10) = false := by rw [beq_eq_false_iff_ne]; omega
      have d2 : ((b : Int) == 13) = false := by rw [beq_eq_false_iff_ne]; omega
      have d3 : ((b : Int) == 127) = false := by rw [beq_eq_false_iff_ne]; omega
      have hg := hb.symm
      clear h0 h1 h2 h3 hb
      go_wp2
      go_roundw
      case rel => exact ⟨k + 1, by go_num, by omega, hx⟩
      case measure => simp [intOf]; omega
    · have hkl : k = l.length := by omega
      have hk1 : ¬ (k : Int) < (l.length : Int) := by omega
      clear hkl
      go_wp2
      go_ret
      exact ⟨rfl, hx⟩
theorem cln_val {l : List UInt8} (h : vlL l = true) : clnL l := by
  unfold vlL at h
  rw [Bool.and_eq_true, List.all_eq_true] at h
  intro j hj
  have := h.1 l[j] (List.getElem_mem hj)
  unfold valB at this
  simp at this
  omega
theorem cln_tg {l : List UInt8} (h : tgH l = true) : clnL l ∧ l ≠ [] := by
  unfold tgH at h
  rw [Bool.and_eq_true, List.all_eq_true] at h
  refine ⟨fun j hj => ?_, by simpa using h.2⟩
  have := h.1 l[j] (List.getElem_mem hj)
  unfold tgB at this
  simp at this
  omega
set_option maxRecDepth 100000 in
/-- A part of bytes: its value and what it reads as. -/
theorem cut_partH (b : List UInt8) (B : Option Addr) (n c X Y : Nat) (w : World) (hR : Rd w B (bc b)) (hX : X ≤ Y) (hY : Y ≤ b.length) (hc : b.length ≤ c) :
    ∃ B', (∀ w', (Instr.slice 22 (.slice B n c) (some (.int .i64 (X : Int))) (some (.int .i64 (Y : Int))) none).run Tryd.prog w' = .ok (.slice B' (Y - X) (c - X)) w') ∧ Rd w B' (bc ((b.take Y).drop X)) ∧ (∀ a', B' = some a' → ∃ a, B = some a ∧ a.block = a'.block) := by
  have hl : ((b.take Y).drop X).length = Y - X := by rw [List.length_drop, List.length_take]; omega
  have hz : ∀ w', (Go.sizeOf 5).run Tryd.prog w' = .ok 1 w' := fun _ => rfl
  have hu := Tryd.underlying22
  refine ⟨if c = X then B else B.map (·.add (X * 1)), fun w' => ?_, ?_, ?_⟩
  · have h1 : (0 : Int) ≤ (Y : Int) := by omega
    have h2 : (Y : Int) ≤ (c : Int) := by omega
    have h3 : (0 : Int) ≤ (X : Int) := by omega
    have h4 : (X : Int) ≤ (Y : Int) := by omega
    simp [Instr.slice, Instr.sliceBounds, Instr.sliceBound, asIntOf, run_underlying hu, go_sem, h1, h2, h3, h4, hz, hX, (show Y ≤ c by omega)]
  · by_cases h0 : X = Y
    · have h5 : (b.take Y).drop X = [] := List.eq_nil_of_length_eq_zero (by rw [hl]; omega)
      exact .inl (by rw [h5]; rfl)
    · rw [if_neg (by omega)]
      obtain ⟨g, f, rfl, hg, hcc⟩ := hR.at_ (by rw [bc_len]; omega)
      refine .inr ⟨g, f + X * 1, by simp [Addr.add], fun j u hu => ?_⟩
      have hj : j < Y - X := by have := (List.getElem?_eq_some_iff.1 hu).1; rw [bc_len, hl] at this; exact this
      rw [Nat.mul_one, Nat.add_assoc]
      refine hcc (X + j) u ?_
      rw [← hu, ← bc_drop, ← bc_take, List.getElem?_drop, List.getElem?_take_of_lt (by omega)]
  · intro a' ha
    split at ha
    · exact ⟨a', ha, rfl⟩
    · cases B with
      | none => cases ha
      | some a => cases ha; exact ⟨a, rfl, by cases a; simp only [Addr.add]; split <;> rfl⟩
end Go.Proofs.YtppajpchibkneaaDoor
