/-
Where a text stands in bytes: the reference's has.
-/
import Derived.Test.YtolfpfdmgelhhaaDoorProg
import Derived.Test.YtolfpfdmgelhhaaDoorMul1
set_option linter.unusedVariables false
set_option linter.unusedSimpArgs false
namespace Go.Proofs.YtolfpfdmgelhhaaDoor
open Go.RowKit

set_option maxRecDepth 100000 in
set_option maxHeartbeats 2000000 in
theorem rhas_at (l ww : List UInt8) (A : Option Addr) (n c : Nat) (k from_ : Nat) (hn : n = l.length) (hnc : n ≤ c) (hb : n ≤ 140737488355328) (hw : 0 < ww.length) (hk0 : from_ ≤ k) (hk : k + ww.length ≤ l.length) (hs : standsAt l ww k)
    (hno : ∀ i, from_ ≤ i → i < k → ¬ standsAt l ww i) (w : World) (hA : Rd w A (bc l)) :
    Calls Tryd.prog 66 #[.slice A n c, .string (str ww), .int .i64 (from_ : Int)] w fun e w' => e = .returned (.int .i64 (k : Int)) ∧ w = w' := by
  subst hn
  obtain ⟨s, hse⟩ : ∃ s, s = str ww := ⟨_, rfl⟩
  have hss : s.size = ww.length := by rw [hse, str_size]
  rw [← hse]
  go_enter Tryd.func66, Tryd.ntmps66
  go_wp2
  go_loopw [7] (fun x wr => ∃ i : Nat, x = .int .i64 (i : Int) ∧ from_ ≤ i ∧ i ≤ k ∧ w = wr) (fun x _ => k + 1 - (intOf x).toNat)
  case atStart => exact ⟨from_, rfl, Nat.le_refl _, hk0, rfl⟩
  case round =>
    obtain ⟨i, rfl, hi0, hik, rfl⟩ := hrel
    by_cases he : i = k
    · subst he
      have hi1 : i + ww.length ≤ l.length := by omega
      obtain ⟨b, f, rfl, hb, _⟩ := hA.at_ (by rw [bc_len]; omega)
      have hr : Rd w (some ⟨b, f + i, none⟩) (bc ((l.drop i).take ww.length)) := by
        have := (hA.drop i).take ww.length
        rw [bc_drop, bc_take] at this; exact this
      have hl : ((l.drop i).take ww.length).length = ww.length := by rw [List.length_take, List.length_drop]; omega
      obtain ⟨s1, hs1⟩ : ∃ s, s = str ((l.drop i).take ww.length) := ⟨_, rfl⟩
      have cv := conv_bs (P := Tryd.prog) 22 9 5 Tryd.underlying22 Tryd.underlying5 Tryd.underlying9 hr ww.length (c - i) hl.symm
      rw [← hs1] at cv
      have j0 : (0 : Int) ≤ (i : Int) := by omega
      have j1 : (i : Int) ≤ (i : Int) + (ww.length : Int) := by omega
      have j2 : (i : Int) + (ww.length : Int) ≤ (c : Int) := by omega
      have j3 : ¬ c = i := by omega
      have j4 : ((i : Int) + (ww.length : Int)).toNat = i + ww.length := by omega
      have j5 : i + ww.length - i = ww.length := by omega
      have j6 : IntKind.i64.wrap ((i : Int) + (ww.length : Int)) = (i : Int) + (ww.length : Int) := by rw [IntKind.wrap_i64]; omega
      have j7 : (i : Int) + (ww.length : Int) ≤ (l.length : Int) := by omega
      obtain rfl : s1 = s := by unfold standsAt at hs; rw [hs1, hse, hs]
      clear hno hs hs1 hse
      go_wp2
      go_ret
      exact ⟨rfl, rfl⟩
    · have hi1 : i + ww.length ≤ l.length := by omega
      obtain ⟨b, f, rfl, hb, _⟩ := hA.at_ (by rw [bc_len]; omega)
      have hr : Rd w (some ⟨b, f + i, none⟩) (bc ((l.drop i).take ww.length)) := by
        have := (hA.drop i).take ww.length
        rw [bc_drop, bc_take] at this; exact this
      have hl : ((l.drop i).take ww.length).length = ww.length := by rw [List.length_take, List.length_drop]; omega
      obtain ⟨s1, hs1⟩ : ∃ s, s = str ((l.drop i).take ww.length) := ⟨_, rfl⟩
      have cv := conv_bs (P := Tryd.prog) 22 9 5 Tryd.underlying22 Tryd.underlying5 Tryd.underlying9 hr ww.length (c - i) hl.symm
      rw [← hs1] at cv
      have j0 : (0 : Int) ≤ (i : Int) := by omega
      have j1 : (i : Int) ≤ (i : Int) + (ww.length : Int) := by omega
      have j2 : (i : Int) + (ww.length : Int) ≤ (c : Int) := by omega
      have j3 : ¬ c = i := by omega
      have j4 : ((i : Int) + (ww.length : Int)).toNat = i + ww.length := by omega
      have j5 : i + ww.length - i = ww.length := by omega
      have j6 : IntKind.i64.wrap ((i : Int) + (ww.length : Int)) = (i : Int) + (ww.length : Int) := by rw [IntKind.wrap_i64]; omega
      have j7 : (i : Int) + (ww.length : Int) ≤ (l.length : Int) := by omega
      have hne : (s1.toList == s.toList) = false := by
        rw [beq_eq_false_iff_ne]
        intro h
        refine hno i hi0 (by omega) ?_
        have : s1 = s := by
          rw [Lib.toList_data, Lib.toList_data] at h
          have h2 := congrArg str h
          simpa using h2
        rw [hs1, hse, str_inj] at this
        exact this
      have HS := Lib.hid hs
      have HN := Lib.hid hno
      clear hno hs hs1 hse
      have i1 : (i : Int) + 1 ≤ 9223372036854775807 := by omega
      go_wp2
      go_roundw
      case rel => exact ⟨i + 1, by go_num, by omega, by omega, by trivial⟩
      case measure => simp [intOf]; omega
set_option maxRecDepth 100000 in
set_option maxHeartbeats 2000000 in
theorem rhas_no (l ww : List UInt8) (A : Option Addr) (n c : Nat) (from_ : Nat) (hn : n = l.length) (hnc : n ≤ c) (hb : n ≤ 140737488355328) (hw : 0 < ww.length) (hwb : ww.length ≤ 140737488355328) (hf : from_ ≤ 140737488355328)
    (hno : ∀ i, from_ ≤ i → i + ww.length ≤ l.length → ¬ standsAt l ww i) (w : World) (hA : Rd w A (bc l)) :
    Calls Tryd.prog 66 #[.slice A n c, .string (str ww), .int .i64 (from_ : Int)] w fun e w' => e = .returned (.int .i64 (-1)) ∧ w = w' := by
  subst hn
  obtain ⟨s, hse⟩ : ∃ s, s = str ww := ⟨_, rfl⟩
  have hss : s.size = ww.length := by rw [hse, str_size]
  rw [← hse]
  go_enter Tryd.func66, Tryd.ntmps66
  go_wp2
  go_loopw [7] (fun x wr => ∃ i : Nat, x = .int .i64 (i : Int) ∧ from_ ≤ i ∧ i ≤ max from_ (l.length + 1) ∧ w = wr) (fun x _ => l.length + 1 - (intOf x).toNat)
  case atStart => exact ⟨from_, rfl, Nat.le_refl _, by omega, rfl⟩
  case round =>
    obtain ⟨i, rfl, hi0, hik, rfl⟩ := hrel
    by_cases he : i + ww.length ≤ l.length
    · have hi1 : i + ww.length ≤ l.length := by omega
      obtain ⟨b, f, rfl, hb, _⟩ := hA.at_ (by rw [bc_len]; omega)
      have hr : Rd w (some ⟨b, f + i, none⟩) (bc ((l.drop i).take ww.length)) := by
        have := (hA.drop i).take ww.length
        rw [bc_drop, bc_take] at this; exact this
      have hl : ((l.drop i).take ww.length).length = ww.length := by rw [List.length_take, List.length_drop]; omega
      obtain ⟨s1, hs1⟩ : ∃ s, s = str ((l.drop i).take ww.length) := ⟨_, rfl⟩
      have cv := conv_bs (P := Tryd.prog) 22 9 5 Tryd.underlying22 Tryd.underlying5 Tryd.underlying9 hr ww.length (c - i) hl.symm
      rw [← hs1] at cv
      have j0 : (0 : Int) ≤ (i : Int) := by omega
      have j1 : (i : Int) ≤ (i : Int) + (ww.length : Int) := by omega
      have j2 : (i : Int) + (ww.length : Int) ≤ (c : Int) := by omega
      have j3 : ¬ c = i := by omega
      have j4 : ((i : Int) + (ww.length : Int)).toNat = i + ww.length := by omega
      have j5 : i + ww.length - i = ww.length := by omega
      have j6 : IntKind.i64.wrap ((i : Int) + (ww.length : Int)) = (i : Int) + (ww.length : Int) := by rw [IntKind.wrap_i64]; omega
      have j7 : (i : Int) + (ww.length : Int) ≤ (l.length : Int) := by omega
      have hne : (s1.toList == s.toList) = false := by
        rw [beq_eq_false_iff_ne]
        intro h
        refine hno i hi0 he ?_
        have : s1 = s := by
          rw [Lib.toList_data, Lib.toList_data] at h
          have h2 := congrArg str h
          simpa using h2
        rw [hs1, hse, str_inj] at this
        exact this
      have HN := Lib.hid hno
      clear hno hs1 hse
      have i1 : (i : Int) + 1 ≤ 9223372036854775807 := by omega
      go_wp2
      go_roundw
      case rel => exact ⟨i + 1, by go_num, by omega, by omega, by trivial⟩
      case measure => simp [intOf]; omega
    · have j6 : IntKind.i64.wrap ((i : Int) + (ww.length : Int)) = (i : Int) + (ww.length : Int) := by rw [IntKind.wrap_i64]; omega
      have j7 : ¬ (i : Int) + (ww.length : Int) ≤ (l.length : Int) := by omega
      clear hno hse
      go_wp2
      go_ret
      exact ⟨rfl, rfl⟩
end Go.Proofs.YtolfpfdmgelhhaaDoor
