/-
The statement RangesResolves: its helpers and its walk.
-/
import Derived.Test.YteklakibcboepaaDoorRng5
namespace Go.Proofs.YteklakibcboepaaDoor
open Go.RowKit

theorem num17_c (n : Int) (w : World) : Calls Tryd.prog 15 #[.int .i64 n] w fun e w' => e = .returned (.int .i64 n) ∧ w = w' := by
  go_enter Tryd.func15, Tryd.ntmps15
  go_wp2
  go_ret
  exact ⟨rfl, rfl⟩

set_option maxRecDepth 100000 in
set_option maxHeartbeats 1000000 in
theorem same17_c (w : World) (A B : Option Addr) (n m c d : Nat) (ps : List (Int × Int)) (hn : ps.length = n) (hm : ps.length = m) (hl : n ≤ maxLen) (ha : Rd w A (pc ps)) (hb : Rd w B (pc ps)) :
    Calls Tryd.prog 14 #[.slice A n c, .slice B m d] w (Gives (.bool true) w) := by
  obtain rfl : n = m := hn.symm.trans hm
  unfold maxLen at hl
  go_enter Tryd.func14, Tryd.ntmps14
  go_wp2
  go_loopw [5] (fun i wr => ∃ k : Nat, k ≤ n ∧ i = .int .i64 k ∧ Ext w wr) (fun i _ => n - (intOf i).toNat)
  case atStart => exact ⟨0, Nat.zero_le _, rfl, Ext.rfl' _⟩
  case round =>
    obtain ⟨k, hk, rfl, hext⟩ := hrel
    by_cases hlt : k < n
    · obtain ⟨b, o, rfl, hbl, hS⟩ := ha.pair (k := k) (by omega)
      obtain ⟨b', o', rfl, hbl', hS'⟩ := hb.pair (k := k) (by omega)
      obtain ⟨a0, a1⟩ := hS.out wr hext
      obtain ⟨b0, b1⟩ := hS'.out wr hext
      obtain ⟨p, hp⟩ : ∃ p, p = ps[k] := ⟨_, rfl⟩
      rw [← hp] at a0 a1 b0 b1
      obtain ⟨x, y⟩ := p
      have hk0 : (0 : Int) ≤ (k : Int) := by omega
      have hk1 : (k : Int) < (n : Int) := by omega
      clear hp
      go_wp2
      go_quiet (fail)
      go_wp2
      go_roundw
      case rel => exact ⟨k + 1, by omega, by go_num, by first | exact hext.drN _ | (simp; exact hext.drN _)⟩
      case measure => simp [intOf]; omega
    · obtain rfl : k = n := by omega
      go_wp2
      go_ret
      exact ⟨rfl, hext⟩
end Go.Proofs.YteklakibcboepaaDoor
