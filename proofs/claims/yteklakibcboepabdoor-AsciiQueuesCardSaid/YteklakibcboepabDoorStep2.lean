/-
A queue's step in the law AsciiQueues: Line.
-/
import Derived.Test.YteklakibcboepabDoorStep1
set_option linter.unusedVariables false
set_option linter.unusedSimpArgs false
namespace Go.Proofs.YteklakibcboepabDoor
open Go.RowKit

set_option maxRecDepth 100000 in
set_option maxHeartbeats 2000000 in
theorem step_line (k p j r lim : Nat) (hk0 : 1 ≤ k) (hk : k + 1 < j) (hj : j + 1 < 9) (l : List UInt8) (kind n : Int) (hd0 : kind ≠ 0) (hd1 : kind ≠ 1) (hd2 : kind ≠ 2) (B : Option Addr) (m d : Nat) (w : World) (o : Ow) (ht : Twin w o k p j r l lim) :
    Calls Tryd.prog 15 #[.pointer (some ⟨p, 0, none⟩), .pointer (some ⟨r, 0, none⟩), .agg #[.int .i64 kind, .int .i64 n, .slice B m d]] w (Turns (KS k j) w o (StepEnd k p j r lim)) := by
  have HT := Lib.hid ht
  clear ht
  obtain ⟨W0, hW0⟩ : ∃ W0, W0 = w.alloc (.cells #[.int .i64 kind, .int .i64 n, .slice B m d] 42) := ⟨_, rfl⟩
  obtain ⟨o0, ho0⟩ : ∃ o0 : Ow, o0 = fun b => if b = w.heap.size then 0 else o b := ⟨_, rfl⟩
  have st0 : Stp (fun _ => False) w o W0 o0 := by
    rw [hW0, ho0]; exact Stp.ext2 (Ext.al (Ext.rfl' w) _) (fun b hb => by rw [if_neg (by omega)])
  have T0 := Lib.hid (HT.out.stp st0 (fun x => x) (fun x => x) (fun x => x) (fun x => x))
  have ST0 := Lib.hid st0
  clear st0 ho0
  have k0 : (kind == 0) = false := by rw [beq_eq_false_iff_ne]; exact hd0
  have k1 : (kind == 1) = false := by rw [beq_eq_false_iff_ne]; exact hd1
  have k2 : (kind == 2) = false := by rw [beq_eq_false_iff_ne]; exact hd2
  rcases idx_cases l 10 with ⟨hi, hn⟩ | ⟨i, hi, hil, hi1, hi2⟩
  · have C1 := Lib.hid (fun w o hq => qLine_no k p lim l w o hq hn)
    have C2 := Lib.hid (fun w o hq => rLine_no j r lim l w o hq hn)
    obtain ⟨s, hs⟩ : ∃ s, s = str [] := ⟨_, rfl⟩
    have cv : ∀ w, (convert 22 9 (.slice none 0 0)).run Tryd.prog w = .ok (.string s) w := by
      intro w; rw [hs]
      exact conv_bs (P := Tryd.prog) 22 9 5 Tryd.underlying22 Tryd.underlying5 Tryd.underlying9 (l := []) (.inl rfl) 0 0 rfl
    clear hi hn hs hd0 hd1 hd2
    go_enter Tryd.func15, Tryd.ntmps15
    go_wp2_with (first
      | (go_at_call 6; rw [← hW0]; clear hW0; refine (C1.out _ o0 T0.out.1).mono ?_; rintro e w2 ⟨rfl, rfl⟩)
      | (go_at_call 36; refine (C2.out _ o0 T0.out.2).mono ?_; rintro e w3 ⟨rfl, rfl⟩))
    go_ret
    exact Turns.mk o0 rfl ⟨rfl, l, T0.out⟩ (ST0.out.mono fun _ x => x.elim)
  · obtain ⟨hil', hi1'⟩ := List.getElem?_eq_some_iff.1 hi1
    have C1 := fun w o hq => qLine_at 9 k p lim (by omega) l i w o hq hi hil
    have C2 := fun w o hq => rLine_at 9 j r lim (by omega) l i w o hq hil hi1' hi2
    obtain ⟨a, ha⟩ : ∃ a, a = strip13 (l.take i) := ⟨_, rfl⟩
    obtain ⟨b, hb⟩ : ∃ b, b = l.drop (i + 1) := ⟨_, rfl⟩
    rw [← ha, ← hb] at C1 C2
    have C1 := Lib.hid C1
    have C2 := Lib.hid C2
    obtain ⟨s, hs⟩ : ∃ s, s = str a := ⟨_, rfl⟩
    have HS := Lib.hid hs
    clear hi hil hil' hi1 hi1' hi2 ha hb hs hd0 hd1 hd2
    go_enter Tryd.func15, Tryd.ntmps15
    go_wp2_with (first
      | (go_at_call 6; rw [← hW0]; clear hW0; refine (C1.out _ o0 T0.out.1).mono ?_; rintro e w2 ⟨v, o2, rfl, ⟨⟨A2, c2, rfl, hr2, ow2⟩, hq2⟩, hst2⟩; have R2 := Lib.hid (T0.out.2.stp hst2 (by omega) (by omega)))
      | (go_at_call 36; refine (C2.out _ o2 R2.out).mono ?_; rintro e w3 ⟨v, o3, rfl, ⟨⟨A3, c3, rfl, hr3⟩, hq3⟩, hst3⟩; have cv3 := conv_bs (P := Tryd.prog) 22 9 5 Tryd.underlying22 Tryd.underlying5 Tryd.underlying9 hr3 a.length c3 rfl; have cv23 := conv_bs (P := Tryd.prog) 22 9 5 Tryd.underlying22 Tryd.underlying5 Tryd.underlying9 (hr2.stp hst3 (fun x hx _ => by rw [ow2 x hx]; unfold KQ; omega)) a.length c2 rfl; rw [← HS.out] at cv3 cv23))
    go_ret
    exact Turns.mk o3 rfl ⟨rfl, b, hq2.stp hst3 (by unfold KQ; omega) (by unfold KQ; omega), hq3⟩ ((ST0.out.mono fun _ x => x.elim).tr ((hst2.mono (fun x hx => .inl hx)).tr (hst3.mono (fun x hx => by unfold KQ at hx; unfold KS; omega))))
end Go.Proofs.YteklakibcboepabDoor
