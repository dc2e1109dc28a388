/-
Steps of memory that is owned: draws, new blocks, a cell that is set; a queue's step in the law AsciiQueues: Take, Peek, Line.
-/
import Derived.Test.YteklakibcboepabDoorLent
import Derived.Test.YteklakibcboepabDoorLine2
set_option linter.unusedVariables false
set_option linter.unusedSimpArgs false
namespace Go.Proofs.YteklakibcboepabDoor
open Go.RowKit

section
variable {K : Nat → Prop} {w w' : World} {o o' : Ow}
theorem Stp.dr (h : Stp K w o w' o') : Stp K w o w'.drew o' := h.tr (Stp.ext (Ext.dr (Ext.rfl' _)))
theorem Stp.drN (h : Stp K w o w' o') (n : Nat) : Stp K w o (w'.drewN n) o' := h.tr (Stp.ext (Ext.drN (Ext.rfl' _) n))
theorem Stp.al (h : Stp K w o w' o') (x : Obj) : Stp K w o (w'.alloc x) o' := h.tr (Stp.ext (Ext.al (Ext.rfl' _) x))
/-- A slice of numbers of 8 bits, one of them set. -/
theorem Sl.set8 {k g f n c : Nat} {zs : List Int} (h : Sl w o k 1 (some ⟨g, f, none⟩) n c (zs.map (.int .u8))) (j : Nat) (hj : j < n) (z : Int) :
    Sl (w.setCell ⟨g, f + j, none⟩ (.int .u8 z)) o k 1 (some ⟨g, f, none⟩) n c ((zs.set j z).map (.int .u8)) := by
  have hl := h.len
  simp only [List.length_map, Nat.mul_one] at hl
  refine ⟨by simp [hl], h.le, h.max, ?_⟩
  rcases h.at_ with h0 | ⟨g', f', hA, ho, hg, hc, hr⟩
  · exact .inl h0
  · cases hA
    have hsome : (w.cell? ⟨g, f + j, none⟩).isSome = true := (hr j (by have := h.le; omega)).1
    have hin := World.cell?_setCells_in g [.int .u8 z] (f + j) w (fun i hi => by
      have hi0 : i = 0 := by simpa using hi
      rw [hi0]; exact hsome)
    have hout := fun (x : Addr) hx => World.cell?_setCells_out g [.int .u8 z] (f + j) w x hx
    have e : w.setCell ⟨g, f + j, none⟩ (.int .u8 z) = w.setCells g (f + j) [.int .u8 z] := rfl
    refine .inr ⟨g, f, rfl, ho, by rw [e]; exact Nat.lt_of_lt_of_le hg (World.keptBut_setCells g (may := fun _ => True) _ _ w (fun _ _ => trivial)).size, fun i u hu => ?_, fun i hi => ⟨?_, ?_⟩⟩
    · rw [e]
      by_cases hij : i = j
      · subst hij
        have := hin 0 (by simp)
        simp only [Nat.add_zero] at this
        rw [this]
        rw [List.getElem?_map, List.getElem?_set] at hu
        simp only [if_true] at hu
        rw [if_pos (by omega)] at hu
        simpa using hu
      · rw [hout _ (fun _ _ => by show f + i < f + j ∨ f + j + 1 ≤ f + i; omega)]
        refine hc i u ?_
        rw [List.getElem?_map, List.getElem?_set_ne (fun h => hij h.symm)] at hu
        rw [List.getElem?_map]; exact hu
    · rw [e]; exact World.isSome_setCells _ _ _ _ _ (hr i hi).1
    · rw [e, World.frozen?_setCells]; exact (hr i hi).2
end
theorem bc_ints (l : List UInt8) : bc l = (xsOf l).map (.int .u8) := by unfold bc xsOf; rw [List.map_map]; rfl

/-- Whose blocks a step turns. -/
def KS (k j : Nat) (i : Nat) : Prop := i = k ∨ i = k + 1 ∨ i = j ∨ i = j + 1 ∨ i = 9
/-- Two queues that hold the same. -/
def Twin (w : World) (o : Ow) (k p j r : Nat) (l : List UInt8) (lim : Nat) : Prop := QIs w o k p l lim ∧ RIs w o j r l lim
theorem Twin.stp {K : Nat → Prop} {w w' : World} {o o' : Ow} {k p j r lim : Nat} {l : List UInt8} (h : Twin w o k p j r l lim) (s : Stp K w o w' o') (h0 : ¬ K k) (h1 : ¬ K (k + 1)) (h2 : ¬ K j) (h3 : ¬ K (j + 1)) : Twin w' o' k p j r l lim :=
  ⟨h.1.stp s h0 h1, h.2.stp s h2 h3⟩
theorem Twin.ext {w w' : World} {o : Ow} {k p j r lim : Nat} {l : List UInt8} (h : Twin w o k p j r l lim) (e : Ext w w') : Twin w' o k p j r l lim := ⟨h.1.ext e, h.2.ext e⟩
/-- The end of a step: it answered true, and the queues hold the same. -/
def StepEnd (k p j r lim : Nat) (v : Value) (w : World) (o : Ow) : Prop := v = .bool true ∧ ∃ l, Twin w o k p j r l lim

set_option maxRecDepth 100000 in
set_option maxHeartbeats 2000000 in
theorem step_take (k p j r lim : Nat) (hk0 : 1 ≤ k) (hk : k + 1 < j) (hj : j + 1 < 9) (l : List UInt8) (n : Int) (h0 : -9223372036854775808 ≤ n) (h1 : n ≤ 9223372036854775807) (B : Option Addr) (m d : Nat) (w : World) (o : Ow) (ht : Twin w o k p j r l lim) :
    Calls Tryd.prog 15 #[.pointer (some ⟨p, 0, none⟩), .pointer (some ⟨r, 0, none⟩), .agg #[.int .i64 1, .int .i64 n, .slice B m d]] w (Turns (KS k j) w o (StepEnd k p j r lim)) := by
  have C1 := fun w o hq => qTake_c 9 k p lim (by omega) l n w o hq h0 h1
  have C2 := fun w o hq => rTake_c 9 j r lim (by omega) l n w o hq h0 h1
  obtain ⟨a, ha⟩ : ∃ a, a = l.take n.toNat := ⟨_, rfl⟩
  obtain ⟨b, hb⟩ : ∃ b, b = l.drop n.toNat := ⟨_, rfl⟩
  rw [← ha, ← hb] at C1 C2
  have C1 := Lib.hid C1
  have C2 := Lib.hid C2
  have HT := Lib.hid ht
  obtain ⟨s, hs⟩ : ∃ s, s = str a := ⟨_, rfl⟩
  have HS := Lib.hid hs
  clear ht ha hb hs
  obtain ⟨W0, hW0⟩ : ∃ W0, W0 = w.alloc (.cells #[.int .i64 1, .int .i64 n, .slice B m d] 42) := ⟨_, rfl⟩
  obtain ⟨o0, ho0⟩ : ∃ o0 : Ow, o0 = fun b => if b = w.heap.size then 0 else o b := ⟨_, rfl⟩
  have st0 : Stp (fun _ => False) w o W0 o0 := by
    rw [hW0, ho0]; exact Stp.ext2 (Ext.al (Ext.rfl' w) _) (fun b hb => by rw [if_neg (by omega)])
  have hob : o0 w.heap.size = 0 := by rw [ho0]; simp
  have b1 : W0.cell? ⟨w.heap.size, 1, none⟩ = some (.int .i64 n) := by rw [hW0]; exact new_at w _ _ 1 _ rfl
  have T0 := Lib.hid (HT.out.stp st0 (fun x => x) (fun x => x) (fun x => x) (fun x => x))
  have hks := Lib.hid (fun w' o' (e : Stp (KS k j) W0 o0 w' o') => (show w'.cell? ⟨w.heap.size, 1, none⟩ = some (.int .i64 n) from e.cell (by rw [hob]; unfold KS; omega) b1))
  have ST0 := Lib.hid st0
  clear st0 ho0 hob b1
  go_enter Tryd.func15, Tryd.ntmps15
  go_wp2
  rw [← hW0]
  clear hW0
  have a1 : W0.drew.cell? ⟨w.heap.size, 1, none⟩ = some (.int .i64 n) := by apply hks.out; (repeat (first | exact Stp.rfl' | assumption | apply Stp.dr | apply Stp.drN | apply Stp.al))
  go_region_with (first
    | (go_at_call 9; refine (C1.out _ o0 (T0.out.1.ext (w' := W0.drew) (by (repeat (first | exact Ext.rfl' _ | assumption | refine Ext.dr ?_ | refine Ext.drN ?_ _ | refine Ext.al ?_ _ | refine Ext.st ?_ (by simp) _ | refine Ext.tr ?_ (by assumption)))))).mono ?_; rintro e w2 ⟨v, o2, rfl, ⟨⟨A2, c2, rfl, hs2, hn2⟩, hq2⟩, hst2⟩; have sk2 : Stp (fun i => i = k) W0 o0 w2 o2 := (Stp.ext (by (repeat (first | exact Ext.rfl' _ | assumption | refine Ext.dr ?_ | refine Ext.drN ?_ _ | refine Ext.al ?_ _ | refine Ext.st ?_ (by simp) _ | refine Ext.tr ?_ (by assumption))))).tr hst2; have st2 : Stp (KS k j) W0 o0 w2 o2 := sk2.mono (fun i hi => .inl hi); have R2 := Lib.hid (T0.out.2.stp sk2 (by omega) (by omega)); have cv2 := conv_bs (P := Tryd.prog) 22 9 5 Tryd.underlying22 Tryd.underlying5 Tryd.underlying9 hs2.rd a.length c2 rfl; rw [← HS.out] at cv2; have a2 := hks.out _ _ st2)
    | (go_at_call 34; refine (C2.out _ o2 (R2.out.ext (by (repeat (first | exact Ext.rfl' _ | assumption | refine Ext.dr ?_ | refine Ext.drN ?_ _ | refine Ext.al ?_ _ | refine Ext.st ?_ (by simp) _ | refine Ext.tr ?_ (by assumption)))))).mono ?_; rintro e w3 ⟨v, o3, rfl, ⟨⟨A3, c3, rfl, hs3, hn3⟩, hq3⟩, hst3⟩; have sk3 : Stp (KQ j) w2 o2 w3 o3 := (Stp.ext (by (repeat (first | exact Ext.rfl' _ | assumption | refine Ext.dr ?_ | refine Ext.drN ?_ _ | refine Ext.al ?_ _ | refine Ext.st ?_ (by simp) _ | refine Ext.tr ?_ (by assumption))))).tr hst3; have st3 : Stp (KS k j) W0 o0 w3 o3 := st2.tr (sk3.mono (fun i hi => by unfold KQ at hi; unfold KS; omega)); have cv3 := conv_bs (P := Tryd.prog) 22 9 5 Tryd.underlying22 Tryd.underlying5 Tryd.underlying9 hs3.rd a.length c3 rfl; have cv23 := conv_bs (P := Tryd.prog) 22 9 5 Tryd.underlying22 Tryd.underlying5 Tryd.underlying9 ((hs2.stp sk3 (by unfold KQ; omega)).rd) a.length c2 rfl; rw [← HS.out] at cv3 cv23))
  all_goals go_wp2
  all_goals go_ret
  all_goals exact Turns.mk o3 rfl ⟨rfl, b, hq2.stp sk3 (by unfold KQ; omega) (by unfold KQ; omega), hq3⟩ ((ST0.out.mono fun _ x => x.elim).tr st3)
end Go.Proofs.YteklakibcboepabDoor
