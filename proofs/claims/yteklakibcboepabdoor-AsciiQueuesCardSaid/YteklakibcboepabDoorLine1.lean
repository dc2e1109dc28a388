/-
A queue of bytes: the program's Line.
-/
import Derived.Test.YteklakibcboepabDoorBy1
set_option linter.unusedVariables false
set_option linter.unusedSimpArgs false
namespace Go.Proofs.YteklakibcboepabDoor
open Go.RowKit

theorem qLine_no (k p lim : Nat) (l : List UInt8) (w : World) (o : Ow) (hq : QIs w o k p l lim) (hn : (10 : UInt8) ∉ l) :
    Calls Tryd.prog 6 #[.pointer (some ⟨p, 0, none⟩)] w fun e w' => e = .returned (.tuple #[.slice none 0 0, .bool false]) ∧ w = w' := by
  obtain ⟨A, c, hh, hs, hna⟩ := hq.at_
  obtain ⟨c0, c1, f0⟩ := q_facts hh
  have hlo := hq.lo
  have hi : Lib.indexByte l 10 = -1 := by
    rcases idx_cases l 10 with ⟨h, _⟩ | ⟨j, _, _, h, _⟩
    · exact h
    · exact absurd (List.mem_of_getElem? h) hn
  have HR := Lib.hid hs.rd
  have HI := Lib.hid hi
  have HN := Lib.hid hna
  clear hs hh hq hn hi hna
  go_enter Tryd.func6, Tryd.ntmps6
  go_wp2_with (first
    | (go_at_call 24; refine (qnone_c _ _ _ hlo c1).mono ?_; rintro e w1 ⟨rfl, rfl⟩)
    | (go_at_call 25; refine (bIndexByte_c l A _ c 10 _ HR.out rfl HN.out).mono ?_; rintro e w2 ⟨rfl, rfl⟩; rw [HI.out]))
  go_ret2
  exact ⟨rfl, rfl⟩
set_option maxRecDepth 100000 in
set_option maxHeartbeats 1000000 in
theorem qLine_at (j k p lim : Nat) (hj : j ≠ k) (l : List UInt8) (i : Nat) (w : World) (o : Ow) (hq : QIs w o k p l lim) (hi : Lib.indexByte l 10 = (i : Int)) (hl : i < l.length) :
    Calls Tryd.prog 6 #[.pointer (some ⟨p, 0, none⟩)] w (Turns (fun x => x = k) w o fun v w' o' => (∃ A c, v = .tuple #[.slice A (strip13 (l.take i)).length c, .bool true] ∧ Rd w' A (bc (strip13 (l.take i))) ∧ (∀ x, A = some x → o' x.block = j)) ∧ QIs w' o' k p (l.drop (i + 1)) lim) := by
  have CT := fun w o hq => qTake_c j k p lim hj l ((i : Int) + 1) w o hq (by omega) (by have := hq.hi; have := hq.le; omega)
  rw [show ((i : Int) + 1).toNat = i + 1 from by omega] at CT
  obtain ⟨A, c, hh, hs, hna⟩ := hq.at_
  obtain ⟨c0, c1, f0⟩ := q_facts hh
  have hlo := hq.lo
  have hhi := hq.hi
  have hle := hq.le
  have hlen : (l.take (i + 1)).length = i + 1 := by rw [List.length_take]; omega
  have HR := Lib.hid hs.rd
  have HI := Lib.hid hi
  have HN := Lib.hid hna
  have HQ := Lib.hid hq
  have CT := Lib.hid CT
  have s0 : IntKind.i64.wrap ((i : Int) + 1) = (i : Int) + 1 := by rw [IntKind.wrap_i64]; omega
  have i0 : ¬ (i : Int) < 0 := by omega
  clear hs hh hq hi hna
  go_enter Tryd.func6, Tryd.ntmps6
  go_wp2_with (first
    | (go_at_call 24; refine (qnone_c _ _ _ hlo c1).mono ?_; rintro e w1 ⟨rfl, rfl⟩)
    | (go_at_call 25; refine (bIndexByte_c l A _ c 10 _ HR.out rfl HN.out).mono ?_; rintro e w2 ⟨rfl, rfl⟩; rw [HI.out])
    | (go_at_call 9; refine (CT.out _ o HQ.out).mono ?_; rintro e w3 ⟨v, o3, rfl, ⟨⟨A3, d3, rfl, hs3, hn3⟩, hq3⟩, hst3⟩; rw [hlen] at hs3; have hd3 := hs3.le; have hi3 : (i : Int) ≤ (d3 : Int) := (by omega); have HR3 := Lib.hid (show Rd w3 A3 (bc (l.take i)) from by have := hs3.rd.take i; rw [bc_take, List.take_take, Nat.min_eq_left (by omega)] at this; exact this); simp only [hlen])
    | (go_at_call 26; refine (TrimSuffix_c (l.take i) A3 i d3 w3.heap.size _ _ (HR3.out.ext (by (repeat (first | exact Ext.rfl' _ | assumption | refine Ext.dr ?_ | refine Ext.drN ?_ _ | refine Ext.al ?_ _ | refine Ext.st ?_ (by simp) _ | refine Ext.tr ?_ (by assumption))))) (by rw [List.length_take]; omega) (by omega) (by omega) (new_at w3 #[.int .u8 13] 5 0 _ rfl)).mono ?_; rintro e w4 ⟨rfl, rfl⟩))
  have own3 : ∀ x, A3 = some x → o3 x.block = j := fun x hx => by
    rcases hs3.at_ with h | ⟨g, f, hA, ho, _⟩
    · omega
    · rw [hA] at hx; cases hx; exact ho
  go_ret2
  exact Turns.mk o3 rfl ⟨⟨A3, d3, rfl, (HR3.out.ext (by (repeat (first | exact Ext.rfl' _ | assumption | refine Ext.dr ?_ | refine Ext.drN ?_ _ | refine Ext.al ?_ _ | refine Ext.st ?_ (by simp) _ | refine Ext.tr ?_ (by assumption))))).strip, own3⟩, hq3.ext (by (repeat (first | exact Ext.rfl' _ | assumption | refine Ext.dr ?_ | refine Ext.drN ?_ _ | refine Ext.al ?_ _ | refine Ext.st ?_ (by simp) _ | refine Ext.tr ?_ (by assumption))))⟩ (hst3.tr (Stp.ext (by (repeat (first | exact Ext.rfl' _ | assumption | refine Ext.dr ?_ | refine Ext.drN ?_ _ | refine Ext.al ?_ _ | refine Ext.st ?_ (by simp) _ | refine Ext.tr ?_ (by assumption))))))
end Go.Proofs.YteklakibcboepabDoor
