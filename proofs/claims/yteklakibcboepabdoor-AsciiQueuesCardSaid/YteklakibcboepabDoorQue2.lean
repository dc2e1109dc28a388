/-
A queue of bytes: the program's NewQueue, Clone, Peek, Take.
-/
import Derived.Test.YteklakibcboepabDoorQue1
import Derived.Lib.SliceRun
set_option linter.unusedVariables false
set_option linter.unusedSimpArgs false
namespace Go.Proofs.YteklakibcboepabDoor
open Go.RowKit

set_option maxRecDepth 100000 in
theorem Clone_c (j : Nat) (m : List UInt8) (B : Option Addr) (n d : Nat) (hnm : n = m.length) (w : World) (o : Ow) (hm : Rd w B (bc m)) (hb : n ≤ 140737488355328) (hB : B = none → n = 0 ∧ d = 0) :
    Calls Tryd.prog 27 #[.slice B n d] w (Turns (fun _ => False) w o (IsB j m)) := by
  subst hnm
  have hms : maxLen = 9223372036854775807 := rfl
  have HM := Lib.hid hm
  clear hm
  have q22 : ∀ (w : World) (a : Option Addr) (n c n' c' : Nat), (binOp .eql 22 (.slice a n c) (.slice none n' c')).run Tryd.prog w = .ok (.bool a.isNone) w := fun w a n c n' c' => Lib.run_eql_slice_nil w _ _ a n c n' c' Tryd.underlying22
  cases B with
  | none =>
    obtain ⟨h0, rfl⟩ := hB rfl
    obtain rfl : m = [] := List.eq_nil_of_length_eq_zero h0
    go_enter Tryd.func27, Tryd.ntmps27
    go_wp2
    go_ret
    exact Turns.mk o rfl ⟨none, 0, rfl, Sl.nil_ _ _ _ _ _, fun _ => rfl⟩ Stp.rfl'
  | some a =>
    go_enter Tryd.func27, Tryd.ntmps27
    go_wp2_with (at_builtin; refine wpL_fresh slt_u8 (.tmp 5) (.tmp 6) rfl rfl (o := o) j rfl rfl (Sl.src Tryd.underlying22 (HM.out.ext (by (repeat (first | exact Ext.rfl' _ | assumption | refine Ext.dr ?_ | refine Ext.drN ?_ _ | refine Ext.al ?_ _ | refine Ext.st ?_ (by simp) _ | refine Ext.tr ?_ (by assumption))))) (by simp) (by omega) (bc_one m) d) (by omega) (by omega) ?_; intro A' c' w2 o2 hs2 hst2 hna)
    go_ret
    exact Turns.mk o2 rfl ⟨A', c', rfl, hs2, hna⟩ ((Stp.ext (by (repeat (first | exact Ext.rfl' _ | assumption | refine Ext.dr ?_ | refine Ext.drN ?_ _ | refine Ext.al ?_ _ | refine Ext.st ?_ (by simp) _ | refine Ext.tr ?_ (by assumption))))).tr hst2)

set_option maxRecDepth 100000 in
set_option maxHeartbeats 1000000 in
theorem qPeek_c (j k p lim : Nat) (l : List UInt8) (n : Int) (w : World) (o : Ow) (hq : QIs w o k p l lim) (h0 : -9223372036854775808 ≤ n) (h1 : n ≤ 9223372036854775807) :
    Calls Tryd.prog 10 #[.pointer (some ⟨p, 0, none⟩), .int .i64 n] w (Turns (fun _ => False) w o (IsB j (l.take n.toNat))) := by
  obtain ⟨A, c, hh, hs, hn⟩ := hq.at_
  obtain ⟨c0, c1, f0⟩ := q_facts hh
  have hlo := hq.lo
  have hhi := hq.hi
  have hle := hq.le
  by_cases hn1 : n < 1
  · have e1 : l.take n.toNat = [] := by rw [show n.toNat = 0 from by omega]; rfl
    rw [e1]
    go_enter Tryd.func10, Tryd.ntmps10
    go_wp2_with (go_at_call 24; refine (qnone_c _ _ _ hlo c1).mono ?_; rintro e w1 ⟨rfl, rfl⟩)
    go_ret
    exact Turns.mk o rfl ⟨none, 0, rfl, Sl.nil_ _ _ _ _ _, fun _ => rfl⟩ Stp.rfl'
  · obtain ⟨q, hq0⟩ : ∃ q : Nat, q = min n.toNat l.length := ⟨_, rfl⟩
    have e1 : l.take n.toNat = l.take q := by rw [hq0, List.take_eq_take_iff]; omega
    have hql : q ≤ l.length := by omega
    have e2 : min n (l.length : Int) = (q : Int) := by omega
    have hcn := hs.le
    have hq0' : (0 : Int) ≤ (q : Int) := by omega
    have hq1' : (q : Int) ≤ (c : Int) := by omega
    have hks := Lib.hid (fun w' (e : Ext w w') => (show w'.cell? ⟨p, 0, none⟩ = some (.slice A l.length c) from by rw [← c0]; exact e.cell (lt_of_cell c0)))
    have HS := Lib.hid hs
    have HT := Lib.hid (show Rd w A (bc (l.take q)) from by rw [← bc_take]; exact hs.rd.take q)
    have hlq : (l.take q).length = q := by rw [List.length_take]; omega
    have HN := Lib.hid hn
    rw [e1]
    clear hq hs hh hn hq0 e1
    go_enter Tryd.func10, Tryd.ntmps10
    go_wp2_with (go_at_call 24; refine (qnone_c _ _ _ hlo c1).mono ?_; rintro e w1 ⟨rfl, rfl⟩)
    go_region_held3 (fun w' => w'.cell? ⟨p, 0, none⟩ = some (.slice A l.length c)) (exact hks.out _ (by (repeat (first | exact Ext.rfl' _ | assumption | refine Ext.dr ?_ | refine Ext.drN ?_ _ | refine Ext.al ?_ _ | refine Ext.st ?_ (by simp) _ | refine Ext.tr ?_ (by assumption))))) (first
      | (go_at_call 27; refine (Clone_c j (l.take q) A q c hlq.symm _ o (HT.out.ext (by (repeat (first | exact Ext.rfl' _ | assumption | refine Ext.dr ?_ | refine Ext.drN ?_ _ | refine Ext.al ?_ _ | refine Ext.st ?_ (by simp) _ | refine Ext.tr ?_ (by assumption))))) (by omega) (fun ha => by have := HN.out ha; omega)).mono ?_; rintro e w2 ⟨v, o2, rfl, hv, hst⟩; have hx2 := hst.noExt))
    go_wp2
    go_ret
    exact Turns.mk o2 rfl hv ((Stp.ext (by (repeat (first | exact Ext.rfl' _ | assumption | refine Ext.dr ?_ | refine Ext.drN ?_ _ | refine Ext.al ?_ _ | refine Ext.st ?_ (by simp) _ | refine Ext.tr ?_ (by assumption))))).tr hst)

/-- The queue behind its first bytes. -/
theorem QAt.cut {T : TypeId} {w w' : World} {o o' : Ow} {k p lim q c : Nat} {l : List UInt8} {A A' : Option Addr} (h : QAt T w o k p l lim) (s : Stp (fun _ => False) w o w' o') (hh : w.heap[p]? = some (.cells #[.slice A l.length c, .int .i64 (lim : Int)] T (0, 0))) (hs : Sl w o (k + 1) 1 A l.length c (bc l)) (hq : q ≤ l.length)
    (ha : (∃ g f, A = some ⟨g, f, none⟩ ∧ A' = some ⟨g, f + q, none⟩) ∨ c = q) (hn : A' = none → c - q = 0) :
    QAt T (w'.setCell ⟨p, 0, none⟩ (.slice A' (l.length - q) (c - q))) o' k p (l.drop q) lim ∧ Stp (fun i => i = k) w o (w'.setCell ⟨p, 0, none⟩ (.slice A' (l.length - q) (c - q))) o' := by
  have hp : o' p = k := by rw [s.own p (row_lt hh)]; exact h.own
  have hh' := (s.keep p (row_lt hh) (fun x => x)).trans hh
  have hs' := hs.stp s (fun x => x)
  have st : Stp (fun i => i = k) w' o' (w'.setCell ⟨p, 0, none⟩ (.slice A' (l.length - q) (c - q))) o' := Stp.set p 0 _ (fun _ => hp)
  have hl : (l.drop q).length = l.length - q := List.length_drop
  refine ⟨⟨hp, h.lo, h.hi, by rw [hl]; have := h.le; omega, A', c - q, by rw [hl]; exact row_set hh' 0 _, ?_, hn⟩, (s.mono fun _ x => x.elim).tr st⟩
  rw [hl]
  refine Sl.stp ?_ st (by omega)
  rcases ha with ⟨g, f, rfl, rfl⟩ | rfl
  · have := hs'.drop q hq
    rw [Nat.mul_one, bc_drop] at this
    exact this
  · have : l.length = c := by have := hs.le; omega
    subst this
    rw [Nat.sub_self, List.drop_of_length_le (by omega)]
    exact Sl.nil_ _ _ _ _ _

set_option maxRecDepth 100000 in
set_option maxHeartbeats 1000000 in
theorem qTake_c (j k p lim : Nat) (hj : j ≠ k) (l : List UInt8) (n : Int) (w : World) (o : Ow) (hq : QIs w o k p l lim) (h0 : -9223372036854775808 ≤ n) (h1 : n ≤ 9223372036854775807) :
    Calls Tryd.prog 9 #[.pointer (some ⟨p, 0, none⟩), .int .i64 n] w (Turns (fun i => i = k) w o fun v w' o' => IsB j (l.take n.toNat) v w' o' ∧ QIs w' o' k p (l.drop n.toNat) lim) := by
  have C := fun w o hq => qPeek_c j k p lim l n w o hq h0 h1
  obtain ⟨q, hq0⟩ : ∃ q : Nat, q = min n.toNat l.length := ⟨_, rfl⟩
  have e1 : l.take n.toNat = l.take q := by rw [hq0, List.take_eq_take_iff]; omega
  have e2 : l.drop n.toNat = l.drop q := by
    rcases Nat.le_total n.toNat l.length with h | h
    · rw [hq0, Nat.min_eq_left h]
    · rw [hq0, Nat.min_eq_right h, List.drop_of_length_le h, List.drop_of_length_le (Nat.le_refl _)]
  have hql : q ≤ l.length := by omega
  have hlq : (l.take q).length = q := by rw [List.length_take]; omega
  rw [e1] at C ⊢
  rw [e2]
  have C := Lib.hid C
  clear e1 e2 hq0
  obtain ⟨A, c, hh, hs, hn⟩ := hq.at_
  obtain ⟨c0, c1, f0⟩ := q_facts hh
  have hcn := hs.le
  have HQ := Lib.hid hq
  have HH := Lib.hid hh
  have HS := Lib.hid hs
  have HN := Lib.hid hn
  clear hq hh hs hn
  have hq0 : (0 : Int) ≤ (q : Int) := by omega
  have hq1 : (q : Int) ≤ (l.length : Int) := by omega
  have hq2 : (q : Int) ≤ (c : Int) := by omega
  rcases Nat.eq_zero_or_pos q with hz | hz
  · subst hz
    go_enter Tryd.func9, Tryd.ntmps9
    go_wp2_with (go_at_call 10; refine (C.out _ o (HQ.out.ext (by (repeat (first | exact Ext.rfl' _ | assumption | refine Ext.dr ?_ | refine Ext.drN ?_ _ | refine Ext.al ?_ _ | refine Ext.st ?_ (by simp) _ | refine Ext.tr ?_ (by assumption)))))).mono ?_; rintro e w2 ⟨v, o2, rfl, ⟨A2, d2, rfl, hs2, hn2⟩, hst⟩; rw [hlq] at hs2; simp only [hlq])
    go_ret
    exact Turns.mk o2 rfl ⟨⟨A2, d2, by rw [hlq]; rfl, by rw [hlq]; exact hs2, hn2⟩, by simpa using HQ.out.stp hst (fun x => x) (fun x => x)⟩ (hst.mono fun _ x => x.elim)
  · have hz' : (0 : Int) < (q : Int) := by omega
    obtain ⟨g, f, rfl⟩ : ∃ g f, A = some ⟨g, f, none⟩ := by
      rcases HS.out.at_ with h | ⟨g, f, h, _⟩
      · omega
      · exact ⟨g, f, h⟩
    by_cases hcq : c = q
    · subst hcq
      have hcl : l.length = c := by omega
      go_enter Tryd.func9, Tryd.ntmps9
      go_wp2_with (go_at_call 10; refine (C.out _ o (HQ.out.ext (by (repeat (first | exact Ext.rfl' _ | assumption | refine Ext.dr ?_ | refine Ext.drN ?_ _ | refine Ext.al ?_ _ | refine Ext.st ?_ (by simp) _ | refine Ext.tr ?_ (by assumption)))))).mono ?_; rintro e w2 ⟨v, o2, rfl, ⟨A2, d2, rfl, hs2, hn2⟩, hst⟩; rw [hlq] at hs2; simp only [hlq]; have c02 : w2.cell? ⟨p, 0, none⟩ = some (.slice (some ⟨g, f, none⟩) l.length c) := (hst.noExt.cell (lt_of_cell c0)).trans c0; have f02 : w2.frozen? ⟨p, 0, none⟩ = false := (hst.noExt.frozen (lt_of_cell c0)).trans f0)
      obtain ⟨h3, h4⟩ := HQ.out.cut hst HH.out HS.out hql (A' := some ⟨g, f, none⟩) (.inr rfl) (fun h => by cases h)
      rw [hcl, Nat.sub_self] at h3 h4
      have hs3 := hs2.stp (Stp.set (K := fun i => i = k) (w := w2) (o := o2) p 0 (.slice (some ⟨g, f, none⟩) 0 0) (fun _ => by rw [hst.own p (row_lt HH.out)]; exact HQ.out.own)) hj
      go_ret
      exact Turns.mk o2 rfl ⟨⟨A2, d2, by rw [hlq]; rfl, by rw [hlq]; exact hs3, hn2⟩, h3⟩ h4
    · go_enter Tryd.func9, Tryd.ntmps9
      go_wp2_with (go_at_call 10; refine (C.out _ o (HQ.out.ext (by (repeat (first | exact Ext.rfl' _ | assumption | refine Ext.dr ?_ | refine Ext.drN ?_ _ | refine Ext.al ?_ _ | refine Ext.st ?_ (by simp) _ | refine Ext.tr ?_ (by assumption)))))).mono ?_; rintro e w2 ⟨v, o2, rfl, ⟨A2, d2, rfl, hs2, hn2⟩, hst⟩; rw [hlq] at hs2; simp only [hlq]; have c02 : w2.cell? ⟨p, 0, none⟩ = some (.slice (some ⟨g, f, none⟩) l.length c) := (hst.noExt.cell (lt_of_cell c0)).trans c0; have f02 : w2.frozen? ⟨p, 0, none⟩ = false := (hst.noExt.frozen (lt_of_cell c0)).trans f0)
      obtain ⟨h3, h4⟩ := HQ.out.cut hst HH.out HS.out hql (A' := some ⟨g, f + q, none⟩) (.inl ⟨g, f, rfl, rfl⟩) (fun h => by cases h)
      have hs3 := hs2.stp (Stp.set (K := fun i => i = k) (w := w2) (o := o2) p 0 (.slice (some ⟨g, f + q, none⟩) (l.length - q) (c - q)) (fun _ => by rw [hst.own p (row_lt HH.out)]; exact HQ.out.own)) hj
      go_ret
      exact Turns.mk o2 rfl ⟨⟨A2, d2, by rw [hlq]; rfl, by rw [hlq]; exact hs3, hn2⟩, h3⟩ h4
end Go.Proofs.YteklakibcboepabDoor
