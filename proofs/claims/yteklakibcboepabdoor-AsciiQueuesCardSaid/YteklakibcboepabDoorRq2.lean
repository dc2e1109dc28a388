/-
The reference's queue of bytes: Take, Line.
-/
import Derived.Test.YteklakibcboepabDoorRq1
set_option linter.unusedVariables false
set_option linter.unusedSimpArgs false
namespace Go.Proofs.YteklakibcboepabDoor
open Go.RowKit

set_option maxRecDepth 100000 in
set_option maxHeartbeats 1000000 in
theorem rTake_c (j k p lim : Nat) (hj : j ≠ k) (l : List UInt8) (n : Int) (w : World) (o : Ow) (hq : RIs w o k p l lim) (h0 : -9223372036854775808 ≤ n) (h1 : n ≤ 9223372036854775807) :
    Calls Tryd.prog 34 #[.pointer (some ⟨p, 0, none⟩), .int .i64 n] w (Turns (KQ k) w o fun v w' o' => IsB j (l.take n.toNat) v w' o' ∧ RIs w' o' k p (l.drop n.toNat) lim) := by
  have C := fun w o hq => rPeek_c j k p lim l n w o hq h0 h1
  obtain ⟨q, hq0⟩ : ∃ q : Nat, q = min n.toNat l.length := ⟨_, rfl⟩
  have e1 : l.take n.toNat = l.take q := by rw [hq0, List.take_eq_take_iff]; omega
  have e2 : l.drop n.toNat = l.drop q := by
    rcases Nat.le_total n.toNat l.length with h | h
    · rw [hq0, Nat.min_eq_left h]
    · rw [hq0, Nat.min_eq_right h, List.drop_of_length_le h, List.drop_of_length_le (Nat.le_refl _)]
  have hql : q ≤ l.length := by omega
  have hlq : (l.take q).length = q := by rw [List.length_take]; omega
  rw [e1] at C ⊢
  rw [e2]
  have C := Lib.hid C
  clear e1 e2 hq0
  obtain ⟨A, c, hh, hs, hn⟩ := hq.at_
  obtain ⟨c0, c1, f0⟩ := q_facts hh
  have hpl := row_lt hh
  have hcn := hs.le
  have hhi := hq.hi
  have hle := hq.le
  have hms : maxLen = 9223372036854775807 := rfl
  have HQ := Lib.hid hq
  have HN := Lib.hid hn
  have hq0 : (0 : Int) ≤ (q : Int) := by omega
  have hq1 : (q : Int) ≤ (l.length : Int) := by omega
  have hdl : (l.drop q).length = l.length - q := List.length_drop
  have fin : ∀ (A2 : Option Addr) (d2 : Nat) (w' : World) (o' : Ow), Sl w' o' j 1 A2 q d2 (bc (l.take q)) → (A2 = none → d2 = 0) → IsB j (l.take q) (.slice A2 q d2) w' o' := fun _ _ _ _ h1 h2 => ⟨_, _, by rw [hlq], by rw [hlq]; exact h1, h2⟩
  by_cases hcq : c = q
  · have hqc : q = c := hcq.symm
    have hlc : l.length = q := by omega
    have HD := Lib.hid (show Rd w A (bc (l.drop q)) from .inl (by rw [List.drop_of_length_le (by omega)]; rfl))
    have HF := Lib.hid fin
    clear hs hh hn hq hcq fin
    subst hqc
    go_enter Tryd.func34, Tryd.ntmps34
    go_wp2_with (first
      | (go_at_call 35; refine (C.out _ o (HQ.out.ext (by (repeat (first | exact Ext.rfl' _ | assumption | refine Ext.dr ?_ | refine Ext.drN ?_ _ | refine Ext.al ?_ _ | refine Ext.st ?_ (by simp) _ | refine Ext.tr ?_ (by assumption)))))).mono ?_; rintro e w2 ⟨v, o2, rfl, ⟨A2, d2, rfl, hs2, hn2⟩, hst⟩; rw [hlq] at hs2; simp only [hlq]; have c02 : (w2.alloc (.cells #[] 5)).cell? ⟨p, 0, none⟩ = some (.slice A l.length q) := ((hst.noExt.tr (Ext.al (Ext.rfl' w2) _)).cell (lt_of_cell c0)).trans c0)
      | (at_builtin; refine wpL_fresh slt_u8 (.tmp 10) (.tmp 17) rfl rfl (o := o2) (k + 1) rfl rfl (Sl.src Tryd.underlying22 (HD.out.ext (hst.noExt.tr (by (repeat (first | exact Ext.rfl' _ | assumption | refine Ext.dr ?_ | refine Ext.drN ?_ _ | refine Ext.al ?_ _ | refine Ext.st ?_ (by simp) _ | refine Ext.tr ?_ (by assumption)))))) (by rw [bc_len, List.length_drop]; omega) (by omega) (bc_one _) _) (by omega) (by omega) ?_; intro A5 c5 w5 o5 hs5 hst5 hn5; have st5 : Stp (fun _ => False) w o w5 o5 := hst.tr ((Stp.ext (by (repeat (first | exact Ext.rfl' _ | assumption | refine Ext.dr ?_ | refine Ext.drN ?_ _ | refine Ext.al ?_ _ | refine Ext.st ?_ (by simp) _ | refine Ext.tr ?_ (by assumption))))).tr hst5); have c05 := (st5.noExt.cell (lt_of_cell c0)).trans c0; have f05 := (st5.noExt.frozen (lt_of_cell c0)).trans f0))
    obtain ⟨h3, h4⟩ := HQ.out.put (st5.mono (fun _ x => x.elim)) (l' := l.drop q) (n := 0) (by omega) (by omega) hs5 hn5
    have hs3 := (hs2.stp ((Stp.ext (by (repeat (first | exact Ext.rfl' _ | assumption | refine Ext.dr ?_ | refine Ext.drN ?_ _ | refine Ext.al ?_ _ | refine Ext.st ?_ (by simp) _ | refine Ext.tr ?_ (by assumption))))).tr hst5) (fun x => x)).stp (Stp.set (K := fun i => i = k) (w := w5) (o := o5) p 0 (.slice A5 0 c5) (fun _ => by rw [st5.own p hpl]; exact HQ.out.own)) hj
    go_ret
    exact Turns.mk o5 rfl ⟨HF.out _ _ _ _ hs3 hn2, h3⟩ h4
  · obtain ⟨g, f, rfl⟩ : ∃ g f, A = some ⟨g, f, none⟩ := by
      rcases hs.at_ with h | ⟨g, f, h, _⟩
      · omega
      · exact ⟨g, f, h⟩
    have HD : Hid (Rd w (some ⟨g, f + q, none⟩) (bc (l.drop q))) := Lib.hid (by rw [← bc_drop]; exact hs.rd.drop q)
    have HF := Lib.hid fin
    clear hs hh hn hq fin
    go_enter Tryd.func34, Tryd.ntmps34
    go_wp2_with (first
      | (go_at_call 35; refine (C.out _ o (HQ.out.ext (by (repeat (first | exact Ext.rfl' _ | assumption | refine Ext.dr ?_ | refine Ext.drN ?_ _ | refine Ext.al ?_ _ | refine Ext.st ?_ (by simp) _ | refine Ext.tr ?_ (by assumption)))))).mono ?_; rintro e w2 ⟨v, o2, rfl, ⟨A2, d2, rfl, hs2, hn2⟩, hst⟩; rw [hlq] at hs2; simp only [hlq]; have c02 : (w2.alloc (.cells #[] 5)).cell? ⟨p, 0, none⟩ = some (.slice (some ⟨g, f, none⟩) l.length c) := ((hst.noExt.tr (Ext.al (Ext.rfl' w2) _)).cell (lt_of_cell c0)).trans c0)
      | (at_builtin; refine wpL_fresh slt_u8 (.tmp 10) (.tmp 17) rfl rfl (o := o2) (k + 1) rfl rfl (Sl.src Tryd.underlying22 (HD.out.ext (hst.noExt.tr (by (repeat (first | exact Ext.rfl' _ | assumption | refine Ext.dr ?_ | refine Ext.drN ?_ _ | refine Ext.al ?_ _ | refine Ext.st ?_ (by simp) _ | refine Ext.tr ?_ (by assumption)))))) (by rw [bc_len, List.length_drop]; omega) (by omega) (bc_one _) _) (by omega) (by omega) ?_; intro A5 c5 w5 o5 hs5 hst5 hn5; have st5 : Stp (fun _ => False) w o w5 o5 := hst.tr ((Stp.ext (by (repeat (first | exact Ext.rfl' _ | assumption | refine Ext.dr ?_ | refine Ext.drN ?_ _ | refine Ext.al ?_ _ | refine Ext.st ?_ (by simp) _ | refine Ext.tr ?_ (by assumption))))).tr hst5); have c05 := (st5.noExt.cell (lt_of_cell c0)).trans c0; have f05 := (st5.noExt.frozen (lt_of_cell c0)).trans f0))
    obtain ⟨h3, h4⟩ := HQ.out.put (st5.mono (fun _ x => x.elim)) (l' := l.drop q) (n := (l.length - q)) (by omega) (by omega) hs5 hn5
    have hs3 := (hs2.stp ((Stp.ext (by (repeat (first | exact Ext.rfl' _ | assumption | refine Ext.dr ?_ | refine Ext.drN ?_ _ | refine Ext.al ?_ _ | refine Ext.st ?_ (by simp) _ | refine Ext.tr ?_ (by assumption))))).tr hst5) (fun x => x)).stp (Stp.set (K := fun i => i = k) (w := w5) (o := o5) p 0 (.slice A5 (l.length - q) c5) (fun _ => by rw [st5.own p hpl]; exact HQ.out.own)) hj
    go_ret
    exact Turns.mk o5 rfl ⟨HF.out _ _ _ _ hs3 hn2, h3⟩ h4
end Go.Proofs.YteklakibcboepabDoor
