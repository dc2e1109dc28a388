/-
The reference's queue of bytes: NewQueue, Peek, Put, Take.
-/
import Derived.Test.YteklakibcboepabDoorQueN
set_option linter.unusedVariables false
set_option linter.unusedSimpArgs false
namespace Go.Proofs.YteklakibcboepabDoor
open Go.RowKit

abbrev RIs := QAt 44
theorem rNewQueue_c (k : Nat) (lim : Nat) (h1 : 1 ≤ lim) (h2 : lim ≤ 1048576) (w : World) (o : Ow) :
    Calls Tryd.prog 14 #[.int .i64 (lim : Int)] w (Turns (fun _ => False) w o fun v w' o' => ∃ p, v = .pointer (some ⟨p, 0, none⟩) ∧ RIs w' o' k p [] lim ∧ w.heap.size ≤ p) := by
  go_enter Tryd.func14, Tryd.ntmps14
  go_wp2
  go_ret
  exact Turns.mk (fun b => if b = w.heap.size then k else o b) rfl ⟨w.heap.size, rfl, ⟨by simp, h1, h2, by simp, none, 0, heap_alloc_new w _, Sl.nil_ _ _ _ _ _, fun _ => rfl⟩, Nat.le_refl _⟩
    (Stp.ext2 (by (repeat (first | exact Ext.rfl' _ | assumption | refine Ext.dr ?_ | refine Ext.drN ?_ _ | refine Ext.al ?_ _ | refine Ext.st ?_ (by simp) _ | refine Ext.tr ?_ (by assumption)))) (fun b hb => by rw [if_neg (by omega)]))
theorem newNo_c (n : Int) (hn : n < 1 ∨ 1048576 < n) (w : World) :
    Calls Tryd.prog 13 #[.int .i64 n] w fun e w' => e = .returned (.tuple #[.pointer none, .int .i64 1]) ∧ w = w' := by
  rcases hn with hn | hn
  · go_enter Tryd.func13, Tryd.ntmps13
    go_wp2
    go_ret2
    exact ⟨rfl, rfl⟩
  · have h1 : ¬ n < 1 := by omega
    go_enter Tryd.func13, Tryd.ntmps13
    go_wp2
    go_ret2
    exact ⟨rfl, rfl⟩
theorem rnewNo_c (n : Int) (hn : n < 1 ∨ 1048576 < n) (w : World) :
    Calls Tryd.prog 14 #[.int .i64 n] w fun e w' => e = .returned (.pointer none) ∧ w = w' := by
  rcases hn with hn | hn
  · go_enter Tryd.func14, Tryd.ntmps14
    go_wp2
    go_ret
    exact ⟨rfl, rfl⟩
  · have h1 : ¬ n < 1 := by omega
    go_enter Tryd.func14, Tryd.ntmps14
    go_wp2
    go_ret
    exact ⟨rfl, rfl⟩

set_option maxRecDepth 100000 in
set_option maxHeartbeats 1000000 in
theorem rPeek_c (j k p lim : Nat) (l : List UInt8) (n : Int) (w : World) (o : Ow) (hq : RIs w o k p l lim) (h0 : -9223372036854775808 ≤ n) (h1 : n ≤ 9223372036854775807) :
    Calls Tryd.prog 35 #[.pointer (some ⟨p, 0, none⟩), .int .i64 n] w (Turns (fun _ => False) w o (IsB j (l.take n.toNat))) := by
  obtain ⟨A, c, hh, hs, hn⟩ := hq.at_
  obtain ⟨c0, c1, f0⟩ := q_facts hh
  have hhi := hq.hi
  have hle := hq.le
  have hms : maxLen = 9223372036854775807 := rfl
  obtain ⟨q, hq0⟩ : ∃ q : Nat, q = min n.toNat l.length := ⟨_, rfl⟩
  have e1 : l.take n.toNat = l.take q := by rw [hq0, List.take_eq_take_iff]; omega
  have hql : q ≤ l.length := by omega
  have e2 : max 0 (min n (l.length : Int)) = (q : Int) := by omega
  have hcn := hs.le
  have hpl := row_lt hh
  have HS := Lib.hid hs
  have hlq : (l.take q).length = q := by rw [List.length_take]; omega
  have hq0' : (0 : Int) ≤ (q : Int) := by omega
  have hq1' : (q : Int) ≤ (c : Int) := by omega
  have HT := Lib.hid (show Rd w A (bc (l.take q)) from by rw [← bc_take]; exact hs.rd.take q)
  rw [e1]
  clear hq hs hh hn hq0 e1
  go_enter Tryd.func35, Tryd.ntmps35
  go_wp2_with (at_builtin; refine wpL_fresh slt_u8 (.tmp 13) (.tmp 19) rfl rfl (o := o) j rfl rfl (Sl.src Tryd.underlying22 (HT.out.ext (by (repeat (first | exact Ext.rfl' _ | assumption | refine Ext.dr ?_ | refine Ext.drN ?_ _ | refine Ext.al ?_ _ | refine Ext.st ?_ (by simp) _ | refine Ext.tr ?_ (by assumption))))) (by simp [hlq]) (by omega) (bc_one _) c) (by omega) (by omega) ?_; intro A5 c5 w5 o5 hs5 hst5 hn5)

  go_ret
  exact Turns.mk o5 rfl ⟨A5, c5, by rw [hlq]; rfl, by rw [hlq]; exact hs5, hn5⟩ ((Stp.ext (by (repeat (first | exact Ext.rfl' _ | assumption | refine Ext.dr ?_ | refine Ext.drN ?_ _ | refine Ext.al ?_ _ | refine Ext.st ?_ (by simp) _ | refine Ext.tr ?_ (by assumption))))).tr hst5)

set_option maxRecDepth 100000 in
set_option maxHeartbeats 1000000 in
theorem rPut_c (k p lim : Nat) (l m : List UInt8) (B : Option Addr) (n d : Nat) (hnm : n = m.length) (w : World) (o : Ow) (hq : RIs w o k p l lim) (hm : Rd w B (bc m)) (hb : n ≤ 140737488355328) :
    Calls Tryd.prog 32 #[.pointer (some ⟨p, 0, none⟩), .slice B n d] w (Turns (KQ k) w o fun v w' o' => v = .int .i64 (putE lim l m) ∧ RIs w' o' k p (putL lim l m) lim) := by
  subst hnm
  obtain ⟨A, c, hh, hs, hn⟩ := hq.at_
  obtain ⟨c0, c1, f0⟩ := q_facts hh
  have hpl := row_lt hh
  have hhi := hq.hi
  have hle := hq.le
  have hms : maxLen = 9223372036854775807 := rfl
  have s0 : IntKind.i64.wrap ((lim : Int) - (l.length : Int)) = (lim : Int) - (l.length : Int) := by rw [IntKind.wrap_i64]; omega
  have HH := Lib.hid hh
  have HS := Lib.hid hs
  have HQ := Lib.hid hq
  have HM := Lib.hid hm
  clear hh hs hm hq
  by_cases hfit : m.length ≤ lim - l.length
  · have e1 : putE lim l m = 0 := if_pos hfit
    have e2 : putL lim l m = l ++ m := if_pos hfit
    have hlt : ¬ ((lim : Int) - (l.length : Int) < (m.length : Int)) := by omega
    go_enter Tryd.func32, Tryd.ntmps32
    go_wp2
    go_quiet (fail)
    have c0' : ((w.drewN nq).alloc (.cells #[] 5)).cell? ⟨p, 0, none⟩ = some (.slice A l.length c) := ((Ext.al (Ext.drN (Ext.rfl' w) nq) (.cells #[] 5)).cell (lt_of_cell c0)).trans c0
    go_wp2_with (first
      | (at_builtin; refine wpL_fresh slt_u8 (.tmp 19) (.tmp 23) rfl rfl (o := o) (k + 1) rfl rfl (Sl.src Tryd.underlying22 (HS.out.rd.ext (by (repeat (first | exact Ext.rfl' _ | assumption | refine Ext.dr ?_ | refine Ext.drN ?_ _ | refine Ext.al ?_ _ | refine Ext.st ?_ (by simp) _ | refine Ext.tr ?_ (by assumption))))) (by simp) (by omega) (bc_one _) c) (by omega) (by omega) ?_; intro A5 c5 w5 o5 hs5 hst5 hn5; have st5 : Stp (fun _ => False) w o w5 o5 := (Stp.ext (by (repeat (first | exact Ext.rfl' _ | assumption | refine Ext.dr ?_ | refine Ext.drN ?_ _ | refine Ext.al ?_ _ | refine Ext.st ?_ (by simp) _ | refine Ext.tr ?_ (by assumption))))).tr hst5)
      | (at_builtin; refine wpL_put slt_u8 (.tmp 24) (.tmp 25) rfl rfl rfl rfl hs5 hn5 (Sl.src Tryd.underlying22 (HM.out.ext st5.noExt) (by simp) (by omega) (bc_one m) d) (by omega) (by omega) ?_; intro A' c' w2 o2 hs2 hst2 hna; have st2 : Stp (fun i => i = k + 1) w o w2 o2 := (st5.mono (fun _ x => x.elim)).tr hst2; have c02 := st2.cell (a := ⟨p, 0, none⟩) (by rw [HQ.out.own]; omega) c0; have f02 := (st2.frozen (a := ⟨p, 0, none⟩) (row_lt HH.out) (by rw [HQ.out.own]; omega)).trans f0))
    go_ret
    obtain ⟨h3, h4⟩ := HQ.out.put st2 (l' := l ++ m) (by rw [List.length_append]; omega) (by rw [List.length_append]) (by rw [bc_app]; exact hs2) hna
    exact Turns.mk o2 rfl ⟨by rw [e1]; rfl, by rw [e2]; exact h3⟩ h4
  · have e1 : putE lim l m = 6 := if_neg hfit
    have e2 : putL lim l m = l := if_neg hfit
    have hlt : (lim : Int) - (l.length : Int) < (m.length : Int) := by omega
    go_enter Tryd.func32, Tryd.ntmps32
    go_wp2
    go_quiet (fail)
    go_wp2
    go_ret
    exact Turns.mk o rfl ⟨by rw [e1]; rfl, by rw [e2]; exact HQ.out.ext (by (repeat (first | exact Ext.rfl' _ | assumption | refine Ext.dr ?_ | refine Ext.drN ?_ _ | refine Ext.al ?_ _ | refine Ext.st ?_ (by simp) _ | refine Ext.tr ?_ (by assumption))))⟩ (Stp.ext (by (repeat (first | exact Ext.rfl' _ | assumption | refine Ext.dr ?_ | refine Ext.drN ?_ _ | refine Ext.al ?_ _ | refine Ext.st ?_ (by simp) _ | refine Ext.tr ?_ (by assumption)))))
end Go.Proofs.YteklakibcboepabDoor
