/-
A path's parts, one by one: the program's iterator.
-/
import Derived.Test.YtmnohicojefhfaaGreatDoorCut
import Derived.Test.YtmnohicojefhfaaGreatDoorUPn
import Derived.RangeFuncNested
import Derived.RangeFuncBound
import Derived.RangeFuncCalls
import Derived.RangeFuncLeaves
import Derived.RangeFuncBox
import Derived.Shelf.Abstract
import Derived.Shelf.RegionOpen
import Derived.OwnWalkIn
import Derived.TacticsInMore
import Derived.LoopNIn
import Derived.LoopIn
set_option linter.unusedVariables false
set_option linter.unusedSimpArgs false
namespace Go.Proofs.YtmnohicojefhfaaGreatDoor
open Go.RowKit Go.Shelf

attribute [local go_sem] Oper.semAt_some

/-- The parts with a mark at the last. -/
def markS : List (List UInt8) → List (List UInt8 × Bool)
  | [] => []
  | [s] => [(s, true)]
  | s :: t :: ss => (s, false) :: markS (t :: ss)
theorem mark_more (s : List UInt8) (ss : List (List UInt8)) (h : ss ≠ []) : markS (s :: ss) = (s, false) :: markS ss := by
  cases ss with
  | nil => exact absurd rfl h
  | cons t ss => rfl
theorem mark_len (ss : List (List UInt8)) : (markS ss).length = ss.length := by
  induction ss with
  | nil => rfl
  | cons s ss ih =>
    cases ss with
    | nil => rfl
    | cons t ss => rw [mark_more s _ (by simp)]; simp only [List.length_cons] at *; omega
def txtLen : Value → Nat | .string s => s.size | _ => 0
def encS (x : List UInt8 × Bool) : Array Value := #[.string (str x.1), .bool x.2]
theorem grown_ext {a b : World} (h : Ext a b) : a.grownBy b none := ⟨h.os, h.tape, h.output, h.size, fun k hk _ => h.block k hk⟩

set_option maxRecDepth 100000 in
set_option maxHeartbeats 2000000 in
theorem seg1_in (l Bn n₀ : Nat) (s : List UInt8) (hs : s.length ≤ 1099511627776) (J Jx : List (List UInt8 × Bool) → World → Prop)
    (hJ : ∀ pre W W', J pre W → Ext W W' → J pre W')
    (hY : ∀ pre x W, J pre W → pre.length < (segsL s).length → YieldAt Fence.wide 6 Tryz.prog l (encS x) W fun e W' =>
      (e = .returned (.bool true) ∧ J (pre ++ [x]) W' ∧ Below n₀ W W') ∨ (e = .returned (.bool false) ∧ Jx (pre ++ [x]) W'))
    (W : World) (hBn : W.cell? ⟨Bn, 0, none⟩ = some (.string (str (47 :: s)))) (h0 : J [] W) :
    CallsIn Fence.wide 7 Tryz.prog 192 #[.func (.yield l) #[] #[], .pointer (some ⟨Bn, 0, none⟩)] W fun e W' => (∃ v, e = .returned v) ∧
      ((∃ ys, ys = markS (segsL s) ∧ J ys W') ∨ (∃ pre, pre <+: markS (segsL s) ∧ Jx pre W')) := by
  refine callsIn_of_wp Tryz.func192 rfl trivial ?_ rfl
  simp only [Tryz.ntmps192, List.size_toArray, List.length_cons, List.length_nil, Nat.reduceAdd, Nat.reduceSub, Array.replicate_succ, Array.replicate_zero, List.push_toArray, List.append_toArray, List.nil_append, List.cons_append]
  gi_wp2
  gi_loopw [3] (fun sv wr => ∃ pre l', sv = .string (str l') ∧ l'.length ≤ s.length ∧ markS (segsL s) = pre ++ markS (segsL l') ∧ pre.length < (segsL s).length ∧ J pre wr)
    (fun sv _ => txtLen sv)
  case atStart => exact ⟨[], s, by simp, Nat.le_refl _, by simp, List.length_pos_iff.2 (segs_ne s), h0⟩
  case round =>
    obtain ⟨pre, l', rfl, hll, hm, hlt, hJs⟩ := hrel
    rcases cut_cases l' 47 with hno | ⟨a, r, rfl, hno⟩
    · have e1 : markS (segsL s) = pre ++ [(l', true)] := by rw [hm, segs_none l' hno]; rfl
      have HE := Lib.hid e1
      have HN := Lib.hid hno
      clear e1 hm hno
      gi_wp2_with (refine ⟨trivial, ?_⟩; gi_at_call 149; refine (callsIn_wide.2 (Cut_no _ _ HN.out _)).mono ?_; rintro e w1 ⟨rfl, rfl⟩; have hx1 := Ext.rfl' wr; obtain ⟨fn, tmps, assign, body, hy, hR⟩ := hY pre (l', true) wr (hJ _ _ _ hJs hx1) hlt; dsimp only [encS] at hy)
      refine hR.mono ?_
      rintro e W3 (⟨rfl, hJ3, hk3⟩ | ⟨rfl, hJx3⟩)
      · gi_wp2
        refine bodyPost_ret (results_none rfl _ _ _) rfl ?_
        exact ⟨⟨_, rfl⟩, .inl ⟨_, rfl, by rw [HE.out]; exact hJ3⟩⟩
      · gi_wp2
        refine bodyPost_ret (results_none rfl _ _ _) rfl ?_
        exact ⟨⟨_, rfl⟩, .inr ⟨_, by rw [HE.out]; exact List.prefix_rfl, hJx3⟩⟩
    · have e1 : markS (segsL s) = pre ++ (a, false) :: markS (segsL r) := by rw [hm, segs_some a r hno, mark_more _ _ (segs_ne r)]
      have hl2 : pre.length + 1 < (segsL s).length := by
        have := congrArg List.length e1
        rw [mark_len, List.length_append, List.length_cons, mark_len] at this
        have := List.length_pos_iff.2 (segs_ne r)
        omega
      have hsz : a.length + r.length + 1 ≤ s.length := by simp only [List.length_append, List.length_cons] at hll; omega
      have hmx : a.length + r.length + 1 ≤ maxLen := by unfold maxLen; omega
      have HE := Lib.hid e1
      have HN := Lib.hid hno
      clear e1 hm hno
      obtain ⟨sv, hsv⟩ : ∃ sv, sv = str (a ++ 47 :: r) := ⟨_, rfl⟩
      have CC := fun w => Cut_at a r 47 HN.out hmx w
      rw [← hsv] at CC ⊢
      have hsvl : sv.size = a.length + r.length + 1 := by rw [hsv]; simp; omega
      have CC := Lib.hid CC
      have HSV := Lib.hid hsvl
      clear hsv hsvl
      gi_wp2_with (refine ⟨trivial, ?_⟩; gi_at_call 149; refine (callsIn_wide.2 (CC.out _)).mono ?_; rintro e w1 ⟨rfl, q, rfl⟩; have hx1 := (Ext.rfl' wr).drN q; obtain ⟨fn, tmps, assign, body, hy, hR⟩ := hY pre (a, false) (wr.drewN q) (hJ _ _ _ hJs hx1) hlt; dsimp only [encS] at hy)
      refine hR.mono ?_
      rintro e W3 (⟨rfl, hJ3, hk3⟩ | ⟨rfl, hJx3⟩)
      · gi_wp2
        go_roundw
        case rel => exact ⟨pre ++ [(a, false)], r, rfl, by omega, by rw [HE.out]; simp, by simp; omega, hJ3⟩
        case measure => simp only [txtLen, str_size]; rw [HSV.out]; omega
      · gi_wp2
        refine bodyPost_ret (results_none rfl _ _ _) rfl ?_
        exact ⟨⟨_, rfl⟩, .inr ⟨_, ⟨markS (segsL r), by rw [HE.out]; simp⟩, hJx3⟩⟩
/-- The iterator's value gives all parts, or some. -/
theorem seg_stops (Bn n₀ : Nat) (s : List UInt8) (hs : s.length ≤ 1099511627776) (w : World) (hBn : Bn < w.heap.size) (hc : w.cell? ⟨Bn, 0, none⟩ = some (.string (str (47 :: s)))) :
    SeqStopsK Fence.wide 7 Tryz.prog 192 #[.pointer (some ⟨Bn, 0, none⟩)] encS (Below n₀) (fun ys => ys = markS (segsL s)) (fun pre => pre <+: markS (segsL s)) (segsL s).length w := fun l J Jx W hW hJ _ hY h0 =>
  seg1_in l Bn n₀ s hs J Jx (fun pre A B hj hx => hJ pre A B none hj (grown_ext hx) (fun r e => by cases e)) hY W ((hW.cell (p := ⟨Bn, 0, none⟩) hBn).trans hc) h0
theorem segments_c (s : List UInt8) (w : World) :
    Calls Tryz.prog 175 #[.string (str s)] w fun e w' => e = .returned (.func (.func 192) #[] #[.pointer (some ⟨w.heap.size, 0, none⟩)]) ∧ w' = w.alloc (.cells #[.string (str s)] 9) := by
  go_enter Tryz.func175, Tryz.ntmps175
  go_wp2
  go_ret
  exact ⟨rfl, rfl⟩
end Go.Proofs.YtmnohicojefhfaaGreatDoor
