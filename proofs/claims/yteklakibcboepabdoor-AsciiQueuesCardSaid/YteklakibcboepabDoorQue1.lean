/-
A queue of bytes as a thing with memory of its own; the program's NewQueue, none, Len, Put.
-/
import Derived.Test.YteklakibcboepabDoorProg
import Derived.Test.YteklakibcboepabDoorOwn
import Derived.Test.YteklakibcboepabDoorDig
set_option linter.unusedVariables false
set_option linter.unusedSimpArgs false
namespace Go.Proofs.YteklakibcboepabDoor
open Go.RowKit

/-- A contract that turns what K owns: its result and what holds behind it. -/
def Turns (K : Nat → Prop) (w : World) (o : Ow) (R : Value → World → Ow → Prop) (e : Ending) (w' : World) : Prop := ∃ v o', e = .returned v ∧ R v w' o' ∧ Stp K w o w' o'
theorem Turns.mk {K : Nat → Prop} {w : World} {o : Ow} {R : Value → World → Ow → Prop} {e : Ending} {w' : World} {v : Value} (o' : Ow) (he : e = .returned v) (h : R v w' o') (s : Stp K w o w' o') : Turns K w o R e w' := ⟨v, o', he, h, s⟩
/-- A slice of bytes whose room k owns. -/
def IsB (k : Nat) (l : List UInt8) (v : Value) (w : World) (o : Ow) : Prop := ∃ A c, v = .slice A l.length c ∧ Sl w o k 1 A l.length c (bc l) ∧ (A = none → c = 0)
theorem slt_u8 : SlT Tryd.prog 22 5 (.int .u8 0) 1 1 := ⟨Tryd.underlying22, by kernel_rfl, rfl, by omega⟩

/-- A queue lies at block p: its bytes, its bound; k owns p, k + 1 its bytes' room. -/
structure QAt (T : TypeId) (w : World) (o : Ow) (k p : Nat) (l : List UInt8) (lim : Nat) : Prop where
  own : o p = k
  lo : 1 ≤ lim
  hi : lim ≤ 1048576
  le : l.length ≤ lim
  at_ : ∃ A c, w.heap[p]? = some (.cells #[.slice A l.length c, .int .i64 (lim : Int)] T (0, 0)) ∧ Sl w o (k + 1) 1 A l.length c (bc l) ∧ (A = none → c = 0)
/-- The program's queue. -/
abbrev QIs := QAt 32
theorem row_facts {w : World} {p : Nat} {cs : Array Value} {t : TypeId} (h : w.heap[p]? = some (.cells cs t (0, 0))) (i : Nat) (u : Value) (hu : cs[i]? = some u) :
    w.cell? ⟨p, i, none⟩ = some u ∧ w.frozen? ⟨p, i, none⟩ = false := by
  refine ⟨by rw [cell_of_row w p i cs t (0, 0) h]; exact hu, ?_⟩
  unfold World.frozen?
  simp only [h]
  simp
theorem row_lt {w : World} {p : Nat} {x : Obj} (h : w.heap[p]? = some x) : p < w.heap.size := (Array.getElem?_eq_some_iff.1 h).1
theorem row_set {w : World} {p : Nat} {cs : Array Value} {t : TypeId} (h : w.heap[p]? = some (.cells cs t (0, 0))) (i : Nat) (u : Value) :
    (w.setCell ⟨p, i, none⟩ u).heap[p]? = some (.cells (cs.setIfInBounds i u) t (0, 0)) := by
  simp [World.setCell, Array.getElem?_modify, h]
theorem q_facts {w : World} {p n c lim : Nat} {A : Option Addr} {t : TypeId} (h : w.heap[p]? = some (.cells #[.slice A n c, .int .i64 (lim : Int)] t (0, 0))) :
    w.cell? ⟨p, 0, none⟩ = some (.slice A n c) ∧ w.cell? ⟨p, 1, none⟩ = some (.int .i64 (lim : Int)) ∧ w.frozen? ⟨p, 0, none⟩ = false :=
  ⟨(row_facts h 0 _ rfl).1, (row_facts h 1 _ rfl).1, (row_facts h 0 _ rfl).2⟩
/-- Whose blocks a queue's calls turn. -/
def KQ (k : Nat) (i : Nat) : Prop := i = k ∨ i = k + 1
/-- The queue behind a new slice in its first cell. -/
theorem QAt.put {T : TypeId} {w w' : World} {o o' : Ow} {k p lim n c : Nat} {l l' : List UInt8} {A : Option Addr} (h : QAt T w o k p l lim) (s : Stp (fun i => i = k + 1) w o w' o') (hl : l'.length ≤ lim) (hn : n = l'.length) (hs : Sl w' o' (k + 1) 1 A n c (bc l')) (ha : A = none → c = 0) :
    QAt T (w'.setCell ⟨p, 0, none⟩ (.slice A n c)) o' k p l' lim ∧ Stp (KQ k) w o (w'.setCell ⟨p, 0, none⟩ (.slice A n c)) o' := by
  subst hn
  obtain ⟨A0, c0, hh, _, _⟩ := h.at_
  have hp : o' p = k := by rw [s.own p (row_lt hh)]; exact h.own
  have hh' : w'.heap[p]? = _ := (s.keep p (row_lt hh) (by rw [h.own]; omega)).trans hh
  have st : Stp (fun i => i = k) w' o' (w'.setCell ⟨p, 0, none⟩ (.slice A l'.length c)) o' := Stp.set p 0 _ (fun _ => hp)
  exact ⟨⟨hp, h.lo, h.hi, hl, A, c, row_set hh' 0 _, hs.stp st (by omega), ha⟩, (s.mono fun i hi => .inr hi).tr (st.mono fun i hi => .inl hi)⟩
theorem QAt.stp {T : TypeId} {K : Nat → Prop} {w w' : World} {o o' : Ow} {k p lim : Nat} {l : List UInt8} (h : QAt T w o k p l lim) (s : Stp K w o w' o') (h0 : ¬ K k) (h1 : ¬ K (k + 1)) : QAt T w' o' k p l lim := by
  obtain ⟨A, c, hh, hs, hn⟩ := h.at_
  exact ⟨by rw [s.own p (row_lt hh)]; exact h.own, h.lo, h.hi, h.le, A, c, by rw [s.keep p (row_lt hh) (by rw [h.own]; exact h0)]; exact hh, hs.stp s h1, hn⟩
theorem QAt.ext {T : TypeId} {w w' : World} {o : Ow} {k p lim : Nat} {l : List UInt8} (h : QAt T w o k p l lim) (e : Ext w w') : QAt T w' o k p l lim := h.stp (K := fun _ => False) (Stp.ext e) (fun x => x) (fun x => x)

/-- Put: what is in the queue behind it, and what it answers. -/
def putL (lim : Nat) (l m : List UInt8) : List UInt8 := if m.length ≤ lim - l.length then l ++ m else l
def putE (lim : Nat) (l m : List UInt8) : Int := if m.length ≤ lim - l.length then 0 else 6

theorem qnone_c (w : World) (p : Nat) (lim : Nat) (h1 : 1 ≤ lim) (hc : w.cell? ⟨p, 1, none⟩ = some (.int .i64 (lim : Int))) :
    Calls Tryd.prog 24 #[.pointer (some ⟨p, 0, none⟩)] w fun e w' => e = .returned (.bool false) ∧ w = w' := by
  have h0 : ((lim : Int) == 0) = false := by rw [beq_eq_false_iff_ne]; omega
  go_enter Tryd.func24, Tryd.ntmps24
  go_wp2
  go_ret
  exact ⟨rfl, rfl⟩
theorem qLen_c (w : World) (o : Ow) (k p lim : Nat) (l : List UInt8) (hq : QIs w o k p l lim) :
    Calls Tryd.prog 11 #[.pointer (some ⟨p, 0, none⟩)] w fun e w' => e = .returned (.int .i64 (l.length : Int)) ∧ w = w' := by
  obtain ⟨A, c, hh, hs, hn⟩ := hq.at_
  obtain ⟨c0, c1, f0⟩ := q_facts hh
  have hlo := hq.lo
  go_enter Tryd.func11, Tryd.ntmps11
  go_wp2_with (go_at_call 24; refine (qnone_c _ _ _ hlo c1).mono ?_; rintro e w1 ⟨rfl, rfl⟩)
  go_ret
  exact ⟨rfl, rfl⟩

set_option maxRecDepth 100000 in
set_option maxHeartbeats 1000000 in
theorem qPut_c (k p lim : Nat) (l m : List UInt8) (B : Option Addr) (n d : Nat) (hnm : n = m.length) (w : World) (o : Ow) (hq : QIs w o k p l lim) (hm : Rd w B (bc m)) (hb : n ≤ 140737488355328) :
    Calls Tryd.prog 8 #[.pointer (some ⟨p, 0, none⟩), .slice B n d] w (Turns (KQ k) w o fun v w' o' => v = .int .i64 (putE lim l m) ∧ QIs w' o' k p (putL lim l m) lim) := by
  subst hnm
  obtain ⟨A, c, hh, hs, hn⟩ := hq.at_
  obtain ⟨c0, c1, f0⟩ := q_facts hh
  have hlo := hq.lo
  have hhi := hq.hi
  have hle := hq.le
  have hms : maxLen = 9223372036854775807 := rfl
  have s0 : IntKind.i64.wrap ((lim : Int) - (l.length : Int)) = (lim : Int) - (l.length : Int) := by rw [IntKind.wrap_i64]; omega
  have HH := Lib.hid hh
  have HS := Lib.hid hs
  have HQ := Lib.hid hq
  have HM := Lib.hid hm
  clear hh hs hm hq
  by_cases hfit : m.length ≤ lim - l.length
  · have e1 : putE lim l m = 0 := if_pos hfit
    have e2 : putL lim l m = l ++ m := if_pos hfit
    have hlt : ¬ ((lim : Int) - (l.length : Int) < (m.length : Int)) := by omega
    go_enter Tryd.func8, Tryd.ntmps8
    go_wp2_with (go_at_call 24; refine (qnone_c _ _ _ hlo c1).mono ?_; rintro e w1 ⟨rfl, rfl⟩)
    go_quiet (fail)
    go_wp2_with (at_builtin; refine wpL_put slt_u8 (.tmp 26) (.tmp 27) rfl rfl rfl rfl (HS.out.ext (by (repeat (first | exact Ext.rfl' _ | assumption | refine Ext.dr ?_ | refine Ext.drN ?_ _ | refine Ext.al ?_ _ | refine Ext.st ?_ (by simp) _ | refine Ext.tr ?_ (by assumption))))) hn (Sl.src Tryd.underlying22 (HM.out.ext (by (repeat (first | exact Ext.rfl' _ | assumption | refine Ext.dr ?_ | refine Ext.drN ?_ _ | refine Ext.al ?_ _ | refine Ext.st ?_ (by simp) _ | refine Ext.tr ?_ (by assumption))))) (by simp) (by omega) (bc_one m) d) (by omega) (by omega) ?_; intro A' c' w2 o2 hs2 hst2 hna; have c02 := hst2.cell (a := ⟨p, 0, none⟩) (by rw [HQ.out.own]; omega) (by simpa using c0); have f02 := (hst2.frozen (a := ⟨p, 0, none⟩) (row_lt HH.out) (by rw [HQ.out.own]; omega)).trans (by simpa using f0))
    go_ret
    have hq2 := HQ.out.ext (w' := w.drewN nq) (by (repeat (first | exact Ext.rfl' _ | assumption | refine Ext.dr ?_ | refine Ext.drN ?_ _ | refine Ext.al ?_ _ | refine Ext.st ?_ (by simp) _ | refine Ext.tr ?_ (by assumption))))
    obtain ⟨h3, h4⟩ := hq2.put hst2 (l' := l ++ m) (by rw [List.length_append]; omega) (by rw [List.length_append]) (by rw [bc_app]; exact hs2) hna
    exact Turns.mk o2 rfl ⟨by rw [e1]; rfl, by rw [e2]; exact h3⟩ ((Stp.ext (by (repeat (first | exact Ext.rfl' _ | assumption | refine Ext.dr ?_ | refine Ext.drN ?_ _ | refine Ext.al ?_ _ | refine Ext.st ?_ (by simp) _ | refine Ext.tr ?_ (by assumption))))).tr h4)
  · have e1 : putE lim l m = 6 := if_neg hfit
    have e2 : putL lim l m = l := if_neg hfit
    have hlt : (lim : Int) - (l.length : Int) < (m.length : Int) := by omega
    go_enter Tryd.func8, Tryd.ntmps8
    go_wp2_with (go_at_call 24; refine (qnone_c _ _ _ hlo c1).mono ?_; rintro e w1 ⟨rfl, rfl⟩)
    go_quiet (fail)
    go_wp2
    go_ret
    exact Turns.mk o rfl ⟨by rw [e1]; rfl, by rw [e2]; exact HQ.out.ext (by (repeat (first | exact Ext.rfl' _ | assumption | refine Ext.dr ?_ | refine Ext.drN ?_ _ | refine Ext.al ?_ _ | refine Ext.st ?_ (by simp) _ | refine Ext.tr ?_ (by assumption))))⟩ (Stp.ext (by (repeat (first | exact Ext.rfl' _ | assumption | refine Ext.dr ?_ | refine Ext.drN ?_ _ | refine Ext.al ?_ _ | refine Ext.st ?_ (by simp) _ | refine Ext.tr ?_ (by assumption)))))
end Go.Proofs.YteklakibcboepabDoor
