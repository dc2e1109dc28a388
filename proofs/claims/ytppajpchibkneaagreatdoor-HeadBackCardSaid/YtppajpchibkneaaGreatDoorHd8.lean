/-
Head's parser as a thing with memory of its own; NewParser, clone.
-/
import Derived.Test.YtppajpchibkneaaGreatDoorHd3
import Derived.Test.YtppajpchibkneaaGreatDoorHd5
import Derived.Test.YtppajpchibkneaaGreatDoorQue1
set_option linter.unusedVariables false
set_option linter.unusedSimpArgs false
namespace Go.Proofs.YtppajpchibkneaaGreatDoor
open Go.RowKit

/-- Where a parser stands. -/
structure Pst where
  reply : Bool
  line : List UInt8
  cr : Bool
  done : Bool
  all : Nat
  empty : Nat
  e : Int
  nx : Nat
  meth : List UInt8
  targ : List UInt8
  minor : Int
  status : Int
  reason : List UInt8
  fields : List Fld
/-- A parser's cells. -/
def Pst.cells (s : Pst) (p : Nat) (A : Option Addr) (c : Nat) (B : Option Addr) (d : Nat) : Array Value :=
  #[.bool true, .bool s.reply, .slice A s.line.length c, .bool s.cr, .bool s.done, .int .i64 (s.all : Int), .int .i64 (s.empty : Int), .int .i64 s.e, .func (.func s.nx) #[.pointer (some ⟨p, 0, none⟩)] #[], .string (str s.meth), .string (str s.targ), .int .i64 s.minor, .slice none 0 0, .int .i64 s.status, .string (str s.reason), .slice B s.fields.length d]
/-- A parser lies at block p; k owns p, k + 1 its line's room, k + 2 its fields'. -/
structure PsAt (w : World) (o : Ow) (k p : Nat) (s : Pst) : Prop where
  own : o p = k
  at_ : ∃ A c B d, w.heap[p]? = some (.cells (s.cells p A c B d) 57 (0, 0)) ∧ Sl w o (k + 1) 1 A s.line.length c (bc s.line) ∧ (A = none → c = 0) ∧ Sl w o (k + 2) 2 B s.fields.length d (fc s.fields) ∧ (B = none → d = 0)
theorem PsAt.stp {K : Nat → Prop} {w w' : World} {o o' : Ow} {k p : Nat} {s : Pst} (h : PsAt w o k p s) (st : Stp K w o w' o') (h0 : ¬ K k) (h1 : ¬ K (k + 1)) (h2 : ¬ K (k + 2)) : PsAt w' o' k p s := by
  obtain ⟨A, c, B, d, hh, hs, hn, ht, hm⟩ := h.at_
  exact ⟨by rw [st.own p (row_lt hh)]; exact h.own, A, c, B, d, by rw [st.keep p (row_lt hh) (by rw [h.own]; exact h0)]; exact hh, hs.stp st h1, hn, ht.stp st h2, hm⟩
theorem PsAt.ext {w w' : World} {o : Ow} {k p : Nat} {s : Pst} (h : PsAt w o k p s) (e : Ext w w') : PsAt w' o k p s := h.stp (K := fun _ => False) (Stp.ext e) (fun x => x) (fun x => x) (fun x => x)
/-- A new parser. -/
def newP (r : Bool) : Pst := ⟨r, [], false, false, 0, 0, 0, if r then 31 else 30, [], [], 0, 0, [], []⟩
set_option maxRecDepth 100000 in
set_option maxHeartbeats 1000000 in
theorem hNewParser_c (k : Nat) (r : Bool) (w : World) (o : Ow) :
    Calls Tryz.prog 13 #[.bool r] w (Turns (fun _ => False) w o fun v w' o' => ∃ p, v = .pointer (some ⟨p, 0, none⟩) ∧ PsAt w' o' k p (newP r) ∧ w.heap.size ≤ p) := by
  cases r with
  | true =>
    go_enter Tryz.func13, Tryz.ntmps13
    go_wp2
    go_ret
    exact Turns.mk (fun b => if b = w.heap.size then k else o b) rfl ⟨w.heap.size, rfl, ⟨by simp, none, 0, none, 0, heap_alloc_new w _, Sl.nil_ _ _ _ _ _, fun _ => rfl, Sl.nil_ _ _ _ _ _, fun _ => rfl⟩, Nat.le_refl _⟩
      (Stp.ext2 (by (repeat (first | exact Ext.rfl' _ | assumption | refine Ext.dr ?_ | refine Ext.drN ?_ _ | refine Ext.al ?_ _ | refine Ext.st ?_ (by simp) _ | refine Ext.tr ?_ (by assumption)))) (fun b hb => by rw [if_neg (by omega)]))
  | false =>
    go_enter Tryz.func13, Tryz.ntmps13
    go_wp2
    go_ret
    exact Turns.mk (fun b => if b = w.heap.size then k else o b) rfl ⟨w.heap.size, rfl, ⟨by simp, none, 0, none, 0, heap_alloc_new w _, Sl.nil_ _ _ _ _ _, fun _ => rfl, Sl.nil_ _ _ _ _ _, fun _ => rfl⟩, Nat.le_refl _⟩
      (Stp.ext2 (by (repeat (first | exact Ext.rfl' _ | assumption | refine Ext.dr ?_ | refine Ext.drN ?_ _ | refine Ext.al ?_ _ | refine Ext.st ?_ (by simp) _ | refine Ext.tr ?_ (by assumption)))) (fun b hb => by rw [if_neg (by omega)]))
theorem fc_one (fs : List Fld) : ∀ u ∈ fc fs, u.oneCell' = true := by
  intro u hu
  obtain ⟨p, _, hp⟩ := List.mem_flatMap.1 hu
  simp only [List.mem_cons, List.mem_nil_iff, or_false] at hp
  rcases hp with rfl | rfl <;> rfl
set_option maxRecDepth 100000 in
set_option maxHeartbeats 1000000 in
theorem hClone_c (j : Nat) (fs : List Fld) (B : Option Addr) (n d : Nat) (hn : n = fs.length) (hb : n ≤ 1000000) (w : World) (o : Ow) (h : Rd w B (fc fs)) :
    Calls Tryz.prog 34 #[.slice B n d] w (Turns (fun _ => False) w o fun v w' o' => ∃ A c, v = .slice A fs.length c ∧ Sl w' o' j 2 A fs.length c (fc fs) ∧ (A = none → c = 0)) := by
  subst hn
  have hms : maxLen = 9223372036854775807 := rfl
  go_enter Tryz.func34, Tryz.ntmps34
  go_wp2_with (first
    | (at_builtin; refine wpL_fresh slt_fld (.const (.slice none 0 0)) (.tmp 3) rfl rfl (o := o) j rfl rfl (Sl.src Tryz.underlying22 h (fc_len fs) (by omega) (fc_one fs) d) (by omega) (by omega) ?_; intro A5 c5 w5 o5 hs5 hst5 hn5))
  go_ret
  exact Turns.mk o5 rfl ⟨A5, c5, rfl, hs5, hn5⟩ hst5
end Go.Proofs.YtppajpchibkneaaGreatDoor
