/-
A log's lines: plain laws. No program in sight.
-/
import Derived.Test.YtolfpfdmgelhhaaDoorAHx
import Derived.Test.YtolfpfdmgelhhaaDoorAcc9
import Derived.Test.YtolfpfdmgelhhaaDoorQue1
import Derived.Test.YtolfpfdmgelhhaaDoorAcc8
import Derived.Test.YtolfpfdmgelhhaaDoorAsc12
set_option linter.unusedVariables false
set_option linter.unusedSimpArgs false
/-
A log's lines: plain laws. No program in sight.
-/
section
namespace Go.Proofs.YtolfpfdmgelhhaaDoor
open Go.RowKit

/-- What is left of lines when there is room for m bytes. -/
def cutM (m : Nat) : List (List UInt8) → List (List UInt8)
  | [] => []
  | p :: ps => if totS (p :: ps) ≤ m then p :: ps else cutM m ps
theorem cut_in {m : Nat} {ps : List (List UInt8)} (h : totS ps ≤ m) : cutM m ps = ps := by
  cases ps with
  | nil => rfl
  | cons p ps => rw [cutM, if_pos h]
theorem cut_out {m : Nat} {p : List UInt8} {ps : List (List UInt8)} (h : m < totS (p :: ps)) : cutM m (p :: ps) = cutM m ps := by
  rw [cutM, if_neg (by omega)]
theorem cut_tot (m : Nat) : ∀ ps : List (List UInt8), totS (cutM m ps) ≤ m
  | [] => by simp [cutM, totS]
  | p :: ps => by
    by_cases h : totS (p :: ps) ≤ m
    · rw [cut_in h]; exact h
    · rw [cut_out (by omega)]; exact cut_tot m ps
theorem cut_drop (m : Nat) : ∀ ps : List (List UInt8), ∃ k, k ≤ ps.length ∧ cutM m ps = ps.drop k ∧ (k = 0 ∨ m < totS (ps.drop (k - 1)))
  | [] => ⟨0, Nat.le_refl _, rfl, .inl rfl⟩
  | p :: ps => by
    by_cases h : totS (p :: ps) ≤ m
    · exact ⟨0, Nat.zero_le _, by rw [cut_in h]; rfl, .inl rfl⟩
    · obtain ⟨k, h1, h2, h3⟩ := cut_drop m ps
      refine ⟨k + 1, by simpa using h1, by rw [cut_out (by omega), h2]; rfl, .inr ?_⟩
      rcases h3 with rfl | h3
      · simpa using (by omega : m < totS (p :: ps))
      · cases k with
        | zero => simpa using (by omega : m < totS (p :: ps))
        | succ k => simpa using h3
/-- A line more. -/
def logL (m : Nat) (ls : List (List UInt8)) (x : Ent) : List (List UInt8) := if (lineL x).2 = 0 then cutM m (ls ++ [(lineL x).1]) else ls
def logD (m : Nat) (ls : List (List UInt8)) (x : Ent) : Nat := if (lineL x).2 = 0 then ls.length + 1 - (cutM m (ls ++ [(lineL x).1])).length else 0
end Go.Proofs.YtolfpfdmgelhhaaDoor
end

/-
A log as a thing with memory of its own: the program's and the reference's NewLog, Append, Lines, Dropped.
-/
section
namespace Go.Proofs.YtolfpfdmgelhhaaDoor
open Go.RowKit

/-- A log lies at block p: its lines, its bound, how many went; k owns p, k + 1 its lines' room. -/
structure LgAt (T : TypeId) (w : World) (o : Ow) (k p : Nat) (ls : List (List UInt8)) (lim d : Nat) : Prop where
  own : o p = k
  lo : 1 ≤ lim
  hi : lim ≤ 1048576
  le : totS ls ≤ 2000000
  dd : d + ls.length ≤ 4611686018427387904
  at_ : ∃ A c, w.heap[p]? = some (.cells #[.slice A ls.length c, .int .i64 (totS ls : Int), .int .i64 (lim : Int), .int .i64 (d : Int)] T (0, 0)) ∧ Sl w o (k + 1) 1 A ls.length c (sc ls) ∧ (A = none → c = 0)
theorem LgAt.stp {T : TypeId} {K : Nat → Prop} {w w' : World} {o o' : Ow} {k p lim d : Nat} {ls : List (List UInt8)} (h : LgAt T w o k p ls lim d) (s : Stp K w o w' o') (h0 : ¬ K k) (h1 : ¬ K (k + 1)) : LgAt T w' o' k p ls lim d := by
  obtain ⟨A, c, hh, hs, hn⟩ := h.at_
  exact ⟨by rw [s.own p (row_lt hh)]; exact h.own, h.lo, h.hi, h.le, h.dd, A, c, by rw [s.keep p (row_lt hh) (by rw [h.own]; exact h0)]; exact hh, hs.stp s h1, hn⟩
theorem LgAt.ext {T : TypeId} {w w' : World} {o : Ow} {k p lim d : Nat} {ls : List (List UInt8)} (h : LgAt T w o k p ls lim d) (e : Ext w w') : LgAt T w' o k p ls lim d := h.stp (K := fun _ => False) (Stp.ext e) (fun x => x) (fun x => x)
theorem lg_facts {w : World} {p n c lim d : Nat} {z : Int} {A : Option Addr} {t : TypeId} (h : w.heap[p]? = some (.cells #[.slice A n c, .int .i64 z, .int .i64 (lim : Int), .int .i64 (d : Int)] t (0, 0))) :
    (w.cell? ⟨p, 0, none⟩ = some (.slice A n c) ∧ w.cell? ⟨p, 1, none⟩ = some (.int .i64 z) ∧ w.cell? ⟨p, 2, none⟩ = some (.int .i64 (lim : Int)) ∧ w.cell? ⟨p, 3, none⟩ = some (.int .i64 (d : Int))) ∧ w.frozen? ⟨p, 0, none⟩ = false ∧ w.frozen? ⟨p, 1, none⟩ = false ∧ w.frozen? ⟨p, 3, none⟩ = false :=
  ⟨⟨(row_facts h 0 _ rfl).1, (row_facts h 1 _ rfl).1, (row_facts h 2 _ rfl).1, (row_facts h 3 _ rfl).1⟩, (row_facts h 0 _ rfl).2, (row_facts h 1 _ rfl).2, (row_facts h 3 _ rfl).2⟩
/-- The log behind a new slice and a new sum. -/
theorem LgAt.put {T : TypeId} {w w' : World} {o o' : Ow} {k p lim d n c : Nat} {ls ls' : List (List UInt8)} {A : Option Addr} {z : Int} (h : LgAt T w o k p ls lim d) (s : Stp (fun i => i = k + 1) w o w' o') (hl : totS ls' ≤ 2000000) (hd : d + ls'.length ≤ 4611686018427387904) (hn : n = ls'.length) (hz : z = (totS ls' : Int)) (hs : Sl w' o' (k + 1) 1 A n c (sc ls')) (ha : A = none → c = 0) :
    LgAt T ((w'.setCell ⟨p, 0, none⟩ (.slice A n c)).setCell ⟨p, 1, none⟩ (.int .i64 z)) o' k p ls' lim d ∧ Stp (KQ k) w o ((w'.setCell ⟨p, 0, none⟩ (.slice A n c)).setCell ⟨p, 1, none⟩ (.int .i64 z)) o' := by
  subst hn hz
  obtain ⟨A0, c0, hh, _, _⟩ := h.at_
  have hp : o' p = k := by rw [s.own p (row_lt hh)]; exact h.own
  have hh' : w'.heap[p]? = _ := (s.keep p (row_lt hh) (by rw [h.own]; omega)).trans hh
  have st : Stp (fun i => i = k) w' o' ((w'.setCell ⟨p, 0, none⟩ (.slice A ls'.length c)).setCell ⟨p, 1, none⟩ (.int .i64 (totS ls' : Int))) o' := (Stp.set p 0 _ (fun _ => hp)).tr (Stp.set p 1 _ (fun _ => hp))
  exact ⟨⟨hp, h.lo, h.hi, hl, hd, A, c, row_set (row_set hh' 0 _) 1 _, hs.stp st (by omega), ha⟩, (s.mono fun i hi => .inr hi).tr (st.mono fun i hi => .inl hi)⟩
/-- The log without its first line. -/
theorem LgAt.cut {T : TypeId} {w : World} {o : Ow} {k p lim d n c : Nat} {l : List UInt8} {ls : List (List UInt8)} {A A' : Option Addr} {z zd : Int} (h : LgAt T w o k p (l :: ls) lim d)
    (hh : w.heap[p]? = some (.cells #[.slice A (ls.length + 1) c, .int .i64 (totS (l :: ls) : Int), .int .i64 (lim : Int), .int .i64 (d : Int)] T (0, 0))) (hs : Sl w o (k + 1) 1 A (ls.length + 1) c (sc (l :: ls)))
    (hn : n = ls.length) (hz : z = (totS ls : Int)) (hzd : zd = ((d + 1 : Nat) : Int)) (ha : (∃ g f, A = some ⟨g, f, none⟩ ∧ A' = some ⟨g, f + 1, none⟩) ∨ c = 1) (hna : A' = none → c - 1 = 0) :
    LgAt T (((w.setCell ⟨p, 1, none⟩ (.int .i64 z)).setCell ⟨p, 0, none⟩ (.slice A' n (c - 1))).setCell ⟨p, 3, none⟩ (.int .i64 zd)) o k p ls lim (d + 1) ∧ Stp (KQ k) w o (((w.setCell ⟨p, 1, none⟩ (.int .i64 z)).setCell ⟨p, 0, none⟩ (.slice A' n (c - 1))).setCell ⟨p, 3, none⟩ (.int .i64 zd)) o := by
  subst hn hz hzd
  have st : Stp (fun i => i = k) w o (((w.setCell ⟨p, 1, none⟩ (.int .i64 (totS ls : Int))).setCell ⟨p, 0, none⟩ (.slice A' ls.length (c - 1))).setCell ⟨p, 3, none⟩ (.int .i64 ((d + 1 : Nat) : Int))) o := ((Stp.set p 1 _ (fun _ => h.own)).tr (Stp.set p 0 _ (fun _ => h.own))).tr (Stp.set p 3 _ (fun _ => h.own))
  have hle := h.le
  have hdd := h.dd
  rw [List.length_cons] at hdd
  refine ⟨⟨h.own, h.lo, h.hi, by rw [tot_cons] at hle; omega, by omega, A', c - 1, row_set (row_set (row_set hh 1 _) 0 _) 3 _, ?_, hna⟩, st.mono fun i hi => .inl hi⟩
  refine Sl.stp ?_ st (by omega)
  rcases ha with ⟨g, f, rfl, rfl⟩ | rfl
  · have := hs.drop 1 (by omega)
    rw [Nat.mul_one] at this
    simpa [sc] using this
  · have h1 := hs.le
    have : ls = [] := List.eq_nil_of_length_eq_zero (by omega)
    subst this
    exact Sl.nil_ _ _ _ _ _
theorem sc_one (ls : List (List UInt8)) : ∀ u ∈ sc ls, u.oneCell' = true := by
  intro u hu
  obtain ⟨s, _, rfl⟩ := List.mem_map.1 hu
  rfl
abbrev GIs := LgAt 129
abbrev RGIs := LgAt 61
theorem aNone_no (w : World) (p : Nat) (lim : Nat) (h1 : 1 ≤ lim) (hc : w.cell? ⟨p, 2, none⟩ = some (.int .i64 (lim : Int))) :
    Calls Tryd.prog 76 #[.pointer (some ⟨p, 0, none⟩)] w fun e w' => e = .returned (.bool false) ∧ w = w' := by
  have h0 : ((lim : Int) == 0) = false := by rw [beq_eq_false_iff_ne]; omega
  go_enter Tryd.func76, Tryd.ntmps76
  go_wp2
  go_ret
  exact ⟨rfl, rfl⟩
theorem aDropped_c (w : World) (o : Ow) (k p lim d : Nat) (ls : List (List UInt8)) (hq : GIs w o k p ls lim d) :
    Calls Tryd.prog 34 #[.pointer (some ⟨p, 0, none⟩)] w fun e w' => e = .returned (.int .i64 (d : Int)) ∧ w = w' := by
  obtain ⟨A, c, hh, hs, hn⟩ := hq.at_
  obtain ⟨⟨c0, c1, c2, c3⟩, f0, f1, f3⟩ := lg_facts hh
  have hlo := hq.lo
  go_enter Tryd.func34, Tryd.ntmps34
  go_wp2_with (go_at_call 76; refine (aNone_no _ _ _ hlo c2).mono ?_; rintro e w1 ⟨rfl, rfl⟩)
  go_ret
  exact ⟨rfl, rfl⟩
/-- A slice of texts whose room k owns. -/
def IsS (k : Nat) (ls : List (List UInt8)) (v : Value) (w : World) (o : Ow) : Prop := ∃ A c, v = .slice A ls.length c ∧ Sl w o k 1 A ls.length c (sc ls) ∧ (A = none → c = 0)
theorem tot_cntS (ls : List (List UInt8)) : ls.length ≤ totS ls := tot_cnt ls
set_option maxRecDepth 100000 in
set_option maxHeartbeats 1000000 in
theorem aLines_c (j k p lim d : Nat) (ls : List (List UInt8)) (w : World) (o : Ow) (hq : GIs w o k p ls lim d) :
    Calls Tryd.prog 33 #[.pointer (some ⟨p, 0, none⟩)] w (Turns (fun _ => False) w o (IsS j ls)) := by
  obtain ⟨A, c, hh, hs, hn⟩ := hq.at_
  obtain ⟨⟨c0, c1, c2, c3⟩, f0, f1, f3⟩ := lg_facts hh
  have hlo := hq.lo
  have hle := hq.le
  have hcnt := tot_cntS ls
  have hms : maxLen = 9223372036854775807 := rfl
  have HS := Lib.hid hs
  clear hq hs hh hn
  go_enter Tryd.func33, Tryd.ntmps33
  go_wp2_with (first
    | (go_at_call 76; refine (aNone_no _ _ _ hlo c2).mono ?_; rintro e w1 ⟨rfl, rfl⟩)
    | (at_builtin; refine wpL_fresh slt_str (.const (.slice none 0 0)) (.tmp 8) rfl rfl (o := o) j rfl rfl (Sl.src Tryd.underlying58 HS.out.rd (by simp) (by omega) (sc_one _) c) (by omega) (by omega) ?_; intro A5 c5 w5 o5 hs5 hst5 hn5))
  go_ret
  exact Turns.mk o5 rfl ⟨A5, c5, rfl, hs5, hn5⟩ hst5
theorem aNewLog_no (n : Int) (hn : n < 1 ∨ 1048576 < n) (w : World) :
    Calls Tryd.prog 28 #[.int .i64 n] w fun e w' => e = .returned (.tuple #[.pointer none, .int .i64 1]) ∧ w = w' := by
  rcases hn with hn | hn
  · go_enter Tryd.func28, Tryd.ntmps28
    go_wp2
    go_ret2
    exact ⟨rfl, rfl⟩
  · have h1 : ¬ n < 1 := by omega
    go_enter Tryd.func28, Tryd.ntmps28
    go_wp2
    go_ret2
    exact ⟨rfl, rfl⟩
theorem arNewLog_no (n : Int) (hn : n < 1 ∨ 1048576 < n) (w : World) :
    Calls Tryd.prog 29 #[.int .i64 n] w fun e w' => e = .returned (.pointer none) ∧ w = w' := by
  rcases hn with hn | hn
  · go_enter Tryd.func29, Tryd.ntmps29
    go_wp2
    go_ret
    exact ⟨rfl, rfl⟩
  · have h1 : ¬ n < 1 := by omega
    go_enter Tryd.func29, Tryd.ntmps29
    go_wp2
    go_ret
    exact ⟨rfl, rfl⟩
theorem totS_nil : totS ([] : List (List UInt8)) = 0 := rfl
theorem aNewLog_c (k : Nat) (lim : Nat) (h1 : 1 ≤ lim) (h2 : lim ≤ 1048576) (w : World) (o : Ow) :
    Calls Tryd.prog 28 #[.int .i64 (lim : Int)] w (Turns (fun _ => False) w o fun v w' o' => ∃ p, v = .tuple #[.pointer (some ⟨p, 0, none⟩), .int .i64 0] ∧ GIs w' o' k p [] lim 0 ∧ w.heap.size ≤ p) := by
  have d1 : ¬ (lim : Int) < 1 := by omega
  have d2 : ¬ (1048576 : Int) < (lim : Int) := by omega
  go_enter Tryd.func28, Tryd.ntmps28
  go_wp2
  go_ret2
  exact Turns.mk (fun b => if b = w.heap.size then k else o b) rfl ⟨w.heap.size, rfl, ⟨by simp, h1, h2, by simp [totS_nil], by simp, none, 0, heap_alloc_new w _, Sl.nil_ _ _ _ _ _, fun _ => rfl⟩, Nat.le_refl _⟩
    (Stp.ext2 (by (repeat (first | exact Ext.rfl' _ | assumption | refine Ext.dr ?_ | refine Ext.drN ?_ _ | refine Ext.al ?_ _ | refine Ext.st ?_ (by simp) _ | refine Ext.tr ?_ (by assumption)))) (fun b hb => by rw [if_neg (by omega)]))
theorem arNewLog_c (k : Nat) (lim : Nat) (h1 : 1 ≤ lim) (h2 : lim ≤ 1048576) (w : World) (o : Ow) :
    Calls Tryd.prog 29 #[.int .i64 (lim : Int)] w (Turns (fun _ => False) w o fun v w' o' => ∃ p, v = .pointer (some ⟨p, 0, none⟩) ∧ RGIs w' o' k p [] lim 0 ∧ w.heap.size ≤ p) := by
  have d1 : ¬ (lim : Int) < 1 := by omega
  have d2 : ¬ (1048576 : Int) < (lim : Int) := by omega
  go_enter Tryd.func29, Tryd.ntmps29
  go_wp2
  go_ret
  exact Turns.mk (fun b => if b = w.heap.size then k else o b) rfl ⟨w.heap.size, rfl, ⟨by simp, h1, h2, by simp [totS_nil], by simp, none, 0, heap_alloc_new w _, Sl.nil_ _ _ _ _ _, fun _ => rfl⟩, Nat.le_refl _⟩
    (Stp.ext2 (by (repeat (first | exact Ext.rfl' _ | assumption | refine Ext.dr ?_ | refine Ext.drN ?_ _ | refine Ext.al ?_ _ | refine Ext.st ?_ (by simp) _ | refine Ext.tr ?_ (by assumption)))) (fun b hb => by rw [if_neg (by omega)]))
end Go.Proofs.YtolfpfdmgelhhaaDoor
end

/-
A log: the program's Append.
-/
section
namespace Go.Proofs.YtolfpfdmgelhhaaDoor
open Go.RowKit

/-- How many a slice has. -/
def lnOf : Option Value → Nat
  | some (.slice _ n _) => n
  | _ => 0
theorem LgAt.ln {T : TypeId} {w : World} {o : Ow} {k p lim d : Nat} {ls : List (List UInt8)} (h : LgAt T w o k p ls lim d) : lnOf (w.cell? ⟨p, 0, none⟩) = ls.length := by
  obtain ⟨A, c, hh, _, _⟩ := h.at_
  rw [(lg_facts hh).1.1]
  rfl
theorem logL_bad {m : Nat} {ls : List (List UInt8)} {x : Ent} (h : ¬ (lineL x).2 = 0) : logL m ls x = ls ∧ logD m ls x = 0 := by
  unfold logL logD; rw [if_neg h, if_neg h]; exact ⟨rfl, rfl⟩
theorem logL_good {m d d' : Nat} {ls ls' : List (List UInt8)} {x : Ent} (h : (lineL x).2 = 0) (h1 : cutM m ls' = cutM m (ls ++ [(lineL x).1])) (h2 : totS ls' ≤ m) (h3 : d' + ls'.length = d + ls.length + 1) (h4 : d ≤ d') : logL m ls x = ls' ∧ d + logD m ls x = d' := by
  unfold logL logD
  rw [if_pos h, if_pos h, ← h1, cut_in h2]
  exact ⟨rfl, by omega⟩
set_option maxRecDepth 100000 in
set_option maxHeartbeats 4000000 in
theorem aAppend_bad (k p lim d : Nat) (ls : List (List UInt8)) (x : Ent) (hwf : x.wf) (h0 : ¬ (lineL x).2 = 0) (w : World) (o : Ow) (hq : GIs w o k p ls lim d) (hE : ErrR w) (hP : Pow w) :
    Calls Tryd.prog 30 #[.pointer (some ⟨p, 0, none⟩), x.val] w (Gives (.int .i64 (lineL x).2) w) := by
  obtain ⟨A, c, hh, hs, hn⟩ := hq.at_
  obtain ⟨⟨c0, c1, c2, c3⟩, f0, f1, f3⟩ := lg_facts hh
  have hlo := hq.lo
  have C1 := fun (w : World) (hE : ErrR w) (hP : Pow w) => aLine_c x hwf w hE hP
  have HE := Lib.hid hE
  have HP := Lib.hid hP
  have HC := Lib.hid (fun (w' : World) (e : Ext w w') => (e.cell (lt_of_cell c2)).trans c2)
  clear hE hP hwf hh hs hn hq c0 c1 c3 f0 f1 f3
  obtain ⟨⟨l, e⟩, hle⟩ : ∃ r, r = lineL x := ⟨_, rfl⟩
  rw [← hle] at C1 h0 ⊢
  clear hle
  dsimp only at C1 h0 ⊢
  have d1 : (e != 0) = true := by rw [bne_iff_ne]; exact h0
  unfold Ent.val Ent.cells at C1 ⊢
  obtain ⟨t, c, m, h, g, s, b, a⟩ := x
  dsimp only at C1 ⊢
  have C1 := Lib.hid C1
  go_enter Tryd.func30, Tryd.ntmps30
  go_wp2_with (first
    | (go_at_call 76; refine (aNone_no _ _ _ hlo (HC.out _ (by (repeat (first | exact Ext.rfl' _ | assumption | refine Ext.dr ?_ | refine Ext.drN ?_ _ | refine Ext.al ?_ _ | refine Ext.st ?_ (by simp) _ | refine Ext.tr ?_ (by assumption)))))).mono ?_; rintro e w1 ⟨rfl, rfl⟩)
    | (go_at_call 27; refine (C1.out _ (HE.out.ext (by (repeat (first | exact Ext.rfl' _ | assumption | refine Ext.dr ?_ | refine Ext.drN ?_ _ | refine Ext.al ?_ _ | refine Ext.st ?_ (by simp) _ | refine Ext.tr ?_ (by assumption))))) (HP.out.ext (by (repeat (first | exact Ext.rfl' _ | assumption | refine Ext.dr ?_ | refine Ext.drN ?_ _ | refine Ext.al ?_ _ | refine Ext.st ?_ (by simp) _ | refine Ext.tr ?_ (by assumption)))))).mono ?_; rintro e w1 ⟨rfl, hx1⟩))
  go_ret
  exact ⟨rfl, by (repeat (first | exact Ext.rfl' _ | assumption | refine Ext.dr ?_ | refine Ext.drN ?_ _ | refine Ext.al ?_ _ | refine Ext.st ?_ (by simp) _ | refine Ext.tr ?_ (by assumption)))⟩
set_option maxRecDepth 100000 in
set_option maxHeartbeats 8000000 in
theorem aAppend_good (k p lim d : Nat) (ls : List (List UInt8)) (x : Ent) (hwf : x.wf) (h0 : (lineL x).2 = 0) (w : World) (o : Ow) (hq : GIs w o k p ls lim d) (hE : ErrR w) (hP : Pow w) (hd : d + ls.length < 4611686018427387904) (htot : totS ls ≤ lim) :
    Calls Tryd.prog 30 #[.pointer (some ⟨p, 0, none⟩), x.val] w (Turns (KQ k) w o fun v w' o' => v = .int .i64 0 ∧ GIs w' o' k p (logL lim ls x) lim (d + logD lim ls x)) := by
  obtain ⟨A, c, hh, hs, hn⟩ := hq.at_
  have hlo := hq.lo
  have hhi := hq.hi
  have hms : maxLen = 9223372036854775807 := rfl
  have hcnt := tot_cntS ls
  have hll := (line_prt h0).2.2
  have C1 := fun (w : World) (hE : ErrR w) (hP : Pow w) => aLine_c x hwf w hE hP
  have HE := Lib.hid hE
  have HP := Lib.hid hP
  have HQ := Lib.hid hq
  have HH := Lib.hid hh
  have HS := Lib.hid hs
  have HC := Lib.hid (fun (w' : World) (e : Ext w w') => (e.cell (lt_of_cell (lg_facts hh).1.2.2.1)).trans (lg_facts hh).1.2.2.1)
  clear hE hP hwf hh hs hq
  obtain ⟨l, hl⟩ : ∃ l, l = (lineL x).1 := ⟨_, rfl⟩
  have hle : lineL x = (l, 0) := by rw [hl, ← h0]
  have HL := Lib.hid hl
  rw [hle] at C1 hll
  clear hl hle
  dsimp only at C1 hll
  unfold Ent.val Ent.cells at C1 ⊢
  have X0 := Lib.hid h0
  clear h0
  have s1 : IntKind.i64.wrap ((l.length : Int) + 1) = (l.length : Int) + 1 := by rw [IntKind.wrap_i64]; omega
  have s2 : IntKind.i64.wrap ((totS ls : Int) + ((l.length : Int) + 1)) = (totS ls : Int) + ((l.length : Int) + 1) := by rw [IntKind.wrap_i64]; omega
  have C1 := Lib.hid C1
  go_enter Tryd.func30, Tryd.ntmps30
  go_wp2_with (first
    | (go_at_call 76; refine (aNone_no _ _ _ hlo (HC.out _ (by (repeat (first | exact Ext.rfl' _ | assumption | refine Ext.dr ?_ | refine Ext.drN ?_ _ | refine Ext.al ?_ _ | refine Ext.st ?_ (by simp) _ | refine Ext.tr ?_ (by assumption)))))).mono ?_; rintro e w1 ⟨rfl, rfl⟩)
    | (go_at_call 27; refine (C1.out _ (HE.out.ext (by (repeat (first | exact Ext.rfl' _ | assumption | refine Ext.dr ?_ | refine Ext.drN ?_ _ | refine Ext.al ?_ _ | refine Ext.st ?_ (by simp) _ | refine Ext.tr ?_ (by assumption))))) (HP.out.ext (by (repeat (first | exact Ext.rfl' _ | assumption | refine Ext.dr ?_ | refine Ext.drN ?_ _ | refine Ext.al ?_ _ | refine Ext.st ?_ (by simp) _ | refine Ext.tr ?_ (by assumption)))))).mono ?_; rintro e w1 ⟨rfl, hx1⟩; have hxa : Ext w w1 := (by (repeat (first | exact Ext.rfl' _ | assumption | refine Ext.dr ?_ | refine Ext.drN ?_ _ | refine Ext.al ?_ _ | refine Ext.st ?_ (by simp) _ | refine Ext.tr ?_ (by assumption)))); have hh1 := hp_ext hxa HH.out; obtain ⟨⟨a0, a1, a2, a3⟩, af0, af1, af3⟩ := lg_facts hh1; have hs1 := HS.out.ext hxa; clear hx1)
    | (at_builtin; refine wpL_put slt_str (.tmp 21) (.tmp 23) rfl rfl rfl rfl (hs1.ext (Ext.al (Ext.rfl' w1) _)) hn (Src.ofSlice _ Tryd.underlying58 ⟨w1.heap.size, 0, none⟩ 1 1 [.string (str l)] (by simp) (new_cells w1 #[.string (str l)] 9) (by simp [Value.oneCell'])) (by omega) (by omega) ?_; intro A2 c2' w2 o2 hs2 hst2 hna2; have st2 : Stp (fun i => i = k + 1) w o w2 o2 := (Stp.ext (hxa.al _)).tr hst2; have hh2 := (st2.keep p (row_lt HH.out) (by rw [HQ.out.own]; omega)).trans HH.out; obtain ⟨⟨b0, b1, b2, b3⟩, bf0, bf1, bf3⟩ := lg_facts hh2; obtain ⟨⟨g0, g1, g2, g3⟩, gf0, gf1, gf3⟩ := lg_facts (row_set hh2 0 (.slice A2 (ls.length + 1) c2')); clear a0 a1 a2 a3 af0 af1 af3 hh1 hs1 hxa))
  have hts : totS (ls ++ [l]) = totS ls + (l.length + 1) := by rw [tot_app, tot_one]
  have hln : (ls ++ [l]).length = ls.length + 1 := by rw [List.length_append]; rfl
  obtain ⟨h3, h4⟩ := HQ.out.put st2 (ls' := ls ++ [l]) (z := (totS ls : Int) + ((l.length : Int) + 1)) (by omega) (by omega) hln.symm (by omega) (by rw [sc_app]; exact hs2) hna2
  obtain ⟨W7, hW7⟩ : ∃ W, W = (w2.setCell ⟨p, 0, none⟩ (.slice A2 (ls.length + 1) c2')).setCell ⟨p, 1, none⟩ (.int .i64 ((totS ls : Int) + ((l.length : Int) + 1))) := ⟨_, rfl⟩
  rw [← hW7] at h3 h4 ⊢
  clear hW7 st2 hh2 b0 b1 b2 b3 bf0 bf1 bf3 g0 g1 g2 g3 gf0 gf1 gf3 hs2 hst2 hna2 s1 s2
  go_loopw [] (fun wr => ∃ ls' d', GIs wr o2 k p ls' lim d' ∧ cutM lim ls' = cutM lim (ls ++ [l]) ∧ d' + ls'.length = d + ls.length + 1 ∧ d ≤ d' ∧ Stp (KQ k) w o wr o2) (fun wr => lnOf (wr.cell? ⟨p, 0, none⟩))
  case atStart => exact ⟨ls ++ [l], d, h3, rfl, by omega, Nat.le_refl _, h4⟩
  case round =>
    obtain ⟨ls', d', hg, hcut, hsum, hdd, hstp⟩ := hrel
    obtain ⟨A1, c1, hh1, hs1, hn1⟩ := hg.at_
    obtain ⟨⟨a0, a1, a2, a3⟩, af0, af1, af3⟩ := lg_facts hh1
    have HG := Lib.hid hg
    by_cases hlt : lim < totS ls'
    rotate_left
    · have hgt : ¬ ((lim : Int) < (totS ls' : Int)) := by omega
      obtain ⟨e1, e2⟩ := logL_good X0.out (hcut.trans (by rw [← HL.out])) (by omega) hsum hdd
      go_wp2
      go_quiet (fail)
      go_wp2
      go_ret
      exact Turns.mk o2 rfl ⟨rfl, by rw [e1, e2]; exact HG.out.ext (by (repeat (first | exact Ext.rfl' _ | assumption | refine Ext.dr ?_ | refine Ext.drN ?_ _ | refine Ext.al ?_ _ | refine Ext.st ?_ (by simp) _ | refine Ext.tr ?_ (by assumption))))⟩ (hstp.tr (Stp.ext (by (repeat (first | exact Ext.rfl' _ | assumption | refine Ext.dr ?_ | refine Ext.drN ?_ _ | refine Ext.al ?_ _ | refine Ext.st ?_ (by simp) _ | refine Ext.tr ?_ (by assumption))))))
    · cases ls' with
      | nil => simp [totS_nil] at hlt
      | cons l0 ls1 =>
        obtain ⟨g, f, rfl⟩ : ∃ g f, A1 = some ⟨g, f, none⟩ := by
          rcases hs1.at_ with h | ⟨g, f, h, _⟩
          · have := hs1.le; simp at this; omega
          · exact ⟨g, f, h⟩
        have hgt : ((lim : Int) < (totS (l0 :: ls1) : Int)) := by omega
        go_wp2
        go_quiet (fail)
        go_wp2
        have hcc : wr.cell? ⟨g, f, none⟩ = some (.string (str l0)) := by
          rcases hs1.rd with h | ⟨g', f', h, hc⟩
          · cases h
          · cases h; exact hc 0 _ rfl
        have hgp : g ≠ p := by
          rcases hs1.at_ with h | ⟨g', f', h, ho, _⟩
          · have := hs1.le; simp at this; omega
          · cases h; have := HG.out.own; intro e; rw [e] at ho; omega
        have hle := HG.out.le
        have htc := tot_cons l0 ls1
        have s3 : IntKind.i64.wrap ((l0.length : Int) + 1) = (l0.length : Int) + 1 := by rw [IntKind.wrap_i64]; omega
        have s4 : IntKind.i64.wrap ((totS (l0 :: ls1) : Int) - ((l0.length : Int) + 1)) = (totS ls1 : Int) := by rw [IntKind.wrap_i64]; omega
        have ddd := HG.out.dd
        have s5 : IntKind.i64.wrap ((d' : Int) + 1) = ((d' + 1 : Nat) : Int) := by rw [IntKind.wrap_i64]; omega
        have hlt0 := hlt
        clear hlt hgt
        have HTC := Lib.hid htc
        have hcu := cut_out hlt0
        clear htc
        go_region_with (fail)
        all_goals (
          obtain ⟨Wd, hWd⟩ : ∃ W, W = wr.drewN (nq + 1) := ⟨_, rfl⟩
          rw [← hWd]
          have hxd : Ext wr Wd := by rw [hWd]; exact (Ext.rfl' _).drN _
          clear hWd
          have hgd := HG.out.ext hxd
          have hhd := hp_ext hxd hh1
          have hsd := hs1.ext hxd
          have hcn := hs1.le
          rw [List.length_cons] at hcn
          obtain ⟨⟨b0, b1, b2, b3⟩, bf0, bf1, bf3⟩ := lg_facts (row_set hhd 1 (.int .i64 (totS ls1 : Int)))
          have q1 : (1 : Int) ≤ (c1 : Int) := by omega
          by_cases hc1 : c1 = 1
          · subst hc1
            obtain rfl : ls1 = [] := List.eq_nil_of_length_eq_zero (by omega)
            obtain ⟨⟨e0, e1, e2, e3⟩, ef0, ef1, ef3⟩ := lg_facts (row_set (row_set hhd 1 (.int .i64 (totS ([] : List (List UInt8)) : Int))) 0 (.slice (some ⟨g, f, none⟩) 0 0))
            obtain ⟨h5, h6⟩ := hgd.cut hhd hsd (n := 0) (z := (totS ([] : List (List UInt8)) : Int)) (zd := ((d' + 1 : Nat) : Int)) rfl rfl rfl (A' := some ⟨g, f, none⟩) (.inr rfl) (fun h => by cases h)
            clear hh1 a0 a1 a2 a3 af0 af1 af3 hcc
            go_wp2
            go_roundw
            case rel => exact ⟨[], d' + 1, h5, hcu.symm.trans hcut, by rw [List.length_cons] at hsum; omega, by omega, hstp.tr ((Stp.ext hxd).tr h6)⟩
            case measure => exact Nat.lt_of_le_of_lt (Nat.le_of_eq h5.ln) (by rw [HG.out.ln]; simp)
          · obtain ⟨⟨e0, e1, e2, e3⟩, ef0, ef1, ef3⟩ := lg_facts (row_set (row_set hhd 1 (.int .i64 (totS ls1 : Int))) 0 (.slice (some ⟨g, f + 1, none⟩) ls1.length (c1 - 1)))
            obtain ⟨h5, h6⟩ := hgd.cut hhd hsd (n := ls1.length) (z := (totS ls1 : Int)) (zd := ((d' + 1 : Nat) : Int)) rfl rfl rfl (A' := some ⟨g, f + 1, none⟩) (.inl ⟨g, f, rfl, rfl⟩) (fun h => by cases h)
            clear hh1 a0 a1 a2 a3 af0 af1 af3 hcc
            go_wp2
            go_roundw
            case rel => exact ⟨ls1, d' + 1, h5, hcu.symm.trans hcut, by rw [List.length_cons] at hsum; omega, by omega, hstp.tr ((Stp.ext hxd).tr h6)⟩
            case measure => exact Nat.lt_of_le_of_lt (Nat.le_of_eq h5.ln) (by rw [HG.out.ln]; simp)
          )
end Go.Proofs.YtolfpfdmgelhhaaDoor
end

/-
A log: the reference's Append.
-/
section
namespace Go.Proofs.YtolfpfdmgelhhaaDoor
open Go.RowKit

set_option maxRecDepth 100000 in
set_option maxHeartbeats 4000000 in
theorem arAppend_bad (p : Nat) (x : Ent) (hwf : x.wf) (h0 : ¬ (lineL x).2 = 0) (w : World) :
    Calls Tryd.prog 31 #[.pointer (some ⟨p, 0, none⟩), x.val] w (Gives (.int .i64 (lineL x).2) w) := by
  have C1 := fun (w : World) => arLine_c x hwf w
  clear hwf
  obtain ⟨⟨l, e⟩, hle⟩ : ∃ r, r = lineL x := ⟨_, rfl⟩
  rw [← hle] at C1 h0 ⊢
  clear hle
  dsimp only at C1 h0 ⊢
  have d1 : (e != 0) = true := by rw [bne_iff_ne]; exact h0
  unfold Ent.val Ent.cells at C1 ⊢
  obtain ⟨t, c, m, h, g, s, b, a⟩ := x
  dsimp only at C1 ⊢
  have C1 := Lib.hid C1
  go_enter Tryd.func31, Tryd.ntmps31
  go_wp2_with (first
    | (go_at_call 72; refine (C1.out _).mono ?_; rintro e w1 ⟨rfl, hx1⟩))
  go_ret
  exact ⟨rfl, by (repeat (first | exact Ext.rfl' _ | assumption | refine Ext.dr ?_ | refine Ext.drN ?_ _ | refine Ext.al ?_ _ | refine Ext.st ?_ (by simp) _ | refine Ext.tr ?_ (by assumption)))⟩
set_option maxRecDepth 100000 in
set_option maxHeartbeats 8000000 in
theorem arAppend_good (k p lim d : Nat) (ls : List (List UInt8)) (x : Ent) (hwf : x.wf) (h0 : (lineL x).2 = 0) (w : World) (o : Ow) (hq : RGIs w o k p ls lim d) (hd : d + ls.length < 4611686018427387904) (htot : totS ls ≤ lim) :
    Calls Tryd.prog 31 #[.pointer (some ⟨p, 0, none⟩), x.val] w (Turns (KQ k) w o fun v w' o' => v = .int .i64 0 ∧ RGIs w' o' k p (logL lim ls x) lim (d + logD lim ls x)) := by
  obtain ⟨A, c, hh, hs, hn⟩ := hq.at_
  have hlo := hq.lo
  have hhi := hq.hi
  have hms : maxLen = 9223372036854775807 := rfl
  have hcnt := tot_cntS ls
  have hll := (line_prt h0).2.2
  have C1 := fun (w : World) => arLine_c x hwf w
  have HQ := Lib.hid hq
  have HH := Lib.hid hh
  have HS := Lib.hid hs
  have HC := Lib.hid (fun (w' : World) (e : Ext w w') => (e.cell (lt_of_cell (lg_facts hh).1.2.2.1)).trans (lg_facts hh).1.2.2.1)
  clear hwf hh hs hq
  obtain ⟨l, hl⟩ : ∃ l, l = (lineL x).1 := ⟨_, rfl⟩
  have hle : lineL x = (l, 0) := by rw [hl, ← h0]
  have HL := Lib.hid hl
  rw [hle] at C1 hll
  clear hl hle
  dsimp only at C1 hll
  unfold Ent.val Ent.cells at C1 ⊢
  have X0 := Lib.hid h0
  clear h0
  have s1 : IntKind.i64.wrap ((totS ls : Int) + (l.length : Int)) = (totS ls : Int) + (l.length : Int) := by rw [IntKind.wrap_i64]; omega
  have s2 : IntKind.i64.wrap ((totS ls : Int) + (l.length : Int) + 1) = (totS ls : Int) + (l.length : Int) + 1 := by rw [IntKind.wrap_i64]; omega
  have C1 := Lib.hid C1
  go_enter Tryd.func31, Tryd.ntmps31
  go_wp2_with (first
    | (go_at_call 72; refine (C1.out _).mono ?_; rintro e w1 ⟨rfl, hx1⟩; have hxa : Ext w w1 := (by (repeat (first | exact Ext.rfl' _ | assumption | refine Ext.dr ?_ | refine Ext.drN ?_ _ | refine Ext.al ?_ _ | refine Ext.st ?_ (by simp) _ | refine Ext.tr ?_ (by assumption)))); have hh1 := hp_ext hxa HH.out; obtain ⟨⟨a0, a1, a2, a3⟩, af0, af1, af3⟩ := lg_facts hh1; have a0' : (w1.alloc (.cells #[] 9)).cell? ⟨p, 0, none⟩ = some (.slice A ls.length c) := ((Ext.al (Ext.rfl' w1) (.cells #[] 9)).cell (lt_of_cell a0)).trans a0; clear hx1)
    | (at_builtin; refine wpL_fresh slt_str (.tmp 16) (.tmp 20) rfl rfl (o := o) (k + 1) rfl rfl (Sl.src Tryd.underlying58 (HS.out.rd.ext (by (repeat (first | exact Ext.rfl' _ | assumption | refine Ext.dr ?_ | refine Ext.drN ?_ _ | refine Ext.al ?_ _ | refine Ext.st ?_ (by simp) _ | refine Ext.tr ?_ (by assumption))))) (by simp) (by omega) (sc_one _) c) (by omega) (by omega) ?_; intro A5 c5 w5 o5 hs5 hst5 hn5; have st5 : Stp (fun _ => False) w o w5 o5 := (Stp.ext (by (repeat (first | exact Ext.rfl' _ | assumption | refine Ext.dr ?_ | refine Ext.drN ?_ _ | refine Ext.al ?_ _ | refine Ext.st ?_ (by simp) _ | refine Ext.tr ?_ (by assumption))))).tr hst5)
    | (at_builtin; refine wpL_put slt_str (.tmp 21) (.tmp 23) rfl rfl rfl rfl (hs5.ext (Ext.al (Ext.rfl' w5) _)) hn5 (Src.ofSlice _ Tryd.underlying58 ⟨w5.heap.size, 0, none⟩ 1 1 [.string (str l)] (by simp) (new_cells w5 #[.string (str l)] 9) (by simp [Value.oneCell'])) (by omega) (by omega) ?_; intro A2 c2' w2 o2 hs2 hst2 hna2; have st2 : Stp (fun i => i = k + 1) w o w2 o2 := ((st5.mono (fun _ x => x.elim)).tr (Stp.ext (Ext.al (Ext.rfl' _) _))).tr hst2; have hh2 := (st2.keep p (row_lt HH.out) (by rw [HQ.out.own]; omega)).trans HH.out; obtain ⟨⟨b0, b1, b2, b3⟩, bf0, bf1, bf3⟩ := lg_facts hh2; obtain ⟨⟨g0, g1, g2, g3⟩, gf0, gf1, gf3⟩ := lg_facts (row_set hh2 0 (.slice A2 (ls.length + 1) c2')); clear a0 a1 a2 a3 af0 af1 af3 hh1 hxa a0'))
  have hts : totS (ls ++ [l]) = totS ls + (l.length + 1) := by rw [tot_app, tot_one]
  have hln : (ls ++ [l]).length = ls.length + 1 := by rw [List.length_append]; rfl
  obtain ⟨h3, h4⟩ := HQ.out.put st2 (ls' := ls ++ [l]) (z := (totS ls : Int) + (l.length : Int) + 1) (by omega) (by omega) hln.symm (by omega) (by rw [sc_app]; exact hs2) hna2
  obtain ⟨W7, hW7⟩ : ∃ W, W = (w2.setCell ⟨p, 0, none⟩ (.slice A2 (ls.length + 1) c2')).setCell ⟨p, 1, none⟩ (.int .i64 ((totS ls : Int) + (l.length : Int) + 1)) := ⟨_, rfl⟩
  rw [← hW7] at h3 h4 ⊢
  clear hW7 st2 hh2 b0 b1 b2 b3 bf0 bf1 bf3 g0 g1 g2 g3 gf0 gf1 gf3 hs2 hst2 hna2 s1 s2
  go_loopw [] (fun wr => ∃ ls' d', RGIs wr o2 k p ls' lim d' ∧ cutM lim ls' = cutM lim (ls ++ [l]) ∧ d' + ls'.length = d + ls.length + 1 ∧ d ≤ d' ∧ Stp (KQ k) w o wr o2) (fun wr => lnOf (wr.cell? ⟨p, 0, none⟩))
  case atStart => exact ⟨ls ++ [l], d, h3, rfl, by omega, Nat.le_refl _, h4⟩
  case round =>
    obtain ⟨ls', d', hg, hcut, hsum, hdd, hstp⟩ := hrel
    obtain ⟨A1, c1, hh1, hs1, hn1⟩ := hg.at_
    obtain ⟨⟨a0, a1, a2, a3⟩, af0, af1, af3⟩ := lg_facts hh1
    have HG := Lib.hid hg
    by_cases hlt : lim < totS ls'
    rotate_left
    · have hgt : ¬ ((lim : Int) < (totS ls' : Int)) := by omega
      obtain ⟨e1, e2⟩ := logL_good X0.out (hcut.trans (by rw [← HL.out])) (by omega) hsum hdd
      go_wp2
      go_quiet (fail)
      go_wp2
      go_ret
      exact Turns.mk o2 rfl ⟨rfl, by rw [e1, e2]; exact HG.out.ext (by (repeat (first | exact Ext.rfl' _ | assumption | refine Ext.dr ?_ | refine Ext.drN ?_ _ | refine Ext.al ?_ _ | refine Ext.st ?_ (by simp) _ | refine Ext.tr ?_ (by assumption))))⟩ (hstp.tr (Stp.ext (by (repeat (first | exact Ext.rfl' _ | assumption | refine Ext.dr ?_ | refine Ext.drN ?_ _ | refine Ext.al ?_ _ | refine Ext.st ?_ (by simp) _ | refine Ext.tr ?_ (by assumption))))))
    · cases ls' with
      | nil => simp [totS_nil] at hlt
      | cons l0 ls1 =>
        obtain ⟨g, f, rfl⟩ : ∃ g f, A1 = some ⟨g, f, none⟩ := by
          rcases hs1.at_ with h | ⟨g, f, h, _⟩
          · have := hs1.le; simp at this; omega
          · exact ⟨g, f, h⟩
        have hgt : ((lim : Int) < (totS (l0 :: ls1) : Int)) := by omega
        go_wp2
        go_quiet (fail)
        go_wp2
        have hcc : wr.cell? ⟨g, f, none⟩ = some (.string (str l0)) := by
          rcases hs1.rd with h | ⟨g', f', h, hc⟩
          · cases h
          · cases h; exact hc 0 _ rfl
        have hgp : g ≠ p := by
          rcases hs1.at_ with h | ⟨g', f', h, ho, _⟩
          · have := hs1.le; simp at this; omega
          · cases h; have := HG.out.own; intro e; rw [e] at ho; omega
        have hle := HG.out.le
        have htc := tot_cons l0 ls1
        have s3 : IntKind.i64.wrap ((totS (l0 :: ls1) : Int) - (l0.length : Int)) = (totS (l0 :: ls1) : Int) - (l0.length : Int) := by rw [IntKind.wrap_i64]; omega
        have s4 : IntKind.i64.wrap ((totS (l0 :: ls1) : Int) - (l0.length : Int) - 1) = (totS ls1 : Int) := by rw [IntKind.wrap_i64]; omega
        have ddd := HG.out.dd
        have s5 : IntKind.i64.wrap ((d' : Int) + 1) = ((d' + 1 : Nat) : Int) := by rw [IntKind.wrap_i64]; omega
        have hlt0 := hlt
        clear hlt hgt
        have HTC := Lib.hid htc
        have hcu := cut_out hlt0
        clear htc
        go_region_with (fail)
        all_goals (
          obtain ⟨Wd, hWd⟩ : ∃ W, W = wr.drewN (nq + 1) := ⟨_, rfl⟩
          rw [← hWd]
          have hxd : Ext wr Wd := by rw [hWd]; exact (Ext.rfl' _).drN _
          clear hWd
          have hgd := HG.out.ext hxd
          have hhd := hp_ext hxd hh1
          have hsd := hs1.ext hxd
          have hcn := hs1.le
          rw [List.length_cons] at hcn
          obtain ⟨⟨b0, b1, b2, b3⟩, bf0, bf1, bf3⟩ := lg_facts (row_set hhd 1 (.int .i64 (totS ls1 : Int)))
          have q1 : (1 : Int) ≤ (c1 : Int) := by omega
          by_cases hc1 : c1 = 1
          · subst hc1
            obtain rfl : ls1 = [] := List.eq_nil_of_length_eq_zero (by omega)
            obtain ⟨⟨e0, e1, e2, e3⟩, ef0, ef1, ef3⟩ := lg_facts (row_set (row_set hhd 1 (.int .i64 (totS ([] : List (List UInt8)) : Int))) 0 (.slice (some ⟨g, f, none⟩) 0 0))
            obtain ⟨h5, h6⟩ := hgd.cut hhd hsd (n := 0) (z := (totS ([] : List (List UInt8)) : Int)) (zd := ((d' + 1 : Nat) : Int)) rfl rfl rfl (A' := some ⟨g, f, none⟩) (.inr rfl) (fun h => by cases h)
            clear hh1 a0 a1 a2 a3 af0 af1 af3 hcc
            go_wp2
            go_roundw
            case rel => exact ⟨[], d' + 1, h5, hcu.symm.trans hcut, by rw [List.length_cons] at hsum; omega, by omega, hstp.tr ((Stp.ext hxd).tr h6)⟩
            case measure => exact Nat.lt_of_le_of_lt (Nat.le_of_eq h5.ln) (by rw [HG.out.ln]; simp)
          · obtain ⟨⟨e0, e1, e2, e3⟩, ef0, ef1, ef3⟩ := lg_facts (row_set (row_set hhd 1 (.int .i64 (totS ls1 : Int))) 0 (.slice (some ⟨g, f + 1, none⟩) ls1.length (c1 - 1)))
            obtain ⟨h5, h6⟩ := hgd.cut hhd hsd (n := ls1.length) (z := (totS ls1 : Int)) (zd := ((d' + 1 : Nat) : Int)) rfl rfl rfl (A' := some ⟨g, f + 1, none⟩) (.inl ⟨g, f, rfl, rfl⟩) (fun h => by cases h)
            clear hh1 a0 a1 a2 a3 af0 af1 af3 hcc
            go_wp2
            go_roundw
            case rel => exact ⟨ls1, d' + 1, h5, hcu.symm.trans hcut, by rw [List.length_cons] at hsum; omega, by omega, hstp.tr ((Stp.ext hxd).tr h6)⟩
            case measure => exact Nat.lt_of_le_of_lt (Nat.le_of_eq h5.ln) (by rw [HG.out.ln]; simp)
          )
end Go.Proofs.YtolfpfdmgelhhaaDoor
end

/-
The law AccessLogs as a walk.
-/
section
namespace Go.Proofs.YtolfpfdmgelhhaaDoor
open Go.RowKit

theorem wpAnyH_mono {P : Program} {ops : Array Oper} {Q : Exit → Act → World → Prop} {md : Region.Mode} {S S' : World → Prop} (hS : ∀ w, S' w → S w) : ∀ {fuel : Nat} {listed : Array Bool} {a : Act} {w : World}, wpAnyH P md ops Q S' fuel listed a w → wpAnyH P md ops Q S fuel listed a w
  | 0, _, _, _, h => h
  | _ + 1, _, _, _, h => ⟨h.1, fun i hi => wpOp_mono (fun _ _ h' => ⟨hS _ h'.1, wpAnyH_mono hS h'.2⟩) (h.2 i hi)⟩
theorem aAppend_c (k p lim d : Nat) (ls : List (List UInt8)) (x : Ent) (hwf : x.wf) (w : World) (o : Ow) (hq : GIs w o k p ls lim d) (hE : ErrR w) (hP : Pow w) (hd : d + ls.length < 4611686018427387904) (htot : totS ls ≤ lim) :
    Calls Tryd.prog 30 #[.pointer (some ⟨p, 0, none⟩), x.val] w (Turns (KQ k) w o fun v w' o' => v = .int .i64 (lineL x).2 ∧ GIs w' o' k p (logL lim ls x) lim (d + logD lim ls x)) := by
  by_cases h0 : (lineL x).2 = 0
  · rw [h0]; exact aAppend_good k p lim d ls x hwf h0 w o hq hE hP hd htot
  · obtain ⟨e1, e2⟩ := logL_bad (m := lim) (ls := ls) h0
    rw [e1, e2]
    refine (aAppend_bad k p lim d ls x hwf h0 w o hq hE hP).mono ?_
    rintro e w' ⟨rfl, hx⟩
    exact Turns.mk o rfl ⟨rfl, hq.ext hx⟩ (Stp.ext hx)
theorem arAppend_c (k p lim d : Nat) (ls : List (List UInt8)) (x : Ent) (hwf : x.wf) (w : World) (o : Ow) (hq : RGIs w o k p ls lim d) (hd : d + ls.length < 4611686018427387904) (htot : totS ls ≤ lim) :
    Calls Tryd.prog 31 #[.pointer (some ⟨p, 0, none⟩), x.val] w (Turns (KQ k) w o fun v w' o' => v = .int .i64 (lineL x).2 ∧ RGIs w' o' k p (logL lim ls x) lim (d + logD lim ls x)) := by
  by_cases h0 : (lineL x).2 = 0
  · rw [h0]; exact arAppend_good k p lim d ls x hwf h0 w o hq hd htot
  · obtain ⟨e1, e2⟩ := logL_bad (m := lim) (ls := ls) h0
    rw [e1, e2]
    refine (arAppend_bad p x hwf h0 w).mono ?_
    rintro e w' ⟨rfl, hx⟩
    exact Turns.mk o rfl ⟨rfl, hq.ext hx⟩ (Stp.ext hx)
theorem logL_tot {m : Nat} {ls : List (List UInt8)} {x : Ent} (h : totS ls ≤ m) : totS (logL m ls x) ≤ m := by
  unfold logL
  split
  · exact cut_tot _ _
  · exact h
theorem cut_len (m : Nat) (ps : List (List UInt8)) : (cutM m ps).length ≤ ps.length := by
  obtain ⟨k, _, h, _⟩ := cut_drop m ps
  rw [h, List.length_drop]; omega
theorem logL_cnt (m : Nat) (ls : List (List UInt8)) (x : Ent) : logD m ls x + (logL m ls x).length ≤ ls.length + 1 := by
  unfold logL logD
  split
  · have := cut_len m (ls ++ [(lineL x).1])
    rw [List.length_append] at this
    simp only [List.length_cons, List.length_nil] at this
    omega
  · omega
/-- A slice of entries that reads as a list. -/
def RdE (w : World) (A : Option Addr) (l : List Ent) : Prop :=
  (∀ x ∈ l, x.wf) ∧ (l = [] ∨ ∃ b f, A = some ⟨b, f, none⟩ ∧ ∀ i (h : i < l.length), ∀ j u, (l[i]).cells[j]? = some u → w.cell? ⟨b, f + i * 8 + j, none⟩ = some u)
theorem RdE.row {w : World} {A : Option Addr} {l : List Ent} (h : RdE w A l) {i : Nat} (hi : i < l.length) :
    ∃ b f, A = some ⟨b, f, none⟩ ∧ b < w.heap.size ∧ ∀ j u, (l[i]).cells[j]? = some u → w.cell? ⟨b, f + i * 8 + j, none⟩ = some u := by
  rcases h.2 with h | ⟨b, f, hA, hc⟩
  · subst h; simp at hi
  · exact ⟨b, f, hA, lt_of_cell (hc i hi 0 (.int .i64 l[i].t) rfl), hc i hi⟩
/-- Where the law stands. -/
def LogsAt (W : World) (lim p r t : Nat) (w : World) : Prop :=
  ∃ o ls d, Stp (fun i => i ≠ 0) W (fun _ => 0) w o ∧ GIs w o 1 p ls lim d ∧ RGIs w o 3 r ls lim d ∧ totS ls ≤ lim ∧ d + ls.length ≤ t
theorem LogsAt.toExt {W w : World} {lim p r t : Nat} (h : LogsAt W lim p r t w) : Ext W w := by
  obtain ⟨o, ls, d, h1, _⟩ := h
  exact h1.toExt fun _ _ hn => hn rfl
theorem LogsAt.ext {W w w' : World} {lim p r t : Nat} (h : LogsAt W lim p r t w) (e : Ext w w') : LogsAt W lim p r t w' := by
  obtain ⟨o, ls, d, h1, h2, h3, h4, h5⟩ := h
  exact ⟨o, ls, d, h1.tr (Stp.ext e), h2.ext e, h3.ext e, h4, h5⟩
set_option maxRecDepth 100000 in
set_option maxHeartbeats 8000000 in
theorem AccessLogs_good (W : World) (hE : ErrR W) (hP : Pow W) (hM : Mx W) (lim : Nat) (h1 : 1 ≤ lim) (h2 : lim ≤ 1048576) (A : Option Addr) (c : Nat) (xs : List Ent) (hA : RdE W A xs) (hx : xs.length ≤ 140737488355328) :
    Calls Tryd.prog 6 #[.int .i64 (lim : Int), .slice A xs.length c] W (Gives (.bool true) W) := by
  have HE := Lib.hid hE
  have HP := Lib.hid hP
  have HM := Lib.hid hM
  have hms : maxLen = 9223372036854775807 := rfl
  clear hE hP hM
  go_enter Tryd.func6, Tryd.ntmps6
  go_wp2_with (first
    | (go_at_call 28; refine (aNewLog_c 1 lim h1 h2 W (fun _ => 0)).mono ?_; rintro e w1 ⟨v, o1, rfl, ⟨p, rfl, hg1, _⟩, hst1⟩)
    | (go_at_call 29; refine (arNewLog_c 3 lim h1 h2 w1 o1).mono ?_; rintro e w2 ⟨v, o2, rfl, ⟨r, rfl, hr2, _⟩, hst2⟩; have e2 : Ext W w2 := (hst1.tr hst2).noExt)
    | (go_at_call 25; refine (num21_c _ _).mono ?_; rintro e w3 ⟨rfl, rfl⟩)
    | (go_at_call 26; refine (knows21_c _ (HE.out.ext (by (repeat (first | exact Ext.rfl' _ | assumption | refine Ext.dr ?_ | refine Ext.drN ?_ _ | refine Ext.al ?_ _ | refine Ext.st ?_ (by simp) _ | refine Ext.tr ?_ (by assumption))))) (HP.out.ext (by (repeat (first | exact Ext.rfl' _ | assumption | refine Ext.dr ?_ | refine Ext.drN ?_ _ | refine Ext.al ?_ _ | refine Ext.st ?_ (by simp) _ | refine Ext.tr ?_ (by assumption))))) (HM.out.ext (by (repeat (first | exact Ext.rfl' _ | assumption | refine Ext.dr ?_ | refine Ext.drN ?_ _ | refine Ext.al ?_ _ | refine Ext.st ?_ (by simp) _ | refine Ext.tr ?_ (by assumption)))))).mono ?_; rintro e w6 ⟨rfl, hx6⟩))
  have hat0 : LogsAt W lim p r 0 w6 := ⟨o2, [], 0, (((hst1.tr hst2).mono (fun _ x => x.elim)).tr (Stp.ext hx6)), (hg1.stp hst2 (fun x => x) (fun x => x)).ext hx6, hr2.ext hx6, by simp [totS_nil], by simp⟩
  clear hst1 hst2 hg1 hr2 hx6 e2
  go_loopw [8] (fun i wr => ∃ t : Nat, i = .int .i64 (t : Int) ∧ t ≤ xs.length ∧ LogsAt W lim p r t wr) (fun i _ => xs.length - (intOf i).toNat)
  case atStart => exact ⟨0, rfl, Nat.zero_le _, hat0⟩
  case round =>
    obtain ⟨t, rfl, ht, hat⟩ := hrel
    by_cases hlt : t < xs.length
    · have hlt' : (t : Int) < (xs.length : Int) := by omega
      have t0 : (0 : Int) ≤ (t : Int) := by omega
      obtain ⟨b, f, rfl, hb, hcc⟩ := hA.row hlt
      have hwf := hA.1 _ (List.getElem_mem hlt)
      obtain ⟨x, hxe⟩ : ∃ x, x = xs[t] := ⟨_, rfl⟩
      rw [← hxe] at hcc hwf
      clear hxe hA
      go_upto_region 8 with fail
      go_cut [76] (fun v wx => v = .bool false ∧ LogsAt W lim p r (t + 1) wx)
      case first =>
        obtain ⟨o, ls, d, hst, hg, hr, htot, hcnt⟩ := hat
        have hW := hst.toExt (fun _ _ hn => hn rfl)
        have ho : ∀ q, q < W.heap.size → o q = 0 := fun q hq => hst.own q hq
        have hks := Lib.hid (fun w' o' (e : Stp (fun i => i ≠ 0) wr o w' o') => (show w'.cell? ⟨b, f + t * 8, none⟩ = some (.int .i64 x.t) ∧ w'.cell? ⟨b, f + t * 8 + 1, none⟩ = some (.string (str x.c)) ∧ w'.cell? ⟨b, f + t * 8 + 2, none⟩ = some (.string (str x.m)) ∧ w'.cell? ⟨b, f + t * 8 + 3, none⟩ = some (.string (str x.h)) ∧ w'.cell? ⟨b, f + t * 8 + 4, none⟩ = some (.string (str x.g)) ∧ w'.cell? ⟨b, f + t * 8 + 5, none⟩ = some (.int .i64 x.s) ∧ w'.cell? ⟨b, f + t * 8 + 6, none⟩ = some (.int .i64 x.b) ∧ w'.cell? ⟨b, f + t * 8 + 7, none⟩ = some (.string (str x.a)) from by
          have g : ∀ j u, x.cells[j]? = some u → w'.cell? ⟨b, f + t * 8 + j, none⟩ = some u := fun j u h => e.cell (by show ¬ (o b ≠ 0); rw [ho _ hb]; exact fun h => h rfl) ((hW.cell hb).trans (hcc j u h))
          exact ⟨g 0 _ rfl, g 1 _ rfl, g 2 _ rfl, g 3 _ rfl, g 4 _ rfl, g 5 _ rfl, g 6 _ rfl, g 7 _ rfl⟩))
        have C1 := fun w o hq hE hP => aAppend_c 1 p lim d ls x hwf w o hq hE hP (by omega) htot
        have C2 := fun w o hq => arAppend_c 3 r lim d ls x hwf w o hq (by omega) htot
        have C3 := fun w => aOwn_c x w
        have hcnt2 := logL_cnt lim ls x
        have htot2 := logL_tot (x := x) htot
        obtain ⟨ls2, hls2⟩ : ∃ q, q = logL lim ls x := ⟨_, rfl⟩
        obtain ⟨d2, hd2⟩ : ∃ q, q = d + logD lim ls x := ⟨_, rfl⟩
        obtain ⟨ee, hee⟩ : ∃ q, q = (lineL x).2 := ⟨_, rfl⟩
        rw [← hls2] at C1 C2 hcnt2 htot2
        rw [← hd2, ← hee] at C1 C2
        have hcnt3 : d2 + ls2.length ≤ t + 1 := by omega
        have hl2 := tot_cntS ls2
        unfold Ent.val Ent.cells at C1 C2 C3
        have C1 := Lib.hid C1
        have C2 := Lib.hid C2
        have C3 := Lib.hid C3
        have HG := Lib.hid hg
        have HR := Lib.hid hr
        have HS := Lib.hid hst
        have HW := Lib.hid hW
        clear hg hr hst hW ho hcc hls2 hd2 hee hcnt hcnt2 htot
        refine wp_region_noPanic ?_
        refine wp_region_held_drew (S := fun w' => w'.cell? ⟨b, f + t * 8, none⟩ = some (.int .i64 x.t) ∧ w'.cell? ⟨b, f + t * 8 + 1, none⟩ = some (.string (str x.c)) ∧ w'.cell? ⟨b, f + t * 8 + 2, none⟩ = some (.string (str x.m)) ∧ w'.cell? ⟨b, f + t * 8 + 3, none⟩ = some (.string (str x.h)) ∧ w'.cell? ⟨b, f + t * 8 + 4, none⟩ = some (.string (str x.g)) ∧ w'.cell? ⟨b, f + t * 8 + 5, none⟩ = some (.int .i64 x.s) ∧ w'.cell? ⟨b, f + t * 8 + 6, none⟩ = some (.int .i64 x.b) ∧ w'.cell? ⟨b, f + t * 8 + 7, none⟩ = some (.string (str x.a))) (by kernel_rfl) (hks.out _ o (Stp.ext (by (repeat (first | exact Ext.rfl' _ | assumption | refine Ext.dr ?_ | refine Ext.drN ?_ _ | refine Ext.al ?_ _ | refine Ext.st ?_ (by simp) _ | refine Ext.tr ?_ (by assumption)))))) (fun hHeld => ?_)
        refine wpAnyH_take (i := 0) (oi := ?_) (v := ?_) ?_ (by kernel_rfl) (by kernel_rfl) (by kernel_rfl) (fun _ _ _ h => h) (Or.inl ⟨?_, ?_⟩) (by assumption) ?_
        rotate_left 2
        · (simp only [List.getElem?_toArray, List.getElem?_cons_succ, List.getElem?_cons_zero]; first | done | rfl)
        · rfl
        · intro w hSw
          try dsimp only at hSw
          go_simp <;> with_reducible rfl
        try simp only [Act.put, List.setIfInBounds_toArray, List.set_cons_zero, List.set_cons_succ]
        refine wpAnyH_take (i := 1) (oi := ?_) (v := ?_) ?_ (by kernel_rfl) (by kernel_rfl) (by kernel_rfl) (fun _ _ _ h => h) (Or.inl ⟨?_, ?_⟩) (by assumption) ?_
        rotate_left 2
        · (simp only [List.getElem?_toArray, List.getElem?_cons_succ, List.getElem?_cons_zero]; first | done | rfl)
        · rfl
        · intro w hSw
          try dsimp only at hSw
          go_simp <;> with_reducible rfl
        try simp only [Act.put, List.setIfInBounds_toArray, List.set_cons_zero, List.set_cons_succ]
        refine wpAnyH_take (i := 2) (oi := ?_) (v := ?_) ?_ (by kernel_rfl) (by kernel_rfl) (by kernel_rfl) (fun _ _ _ h => h) (Or.inl ⟨?_, ?_⟩) (by assumption) ?_
        rotate_left 2
        · (simp only [List.getElem?_toArray, List.getElem?_cons_succ, List.getElem?_cons_zero]; first | done | rfl)
        · rfl
        · intro w hSw
          try dsimp only at hSw
          go_simp <;> with_reducible rfl
        try simp only [Act.put, List.setIfInBounds_toArray, List.set_cons_zero, List.set_cons_succ]
        refine wpAnyH_take (i := 3) (oi := ?_) (v := ?_) ?_ (by kernel_rfl) (by kernel_rfl) (by kernel_rfl) (fun _ _ _ h => h) (Or.inl ⟨?_, ?_⟩) (by assumption) ?_
        rotate_left 2
        · (simp only [List.getElem?_toArray, List.getElem?_cons_succ, List.getElem?_cons_zero]; first | done | rfl)
        · rfl
        · intro w hSw
          try dsimp only at hSw
          go_simp <;> with_reducible rfl
        try simp only [Act.put, List.setIfInBounds_toArray, List.set_cons_zero, List.set_cons_succ]
        refine wpAnyH_take (i := 4) (oi := ?_) (v := ?_) ?_ (by kernel_rfl) (by kernel_rfl) (by kernel_rfl) (fun _ _ _ h => h) (Or.inl ⟨?_, ?_⟩) (by assumption) ?_
        rotate_left 2
        · (simp only [List.getElem?_toArray, List.getElem?_cons_succ, List.getElem?_cons_zero]; first | done | rfl)
        · rfl
        · intro w hSw
          try dsimp only at hSw
          go_simp <;> with_reducible rfl
        try simp only [Act.put, List.setIfInBounds_toArray, List.set_cons_zero, List.set_cons_succ]
        refine wpAnyH_take (i := 8) (oi := ?_) (v := ?_) ?_ (by kernel_rfl) (by kernel_rfl) (by kernel_rfl) (fun _ _ _ h => h) (Or.inl ⟨?_, ?_⟩) (by assumption) ?_
        rotate_left 2
        · (simp only [List.getElem?_toArray, List.getElem?_cons_succ, List.getElem?_cons_zero]; first | done | rfl)
        · rfl
        · intro w hSw
          try dsimp only at hSw
          go_simp <;> with_reducible rfl
        try simp only [Act.put, List.setIfInBounds_toArray, List.set_cons_zero, List.set_cons_succ]
        refine wpAnyH_take (i := 9) (oi := ?_) (v := ?_) ?_ (by kernel_rfl) (by kernel_rfl) (by kernel_rfl) (fun _ _ _ h => h) (Or.inl ⟨?_, ?_⟩) (by assumption) ?_
        rotate_left 2
        · (simp only [List.getElem?_toArray, List.getElem?_cons_succ, List.getElem?_cons_zero]; first | done | rfl)
        · rfl
        · intro w hSw
          try dsimp only at hSw
          go_simp <;> with_reducible rfl
        try simp only [Act.put, List.setIfInBounds_toArray, List.set_cons_zero, List.set_cons_succ]
        refine wpAnyH_take (i := 10) (oi := ?_) (v := ?_) ?_ (by kernel_rfl) (by kernel_rfl) (by kernel_rfl) (fun _ _ _ h => h) (Or.inl ⟨?_, ?_⟩) (by assumption) ?_
        rotate_left 2
        · (simp only [List.getElem?_toArray, List.getElem?_cons_succ, List.getElem?_cons_zero]; first | done | rfl)
        · rfl
        · intro w hSw
          try dsimp only at hSw
          go_simp <;> with_reducible rfl
        try simp only [Act.put, List.setIfInBounds_toArray, List.set_cons_zero, List.set_cons_succ]
        refine wpAnyH_take (i := 11) (oi := ?_) (v := ?_) ?_ (by kernel_rfl) (by kernel_rfl) (by kernel_rfl) (fun _ _ _ h => h) (Or.inl ⟨?_, ?_⟩) (by assumption) ?_
        rotate_left 2
        · (simp only [List.getElem?_toArray, List.getElem?_cons_succ, List.getElem?_cons_zero]; first | done | rfl)
        · rfl
        · intro w hSw
          try dsimp only at hSw
          go_simp <;> with_reducible rfl
        try simp only [Act.put, List.setIfInBounds_toArray, List.set_cons_zero, List.set_cons_succ]
        refine wpAnyH_take (i := 12) (oi := ?_) (v := ?_) ?_ (by kernel_rfl) (by kernel_rfl) (by kernel_rfl) (fun _ _ _ h => h) (Or.inl ⟨?_, ?_⟩) (by assumption) ?_
        rotate_left 2
        · (simp only [List.getElem?_toArray, List.getElem?_cons_succ, List.getElem?_cons_zero]; first | done | rfl)
        · rfl
        · intro w hSw
          try dsimp only at hSw
          go_simp <;> with_reducible rfl
        try simp only [Act.put, List.setIfInBounds_toArray, List.set_cons_zero, List.set_cons_succ]
        refine wpAnyH_ready (rs := [5]) (by kernel_rfl) (by simp) ?_
        refine AllReadyH.cons rfl (fun K hK => ?_) AllReadyH.nil
        go_simp
        go_at_call 24
        refine (C3.out _).mono ?_
        rintro e w3 ⟨rfl, hx3⟩
        have x3 : Ext wr w3 := by (repeat (first | exact Ext.rfl' _ | assumption | refine Ext.dr ?_ | refine Ext.drN ?_ _ | refine Ext.al ?_ _ | refine Ext.st ?_ (by simp) _ | refine Ext.tr ?_ (by assumption)))
        refine hK.out _ _ (hks.out _ _ (Stp.ext x3)) (fun hHeld => ?_)
        clear hK K
        try simp only [Act.put, List.setIfInBounds_toArray, List.set_cons_zero, List.set_cons_succ]
        refine wpAnyH_ready (rs := [6]) (by kernel_rfl) (by simp) ?_
        refine AllReadyH.cons rfl (fun K hK => ?_) AllReadyH.nil
        go_simp
        go_at_call 30
        refine (C1.out _ o (HG.out.ext x3) (HE.out.ext (HW.out.tr x3)) (HP.out.ext (HW.out.tr x3))).mono ?_
        rintro e w4 ⟨v, o4, rfl, ⟨rfl, hg4⟩, hst4⟩
        have st4 : Stp (fun i => i ≠ 0) wr o w4 o4 := (Stp.ext x3).tr (hst4.mono (fun i hi => by unfold KQ at hi; omega))
        have hr4 := (HR.out.ext x3).stp hst4 (by unfold KQ; omega) (by unfold KQ; omega)
        refine hK.out _ _ (hks.out _ _ st4) (fun hHeld => ?_)
        clear hK K
        try simp only [Act.put, List.setIfInBounds_toArray, List.set_cons_zero, List.set_cons_succ]
        refine wpAnyH_ready (rs := [7]) (by kernel_rfl) (by simp) ?_
        refine AllReadyH.cons rfl (fun K hK => ?_) AllReadyH.nil
        go_simp
        go_at_call 25
        refine (num21_c _ _).mono ?_
        rintro e w5 ⟨rfl, rfl⟩
        refine hK.out _ _ hHeld (fun hHeld => ?_)
        clear hK K
        try simp only [Act.put, List.setIfInBounds_toArray, List.set_cons_zero, List.set_cons_succ]
        refine wpAnyH_ready (rs := [13]) (by kernel_rfl) (by simp) ?_
        refine AllReadyH.cons rfl (fun K hK => ?_) AllReadyH.nil
        go_simp
        go_at_call 31
        refine (C2.out _ o4 hr4).mono ?_
        rintro e w5 ⟨v, o5, rfl, ⟨rfl, hr5⟩, hst5⟩
        have st5 : Stp (fun i => i ≠ 0) wr o w5 o5 := st4.tr (hst5.mono (fun i hi => by unfold KQ at hi; omega))
        have hg5 := hg4.stp hst5 (by unfold KQ; omega) (by unfold KQ; omega)
        obtain ⟨A6, c6, hh6, hs6, _⟩ := hr5.at_
        obtain ⟨⟨g0, _, _, g3⟩, _⟩ := lg_facts hh6
        refine hK.out _ _ (hks.out _ _ st5) (fun hHeld2 => ?_)
        clear hK K
        try simp only [Act.put, List.setIfInBounds_toArray, List.set_cons_zero, List.set_cons_succ]
        refine wpAnyH_mono (S' := fun w' => (w'.cell? ⟨r, 0, none⟩ = some (.slice A6 ls2.length c6) ∧ w'.cell? ⟨r, 3, none⟩ = some (.int .i64 (d2 : Int))) ∧ w'.cell? ⟨b, f + t * 8, none⟩ = some (.int .i64 x.t) ∧ w'.cell? ⟨b, f + t * 8 + 1, none⟩ = some (.string (str x.c)) ∧ w'.cell? ⟨b, f + t * 8 + 2, none⟩ = some (.string (str x.m)) ∧ w'.cell? ⟨b, f + t * 8 + 3, none⟩ = some (.string (str x.h)) ∧ w'.cell? ⟨b, f + t * 8 + 4, none⟩ = some (.string (str x.g)) ∧ w'.cell? ⟨b, f + t * 8 + 5, none⟩ = some (.int .i64 x.s) ∧ w'.cell? ⟨b, f + t * 8 + 6, none⟩ = some (.int .i64 x.b) ∧ w'.cell? ⟨b, f + t * 8 + 7, none⟩ = some (.string (str x.a))) (fun w h => h.2) ?_
        have hHeld := And.intro (And.intro g0 g3) hHeld2
        refine wpAnyH_take (i := 14) (oi := ?_) (v := ?_) ?_ (by kernel_rfl) (by kernel_rfl) (by kernel_rfl) (fun _ _ _ h => h) (Or.inl ⟨?_, ?_⟩) (by assumption) ?_
        rotate_left 2
        · (simp only [List.getElem?_toArray, List.getElem?_cons_succ, List.getElem?_cons_zero]; first | done | rfl)
        · rfl
        · intro w hSw
          try dsimp only at hSw
          go_simp <;> with_reducible rfl
        try simp only [Act.put, List.setIfInBounds_toArray, List.set_cons_zero, List.set_cons_succ]
        refine wpAnyH_take (i := 15) (oi := ?_) (v := ?_) ?_ (by kernel_rfl) (by kernel_rfl) (by kernel_rfl) (fun _ _ _ h => h) (Or.inl ⟨?_, ?_⟩) (by assumption) ?_
        rotate_left 2
        · (simp only [List.getElem?_toArray, List.getElem?_cons_succ, List.getElem?_cons_zero]; first | done | rfl)
        · rfl
        · intro w hSw
          try dsimp only at hSw
          go_simp <;> with_reducible rfl
        try simp only [Act.put, List.setIfInBounds_toArray, List.set_cons_zero, List.set_cons_succ]
        refine wpAnyH_take (i := 16) (oi := ?_) (v := ?_) ?_ (by kernel_rfl) (by kernel_rfl) (by kernel_rfl) (fun _ _ _ h => h) (Or.inl ⟨?_, ?_⟩) (by assumption) ?_
        rotate_left 2
        · (simp only [List.getElem?_toArray, List.getElem?_cons_succ, List.getElem?_cons_zero]; first | done | rfl)
        · rfl
        · intro w hSw
          try dsimp only at hSw
          go_simp <;> with_reducible rfl
        try simp only [Act.put, List.setIfInBounds_toArray, List.set_cons_zero, List.set_cons_succ]
        refine wpAnyH_take (i := 18) (oi := ?_) (v := ?_) ?_ (by kernel_rfl) (by kernel_rfl) (by kernel_rfl) (fun _ _ _ h => h) (Or.inl ⟨?_, ?_⟩) (by assumption) ?_
        rotate_left 2
        · (simp only [List.getElem?_toArray, List.getElem?_cons_succ, List.getElem?_cons_zero]; first | done | rfl)
        · rfl
        · intro w hSw
          try dsimp only at hSw
          go_simp <;> with_reducible rfl
        try simp only [Act.put, List.setIfInBounds_toArray, List.set_cons_zero, List.set_cons_succ]
        refine wpAnyH_take (i := 19) (oi := ?_) (v := ?_) ?_ (by kernel_rfl) (by kernel_rfl) (by kernel_rfl) (fun _ _ _ h => h) (Or.inl ⟨?_, ?_⟩) (by assumption) ?_
        rotate_left 2
        · (simp only [List.getElem?_toArray, List.getElem?_cons_succ, List.getElem?_cons_zero]; first | done | rfl)
        · rfl
        · intro w hSw
          try dsimp only at hSw
          go_simp <;> with_reducible rfl
        try simp only [Act.put, List.setIfInBounds_toArray, List.set_cons_zero, List.set_cons_succ]
        refine wpAnyH_take (i := 20) (oi := ?_) (v := ?_) ?_ (by kernel_rfl) (by kernel_rfl) (by kernel_rfl) (fun _ _ _ h => h) (Or.inl ⟨?_, ?_⟩) (by assumption) ?_
        rotate_left 2
        · (simp only [List.getElem?_toArray, List.getElem?_cons_succ, List.getElem?_cons_zero]; first | done | rfl)
        · rfl
        · intro w hSw
          try dsimp only at hSw
          go_simp <;> with_reducible rfl
        try simp only [Act.put, List.setIfInBounds_toArray, List.set_cons_zero, List.set_cons_succ]
        refine wpAnyH_take (i := 21) (oi := ?_) (v := ?_) ?_ (by kernel_rfl) (by kernel_rfl) (by kernel_rfl) (fun _ _ _ h => h) (Or.inl ⟨?_, ?_⟩) (by assumption) ?_
        rotate_left 2
        · (simp only [List.getElem?_toArray, List.getElem?_cons_succ, List.getElem?_cons_zero]; first | done | rfl)
        · rfl
        · intro w hSw
          try dsimp only at hSw
          go_simp <;> with_reducible rfl
        try simp only [Act.put, List.setIfInBounds_toArray, List.set_cons_zero, List.set_cons_succ]
        refine wpAnyH_ready (rs := [17]) (by kernel_rfl) (by simp) ?_
        refine AllReadyH.cons rfl (fun K hK => ?_) AllReadyH.nil
        go_simp
        go_at_call 33
        refine (aLines_c 9 1 p lim d2 ls2 _ o5 hg5).mono ?_
        rintro e w7 ⟨v, o7, rfl, ⟨A7, c7, rfl, hs7, _⟩, hst7⟩
        have x7 := hst7.noExt
        refine hK.out _ _ ⟨⟨(x7.cell (lt_of_cell g0)).trans g0, (x7.cell (lt_of_cell g3)).trans g3⟩, hks.out _ _ (st5.tr (Stp.ext x7))⟩ (fun hHeld => ?_)
        clear hK K
        try simp only [Act.put, List.setIfInBounds_toArray, List.set_cons_zero, List.set_cons_succ]
        refine wpAnyH_ready (rs := [22]) (by kernel_rfl) (by simp) ?_
        refine AllReadyH.cons rfl (fun K hK => ?_) AllReadyH.nil
        go_simp
        go_at_call 32
        refine (SameStrings_c _ _ _ _ _ _ _ ls2 rfl rfl (by omega) hs7.rd (hs6.rd.ext x7)).mono ?_
        rintro e w8 ⟨rfl, x8⟩
        have x78 := x7.tr x8
        refine hK.out _ _ ⟨⟨(x78.cell (lt_of_cell g0)).trans g0, (x78.cell (lt_of_cell g3)).trans g3⟩, hks.out _ _ (st5.tr (Stp.ext x78))⟩ (fun hHeld => ?_)
        clear hK K
        try simp only [Act.put, List.setIfInBounds_toArray, List.set_cons_zero, List.set_cons_succ]
        refine wpAnyH_take (i := 23) (oi := ?_) (v := ?_) ?_ (by kernel_rfl) (by kernel_rfl) (by kernel_rfl) (fun _ _ _ h => h) (Or.inl ⟨?_, ?_⟩) (by assumption) ?_
        rotate_left 2
        · (simp only [List.getElem?_toArray, List.getElem?_cons_succ, List.getElem?_cons_zero]; first | done | rfl)
        · rfl
        · intro w hSw
          try dsimp only at hSw
          go_simp <;> with_reducible rfl
        try simp only [Act.put, List.setIfInBounds_toArray, List.set_cons_zero, List.set_cons_succ]
        refine wpAnyH_take (i := 24) (oi := ?_) (v := ?_) ?_ (by kernel_rfl) (by kernel_rfl) (by kernel_rfl) (fun _ _ _ h => h) (Or.inl ⟨?_, ?_⟩) (by assumption) ?_
        rotate_left 2
        · (simp only [List.getElem?_toArray, List.getElem?_cons_succ, List.getElem?_cons_zero]; first | done | rfl)
        · rfl
        · intro w hSw
          try dsimp only at hSw
          go_simp <;> with_reducible rfl
        try simp only [Act.put, List.setIfInBounds_toArray, List.set_cons_zero, List.set_cons_succ]
        refine wpAnyH_take (i := 25) (oi := ?_) (v := ?_) ?_ (by kernel_rfl) (by kernel_rfl) (by kernel_rfl) (fun _ _ _ h => h) (Or.inl ⟨?_, ?_⟩) (by assumption) ?_
        rotate_left 2
        · (simp only [List.getElem?_toArray, List.getElem?_cons_succ, List.getElem?_cons_zero]; first | done | rfl)
        · rfl
        · intro w hSw
          try dsimp only at hSw
          go_simp <;> with_reducible rfl
        try simp only [Act.put, List.setIfInBounds_toArray, List.set_cons_zero, List.set_cons_succ]
        refine wpAnyH_take (i := 26) (oi := ?_) (v := ?_) ?_ (by kernel_rfl) (by kernel_rfl) (by kernel_rfl) (fun _ _ _ h => h) (Or.inl ⟨?_, ?_⟩) (by assumption) ?_
        rotate_left 2
        · (simp only [List.getElem?_toArray, List.getElem?_cons_succ, List.getElem?_cons_zero]; first | done | rfl)
        · rfl
        · intro w hSw
          try dsimp only at hSw
          go_simp <;> with_reducible rfl
        try simp only [Act.put, List.setIfInBounds_toArray, List.set_cons_zero, List.set_cons_succ]
        refine wpAnyH_take (i := 28) (oi := ?_) (v := ?_) ?_ (by kernel_rfl) (by kernel_rfl) (by kernel_rfl) (fun _ _ _ h => h) (Or.inl ⟨?_, ?_⟩) (by assumption) ?_
        rotate_left 2
        · (simp only [List.getElem?_toArray, List.getElem?_cons_succ, List.getElem?_cons_zero]; first | done | rfl)
        · rfl
        · intro w hSw
          try dsimp only at hSw
          go_simp <;> with_reducible rfl
        try simp only [Act.put, List.setIfInBounds_toArray, List.set_cons_zero, List.set_cons_succ]
        refine wpAnyH_take (i := 29) (oi := ?_) (v := ?_) ?_ (by kernel_rfl) (by kernel_rfl) (by kernel_rfl) (fun _ _ _ h => h) (Or.inl ⟨?_, ?_⟩) (by assumption) ?_
        rotate_left 2
        · (simp only [List.getElem?_toArray, List.getElem?_cons_succ, List.getElem?_cons_zero]; first | done | rfl)
        · rfl
        · intro w hSw
          try dsimp only at hSw
          go_simp <;> with_reducible rfl
        try simp only [Act.put, List.setIfInBounds_toArray, List.set_cons_zero, List.set_cons_succ]
        refine wpAnyH_take (i := 30) (oi := ?_) (v := ?_) ?_ (by kernel_rfl) (by kernel_rfl) (by kernel_rfl) (fun _ _ _ h => h) (Or.inl ⟨?_, ?_⟩) (by assumption) ?_
        rotate_left 2
        · (simp only [List.getElem?_toArray, List.getElem?_cons_succ, List.getElem?_cons_zero]; first | done | rfl)
        · rfl
        · intro w hSw
          try dsimp only at hSw
          go_simp <;> with_reducible rfl
        try simp only [Act.put, List.setIfInBounds_toArray, List.set_cons_zero, List.set_cons_succ]
        refine wpAnyH_take (i := 31) (oi := ?_) (v := ?_) ?_ (by kernel_rfl) (by kernel_rfl) (by kernel_rfl) (fun _ _ _ h => h) (Or.inl ⟨?_, ?_⟩) (by assumption) ?_
        rotate_left 2
        · (simp only [List.getElem?_toArray, List.getElem?_cons_succ, List.getElem?_cons_zero]; first | done | rfl)
        · rfl
        · intro w hSw
          try dsimp only at hSw
          go_simp <;> with_reducible rfl
        try simp only [Act.put, List.setIfInBounds_toArray, List.set_cons_zero, List.set_cons_succ]
        refine wpAnyH_ready (rs := [27]) (by kernel_rfl) (by simp) ?_
        refine AllReadyH.cons rfl (fun K hK => ?_) AllReadyH.nil
        go_simp
        go_at_call 34
        refine (aDropped_c _ o5 1 p lim d2 ls2 (hg5.ext x78)).mono ?_
        rintro e w9 ⟨rfl, rfl⟩
        refine hK.out _ _ hHeld (fun hHeld => ?_)
        clear hK K
        try simp only [Act.put, List.setIfInBounds_toArray, List.set_cons_zero, List.set_cons_succ]
        refine wpAnyH_take (i := 32) (oi := ?_) (v := ?_) ?_ (by kernel_rfl) (by kernel_rfl) (by kernel_rfl) (fun _ _ _ h => h) (Or.inl ⟨?_, ?_⟩) (by assumption) ?_
        rotate_left 2
        · (simp only [List.getElem?_toArray, List.getElem?_cons_succ, List.getElem?_cons_zero]; first | done | rfl)
        · rfl
        · intro w hSw
          try dsimp only at hSw
          go_simp <;> with_reducible rfl
        try simp only [Act.put, List.setIfInBounds_toArray, List.set_cons_zero, List.set_cons_succ]
        refine wpAnyH_take (i := 33) (oi := ?_) (v := ?_) ?_ (by kernel_rfl) (by kernel_rfl) (by kernel_rfl) (fun _ _ _ h => h) (Or.inl ⟨?_, ?_⟩) (by assumption) ?_
        rotate_left 2
        · (simp only [List.getElem?_toArray, List.getElem?_cons_succ, List.getElem?_cons_zero]; first | done | rfl)
        · rfl
        · intro w hSw
          try dsimp only at hSw
          go_simp <;> with_reducible rfl
        try simp only [Act.put, List.setIfInBounds_toArray, List.set_cons_zero, List.set_cons_succ]
        refine wpAnyH_done (by kernel_rfl) ?_ _
        refine NoPanic.normal ?_
        all_goals (go_wp2_with fail; go_meet)
        all_goals exact ⟨rfl, o5, ls2, d2, (HS.out.tr st5).tr (Stp.ext x78), hg5.ext x78, hr5.ext x78, htot2, hcnt3⟩
      case rest =>
        obtain ⟨rfl, hat⟩ := hcut
        go_wp2
        go_roundw
        case rel => exact ⟨t + 1, by go_num, by omega, hat⟩
        case measure => simp [intOf]; omega
    · have hlt' : ¬ (t : Int) < (xs.length : Int) := by omega
      go_wp2
      go_ret
      exact ⟨rfl, hat.toExt⟩
end Go.Proofs.YtolfpfdmgelhhaaDoor
end
