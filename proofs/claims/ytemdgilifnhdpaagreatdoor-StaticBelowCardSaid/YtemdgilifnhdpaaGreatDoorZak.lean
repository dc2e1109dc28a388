/-
Ranging over such a map, in whatever order.
-/
import Derived.Test.YtemdgilifnhdpaaGreatDoorZaj
import Derived.Test.YtemdgilifnhdpaaGreatDoorZai
import Derived.BigRegion
import Derived.Carry
import Derived.Test.YtemdgilifnhdpaaGreatDoorZae
import Derived.Test.YtemdgilifnhdpaaGreatDoorZaa
import Derived.Test.YtemdgilifnhdpaaGreatDoorZad
import Derived.Lib.LastIndexByte
set_option linter.unusedVariables false
set_option linter.unusedSimpArgs false
section
namespace Go.Proofs.YtemdgilifnhdpaaGreatDoor
open Go.RowKit
open Go.Maps (Keyed IsMap Tidy)
open Go.WideMaps (keyOf_string_mk)

def World.rgM (w : World) (P : Program) (k : TypeId) (b r : Nat) (M : List (List UInt8 × Value)) (left : List UInt8 → Bool) (cnt : Nat) : Prop :=
  ∃ (D : DataW Value) (lf : Lit → Bool), w.ranges P k heldR b r M.length D lf cnt ∧ (∀ l, lf (.string l) = left l) ∧ OneM M ∧ Maps.size D = M.length ∧ (∀ l, Maps.has D (.string l) = (lkM M l).isSome) ∧ ∀ l z, D.atKey (.string l) z = match lkM M l with | some v => .held v | none => z

variable {P : Program} {k : TypeId} {w : World} {b r : Nat} {M : List (List UInt8 × Value)} {left : List UInt8 → Bool} {cnt : Nat}
theorem World.rgM.isM (h : World.rgM w P k b r M left cnt) : World.isM w P k b M := by
  obtain ⟨D, lf, h1, _, h2⟩ := h; exact ⟨D, h1.owns, h2⟩
theorem World.rgM.kept {w' : World} {row : Option Nat} (h : World.rgM w P k b r M left cnt) (hg : w.grownBy w' row) (hb : some b ≠ row) (hr : some r ≠ row) : World.rgM w' P k b r M left cnt := by
  obtain ⟨D, lf, h1, h2⟩ := h; exact ⟨D, lf, h1.kept hg hb hr, h2⟩
theorem World.rgM.left_eq (h : World.rgM w P k b r M left cnt) : w.rangeLeft b r = cnt := by obtain ⟨D, lf, h1, _⟩ := h; exact h1.left_eq
theorem keyStr {key : Value} {kl : Lit} (hs : P.underlying k = some .string) (h : keyOf P k key = some kl) : ∃ l : List UInt8, key = .string ⟨l.toArray⟩ ∧ kl = .string l ∧ l.length ≤ maxLen := by
  cases key <;> simp [keyOf, hs, mapKey] at h
  rename_i s
  obtain ⟨h1, rfl⟩ := h
  exact ⟨s.data.toList, by cases s; rfl, rfl, by have : s.data.size ≤ maxLen := h1; simpa using this⟩

section
variable {ops : Array Oper} {rest : List Oper} {o : Oper} {a : Act} {Q : Exit → Act → World → Prop}
theorem wpL_mrange (hg : o.guard = none) (m : Operand) (t : TypeId) (hop : o.op = Op.range t m) (e : TypeId) (K : Keyed P k) (ht : P.underlying t = some (.map k e)) (hm : a.eval m = .map (some b)) (h : World.isM w P k b M)
    (hK : ∀ w', World.rgM w' P k b w.heap.size M (fun l => (lkM M l).isSome) M.length → w.grownBy w' none → w'.heap.size = w.heap.size + 1 → wpList P ops Q rest (a.put o.dst (.pointer (some ⟨w.heap.size, 0, none⟩))) w') :
    wpList P ops Q (o :: rest) a w := by
  obtain ⟨D, h1, h2, h3, h4, h5⟩ := h
  refine wpList_range_own w hg m t hop k e K ht heldR b M.length D hm h1 fun w' r1 r2 r3 => hK w' ⟨D, _, h3 ▸ r1, fun l => h4 l, h2, h3, h4, h5⟩ r2 r3
theorem wpL_mnext (hg : o.guard = none) (it : Operand) (hop : o.op = Op.next it false) (K : Keyed P k) (hs : P.underlying k = some .string) (hit : a.eval it = .pointer (some ⟨r, 0, none⟩)) (h : World.rgM w P k b r M left cnt)
    (hDone : cnt = 0 → (∀ l, left l = false) → wpList P ops Q rest (a.put o.dst (.tuple #[.bool false])) w)
    (hMore : ∀ (l : List UInt8) (v : Value) (w' : World) (cnt' : Nat), left l = true → lkM M l = some v → l.length ≤ maxLen → World.rgM w' P k b r M (fun z => left z && !(decide (z = l))) cnt' → cnt' < cnt →
      w.grownBy w' (some r) → w'.heap.size = w.heap.size → (Instr.entry (.pointer (some ⟨r, 0, none⟩))).run P w' = .ok (.tuple #[.string ⟨l.toArray⟩, v]) w' → wpList P ops Q rest (a.put o.dst (.tuple #[.bool true, .string ⟨l.toArray⟩, v])) w') :
    wpList P ops Q (o :: rest) a w := by
  obtain ⟨D, lf, h1, hlf, h2, h3, h4, h5⟩ := h
  refine wpList_next_ranges w hg it hop k K heldR (fun l : List UInt8 => .string ⟨l.toArray⟩) (fun v : Value => v) (fun key kl hk => by obtain ⟨l, e, _⟩ := keyStr hs hk; exact ⟨l, e⟩) (fun v y _ => ⟨v, rfl⟩) b r M.length D lf cnt hit h1 (fun h0 hl => hDone h0 fun l => by rw [← hlf]; exact hl _) ?_
  intro x c kl y w' cnt' hk hlk hv hat hrg hlt hgr hsz hen
  obtain ⟨l, e1, rfl, hl⟩ := keyStr hs hk
  have exl : x = l := by injection e1 with e1; injection e1 with e1; simpa using e1
  subst exl
  have hlv : lkM M x = some c := by
    have := hat .nil
    rw [h5] at this
    cases hm : lkM M x with
    | none =>
      rw [hm] at this
      have hh := hat (.lit (.bool true))
      rw [h5, hm] at hh
      rw [← this] at hh; cases hh
    | some u =>
      rw [hm] at this
      have hy : y = (.held c, []) := (Option.some.inj hv).symm
      rw [hy] at this
      injection this with this
      rw [this]
  exact hMore x c w' cnt' (by rw [← hlf]; exact hlk) hlv hl ⟨D, _, hrg, fun z => by
    show (lf (.string z) && !(Lit.string z).sameKey (.string x)) = _
    rw [hlf]
    congr 2
    by_cases e : z = x
    · subst e; simp [Lit.sameKey]
    · rw [Maps.sameKey_ne (by intro c; injection c with c; exact e c)]; simp [e], h2, h3, h4, h5⟩ hlt hgr hsz hen
end
end Go.Proofs.YtemdgilifnhdpaaGreatDoor
end

section
namespace Go.Proofs.YtemdgilifnhdpaaGreatDoor
open Go.RowKit
open Go.Maps (Keyed)

def entV (l : List UInt8) (A : Option Addr × Nat) (f : Fil) : Value := .agg #[.string (str l), .slice A.1 f.b.length A.2, .int .i64 f.mt, .int .i64 (f.ve : Int)]
def Wrl.cells (s : Wrl) (mb : Nat) : Array Value := #[.map (some mb), .int .i64 s.now, .int .i64 (s.ver : Int)]
def Wrow (w : World) (p : Nat) (s : Wrl) (mb : Nat) : Prop := w.heap[p]? = some (.cells (s.cells mb) 46 (0, 0))
def enc (pl : List UInt8 → Option Addr × Nat) (L : List (List UInt8 × Fil)) : List (List UInt8 × Value) := L.map fun x => (x.1, entV x.1 (pl x.1) x.2)
def KW (k : Nat) : Nat → Prop := fun i => i = k ∨ i = k + 1
structure WdAt (w : World) (o : Ow) (k p : Nat) (s : Wrl) : Prop where
  own : o p = k
  row : ∃ mb pl, Wrow w p s mb ∧ o mb = k + 1 ∧ mb < w.heap.size ∧ World.isM w Tryz.prog 9 mb (enc pl s.L) ∧ ∀ x ∈ s.L, Sl w o (k + 2) 1 (pl x.1).1 x.2.b.length (pl x.1).2 (bc x.2.b) ∧ ((pl x.1).1 = none → (pl x.1).2 = 0)
theorem keyedS : Keyed Tryz.prog 9 := Go.Maps.string_keyed Tryz.underlying9
theorem mapU : Tryz.prog.underlying 44 = some (.map 9 110) := Tryz.underlying44
section
variable {w w' : World} {o o' : Ow} {k p mb : Nat} {s : Wrl}
theorem Wrow.c0 (h : Wrow w p s mb) : w.cell? ⟨p, 0, none⟩ = some (.map (some mb)) := (row_facts h 0 _ rfl).1
theorem Wrow.c1 (h : Wrow w p s mb) : w.cell? ⟨p, 1, none⟩ = some (.int .i64 s.now) := (row_facts h 1 _ rfl).1
theorem Wrow.c2 (h : Wrow w p s mb) : w.cell? ⟨p, 2, none⟩ = some (.int .i64 (s.ver : Int)) := (row_facts h 2 _ rfl).1
theorem Wrow.fz (h : Wrow w p s mb) (i : Nat) (hi : i < 3) : w.frozen? ⟨p, i, none⟩ = false := by
  obtain ⟨u, hu⟩ : ∃ u, (s.cells mb)[i]? = some u := ⟨(s.cells mb)[i]'(by simp [Wrl.cells]; omega), by simp⟩
  exact (row_facts h i u hu).2
theorem Wrow.stp {K : Nat → Prop} (h : Wrow w p s mb) (e : Stp K w o w' o') (hk : ¬ K (o p)) : Wrow w' p s mb := (e.keep p (row_lt h) hk).trans h
theorem Wrow.ext (h : Wrow w p s mb) (e : Ext w w') : Wrow w' p s mb := (e.block p (row_lt h)).trans h
theorem WdAt.stp {K : Nat → Prop} (h : WdAt w o k p s) (st : Stp K w o w' o') (h0 : ¬ K k) (h1 : ¬ K (k + 1)) (h2 : ¬ K (k + 2)) : WdAt w' o' k p s := by
  obtain ⟨mb, pl, hh, hm, hl, hi, hs⟩ := h.row
  exact ⟨by rw [st.own p (row_lt hh)]; exact h.own, mb, pl, hh.stp st (by rw [h.own]; exact h0), by rw [st.own mb hl]; exact hm, Nat.lt_of_lt_of_le hl st.size, hi.same (st.keep mb hl (by rw [hm]; exact h1)), fun x hx => ⟨(hs x hx).1.stp st h2, (hs x hx).2⟩⟩
theorem WdAt.ext (h : WdAt w o k p s) (e : Ext w w') : WdAt w' o k p s := h.stp (K := fun _ => False) (Stp.ext e) (fun x => x) (fun x => x) (fun x => x)
theorem WdAt.ext2 (h : WdAt w o k p s) (e : Ext w w') (ho : ∀ b, b < w.heap.size → o' b = o b) : WdAt w' o' k p s := h.stp (K := fun _ => False) (Stp.ext2 e ho) (fun x => x) (fun x => x) (fun x => x)
theorem WdAt.lt (h : WdAt w o k p s) : p < w.heap.size := by obtain ⟨mb, pl, hh, _⟩ := h.row; exact row_lt hh
end
set_option maxRecDepth 100000 in
set_option maxHeartbeats 2000000 in
theorem none_no (p mb : Nat) (w : World) (h : w.cell? ⟨p, 0, none⟩ = some (.map (some mb))) : Calls Tryz.prog 49 #[.pointer (some ⟨p, 0, none⟩)] w (Gives (.bool false) w) := by
  have q53 : ∀ (w : World) (r : Option Nat), (binOp .eql 44 (.map r) (.map none)).run Tryz.prog w = .ok (.bool r.isNone) w := fun w r => run_eql_map_nil w _ _ _ r Tryz.underlying44
  go_enter Tryz.func49, Tryz.ntmps49
  go_wp2
  go_ret
  exact ⟨rfl, by (repeat (first | exact Ext.rfl' _ | assumption | refine Ext.dr ?_ | refine Ext.drN ?_ _ | refine Ext.al ?_ _ | refine Ext.st ?_ (by simp) _ | refine Ext.tr ?_ (by assumption)))⟩
set_option maxRecDepth 100000 in
set_option maxHeartbeats 2000000 in
theorem sClone_c (k : Nat) (l : List UInt8) (B : Option Addr) (n d : Nat) (hn : n = l.length) (hna : B = none → d = 0) (w : World) (o : Ow) (h : Rd w B (bc l)) (hb : n ≤ 140737488351232) :
    Calls Tryz.prog 52 #[.slice B n d] w (Turns (fun _ => False) w o fun v w' o' => ∃ A c, v = .slice A n c ∧ Sl w' o' k 1 A n c (bc l) ∧ (A = none → c = 0)) := by
  subst hn
  have HR := Lib.hid h
  clear h
  have hms : maxLen = 9223372036854775807 := rfl
  have l0 : (0 : Int) ≤ (l.length : Int) := by omega
  have q22 : ∀ (w : World) (a : Option Addr) (n c n' c' : Nat), (binOp .eql 22 (.slice a n c) (.slice none n' c')).run Tryz.prog w = .ok (.bool a.isNone) w := fun w a n c n' c' => Lib.run_eql_slice_nil w _ _ a n c n' c' Tryz.underlying22
  cases B with
  | none =>
    obtain rfl := hna rfl
    have hl : l = [] := by
      rcases HR.out with h | ⟨b, f, e, _⟩
      · simpa [bc] using h
      · cases e
    subst hl
    go_enter Tryz.func52, Tryz.ntmps52
    go_wp2
    go_ret
    exact Turns.mk o rfl ⟨none, 0, rfl, by simpa [bc] using Sl.nil_ _ o k 1 none, fun _ => rfl⟩ (Stp.ext (by (repeat (first | exact Ext.rfl' _ | assumption | refine Ext.dr ?_ | refine Ext.drN ?_ _ | refine Ext.al ?_ _ | refine Ext.st ?_ (by simp) _ | refine Ext.tr ?_ (by assumption)))))
  | some B =>
    clear hna
    go_enter Tryz.func52, Tryz.ntmps52
    go_wp2_with (first
      | (at_builtin; refine wpL_fresh slt_u8 (.tmp 5) (.tmp 6) rfl rfl (o := o) k rfl rfl (Sl.src Tryz.underlying22 (HR.out.ext (by (repeat (first | exact Ext.rfl' _ | assumption | refine Ext.dr ?_ | refine Ext.drN ?_ _ | refine Ext.al ?_ _ | refine Ext.st ?_ (by simp) _ | refine Ext.tr ?_ (by assumption))))) (by simp) (by omega) (bc_one _) d) (by omega) (by omega) ?_; intro A1 c1 w1 o1 hs1 hst1 hn1; have st1 : Stp (fun _ => False) w o w1 o1 := (Stp.ext (by (repeat (first | exact Ext.rfl' _ | assumption | refine Ext.dr ?_ | refine Ext.drN ?_ _ | refine Ext.al ?_ _ | refine Ext.st ?_ (by simp) _ | refine Ext.tr ?_ (by assumption))))).tr hst1))
    go_ret
    exact Turns.mk o1 rfl ⟨A1, c1, rfl, hs1, hn1⟩ st1
end Go.Proofs.YtemdgilifnhdpaaGreatDoor
end

section
namespace Go.Proofs.YtemdgilifnhdpaaGreatDoor
open Go.RowKit

theorem WdAt.fresh (W : World) (o : Ow) (k : Nat) (now : Int) :
    WdAt ((W.alloc (.map #[] 0)).alloc (.cells #[.map (some W.heap.size), .int .i64 now, .int .i64 0] 46)) (fun b => if b = W.heap.size then k + 1 else if b = W.heap.size + 1 then k else o b) k (W.heap.size + 1) ⟨[], now, 0⟩ := by
  have e1 : (W.alloc (.map #[] 0)).heap.size = W.heap.size + 1 := by simp
  have r := heap_alloc_new (W.alloc (.map #[] 0)) (.cells #[.map (some W.heap.size), .int .i64 now, .int .i64 0] 46)
  rw [e1] at r
  refine ⟨by simp, W.heap.size, fun _ => (none, 0), r, by simp, (by simp; omega), ?_, fun x hx => by cases hx⟩
  exact (World.isM_made W Tryz.prog 9).same (Below.heap_alloc _ _ _ (by simp))
theorem WdAt.fresh_stp (W : World) (o : Ow) (k : Nat) (now : Int) :
    Stp (fun _ => False) W o ((W.alloc (.map #[] 0)).alloc (.cells #[.map (some W.heap.size), .int .i64 now, .int .i64 0] 46)) (fun b => if b = W.heap.size then k + 1 else if b = W.heap.size + 1 then k else o b) :=
  Stp.ext2 (by (repeat (first | exact Ext.rfl' _ | assumption | refine Ext.dr ?_ | refine Ext.drN ?_ _ | refine Ext.al ?_ _ | refine Ext.st ?_ (by simp) _ | refine Ext.tr ?_ (by assumption)))) (fun b hb => by rw [if_neg (by omega), if_neg (by omega)])
set_option maxRecDepth 100000 in
set_option maxHeartbeats 2000000 in
theorem wNew_yes (k : Nat) (now : Int) (h0 : 0 ≤ now) (h1 : now ≤ 253402300799) (w : World) (o : Ow) :
    Calls Tryz.prog 41 #[.int .i64 now] w (Turns (fun _ => False) w o fun v w' o' => ∃ p, v = .tuple #[.pointer (some ⟨p, 0, none⟩), .int .i64 0] ∧ WdAt w' o' k p ⟨[], now, 0⟩ ∧ w.heap.size ≤ p) := by
  have a1 : ¬ now < 0 := by omega
  have a2 : ¬ 253402300799 < now := by omega
  have hmm := @run_makeMap Tryz.prog
  go_enter Tryz.func41, Tryz.ntmps41
  go_wp2
  go_ret2
  exact Turns.mk _ rfl ⟨_, rfl, WdAt.fresh w o k now, Nat.le_succ _⟩ (WdAt.fresh_stp w o k now)
set_option maxRecDepth 100000 in
set_option maxHeartbeats 2000000 in
theorem wNow_c (w : World) (o : Ow) (k p : Nat) (s : Wrl) (h : WdAt w o k p s) : Calls Tryz.prog 31 #[.pointer (some ⟨p, 0, none⟩)] w (Gives (.int .i64 s.now) w) := by
  obtain ⟨mb, pl, hh, _⟩ := h.row
  have c0 := hh.c0
  have HC := Lib.hid (fun w' (e : Ext w w') => (hh.ext e).c1)
  go_enter Tryz.func31, Tryz.ntmps31
  go_wp2_with (go_at_call 49; refine (none_no p mb _ c0).mono ?_; rintro e w1 ⟨rfl, hx1⟩; have c1 := HC.out w1 hx1)
  go_ret
  exact ⟨rfl, by (repeat (first | exact Ext.rfl' _ | assumption | refine Ext.dr ?_ | refine Ext.drN ?_ _ | refine Ext.al ?_ _ | refine Ext.st ?_ (by simp) _ | refine Ext.tr ?_ (by assumption)))⟩
set_option maxRecDepth 100000 in
set_option maxHeartbeats 4000000 in
theorem wTick_neg (w : World) (p mb : Nat) (n : Int) (hn : n < 0) (hc : w.cell? ⟨p, 0, none⟩ = some (.map (some mb))) : Calls Tryz.prog 46 #[.pointer (some ⟨p, 0, none⟩), .int .i64 n] w (Gives (.int .i64 1) w) := by
  go_enter Tryz.func46, Tryz.ntmps46
  go_wp2_with (go_at_call 49; refine (none_no p mb _ hc).mono ?_; rintro e w1 ⟨rfl, hx1⟩)
  go_ret
  exact ⟨rfl, by (repeat (first | exact Ext.rfl' _ | assumption | refine Ext.dr ?_ | refine Ext.drN ?_ _ | refine Ext.al ?_ _ | refine Ext.st ?_ (by simp) _ | refine Ext.tr ?_ (by assumption)))⟩
end Go.Proofs.YtemdgilifnhdpaaGreatDoor
end

section
namespace Go.Proofs.YtemdgilifnhdpaaGreatDoor
open Go.RowKit

section
variable {w : World} {o : Ow} {k p : Nat} {s : Wrl}
theorem setW_stp (i : Nat) (u : Value) (h : o p = k) : Stp (KW k) w o (w.setCell ⟨p, i, none⟩ u) o := Stp.set p i u (fun _ => .inl h)
theorem WdAt.tick (h : WdAt w o k p s) (n : Int) : WdAt (w.setCell ⟨p, 1, none⟩ (.int .i64 n)) o k p ⟨s.L, n, s.ver⟩ := by
  obtain ⟨mb, pl, hh, hm, hl, hi, hs⟩ := h.row
  have st : Stp (fun i => i = k) w o (w.setCell ⟨p, 1, none⟩ (.int .i64 n)) o := Stp.set p 1 _ (fun _ => h.own)
  exact ⟨h.own, mb, pl, row_set hh 1 _, hm, Nat.lt_of_lt_of_le hl st.size, hi.same (st.keep mb hl (by rw [hm]; omega)), fun x hx => ⟨(hs x hx).1.stp st (by omega), (hs x hx).2⟩⟩
theorem lk_enc (pl : List UInt8 → Option Addr × Nat) (L : List (List UInt8 × Fil)) (l : List UInt8) : lkM (enc pl L) l = (lkM L l).map (entV l (pl l)) := lk_map (fun k v => entV k (pl k) v) L l
theorem del_enc (pl : List UInt8 → Option Addr × Nat) (L : List (List UInt8 × Fil)) (l : List UInt8) : delM (enc pl L) l = enc pl (delM L l) := del_map (fun k v => entV k (pl k) v) L l
theorem enc_len (pl : List UInt8 → Option Addr × Nat) (L : List (List UInt8 × Fil)) : (enc pl L).length = L.length := by simp [enc]
theorem mt_stp {w' : World} {mb : Nat} (h : w.mapTurned w' mb) (ho : mb < w.heap.size → o mb = k + 1) : Stp (fun i => i = k + 1) w o w' o := by
  obtain ⟨es, clock, es', clock', hb, rfl⟩ := h
  refine ⟨rfl, rfl, rfl, by simp [ChangeMaps.setBlock], fun _ _ => rfl, fun b hl hn => Go.ChangeMaps.heap_setBlock_other hb _ (fun e => ?_)⟩
  subst e
  exact hn (ho hl)
theorem WdAt.less {w' : World} {mb : Nat} {pl : List UInt8 → Option Addr × Nat} {L : List (List UInt8 × Fil)} (ho : o p = k) (hh : Wrow w p s mb) (hm : o mb = k + 1) (hl : mb < w.heap.size) (hs : ∀ x ∈ s.L, Sl w o (k + 2) 1 (pl x.1).1 x.2.b.length (pl x.1).2 (bc x.2.b) ∧ ((pl x.1).1 = none → (pl x.1).2 = 0))
    (st : Stp (fun i => i = k + 1) w o w' o) (hi : World.isM w' Tryz.prog 9 mb (enc pl L)) (hL : ∀ x ∈ L, x ∈ s.L) : WdAt w' o k p ⟨L, s.now, s.ver⟩ :=
  ⟨ho, mb, pl, hh.stp st (by rw [ho]; omega), hm, Nat.lt_of_lt_of_le hl st.size, hi, fun x hx => ⟨(hs x (hL x hx)).1.stp st (by omega), (hs x (hL x hx)).2⟩⟩
end
set_option maxRecDepth 100000 in
set_option maxHeartbeats 4000000 in
theorem wTick_c (w : World) (o : Ow) (k p : Nat) (s : Wrl) (h : WdAt w o k p s) (hk : Wok s) (n : Int) (hn : n < 9223372036854775808) :
    Calls Tryz.prog 46 #[.pointer (some ⟨p, 0, none⟩), .int .i64 n] w (Turns (KW k) w o fun v w' o' => v = .int .i64 (tickW s n).2 ∧ WdAt w' o' k p (tickW s n).1) := by
  obtain ⟨mb, pl, hh, _⟩ := h.row
  have c0 := hh.c0
  by_cases h0 : n < 0
  · refine (wTick_neg w p mb n h0 c0).mono ?_
    rintro e w1 ⟨rfl, hx⟩
    have : tickW s n = (s, 1) := by unfold tickW; rw [if_pos h0]
    rw [this]
    exact Turns.mk o rfl ⟨rfl, h.ext hx⟩ (Stp.ext hx)
  · have ht : tickW s n = (⟨s.L, s.now + min n (wlast - s.now), s.ver⟩, 0) := by unfold tickW; rw [if_neg h0]
    rw [ht]
    unfold wlast
    have b0 := hk.now0
    have b1 : s.now ≤ 253402300799 := hk.now1
    have HT := Lib.hid (fun w' (e : Ext w w') => h.ext e)
    have HH := Lib.hid (fun w' (e : Ext w w') => hh.ext e)
    have h1 : IntKind.i64.wrap (253402300799 - s.now) = 253402300799 - s.now := by rw [IntKind.wrap_i64]; omega
    by_cases hc : 253402300799 - s.now < n
    · rw [show min n (253402300799 - s.now) = 253402300799 - s.now from by omega]
      have h2 : IntKind.i64.wrap (s.now + (253402300799 - s.now)) = s.now + (253402300799 - s.now) := by rw [IntKind.wrap_i64]; omega
      go_enter Tryz.func46, Tryz.ntmps46
      go_wp2_with (go_at_call 49; refine (none_no p mb _ c0).mono ?_; rintro e w1 ⟨rfl, hx1⟩; have u1 := (HH.out w1 hx1).c1; have u2 := (HH.out w1 hx1).fz 1 (by omega); have HX1 := Lib.hid hx1)
      go_region
      go_wp2
      go_ret
      try rw [show min n (253402300799 - s.now) = 253402300799 - s.now from by omega]
      exact Turns.mk o rfl ⟨rfl, ((h.ext HX1.out).tick _).ext (by (repeat (first | exact Ext.rfl' _ | assumption | refine Ext.dr ?_ | refine Ext.drN ?_ _ | refine Ext.al ?_ _ | refine Ext.st ?_ (by simp) _ | refine Ext.tr ?_ (by assumption))))⟩ ((Stp.ext HX1.out).tr ((setW_stp 1 _ h.own).tr (Stp.ext (by (repeat (first | exact Ext.rfl' _ | assumption | refine Ext.dr ?_ | refine Ext.drN ?_ _ | refine Ext.al ?_ _ | refine Ext.st ?_ (by simp) _ | refine Ext.tr ?_ (by assumption)))))))
    · rw [show min n (253402300799 - s.now) = n from by omega]
      have h2 : IntKind.i64.wrap (s.now + (n)) = s.now + (n) := by rw [IntKind.wrap_i64]; omega
      go_enter Tryz.func46, Tryz.ntmps46
      go_wp2_with (go_at_call 49; refine (none_no p mb _ c0).mono ?_; rintro e w1 ⟨rfl, hx1⟩; have u1 := (HH.out w1 hx1).c1; have u2 := (HH.out w1 hx1).fz 1 (by omega); have HX1 := Lib.hid hx1)
      go_region
      go_wp2
      go_ret
      try rw [show min n (253402300799 - s.now) = n from by omega]
      exact Turns.mk o rfl ⟨rfl, ((h.ext HX1.out).tick _).ext (by (repeat (first | exact Ext.rfl' _ | assumption | refine Ext.dr ?_ | refine Ext.drN ?_ _ | refine Ext.al ?_ _ | refine Ext.st ?_ (by simp) _ | refine Ext.tr ?_ (by assumption))))⟩ ((Stp.ext HX1.out).tr ((setW_stp 1 _ h.own).tr (Stp.ext (by (repeat (first | exact Ext.rfl' _ | assumption | refine Ext.dr ?_ | refine Ext.drN ?_ _ | refine Ext.al ?_ _ | refine Ext.st ?_ (by simp) _ | refine Ext.tr ?_ (by assumption)))))))
set_option maxRecDepth 100000 in
set_option maxHeartbeats 4000000 in
theorem wRemove_c (w : World) (o : Ow) (k p : Nat) (s : Wrl) (h : WdAt w o k p s) (l : List UInt8) (hl : l.length ≤ 140737488355328) :
    Calls Tryz.prog 44 #[.pointer (some ⟨p, 0, none⟩), .string (str l)] w (Turns (KW k) w o fun v w' o' => v = .int .i64 (removeW s l).2 ∧ WdAt w' o' k p (removeW s l).1) := by
  obtain ⟨mb, pl, hh, hm, hlt, hi, hs⟩ := h.row
  have c0 := hh.c0
  have hlm : l.length ≤ maxLen := by simp only [maxLen]; omega
  have HH := Lib.hid (fun w' (e : Ext w w') => hh.ext e)
  have HI := Lib.hid (fun w' (e : Ext w w') => World.isM.same hi (e.block mb hlt))
  cases hf : lkM s.L l with
  | none =>
    have hlk : lkM (enc pl s.L) l = none := by rw [lk_enc, hf]; rfl
    have ht : removeW s l = (s, 3) := by unfold removeW; rw [hf]; rfl
    rw [ht]
    have HK := Lib.hid hlk
    clear hlk hf ht
    go_enter Tryz.func44, Tryz.ntmps44
    go_wp2_with (first
      | (go_at_call 49; refine (none_no p mb _ c0).mono ?_; rintro e w1 ⟨rfl, hx1⟩; have u0 := (HH.out w1 hx1).c0; have hi1 := HI.out w1 hx1)
      | (at_lookup; refine wpL_look rfl _ _ 44 rfl 110 keyedS mapU Tryz.underlying9 (Tryz.zeroValue110 _) rfl hi1 l hlm rfl ?_; rw [HK.out]; simp only [Option.getD_none, Option.isSome_none]))
    go_ret
    exact Turns.mk o rfl ⟨rfl, h.ext (by (repeat (first | exact Ext.rfl' _ | assumption | refine Ext.dr ?_ | refine Ext.drN ?_ _ | refine Ext.al ?_ _ | refine Ext.st ?_ (by simp) _ | refine Ext.tr ?_ (by assumption))))⟩ (Stp.ext (by (repeat (first | exact Ext.rfl' _ | assumption | refine Ext.dr ?_ | refine Ext.drN ?_ _ | refine Ext.al ?_ _ | refine Ext.st ?_ (by simp) _ | refine Ext.tr ?_ (by assumption)))))
  | some f =>
    have hlk : lkM (enc pl s.L) l = some (.agg #[.string (str l), .slice (pl l).1 f.b.length (pl l).2, .int .i64 f.mt, .int .i64 (f.ve : Int)]) := by rw [lk_enc, hf]; rfl
    have ht : removeW s l = (⟨delM s.L l, s.now, s.ver⟩, 0) := by unfold removeW; rw [hf]; rfl
    rw [ht]
    have HK := Lib.hid hlk
    clear hlk hf ht
    obtain ⟨W, hW⟩ : ∃ W, W = w := ⟨_, rfl⟩
    obtain ⟨n0, hn0⟩ : ∃ n0, n0 = f.b.length := ⟨_, rfl⟩
    rw [← hn0] at HK
    go_enter Tryz.func44, Tryz.ntmps44
    go_wp2_with (first
      | (go_at_call 49; refine (none_no p mb _ c0).mono ?_; rintro e w1 ⟨rfl, hx1⟩; have u0 := Lib.hid (fun w' (e : Ext w1 w') => ((HH.out w1 hx1).ext e).c0); have u0' := u0.out w1 (Ext.rfl' _); have hi1 := Lib.hid (fun w' (e : Ext w1 w') => World.isM.same (HI.out w1 hx1) (e.block mb (Nat.lt_of_lt_of_le hlt hx1.size))); have hi1' := hi1.out w1 (Ext.rfl' _))
      | (at_lookup; refine wpL_look rfl _ _ 44 rfl 110 keyedS mapU Tryz.underlying9 (Tryz.zeroValue110 _) rfl hi1' l hlm rfl ?_; rw [HK.out]; simp only [Option.getD_some, Option.isSome_some]; have c00 := fun x => u0.out (w1.alloc x) (by (repeat (first | exact Ext.rfl' _ | assumption | refine Ext.dr ?_ | refine Ext.drN ?_ _ | refine Ext.al ?_ _ | refine Ext.st ?_ (by simp) _ | refine Ext.tr ?_ (by assumption)))))
      | (at_delete; refine wpL_mdel rfl _ _ 44 rfl 110 keyedS mapU Tryz.underlying9 rfl (hi1.out _ (by (repeat (first | exact Ext.rfl' _ | assumption | refine Ext.dr ?_ | refine Ext.drN ?_ _ | refine Ext.al ?_ _ | refine Ext.st ?_ (by simp) _ | refine Ext.tr ?_ (by assumption))))) l hlm rfl ?_; intro w2 hi2 ht2))
    go_ret
    rw [del_enc] at hi2
    have st : Stp (fun i => i = k + 1) w o w2 o := (Stp.ext (by (repeat (first | exact Ext.rfl' _ | assumption | refine Ext.dr ?_ | refine Ext.drN ?_ _ | refine Ext.al ?_ _ | refine Ext.st ?_ (by simp) _ | refine Ext.tr ?_ (by assumption))))).tr (mt_stp ht2 (fun _ => hm))
    exact Turns.mk o rfl ⟨rfl, WdAt.less h.own hh hm hlt hs st hi2 (fun x hx => mem_del hx)⟩ (st.mono fun i hi => .inr hi)
end Go.Proofs.YtemdgilifnhdpaaGreatDoor
end

section
namespace Go.Proofs.YtemdgilifnhdpaaGreatDoor
open Go.RowKit

theorem suf47 (l : List UInt8) : Lib.hasSuffix l [47] = (l.getLast? == some 47) := by
  unfold Lib.hasSuffix
  rw [Bool.eq_iff_iff, List.isSuffixOf_iff_suffix, beq_iff_eq]
  constructor
  · rintro ⟨a, rfl⟩; simp
  · intro h
    have h0 : l ≠ [] := by intro e; subst e; simp at h
    refine ⟨l.dropLast, ?_⟩
    rw [List.getLast?_eq_some_getLast h0] at h
    injection h with h
    rw [← h]; exact List.dropLast_concat_getLast h0
set_option maxRecDepth 100000 in
set_option maxHeartbeats 4000000 in
theorem wPut_bad (p mb : Nat) (l : List UInt8) (hl : l.length ≤ 140737488355328) (B : Option Addr) (n d : Nat) (hp : pathF l = false) (w : World) (hc : w.cell? ⟨p, 0, none⟩ = some (.map (some mb))) :
    Calls Tryz.prog 24 #[.pointer (some ⟨p, 0, none⟩), .string (str l), .slice B n d] w (Gives (.int .i64 1) w) := by
  have HC := Lib.hid (fun w' (e : Ext w w') => (e.cell (p := ⟨p, 0, none⟩) (lt_of_cell hc)).trans hc)
  have hl2 : (str l).size ≤ 9223372036854775807 := by rw [str_size]; omega
  have C := fun w => Clean_c l hl w
  obtain ⟨x, ec, hxe⟩ : ∃ x ec, cleanL l = (x, ec) := ⟨_, _, rfl⟩
  rw [hxe] at C
  dsimp only at C
  obtain ⟨sc, hsc⟩ : ∃ sc, sc = str x := ⟨_, rfl⟩
  obtain ⟨sl, hsl⟩ : ∃ sl, sl = str l := ⟨_, rfl⟩
  have S := fun w => Tryz.strings_HasSuffix (str l) ⟨#[47]⟩ w hl2
  rw [← hsc] at C
  rw [← hsl] at C S ⊢
  by_cases h1 : ec = 0
  · subst h1
    by_cases h2 : x = l
    · subst h2
      have hsuf : Lib.hasSuffix sl.data.toList [47] = true := by
        unfold pathF at hp
        rw [hxe] at hp
        rw [hsl, str_data, suf47]
        simpa using hp
      rw [hsuf] at S
      obtain rfl : sl = sc := hsl.trans hsc.symm
      have C := Lib.hid C
      have S := Lib.hid S
      clear hxe hsuf hsc hsl hp
      go_enter Tryz.func24, Tryz.ntmps24
      go_wp2_with (first
        | (go_at_call 55; refine (C.out _).mono ?_; rintro e w1 ⟨rfl, hx1⟩; have c1 := HC.out w1 hx1)
        | (go_at_call 49; refine (none_no p mb _ c1).mono ?_; rintro e w2 ⟨rfl, hx2⟩)
        | (go_at_call 56; refine (S.out _).mono ?_; rintro e w3 ⟨rfl, rfl⟩))
      go_ret
      exact ⟨rfl, by (repeat (first | exact Ext.rfl' _ | assumption | refine Ext.dr ?_ | refine Ext.drN ?_ _ | refine Ext.al ?_ _ | refine Ext.st ?_ (by simp) _ | refine Ext.tr ?_ (by assumption)))⟩
    · have hne : ¬ sc.toList = sl.toList := by
        rw [hsc, hsl, str_tl, str_tl]; exact h2
      have hne2 : (sc.toList == sl.toList) = false := by rw [beq_eq_false_iff_ne]; exact hne
      have C := Lib.hid C
      clear hxe S hsc hsl hp h2
      go_enter Tryz.func24, Tryz.ntmps24
      go_wp2_with (first
        | (go_at_call 55; refine (C.out _).mono ?_; rintro e w1 ⟨rfl, hx1⟩; have c1 := HC.out w1 hx1)
        | (go_at_call 49; refine (none_no p mb _ c1).mono ?_; rintro e w2 ⟨rfl, hx2⟩)
        | (go_at_call 56; refine (S.out _).mono ?_; rintro e w3 ⟨rfl, rfl⟩))
      trace_state
      go_ret
      exact ⟨rfl, by (repeat (first | exact Ext.rfl' _ | assumption | refine Ext.dr ?_ | refine Ext.drN ?_ _ | refine Ext.al ?_ _ | refine Ext.st ?_ (by simp) _ | refine Ext.tr ?_ (by assumption)))⟩
  · have he : (ec != 0) = true := by rw [bne_iff_ne]; exact h1
    have he2 : (ec == 0) = false := by rw [beq_eq_false_iff_ne]; exact h1
    have C := Lib.hid C
    clear hxe S hsc hsl hp
    go_enter Tryz.func24, Tryz.ntmps24
    go_wp2_with (first
      | (go_at_call 55; refine (C.out _).mono ?_; rintro e w1 ⟨rfl, hx1⟩; have c1 := HC.out w1 hx1)
      | (go_at_call 49; refine (none_no p mb _ c1).mono ?_; rintro e w2 ⟨rfl, hx2⟩)
      | (go_at_call 56; refine (S.out _).mono ?_; rintro e w3 ⟨rfl, rfl⟩))
    go_ret
    exact ⟨rfl, by (repeat (first | exact Ext.rfl' _ | assumption | refine Ext.dr ?_ | refine Ext.drN ?_ _ | refine Ext.al ?_ _ | refine Ext.st ?_ (by simp) _ | refine Ext.tr ?_ (by assumption)))⟩
end Go.Proofs.YtemdgilifnhdpaaGreatDoor
end

section
namespace Go.Proofs.YtemdgilifnhdpaaGreatDoor
open Go.RowKit

def aftL (c : UInt8) : List UInt8 → Option (List UInt8)
  | [] => none
  | x :: t => match aftL c t with
    | some r => some r
    | none => if x = c then some t else none
theorem aft_none {c : UInt8} : ∀ {l : List UInt8}, (∀ x ∈ l, x ≠ c) → aftL c l = none
  | [], _ => rfl
  | x :: t, h => by
    unfold aftL
    rw [aft_none (l := t) (fun y hy => h y (List.mem_cons_of_mem _ hy)), if_neg (h x List.mem_cons_self)]
theorem aft_at {c : UInt8} : ∀ (a : List UInt8) {b : List UInt8}, (∀ x ∈ b, x ≠ c) → aftL c (a ++ c :: b) = some b
  | [], b, h => by
    show (match aftL c b with | some r => some r | none => if c = c then some b else none) = some b
    rw [aft_none h, if_pos rfl]
  | x :: a, b, h => by
    show (match aftL c (a ++ c :: b) with | some r => some r | none => if x = c then some (a ++ c :: b) else none) = some b
    rw [aft_at a h]
def fnameL (l : List UInt8) : List UInt8 := (aftL 47 l).getD l
def extL (l : List UInt8) : Option (List UInt8) := aftL 46 (fnameL l)
def octT : List UInt8 := [97, 112, 112, 108, 105, 99, 97, 116, 105, 111, 110, 47, 111, 99, 116, 101, 116, 45, 115, 116, 114, 101, 97, 109]
def typT : List (List UInt8 × List UInt8) := [([104, 116, 109, 108], [116, 101, 120, 116, 47, 104, 116, 109, 108]), ([104, 116, 109], [116, 101, 120, 116, 47, 104, 116, 109, 108]), ([99, 115, 115], [116, 101, 120, 116, 47, 99, 115, 115]), ([106, 115], [116, 101, 120, 116, 47, 106, 97, 118, 97, 115, 99, 114, 105, 112, 116]), ([106, 115, 111, 110], [97, 112, 112, 108, 105, 99, 97, 116, 105, 111, 110, 47, 106, 115, 111, 110]), ([116, 120, 116], [116, 101, 120, 116, 47, 112, 108, 97, 105, 110]), ([115, 118, 103], [105, 109, 97, 103, 101, 47, 115, 118, 103, 43, 120, 109, 108]), ([112, 110, 103], [105, 109, 97, 103, 101, 47, 112, 110, 103]), ([106, 112, 103], [105, 109, 97, 103, 101, 47, 106, 112, 101, 103]), ([106, 112, 101, 103], [105, 109, 97, 103, 101, 47, 106, 112, 101, 103]), ([103, 122], [97, 112, 112, 108, 105, 99, 97, 116, 105, 111, 110, 47, 103, 122, 105, 112])]
def typL (e : List UInt8) : List UInt8 := ((typT.find? fun p => decide (p.1 = e)).map Prod.snd).getD octT
def mimeL (l : List UInt8) : List UInt8 := match extL l with
  | none => octT
  | some e => typL (lowL e)
theorem last_at (l : List UInt8) (c : UInt8) : (aftL c l = none ∧ Lib.lastIndexByte (str l) (c.toNat : Int) = -1) ∨ ∃ r, aftL c l = some r ∧ r.length < l.length ∧ Lib.lastIndexByte (str l) (c.toNat : Int) = ((l.length - r.length - 1 : Nat) : Int) ∧ l.drop (l.length - r.length) = r := by
  have hz : (str l).size = l.length := str_size l
  have hb : ∀ j, j < l.length → (str l).data[j]! = l[j]! := fun j hj => by
    rw [getElem!_pos (str l).data j (by simpa [str] using hj), getElem!_pos l j hj]
    simp [str]
  have hs := Lib.lastIdx_spec (str l) (c.toNat : Int) (str l).size
  rw [hz] at hs
  have hne : ∀ j, j < l.length → (((str l).data[j]!).toNat : Int) ≠ (c.toNat : Int) → l[j]! ≠ c := fun j hj h1 h2 => by
    rw [hb j hj, h2] at h1; exact h1 rfl
  unfold Lib.lastIndexByte
  rw [hz]
  rcases hs with ⟨h1, h2⟩ | ⟨i, hi, h1, h2, h3⟩
  · left
    refine ⟨aft_none (fun x hx => ?_), h1⟩
    obtain ⟨j, hj, he⟩ := List.getElem_of_mem hx
    have := hne j hj (h2 j hj)
    rw [getElem!_pos l j hj, he] at this
    exact this
  · right
    have hic : l[i] = c := by
      rw [hb i hi, getElem!_pos l i hi] at h2
      exact UInt8.toNat_inj.1 (by omega)
    have hs : l = l.take i ++ c :: l.drop (i + 1) := by rw [← hic, ← List.drop_eq_getElem_cons hi, List.take_append_drop]
    have ha : aftL c l = some (l.drop (i + 1)) := by
      conv => lhs; rw [hs]
      refine aft_at _ (fun x hx => ?_)
      obtain ⟨j, hj, he⟩ := List.getElem_of_mem hx
      rw [List.length_drop] at hj
      rw [List.getElem_drop] at he
      have := hne (i + 1 + j) (by omega) (h3 (i + 1 + j) (by omega) (by omega))
      rw [getElem!_pos l (i + 1 + j) (by omega), he] at this
      exact this
    refine ⟨_, ha, by rw [List.length_drop]; omega, by rw [h1, List.length_drop]; congr 1; omega, by rw [List.length_drop]; congr 1; omega⟩
end Go.Proofs.YtemdgilifnhdpaaGreatDoor
end
