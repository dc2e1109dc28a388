/-
An entry's parts: what each writes.
-/
import Derived.Test.YtolfpfdmgelhhaaDoorABa
import Derived.Test.YtolfpfdmgelhhaaDoorAcc4
import Derived.Test.YtolfpfdmgelhhaaDoorCln
set_option linter.unusedVariables false
set_option linter.unusedSimpArgs false
/-
An entry's parts: what each writes.
-/
section
namespace Go.Proofs.YtolfpfdmgelhhaaDoor
open Go.RowKit

theorem aPartsN_c (a : Addr) (w : World) :
    Calls Tryd.prog 105 #[.pointer (some a)] w fun e w' => e = .returned (.func (.func 106) #[] #[.pointer (some ⟨w.heap.size, 0, none⟩)]) ∧ w' = w.alloc (.cells #[.pointer (some a)] 120) := by
  go_enter Tryd.func105, Tryd.ntmps105
  go_wp2
  go_ret
  exact ⟨rfl, rfl⟩
theorem aPartsT_c (a : Addr) (w : World) :
    Calls Tryd.prog 108 #[.pointer (some a)] w fun e w' => e = .returned (.func (.func 109) #[] #[.pointer (some ⟨w.heap.size, 0, none⟩)]) ∧ w' = w.alloc (.cells #[.pointer (some a)] 126) := by
  go_enter Tryd.func108, Tryd.ntmps108
  go_wp2
  go_ret
  exact ⟨rfl, rfl⟩
set_option maxRecDepth 100000 in
set_option maxHeartbeats 2000000 in
/-- A number's part, asked with no text: it is written. -/
theorem aPartsNF_nil (Bn B a : Nat) (n : Int) (w : World) (hE : ErrR w) (hP : Pow w) (h0 : -9223372036854775808 ≤ n) (h1 : n ≤ 9223372036854775807) (hBn : w.cell? ⟨Bn, 0, none⟩ = some (.pointer (some ⟨B, a, none⟩))) (hB : w.cell? ⟨B, a, none⟩ = some (.int .i64 n)) :
    Calls Tryd.prog 106 #[.string ⟨#[]⟩, .pointer (some ⟨Bn, 0, none⟩)] w (Gives (.tuple #[.string (decB n), .bool false]) w) := by
  have C := fun w hE => Decimal_c [] (by simp) w hE
  rw [show numL 10 1000000000000000000 [] = (0, 21) from by decide +kernel, show str ([] : List UInt8) = ⟨#[]⟩ from rfl] at C
  have C := Lib.hid C
  have D := Lib.hid (fun w hP => Digits_c n w hP h0 h1)
  have HE := Lib.hid hE
  have HP := Lib.hid hP
  have HX := Lib.hid (fun (w' : World) (x : Ext w w') => (show w'.cell? ⟨Bn, 0, none⟩ = some (.pointer (some ⟨B, a, none⟩)) ∧ w'.cell? ⟨B, a, none⟩ = some (.int .i64 n) from ⟨(x.cell (lt_of_cell hBn)).trans hBn, (x.cell (lt_of_cell hB)).trans hB⟩))
  clear hE hP hBn hB
  go_enter Tryd.func106, Tryd.ntmps106
  go_wp2_with (first
    | (go_at_call 107; refine (C.out _ (HE.out.ext (by (repeat (first | exact Ext.rfl' _ | assumption | refine Ext.dr ?_ | refine Ext.drN ?_ _ | refine Ext.al ?_ _ | refine Ext.st ?_ (by simp) _ | refine Ext.tr ?_ (by assumption)))))).mono ?_; rintro e w1 ⟨rfl, hx1⟩; have k1 := (HX.out w1 (by (repeat (first | exact Ext.rfl' _ | assumption | refine Ext.dr ?_ | refine Ext.drN ?_ _ | refine Ext.al ?_ _ | refine Ext.st ?_ (by simp) _ | refine Ext.tr ?_ (by assumption))))).1; have k2 := (HX.out w1 (by (repeat (first | exact Ext.rfl' _ | assumption | refine Ext.dr ?_ | refine Ext.drN ?_ _ | refine Ext.al ?_ _ | refine Ext.st ?_ (by simp) _ | refine Ext.tr ?_ (by assumption))))).2)
    | (go_at_call 64; refine (D.out _ (HP.out.ext (by (repeat (first | exact Ext.rfl' _ | assumption | refine Ext.dr ?_ | refine Ext.drN ?_ _ | refine Ext.al ?_ _ | refine Ext.st ?_ (by simp) _ | refine Ext.tr ?_ (by assumption)))))).mono ?_; rintro e w2 ⟨rfl, hx2⟩))
  go_ret2
  exact ⟨rfl, by (repeat (first | exact Ext.rfl' _ | assumption | refine Ext.dr ?_ | refine Ext.drN ?_ _ | refine Ext.al ?_ _ | refine Ext.st ?_ (by simp) _ | refine Ext.tr ?_ (by assumption)))⟩
set_option maxRecDepth 100000 in
set_option maxHeartbeats 2000000 in
/-- A text's part, asked with no text: it is written. -/
theorem aPartsTF_nil (Bn B a : Nat) (t : List UInt8) (w : World) (ht : t.length ≤ 35184372088832) (hBn : w.cell? ⟨Bn, 0, none⟩ = some (.pointer (some ⟨B, a, none⟩))) (hB : w.cell? ⟨B, a, none⟩ = some (.string (str t))) :
    Calls Tryd.prog 109 #[.string ⟨#[]⟩, .pointer (some ⟨Bn, 0, none⟩)] w (Gives (.tuple #[.string (str (escL t)), .bool false]) w) := by
  have C := Lib.hid (fun w => aEscape_c t ht w)
  go_enter Tryd.func109, Tryd.ntmps109
  go_wp2_with (first
    | (go_at_call 111; refine (C.out _).mono ?_; rintro e w1 ⟨rfl, hx1⟩))
  go_ret2
  exact ⟨rfl, by (repeat (first | exact Ext.rfl' _ | assumption | refine Ext.dr ?_ | refine Ext.drN ?_ _ | refine Ext.al ?_ _ | refine Ext.st ?_ (by simp) _ | refine Ext.tr ?_ (by assumption)))⟩
/-- The eight parts of the entry in block B, their own blocks from g on. -/
def partsV (g : Nat) : Value := .agg #[.func (.func 106) #[] #[.pointer (some ⟨g, 0, none⟩)], .func (.func 109) #[] #[.pointer (some ⟨g + 1, 0, none⟩)], .func (.func 109) #[] #[.pointer (some ⟨g + 2, 0, none⟩)], .func (.func 109) #[] #[.pointer (some ⟨g + 3, 0, none⟩)], .func (.func 109) #[] #[.pointer (some ⟨g + 4, 0, none⟩)], .func (.func 106) #[] #[.pointer (some ⟨g + 5, 0, none⟩)], .func (.func 106) #[] #[.pointer (some ⟨g + 6, 0, none⟩)], .func (.func 109) #[] #[.pointer (some ⟨g + 7, 0, none⟩)]]
theorem hp_al {w : World} {o x : Obj} {b : Nat} (h : w.heap[b]? = some x) : (w.alloc o).heap[b]? = some x := by
  rw [Below.heap_alloc _ _ _ (Array.getElem?_eq_some_iff.1 h).1]; exact h
theorem hp_dr {w : World} {x : Obj} {b : Nat} (h : w.heap[b]? = some x) : w.drew.heap[b]? = some x := h
theorem hp_drN {w : World} {x : Obj} {b n : Nat} (h : w.heap[b]? = some x) : (w.drewN n).heap[b]? = some x := h
theorem hp_new {w : World} {g : Nat} (hg : w.heap.size = g) (o : Obj) : (w.alloc o).heap[g]? = some o := by subst hg; exact heap_alloc_new w o
theorem cell_hp {w : World} {b j : Nat} {cs : Array Value} {t : TypeId} {v : Value} (h : w.heap[b]? = some (.cells cs t (0, 0))) (hv : cs[j]? = some v) : w.cell? ⟨b, j, none⟩ = some v := by
  simp [World.cell?, h, hv]
theorem parts_end {W : World} {g b : Nat} {T : Array Value} {cs : Array Value} {t : TypeId} (hT : T.getD 2 undef = .pointer (some ⟨b, 0, none⟩)) (hc : .agg cs = partsV g)
    (hr : W.heap[b]? = some (.cells cs t (0, 0))) : (results Tryd.f69 T).run Tryd.prog W = .ok (partsV g) W := by
  have hT' : T[2]?.getD undef = .pointer (some ⟨b, 0, none⟩) := by simpa using hT
  have h := fun j v => cell_hp (j := j) (v := v) hr
  unfold partsV at hc ⊢
  injection hc with hc
  subst hc
  have r0 := h 0 _ rfl
  have r1 := h 1 _ rfl
  have r2 := h 2 _ rfl
  have r3 := h 3 _ rfl
  have r4 := h 4 _ rfl
  have r5 := h 5 _ rfl
  have r6 := h 6 _ rfl
  have r7 := h 7 _ rfl
  clear h
  simp [results, Tryd.results69, go_sem, hT, hT', r0, r1, r2, r3, r4, r5, r6, r7]
set_option maxRecDepth 100000 in
set_option maxHeartbeats 8000000 in
theorem aParts_c (B : Nat) (w : World) :
    Calls Tryd.prog 69 #[.pointer (some ⟨B, 0, none⟩)] w fun e w' => e = .returned (partsV (w.heap.size + 1)) ∧ (∀ k, k < 8 → w'.cell? ⟨w.heap.size + 1 + k, 0, none⟩ = some (.pointer (some ⟨B, k, none⟩))) ∧ Ext w w' := by
  go_enter Tryd.func69, Tryd.ntmps69
  go_wp2
  go_region_held3 (fun _ => True) (trivial) (first
    | (go_at_call 105; refine (aPartsN_c _ _).mono ?_; rintro e w1 ⟨rfl, rfl⟩)
    | (go_at_call 108; refine (aPartsT_c _ _).mono ?_; rintro e w1 ⟨rfl, rfl⟩))
  all_goals go_wp2
  all_goals (
    refine bodyPost_ret (parts_end (g := w.heap.size + 1) (b := w.heap.size) rfl rfl (by repeat (first | (refine hp_new ?_ _; simp; done) | refine hp_al ?_ | refine hp_dr ?_ | refine hp_drN ?_))) rfl ⟨rfl, ?_, by (repeat (first | exact Ext.rfl' _ | assumption | refine Ext.dr ?_ | refine Ext.drN ?_ _ | refine Ext.al ?_ _ | refine Ext.st ?_ (by simp) _ | refine Ext.tr ?_ (by assumption)))⟩
    intro k hk
    have hk8 : k = 0 ∨ k = 1 ∨ k = 2 ∨ k = 3 ∨ k = 4 ∨ k = 5 ∨ k = 6 ∨ k = 7 := by omega
    rcases hk8 with rfl | rfl | rfl | rfl | rfl | rfl | rfl | rfl
    all_goals exact cell_hp (by repeat (first | (refine hp_new ?_ _; simp; done) | refine hp_al ?_ | refine hp_dr ?_ | refine hp_drN ?_)) rfl)
end Go.Proofs.YtolfpfdmgelhhaaDoor
end

/-
A log's line: what it is; an entry whose numbers are out of range.
-/
section
namespace Go.Proofs.YtolfpfdmgelhhaaDoor
open Go.RowKit

/-- Texts with blanks between. -/
def joinW (ps : List (List UInt8)) : List UInt8 := (ps.flatMap fun s => 32 :: s).tail
theorem joinW_eq (ps : List (List UInt8)) : Lib.join ps [32] = joinW ps := by
  unfold joinW
  induction ps with
  | nil => rfl
  | cons s ps ih =>
    cases ps with
    | nil => simp [Lib.join]
    | cons t ps =>
      have e : Lib.join (s :: t :: ps) [32] = s ++ [32] ++ Lib.join (t :: ps) [32] := by simp [Lib.join]
      rw [e, ih]; simp
theorem totW_flat (ss : List (List UInt8)) : (ss.flatMap (fun s => 32 :: s)).length = totS ss := by
  induction ss with
  | nil => rfl
  | cons a ss ih => rw [List.flatMap_cons, List.length_append, ih, tot_cons]; simp
theorem joinW_len (ps : List (List UInt8)) : (joinW ps).length ≤ totS ps := by unfold joinW; rw [List.length_tail, totW_flat]; omega
theorem JoinW_c (ps : List (List UInt8)) (A : Option Addr) (n c : Nat) (hn : n = ps.length) (hnc : n ≤ c) (ht : totS ps ≤ 1099511627776) (w : World) (h : Rd w A (sc ps)) :
    Calls Tryd.prog 75 #[.slice A n c, .string ⟨#[32]⟩] w (Gives (.string (str (joinW ps))) w) := by
  subst hn
  by_cases h0 : ps = []
  · subst h0
    refine (Tryd.strings_Join_none A c _ w).mono ?_
    rintro e w' ⟨rfl, rfl⟩
    exact ⟨rfl, Ext.rfl' _⟩
  · obtain ⟨b, o, rfl, hb, hc⟩ := h.at_ (by rw [sc_len]; exact List.length_pos_iff.2 h0)
    have hm : (ps.map str).map (·.data.toList) = ps := by rw [List.map_map]; simp [Function.comp_def]
    have hc2 := tot_cnt ps
    have hj := joinW_len ps
    have K := Tryd.strings_Join b o c (ps.map str) ⟨#[32]⟩ w (fun j x hj => hc j _ (by rw [List.getElem?_map] at hj; unfold sc; rw [List.getElem?_map]; cases hp : ps[j]? with | none => rw [hp] at hj; cases hj | some y => rw [hp] at hj; simp at hj; simp [hj])) hb (by rw [List.length_map]; omega) (by rw [List.length_map]; exact hnc) (by rw [hm]; show (Lib.join ps [32]).length ≤ _; rw [joinW_eq]; omega)
    rw [hm, List.length_map] at K
    refine K.mono ?_
    rintro e w' ⟨rfl, hx⟩
    exact ⟨ret_val (by show Value.string (str (Lib.join ps [32])) = _; rw [joinW_eq]), hx⟩

/-- An entry. -/
structure Ent where
  t : Int
  c : List UInt8
  m : List UInt8
  h : List UInt8
  g : List UInt8
  s : Int
  b : Int
  a : List UInt8
def Ent.cells (x : Ent) : Array Value := #[.int .i64 x.t, .string (str x.c), .string (str x.m), .string (str x.h), .string (str x.g), .int .i64 x.s, .int .i64 x.b, .string (str x.a)]
def Ent.val (x : Ent) : Value := .agg x.cells
/-- An entry's numbers are int's. -/
def Ent.wf (x : Ent) : Prop := (-9223372036854775808 ≤ x.t ∧ x.t ≤ 9223372036854775807) ∧ (-9223372036854775808 ≤ x.s ∧ x.s ≤ 9223372036854775807) ∧ (-9223372036854775808 ≤ x.b ∧ x.b ≤ 9223372036854775807)
def inN (n : Int) : Prop := 0 ≤ n ∧ n ≤ 1000000000000000000
instance (n : Int) : Decidable (inN n) := by unfold inN; exact inferInstance
def Ent.nums (x : Ent) : Prop := inN x.t ∧ inN x.s ∧ inN x.b
instance (x : Ent) : Decidable x.nums := by unfold Ent.nums; exact inferInstance
def Ent.small (x : Ent) : Prop := x.c.length ≤ 8192 ∧ x.m.length ≤ 8192 ∧ x.h.length ≤ 8192 ∧ x.g.length ≤ 8192 ∧ x.a.length ≤ 8192
instance (x : Ent) : Decidable x.small := by unfold Ent.small; exact inferInstance
def digL (n : Int) : List UInt8 := (decB n).data.toList
theorem digL_str (n : Int) : str (digL n) = decB n := str_toList _
/-- The parts of its line. -/
def Ent.parts (x : Ent) : List (List UInt8) := [digL x.t, escL x.c, escL x.m, escL x.h, escL x.g, digL x.s, digL x.b, escL x.a]
/-- Its line. -/
def lineL (x : Ent) : List UInt8 × Int := if x.nums then (if x.small then (joinW x.parts, 0) else ([], 6)) else ([], 1)
theorem line_res {T : Array Value} {W : World} {p q : Addr} {u v : Value} (h2 : T.getD 2 undef = .pointer (some p)) (h3 : T.getD 3 undef = .pointer (some q)) (hp : W.cell? p = some u) (hq : W.cell? q = some v) :
    (results Tryd.f27 T).run Tryd.prog W = .ok (.tuple #[u, v]) W := by
  have h2' : T[2]?.getD undef = .pointer (some p) := by simpa using h2
  have h3' : T[3]?.getD undef = .pointer (some q) := by simpa using h3
  simp [results, Tryd.results27, go_sem, h2, h3, h2', h3', hp, hq]
theorem hp_ext {w w' : World} {b : Nat} {x : Obj} (e : Ext w w') (h : w.heap[b]? = some x) : w'.heap[b]? = some x := (e.block b (Array.getElem?_eq_some_iff.1 h).1).trans h
theorem frozen_hp {w : World} {b j : Nat} {cs : Array Value} {t : TypeId} (h : w.heap[b]? = some (.cells cs t (0, 0))) : w.frozen? ⟨b, j, none⟩ = false := by
  simp [World.frozen?, h]
/-- Which of the numbers ahead are in range. -/
def Ent.okN (x : Ent) (k : Nat) : Prop := (0 < k → inN x.t) ∧ (1 < k → inN x.s) ∧ (2 < k → inN x.b)
theorem size_pint : ∀ h, (Tryd.prog.types[120]'h).size = 1 := fun _ => by kernel_rfl
set_option maxRecDepth 100000 in
set_option maxHeartbeats 4000000 in
theorem aLine_bad (x : Ent) (hn : ¬ x.nums) (w : World) :
    Calls Tryd.prog 27 #[x.val] w (Gives (.tuple #[.string ⟨#[]⟩, .int .i64 1]) w) := by
  have HN := Lib.hid hn
  clear hn
  unfold Ent.val
  unfold Ent.cells
  go_enter Tryd.func27, Tryd.ntmps27
  go_wp2_with (go_at_call 73; refine (aNumbers_c _ _).mono ?_; rintro e W1 ⟨rfl, hx0⟩; have hx1 : Ext w W1 := (by (repeat (first | exact Ext.rfl' _ | assumption | refine Ext.dr ?_ | refine Ext.drN ?_ _ | refine Ext.al ?_ _ | refine Ext.st ?_ (by simp) _ | refine Ext.tr ?_ (by assumption)))); have HE := Lib.hid (show (W1).heap[w.heap.size]? = some (.cells x.cells 38 (0, 0)) from hp_ext hx0 (hp_al (hp_al (heap_alloc_new w _)))); have B0 : Boxed W1 (w.heap.size + 1) 9 (.string ⟨#[]⟩) := hp_ext hx0 (hp_al (hp_new (by simp) _)); have B1 : Boxed W1 (w.heap.size + 1 + 1) 25 (.int .i64 0) := hp_ext hx0 (hp_new (by simp) _); have k0 := B0.cell; have k0f := B0.frozen; have k1 := B1.cell; have k1f := B1.frozen; clear hx0)
  go_loopw [13] (fun sv wr => ∃ (k : Nat) (z : Int), sv = .int .i64 z ∧ z = (k : Int) ∧ k ≤ 3 ∧ W1 = wr ∧ x.okN k) (fun sv _ => 3 - (intOf sv).toNat)
  case atStart => exact ⟨0, 0, rfl, rfl, by omega, rfl, ⟨fun h => by omega, fun h => by omega, fun h => by omega⟩⟩
  case round =>
    obtain ⟨k, z, rfl, hz, hk, rfl, hok⟩ := hrel
    have hk4 : k = 0 ∨ k = 1 ∨ k = 2 ∨ k = 3 := by omega
    clear hk
    rcases hk4 with rfl | rfl | rfl | rfl
    · obtain rfl : z = 0 := hz
      have ix : ∀ w', (Instr.index 121 (.agg #[.pointer (some ⟨w.heap.size, 0, none⟩), .pointer (some ⟨w.heap.size, 5, none⟩), .pointer (some ⟨w.heap.size, 6, none⟩)]) (.int .i64 0)).run Tryd.prog w' = .ok (.pointer (some ⟨w.heap.size, 0, none⟩)) w' := fun w' => run_idx_arr (e := 120) (n := 3) (by kernel_rfl) (fun _ => rfl) (fun _ => rfl) (by decide) (by decide) rfl w'
      have hc : W1.cell? ⟨w.heap.size, 0, none⟩ = some (.int .i64 x.t) := cell_hp (cs := x.cells) HE.out rfl
      by_cases c1 : 0 ≤ x.t
      · have d1 : ¬ x.t < 0 := by omega
        by_cases c2 : x.t ≤ 1000000000000000000
        · have d2 : ¬ (1000000000000000000 : Int) < x.t := by omega
          go_wp2
          go_roundw
          case rel => exact ⟨0 + 1, 0 + 1, rfl, by omega, by omega, by trivial, ⟨fun _ => ⟨c1, c2⟩, fun h => by omega, fun h => by omega⟩⟩
          case measure => simp [intOf]
        · have d2 : (1000000000000000000 : Int) < x.t := by omega
          go_wp2
          exact bodyPost_ret (line_res rfl rfl (((B0.set (.string ⟨#[]⟩)).other (by omega) (.int .i64 1)).cell) (((B1.other (by omega) (.string ⟨#[]⟩)).set (.int .i64 1)).cell)) rfl ⟨rfl, (hx1.st (by show w.heap.size ≤ w.heap.size + 1; omega) _).st (by show w.heap.size ≤ w.heap.size + 1 + 1; omega) _⟩
      · have d1 : x.t < 0 := by omega
        go_wp2
        exact bodyPost_ret (line_res rfl rfl (((B0.set (.string ⟨#[]⟩)).other (by omega) (.int .i64 1)).cell) (((B1.other (by omega) (.string ⟨#[]⟩)).set (.int .i64 1)).cell)) rfl ⟨rfl, (hx1.st (by show w.heap.size ≤ w.heap.size + 1; omega) _).st (by show w.heap.size ≤ w.heap.size + 1 + 1; omega) _⟩
    · obtain rfl : z = 1 := hz
      have ix : ∀ w', (Instr.index 121 (.agg #[.pointer (some ⟨w.heap.size, 0, none⟩), .pointer (some ⟨w.heap.size, 5, none⟩), .pointer (some ⟨w.heap.size, 6, none⟩)]) (.int .i64 1)).run Tryd.prog w' = .ok (.pointer (some ⟨w.heap.size, 5, none⟩)) w' := fun w' => run_idx_arr (e := 120) (n := 3) (by kernel_rfl) (fun _ => rfl) (fun _ => rfl) (by decide) (by decide) rfl w'
      have hc : W1.cell? ⟨w.heap.size, 5, none⟩ = some (.int .i64 x.s) := cell_hp (cs := x.cells) HE.out rfl
      by_cases c1 : 0 ≤ x.s
      · have d1 : ¬ x.s < 0 := by omega
        by_cases c2 : x.s ≤ 1000000000000000000
        · have d2 : ¬ (1000000000000000000 : Int) < x.s := by omega
          go_wp2
          go_roundw
          case rel => exact ⟨1 + 1, 1 + 1, rfl, by omega, by omega, by trivial, ⟨fun _ => hok.1 (by omega), fun _ => ⟨c1, c2⟩, fun h => by omega⟩⟩
          case measure => simp [intOf]
        · have d2 : (1000000000000000000 : Int) < x.s := by omega
          go_wp2
          exact bodyPost_ret (line_res rfl rfl (((B0.set (.string ⟨#[]⟩)).other (by omega) (.int .i64 1)).cell) (((B1.other (by omega) (.string ⟨#[]⟩)).set (.int .i64 1)).cell)) rfl ⟨rfl, (hx1.st (by show w.heap.size ≤ w.heap.size + 1; omega) _).st (by show w.heap.size ≤ w.heap.size + 1 + 1; omega) _⟩
      · have d1 : x.s < 0 := by omega
        go_wp2
        exact bodyPost_ret (line_res rfl rfl (((B0.set (.string ⟨#[]⟩)).other (by omega) (.int .i64 1)).cell) (((B1.other (by omega) (.string ⟨#[]⟩)).set (.int .i64 1)).cell)) rfl ⟨rfl, (hx1.st (by show w.heap.size ≤ w.heap.size + 1; omega) _).st (by show w.heap.size ≤ w.heap.size + 1 + 1; omega) _⟩
    · obtain rfl : z = 2 := hz
      have ix : ∀ w', (Instr.index 121 (.agg #[.pointer (some ⟨w.heap.size, 0, none⟩), .pointer (some ⟨w.heap.size, 5, none⟩), .pointer (some ⟨w.heap.size, 6, none⟩)]) (.int .i64 2)).run Tryd.prog w' = .ok (.pointer (some ⟨w.heap.size, 6, none⟩)) w' := fun w' => run_idx_arr (e := 120) (n := 3) (by kernel_rfl) (fun _ => rfl) (fun _ => rfl) (by decide) (by decide) rfl w'
      have hc : W1.cell? ⟨w.heap.size, 6, none⟩ = some (.int .i64 x.b) := cell_hp (cs := x.cells) HE.out rfl
      by_cases c1 : 0 ≤ x.b
      · have d1 : ¬ x.b < 0 := by omega
        by_cases c2 : x.b ≤ 1000000000000000000
        · have d2 : ¬ (1000000000000000000 : Int) < x.b := by omega
          go_wp2
          go_roundw
          case rel => exact ⟨2 + 1, 2 + 1, rfl, by omega, by omega, by trivial, ⟨fun _ => hok.1 (by omega), fun _ => hok.2.1 (by omega), fun _ => ⟨c1, c2⟩⟩⟩
          case measure => simp [intOf]
        · have d2 : (1000000000000000000 : Int) < x.b := by omega
          go_wp2
          exact bodyPost_ret (line_res rfl rfl (((B0.set (.string ⟨#[]⟩)).other (by omega) (.int .i64 1)).cell) (((B1.other (by omega) (.string ⟨#[]⟩)).set (.int .i64 1)).cell)) rfl ⟨rfl, (hx1.st (by show w.heap.size ≤ w.heap.size + 1; omega) _).st (by show w.heap.size ≤ w.heap.size + 1 + 1; omega) _⟩
      · have d1 : x.b < 0 := by omega
        go_wp2
        exact bodyPost_ret (line_res rfl rfl (((B0.set (.string ⟨#[]⟩)).other (by omega) (.int .i64 1)).cell) (((B1.other (by omega) (.string ⟨#[]⟩)).set (.int .i64 1)).cell)) rfl ⟨rfl, (hx1.st (by show w.heap.size ≤ w.heap.size + 1; omega) _).st (by show w.heap.size ≤ w.heap.size + 1 + 1; omega) _⟩
    · exact absurd ⟨hok.1 (by omega), hok.2.1 (by omega), hok.2.2 (by omega)⟩ HN.out
end Go.Proofs.YtolfpfdmgelhhaaDoor
end
