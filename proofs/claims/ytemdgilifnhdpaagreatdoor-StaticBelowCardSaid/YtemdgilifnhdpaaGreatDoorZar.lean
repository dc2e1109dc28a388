/-
The tables as they are laid when a law begins, and what a call does that the evaluator has run.
-/
import Derived.Test.YtemdgilifnhdpaaGreatDoorEvS
import Derived.Lib.LaidTab
import Derived.Lib.ItoaNum
import Derived.Test.YtemdgilifnhdpaaGreatDoorZap
import Derived.Test.YtemdgilifnhdpaaGreatDoorZai
import Derived.Lib.ConvBytes
import Derived.Test.YtemdgilifnhdpaaGreatDoorZak
set_option linter.unusedVariables false
set_option linter.unusedSimpArgs false
section
namespace Go.Proofs.YtemdgilifnhdpaaGreatDoor.Ev
open Go.ChangeShapes

def bruTabE : List Int := [0, 1, 56, 2, 57, 49, 28, 3, 61, 58, 42, 50, 38, 29, 17, 4, 62, 47, 59, 36, 45, 43, 51, 22, 53, 39, 33, 30, 24, 18, 12, 5, 63, 55, 48, 27, 60, 41, 37, 16, 46, 35, 44, 21, 52, 32, 23, 11, 54, 26, 40, 15, 34, 20, 31, 10, 25, 14, 19, 9, 13, 8, 7, 6]
def PowE (w : World) : Prop := Lib.TabIs Tryz.prog w "internal/strconv.uint64pow10" .u64 Lib.pow10Tab
def BruE (w : World) : Prop := Lib.TabIs Tryz.prog w "math/bits.deBruijn64tab" .u8 bruTabE
theorem gPowE : Tryz.prog.globalNamed "internal/strconv.uint64pow10" = some 1 := by kernel_rfl
theorem gBruE : Tryz.prog.globalNamed "math/bits.deBruijn64tab" = some 3 := by kernel_rfl
theorem powE_of {W : World} {rest : List (String × DataW Unit)} (h : laidMet Tryz.prog (("internal/strconv.uint64pow10", Lib.tabData .u64 Lib.pow10Tab) :: rest) W) : PowE W :=
  Lib.tabIs_of_head gPowE (show (Tryz.prog.globals[1]?).map (·.type) = some 245 by kernel_rfl) Tryz.underlying245 Tryz.underlying118 (show Tryz.prog.cellsOf 118 = 1 by kernel_rfl) (show Tryz.prog.cellsOf 245 = 20 by kernel_rfl) h
theorem bruE_of {W : World} {rest : List (String × DataW Unit)} (h : laidMet Tryz.prog (("math/bits.deBruijn64tab", Lib.tabData .u8 bruTabE) :: rest) W) : BruE W :=
  Lib.tabIs_of_head gBruE (show (Tryz.prog.globals[3]?).map (·.type) = some 282 by kernel_rfl) Tryz.underlying282 Tryz.underlying5 (show Tryz.prog.cellsOf 5 = 1 by kernel_rfl) (show Tryz.prog.cellsOf 282 = 64 by kernel_rfl) h

def MxE (w : World) : Prop := w.heap[1]? = some (.cells (Lib.pow10Tab.map fun z => Value.int .u64 z).toArray 245) ∧ w.heap[3]? = some (.cells (bruTabE.map fun z => Value.int .u8 z).toArray 282)

theorem shape_g {W : World} (h : W.ShapedOpen Tryz.prog) {g t : Nat} (hg : g < Tryz.prog.globals.size) (hr : (((begin Tryz.prog (fun _ _ => 0) default).world.heap[g]?).bind Obj.row?).map (·.2) = some t) : ∃ cs, W.heap[g]? = some (.cells cs t) := by
  obtain ⟨⟨zero, t'⟩, h1, h2⟩ := Option.map_eq_some_iff.1 hr
  simp only at h2
  subst h2
  obtain ⟨cs, h3, -⟩ := h.1 g zero t' hg h1
  exact ⟨cs, h3⟩

theorem tab_cells {W : World} {name : String} {k : IntKind} {zs : List Int} {g t : Nat} {cs : Array Value} (h : Lib.TabIs Tryz.prog W name k zs) (hg : Tryz.prog.globalNamed name = some g) (hc : W.heap[g]? = some (.cells cs t)) : W.heap[g]? = some (.cells (zs.map fun z => Value.int k z).toArray t) := by
  unfold Lib.TabIs World.var? at h
  rw [hg] at h
  simp only [Option.bind_some, hc, Option.some.injEq] at h
  rw [hc, h]

set_option maxRecDepth 100000 in
theorem mxE_of {W : World} (h : W.ShapedOpen Tryz.prog) (h1 : PowE W) (h2 : BruE W) : MxE W := by
  obtain ⟨cs, c1⟩ := shape_g h (g := 1) (t := 245) (of_decide_eq_true (by kernel_rfl)) (by kernel_rfl)
  obtain ⟨ds, c2⟩ := shape_g h (g := 3) (t := 282) (of_decide_eq_true (by kernel_rfl)) (by kernel_rfl)
  exact ⟨tab_cells h1 gPowE c1, tab_cells h2 gBruE c2⟩

theorem MxE.ext {w w' : World} (h : MxE w) (hx : ∀ r, r < w.heap.size → w'.heap[r]? = w.heap[r]?) : MxE w' := by
  obtain ⟨h1, h2⟩ := h
  exact ⟨by rw [hx _ (Array.getElem?_eq_some_iff.1 h1).1]; exact h1, by rw [hx _ (Array.getElem?_eq_some_iff.1 h2).1]; exact h2⟩

def powA : List AV := [1, 10, 100, 1000, 10000, 100000, 1000000, 10000000, 100000000, 1000000000, 10000000000, 100000000000, 1000000000000, 10000000000000, 100000000000000, 1000000000000000, 10000000000000000, 100000000000000000, 1000000000000000000, 10000000000000000000].map fun (n : Nat) => AV.int .u64 (Int.ofNat n)
def bruA : List AV := [0, 1, 56, 2, 57, 49, 28, 3, 61, 58, 42, 50, 38, 29, 17, 4, 62, 47, 59, 36, 45, 43, 51, 22, 53, 39, 33, 30, 24, 18, 12, 5, 63, 55, 48, 27, 60, 41, 37, 16, 46, 35, 44, 21, 52, 32, 23, 11, 54, 26, 40, 15, 34, 20, 31, 10, 25, 14, 19, 9, 13, 8, 7, 6].map fun (n : Nat) => AV.int .u8 (Int.ofNat n)
noncomputable def rowP : AO := .row (T.ofL powA 0 .e) 20 245 false 20 false
noncomputable def rowB : AO := .row (T.ofL bruA 0 .e) 64 282 false 64 false
noncomputable def h0E : H := ⟨8, (T.e.set 1 rowP).set 3 rowB⟩
def muE : Mu := fun g => (g, 0, if g = 1 then 20 else if g = 3 then 64 else 0)

theorem glE : GL smB h0E.next muE := fun g hg => ⟨hg, rfl, rfl⟩
theorem h0E_get {b : Nat} {o : AO} (h : h0E.t.get b = some o) : (b = 3 ∧ o = rowB) ∨ (b = 1 ∧ o = rowP) := by
  simp only [h0E, T.get_set, T.get_e] at h
  split at h
  · rename_i e; cases h; exact .inl ⟨e, rfl⟩
  · split at h
    · rename_i e; cases h; exact .inr ⟨e, rfl⟩
    · cases h

theorem tab_row {ν : Nat → Value} {n : Nat} {w : World} {k : IntKind} {l : List AV} {zs : List Int} {g sz t : Nat} (hl : l = zs.map fun z => AV.int k z) (hz : l.length = sz) (hm : muE g = (g, 0, sz)) (hw : w.heap[g]? = some (.cells (zs.map fun z => Value.int k z).toArray t)) :
    OR n muE ν w g (.row (T.ofL l 0 .e) sz t false sz false) := by
  have hzs : zs.length = sz := by rw [hl] at hz; simpa using hz
  refine ⟨_, 0, 0, by rw [hm]; exact hw, by rw [hm]; simp [hzs], by rw [hm]; simp [hzs], fun _ => ⟨by rw [hm], by simp [hzs]⟩, fun i a hi ha => ?_, .inl rfl⟩
  rw [T.get_ofL] at ha
  split at ha
  · subst hl
    simp only [Nat.sub_zero, List.getElem?_map, Option.map_eq_some_iff] at ha
    obtain ⟨z, hz2, rfl⟩ := ha
    refine ⟨.int k z, ?_, mkInt _ _⟩
    rw [hm]
    simp [hz2]
  · cases ha

theorem srE {ν : Nat → Value} {w : World} (h : MxE w) : SR muE ν h0E w where
  obj := fun b o hb => by
    rcases h0E_get hb with ⟨rfl, rfl⟩ | ⟨rfl, rfl⟩
    · exact ⟨by decide, tab_row (zs := bruTabE) (by kernel_rfl) rfl rfl h.2⟩
    · exact ⟨by decide, tab_row (zs := Lib.pow10Tab) (by kernel_rfl) rfl rfl h.1⟩
  inj := fun b b' o o' _ _ e => e

theorem runs {ν : Nat → Value} (hν : ∀ k, (ν k).oneCell' = true) {n f : Nat} {args : List AV} {r : AV} (he : isT r (run Tryz.prog smB n (.fn f args h0E)) = true) {w : World} (h : MxE w) {A : Array Value} (hA : Rs 8 muE ν args A.toList) :
    Calls Tryz.prog f A w fun e w' => ∃ x n m, e = .returned x ∧ R n m ν r x ∧ Still w w' := by
  obtain ⟨h', he⟩ := isT_of he
  refine (run_fn (okB hν) hν evMixed he (srE h) glE hA).mono fun e w' ⟨x, m', h1, p, h3⟩ => ⟨x, _, m', h1, h3, p.env, p.size, fun r hr => p.frame r hr fun b o hb hw => ?_⟩
  rcases h0E_get hb with ⟨-, rfl⟩ | ⟨-, rfl⟩ <;> cases hw

theorem Still.toExt {w w' : World} (h : Still w w') : Ext w w' := ⟨h.1.1, h.1.2.1, h.1.2.2, h.2.1, fun k hk => h.2.2 k hk⟩
theorem R_true {ν : Nat → Value} {n : Nat} {m : Mu} {b : Bool} {x : Value} (h : R n m ν (.bool b) x) : x = .bool b := R_bool h

end Go.Proofs.YtemdgilifnhdpaaGreatDoor.Ev
end

section
namespace Go.Proofs.YtemdgilifnhdpaaGreatDoor
open Go.RowKit

set_option maxRecDepth 100000 in
set_option maxHeartbeats 0 in
theorem reason301_run : Ev.isT (.str [77, 111, 118, 101, 100, 32, 80, 101, 114, 109, 97, 110, 101, 110, 116, 108, 121]) (Ev.run Tryz.prog Ev.smB 100000 (.fn 58 [.int .i64 301] Ev.h0E)) = true := by decide +kernel
theorem reason301_c (W : World) (h : Ev.MxE W) : Calls Tryz.prog 58 #[.int .i64 301] W (Gives (.string ⟨#[77, 111, 118, 101, 100, 32, 80, 101, 114, 109, 97, 110, 101, 110, 116, 108, 121]⟩) W) :=
  (Ev.runs (ν := fun _ => .bool true) (fun _ => rfl) reason301_run h (A := #[.int .i64 301]) (Ev.Rs.cons (by simp only [Ev.R]) Ev.Rs.nil)).mono fun e w' ⟨x, n, m, h1, h2, h3⟩ => ⟨by rw [h1, (Ev.R_str h2).1]; rfl, h3.toExt⟩
set_option maxRecDepth 100000 in
set_option maxHeartbeats 0 in
theorem reason400_run : Ev.isT (.str [66, 97, 100, 32, 82, 101, 113, 117, 101, 115, 116]) (Ev.run Tryz.prog Ev.smB 100000 (.fn 58 [.int .i64 400] Ev.h0E)) = true := by decide +kernel
theorem reason400_c (W : World) (h : Ev.MxE W) : Calls Tryz.prog 58 #[.int .i64 400] W (Gives (.string ⟨#[66, 97, 100, 32, 82, 101, 113, 117, 101, 115, 116]⟩) W) :=
  (Ev.runs (ν := fun _ => .bool true) (fun _ => rfl) reason400_run h (A := #[.int .i64 400]) (Ev.Rs.cons (by simp only [Ev.R]) Ev.Rs.nil)).mono fun e w' ⟨x, n, m, h1, h2, h3⟩ => ⟨by rw [h1, (Ev.R_str h2).1]; rfl, h3.toExt⟩
set_option maxRecDepth 100000 in
set_option maxHeartbeats 0 in
theorem reason404_run : Ev.isT (.str [78, 111, 116, 32, 70, 111, 117, 110, 100]) (Ev.run Tryz.prog Ev.smB 100000 (.fn 58 [.int .i64 404] Ev.h0E)) = true := by decide +kernel
theorem reason404_c (W : World) (h : Ev.MxE W) : Calls Tryz.prog 58 #[.int .i64 404] W (Gives (.string ⟨#[78, 111, 116, 32, 70, 111, 117, 110, 100]⟩) W) :=
  (Ev.runs (ν := fun _ => .bool true) (fun _ => rfl) reason404_run h (A := #[.int .i64 404]) (Ev.Rs.cons (by simp only [Ev.R]) Ev.Rs.nil)).mono fun e w' ⟨x, n, m, h1, h2, h3⟩ => ⟨by rw [h1, (Ev.R_str h2).1]; rfl, h3.toExt⟩
set_option maxRecDepth 100000 in
set_option maxHeartbeats 0 in
theorem reason405_run : Ev.isT (.str [77, 101, 116, 104, 111, 100, 32, 78, 111, 116, 32, 65, 108, 108, 111, 119, 101, 100]) (Ev.run Tryz.prog Ev.smB 100000 (.fn 58 [.int .i64 405] Ev.h0E)) = true := by decide +kernel
theorem reason405_c (W : World) (h : Ev.MxE W) : Calls Tryz.prog 58 #[.int .i64 405] W (Gives (.string ⟨#[77, 101, 116, 104, 111, 100, 32, 78, 111, 116, 32, 65, 108, 108, 111, 119, 101, 100]⟩) W) :=
  (Ev.runs (ν := fun _ => .bool true) (fun _ => rfl) reason405_run h (A := #[.int .i64 405]) (Ev.Rs.cons (by simp only [Ev.R]) Ev.Rs.nil)).mono fun e w' ⟨x, n, m, h1, h2, h3⟩ => ⟨by rw [h1, (Ev.R_str h2).1]; rfl, h3.toExt⟩
set_option maxRecDepth 100000 in
set_option maxHeartbeats 0 in
theorem reason412_run : Ev.isT (.str [80, 114, 101, 99, 111, 110, 100, 105, 116, 105, 111, 110, 32, 70, 97, 105, 108, 101, 100]) (Ev.run Tryz.prog Ev.smB 100000 (.fn 58 [.int .i64 412] Ev.h0E)) = true := by decide +kernel
theorem reason412_c (W : World) (h : Ev.MxE W) : Calls Tryz.prog 58 #[.int .i64 412] W (Gives (.string ⟨#[80, 114, 101, 99, 111, 110, 100, 105, 116, 105, 111, 110, 32, 70, 97, 105, 108, 101, 100]⟩) W) :=
  (Ev.runs (ν := fun _ => .bool true) (fun _ => rfl) reason412_run h (A := #[.int .i64 412]) (Ev.Rs.cons (by simp only [Ev.R]) Ev.Rs.nil)).mono fun e w' ⟨x, n, m, h1, h2, h3⟩ => ⟨by rw [h1, (Ev.R_str h2).1]; rfl, h3.toExt⟩
set_option maxRecDepth 100000 in
set_option maxHeartbeats 0 in
theorem reason416_run : Ev.isT (.str [82, 97, 110, 103, 101, 32, 78, 111, 116, 32, 83, 97, 116, 105, 115, 102, 105, 97, 98, 108, 101]) (Ev.run Tryz.prog Ev.smB 100000 (.fn 58 [.int .i64 416] Ev.h0E)) = true := by decide +kernel
theorem reason416_c (W : World) (h : Ev.MxE W) : Calls Tryz.prog 58 #[.int .i64 416] W (Gives (.string ⟨#[82, 97, 110, 103, 101, 32, 78, 111, 116, 32, 83, 97, 116, 105, 115, 102, 105, 97, 98, 108, 101]⟩) W) :=
  (Ev.runs (ν := fun _ => .bool true) (fun _ => rfl) reason416_run h (A := #[.int .i64 416]) (Ev.Rs.cons (by simp only [Ev.R]) Ev.Rs.nil)).mono fun e w' ⟨x, n, m, h1, h2, h3⟩ => ⟨by rw [h1, (Ev.R_str h2).1]; rfl, h3.toExt⟩
end Go.Proofs.YtemdgilifnhdpaaGreatDoor
end

section
namespace Go.Proofs.YtemdgilifnhdpaaGreatDoor
open Go.RowKit

theorem Stp.setNewO {K : Nat → Prop} {w w' : World} {o o' : Ow} (h : Stp K w o w' o') (b off : Nat) (u : Value) (hb : w.heap.size ≤ b) : Stp K w o (w'.setCell ⟨b, off, none⟩ u) o' :=
  ⟨h.os, h.tape, h.output, by have := h.size; simpa using this, h.own, fun i hi hk => (Below.heap_setCell w' ⟨b, off, none⟩ u i (by show i ≠ b; omega)).trans (h.keep i hi hk)⟩
def respV (st : Int) (n : Nat) (A : Option Addr) (c : Nat) (bv : Value) : Value := .agg #[.int .i64 st, .slice A n c, bv]
def lenF (n : Nat) : Fld := ([67, 111, 110, 116, 101, 110, 116, 45, 76, 101, 110, 103, 116, 104], Lib.itoa n)
set_option maxRecDepth 100000 in
set_option maxHeartbeats 4000000 in
theorem stResp_whole (k P : Nat) (fs : List Fld) (hl : fs.length ≤ 999) (st : Int) (B : Option Addr) (n d : Nat) (hn : n ≤ 140737488355328) (A : Option Addr) (c : Nat) (w : World) (o : Ow) (hp : Pow w) (h : AnAt w o k P fs st (.slice B n d) false A c) :
    Calls Tryz.prog 37 #[.pointer (some ⟨P, 0, none⟩)] w (fun e w' => ∃ o' A' c', e = .returned (respV st (fs.length + 1) A' c' (.slice B n d)) ∧ AnAt w' o' k P (fs ++ [lenF n]) st (.slice B n d) false A' c' ∧ Stp (fun i => i = k ∨ i = k + 1) w o w' o') := by
  have H := Lib.hid h
  have HP := Lib.hid hp
  have CD := Lib.hid (fun w' (e : Ext w w') => Digits_c (n : Int) w' (hp.ext e) (by omega) (by omega))
  have CA := Lib.hid (fun w' (e : Ext w w') => (show Calls Tryz.prog 27 #[.pointer (some ⟨P, 0, none⟩), .string ⟨#[67, 111, 110, 116, 101, 110, 116, 45, 76, 101, 110, 103, 116, 104]⟩, .string (decB n)] w' (AnsTo k P (fs ++ [lenF n]) st (.slice B n d) false w' (fun x => if x < w.heap.size then o x else k + 7)) from
    stAdd_c k P fs [67, 111, 110, 116, 101, 110, 116, 45, 76, 101, 110, 103, 116, 104] (Lib.itoa n) (by omega) st (.slice B n d) false A c w' _ (h.stp (K := fun _ => False) (Stp.ext2 e (fun b hb => if_pos hb)) (fun x => x) (fun x => x))))
  obtain ⟨c2, f2⟩ := row_facts h.row 2 _ rfl
  obtain ⟨c3, f3⟩ := row_facts h.row 3 _ rfl
  have hP := row_lt h.row
  obtain ⟨dn, hdn⟩ : ∃ x, x = decB n := ⟨_, rfl⟩
  rw [← hdn] at CD CA
  have hn6 : (n : Int) ≤ 140737488355328 := by omega
  clear h hp hdn
  go_enter Tryz.func37, Tryz.ntmps37
  go_wp2
  go_region_with (first
    | (go_at_call 71; refine (CD.out _ (by (repeat (first | exact Ext.rfl' _ | assumption | refine Ext.dr ?_ | refine Ext.drN ?_ _ | refine Ext.al ?_ _ | refine Ext.st ?_ (by simp) _ | refine Ext.tr ?_ (by assumption))))).mono ?_; rintro e w2 ⟨rfl, hx2⟩)
    | (go_at_call 27; refine (CA.out _ (by (repeat (first | exact Ext.rfl' _ | assumption | refine Ext.dr ?_ | refine Ext.drN ?_ _ | refine Ext.al ?_ _ | refine Ext.st ?_ (by simp) _ | refine Ext.tr ?_ (by assumption))))).mono ?_; rintro e w3 ⟨rfl, o3, A3, c3, hn3, st3⟩))
  have e0 : Ext (w.alloc (.cells #[.int .i64 0, .slice none 0 0, .slice none 0 0] 34)) w2 := by (repeat (first | exact Ext.rfl' _ | assumption | refine Ext.dr ?_ | refine Ext.drN ?_ _ | refine Ext.al ?_ _ | refine Ext.st ?_ (by simp) _ | refine Ext.tr ?_ (by assumption)))
  have r2 := (e0.block w.heap.size (row_lt (heap_alloc_new w _))).trans (heap_alloc_new w _)
  have r3 := (st3.keep w.heap.size (row_lt r2) (by
    show ¬ ((if w.heap.size < w.heap.size then o w.heap.size else k + 7) = k ∨ (if w.heap.size < w.heap.size then o w.heap.size else k + 7) = k + 1)
    rw [if_neg (Nat.lt_irrefl _)]; omega)).trans r2
  obtain ⟨y0, y1⟩ := row_facts r3 0 _ rfl
  obtain ⟨y2, y3⟩ := row_facts r3 1 _ rfl
  obtain ⟨y4, y5⟩ := row_facts r3 2 _ rfl
  obtain ⟨u0, u1⟩ := row_facts hn3.row 0 _ rfl
  obtain ⟨u2, u3⟩ := row_facts hn3.row 1 _ rfl
  obtain ⟨u4, u5⟩ := row_facts hn3.row 2 _ rfl
  have hm : (fs ++ [lenF n]).length = fs.length + 1 := by simp
  rw [hm] at u0
  have HM := Lib.hid hm
  have HN3 := Lib.hid hn3
  have hxw : Ext w w2 := by (repeat (first | exact Ext.rfl' _ | assumption | refine Ext.dr ?_ | refine Ext.drN ?_ _ | refine Ext.al ?_ _ | refine Ext.st ?_ (by simp) _ | refine Ext.tr ?_ (by assumption)))
  have HST := Lib.hid ((Stp.ext2 (K := fun i => i = k ∨ i = k + 1) (o' := fun x => if x < w.heap.size then o x else k + 7) hxw (fun b hb => if_pos hb)).tr st3)
  have HO3 := Lib.hid (show o3 w.heap.size = k + 7 from by
    have := st3.own w.heap.size (row_lt r2)
    rw [this]; exact if_neg (Nat.lt_irrefl _))
  have HLT := Lib.hid (row_lt r3)
  clear r2 r3 hm hn3 e0 hxw st3 c2 f2
  go_wp2
  go_region
  go_wp2
  unfold respV
  refine bodyPost_ret (v := .agg #[.int .i64 st, .slice A3 (fs.length + 1) c3, .slice B n d]) (by simp [results, Tryz.results37, go_sem, y0, y1, y2, y3, y4, y5]) rfl ⟨o3, A3, c3, rfl, ?_, ?_⟩
  · exact HN3.out.stp (K := fun i => i = k + 7) ((Stp.set w.heap.size 0 _ (fun _ => HO3.out)).tr ((Stp.set w.heap.size 1 _ (fun _ => HO3.out)).tr ((Stp.set w.heap.size 2 _ (fun _ => HO3.out)).tr (Stp.ext (Ext.dr (Ext.rfl' _)))))) (by omega) (by omega)
  · exact (((HST.out.setNewO _ 0 _ (Nat.le_refl _)).setNewO _ 1 _ (Nat.le_refl _)).setNewO _ 2 _ (Nat.le_refl _)).tr (Stp.ext (Ext.dr (Ext.rfl' _)))
end Go.Proofs.YtemdgilifnhdpaaGreatDoor
end

section
namespace Go.Proofs.YtemdgilifnhdpaaGreatDoor
open Go.RowKit

theorem Ext.bwS {a b : World} (h : Ext a b) (e : TypeId) (s : ByteArray) : Ext a (Lib.bytesWorld b e s) :=
  ⟨by simpa [Lib.bytesWorld, World.freeze, World.alloc, World.drew, -World.alloc_eq, -World.drew_eq] using h.os,
   by simpa [Lib.bytesWorld, World.freeze, World.alloc, World.drew, -World.alloc_eq, -World.drew_eq] using h.tape,
   by simpa [Lib.bytesWorld, World.freeze, World.alloc, World.drew, -World.alloc_eq, -World.drew_eq] using h.output,
   by rw [Lib.bytesWorld_size]; have := h.size; omega,
   fun i hi => by rw [Lib.bytesWorld_at_old _ _ _ _ (by have := h.size; omega)]; exact h.block i hi⟩
def ctF : Fld := ([67, 111, 110, 116, 101, 110, 116, 45, 84, 121, 112, 101], [116, 101, 120, 116, 47, 112, 108, 97, 105, 110])
set_option maxRecDepth 100000 in
set_option maxHeartbeats 4000000 in
theorem stPlain_c (code : Int) (tx : List UInt8) (ht : tx.length ≤ 100) (k P : Nat) (fs : List Fld) (hl : fs.length ≤ 90) (st : Int) (bv : Value) (br : Bool) (A : Option Addr) (c : Nat) (w : World) (o : Ow) (h : AnAt w o k P fs st bv br A c) (hR : ∀ w', Ext w w' → Calls Tryz.prog 58 #[.int .i64 code] w' (Gives (.string (str tx)) w')) :
    Calls Tryz.prog 28 #[.pointer (some ⟨P, 0, none⟩), .int .i64 code] w (fun e w' => e = .returned (.tuple #[]) ∧ ∃ o' A' c' B d, AnAt w' o' k P (fs ++ [ctF]) code (.slice B (tx.length + 1) d) br A' c' ∧ Stp (fun i => i = k ∨ i = k + 1) w o w' o') := by
  have H := Lib.hid h
  have HR := Lib.hid hR
  have hcat : ∀ w, (Op.stringOp .add (str tx) ⟨#[10]⟩).run Tryz.prog w = .ok (.string (str (tx ++ [10]))) w := fun w => catS _ [10] (by simp; omega) w
  obtain ⟨s1, e1⟩ : ∃ x, x = str tx := ⟨_, rfl⟩
  obtain ⟨s2, e2⟩ : ∃ x, x = str (tx ++ [10]) := ⟨_, rfl⟩
  have hz : s2.size = tx.length + 1 := by rw [e2, str_size]; simp
  rw [← e1, ← e2] at hcat
  rw [← e1] at HR
  have hP := row_lt h.row
  have CV := fun w => Lib.run_convert_string_bytes (P := Tryz.prog) w 9 22 5 s2 Tryz.underlying9 Tryz.underlying22 Tryz.underlying5
  have HZ := Lib.hid hz
  have CA := Lib.hid (fun A' c' w' o' bv' (h : AnAt w' o' k P fs code bv' br A' c') => (show Calls Tryz.prog 27 #[.pointer (some ⟨P, 0, none⟩), .string ⟨#[67, 111, 110, 116, 101, 110, 116, 45, 84, 121, 112, 101]⟩, .string ⟨#[116, 101, 120, 116, 47, 112, 108, 97, 105, 110]⟩] w' (AnsTo k P (fs ++ [ctF]) code bv' br w' o') from
    stAdd_c k P fs [67, 111, 110, 116, 101, 110, 116, 45, 84, 121, 112, 101] [116, 101, 120, 116, 47, 112, 108, 97, 105, 110] (by omega) code bv' br A' c' w' o' h))
  clear h hR hz e1 e2
  go_enter Tryz.func28, Tryz.ntmps28
  go_wp2_with (first
    | (go_at_call 58; refine (HR.out _ (by (repeat (first | exact Ext.rfl' _ | assumption | refine Ext.dr ?_ | refine Ext.drN ?_ _ | refine Ext.al ?_ _ | refine Ext.st ?_ (by simp) _ | refine Ext.tr ?_ (by assumption))))).mono ?_; rintro e w1 ⟨rfl, hx1⟩; have xb := (hx1.bwS 5 s2); have sb : Stp (fun i => i = k) w o (Lib.bytesWorld w1 5 s2) o := Stp.ext xb; have ab := H.out.stp (K := fun _ => False) (Stp.ext xb) (fun x => x) (fun x => x); obtain ⟨c1, f1⟩ := row_facts ab.row 1 _ rfl; obtain ⟨c2, f2⟩ := row_facts ab.row 2 _ rfl; have hp1 := ab.put code (.slice (some ⟨w1.heap.size, 0, none⟩) s2.size (grownCap w1 s2.size 0 5)))
    | (go_at_call 27; refine (CA.out _ _ _ _ _ hp1.1).mono ?_; clear CA; rintro e w2 ⟨rfl, o3, A3, c3, hn3, st3⟩))
  go_end0
  rw [HZ.out] at hn3
  exact ⟨rfl, o3, A3, c3, _, _, hn3, ((sb.mono fun _ h => .inl h).tr (hp1.2.mono fun _ h => .inl h)).tr st3⟩
end Go.Proofs.YtemdgilifnhdpaaGreatDoor
end

section
namespace Go.Proofs.YtemdgilifnhdpaaGreatDoor
open Go.RowKit

theorem path_ok {l : List UInt8} (h : pathF l = true) : cleanL l = (l, 0) ∧ Lib.hasSuffix l [47] = false := by
  unfold pathF at h
  simp only [Bool.and_eq_true, decide_eq_true_eq, Bool.not_eq_true'] at h
  exact ⟨h.1, by rw [suf47]; exact h.2⟩
set_option maxRecDepth 100000 in
set_option maxHeartbeats 4000000 in
theorem wPut_big (w : World) (o : Ow) (k p : Nat) (s : Wrl) (h : WdAt w o k p s) (l : List UInt8) (hl : l.length ≤ 140737488355328) (B : Option Addr) (n d : Nat) (hn : n < 9223372036854775808) (hp : pathF l = true)
    (hbig : 1048576 < n) :
    Calls Tryz.prog 24 #[.pointer (some ⟨p, 0, none⟩), .string (str l), .slice B n d] w (Gives (.int .i64 6) w) := by
  obtain ⟨mb, pl, hh, hm, hlt, hi, hs⟩ := h.row
  have hlm : l.length ≤ maxLen := by simp only [maxLen]; omega
  have HH := Lib.hid (fun w' (e : Ext w w') => hh.ext e)
  have HI := Lib.hid (fun w' (e : Ext w w') => World.isM.same hi (e.block mb hlt))
  have hl2 : (str l).size ≤ 9223372036854775807 := by rw [str_size]; omega
  obtain ⟨hp1, hp2⟩ := path_ok hp
  have C := fun w => Clean_c l hl w
  rw [hp1] at C
  dsimp only at C
  have S := fun w => Tryz.strings_HasSuffix (str l) ⟨#[47]⟩ w hl2
  rw [str_data, hp2] at S
  have HK0 := lk_enc pl s.L l
  have hen := enc_len pl s.L
  have LEN := Lib.hid hen
  have C := Lib.hid C
  have S := Lib.hid S
  have b1 : (1048576 : Int) < (n : Int) := by omega
  cases hf : lkM s.L l with
  | none =>
    rw [hf] at HK0
    have HK := Lib.hid HK0
    clear HK0 hp1 hp2 hp hen hf
    go_enter Tryz.func24, Tryz.ntmps24
    go_wp2_with (first
      | (go_at_call 55; refine (C.out _).mono ?_; rintro e w1 ⟨rfl, hx1⟩; have c1 := (HH.out w1 hx1).c0)
      | (go_at_call 49; refine (none_no p mb _ c1).mono ?_; rintro e w2 ⟨rfl, hx2⟩)
      | (go_at_call 56; refine (S.out _).mono ?_; rintro e w3 ⟨rfl, rfl⟩; have hx3 := hx1.tr hx2; have HX3 := Lib.hid hx3; have hi3 := HI.out _ hx3; have c3 := (HH.out _ hx3).c0)
      | (at_lookup; refine wpL_look rfl _ _ 44 rfl 110 keyedS mapU Tryz.underlying9 (Tryz.zeroValue110 _) rfl hi3 l hlm rfl ?_; rw [HK.out]; simp only [Option.getD_some, Option.isSome_some, Option.getD_none, Option.isSome_none]; have c00 := fun x => ((HH.out _ hx3).ext (show Ext _ (w3.alloc x) by (repeat (first | exact Ext.rfl' _ | assumption | refine Ext.dr ?_ | refine Ext.drN ?_ _ | refine Ext.al ?_ _ | refine Ext.st ?_ (by simp) _ | refine Ext.tr ?_ (by assumption))))).c0; have c02 := fun x => ((HH.out _ hx3).ext (show Ext _ (w3.alloc x) by (repeat (first | exact Ext.rfl' _ | assumption | refine Ext.dr ?_ | refine Ext.drN ?_ _ | refine Ext.al ?_ _ | refine Ext.st ?_ (by simp) _ | refine Ext.tr ?_ (by assumption))))).c2; have f02 := fun x => ((HH.out _ hx3).ext (show Ext _ (w3.alloc x) by (repeat (first | exact Ext.rfl' _ | assumption | refine Ext.dr ?_ | refine Ext.drN ?_ _ | refine Ext.al ?_ _ | refine Ext.st ?_ (by simp) _ | refine Ext.tr ?_ (by assumption))))).fz 2 (by omega); have hlen := fun x ty => (World.isM.same hi3 ((show Ext w3 (w3.alloc x) by (repeat (first | exact Ext.rfl' _ | assumption | refine Ext.dr ?_ | refine Ext.drN ?_ _ | refine Ext.al ?_ _ | refine Ext.st ?_ (by simp) _ | refine Ext.tr ?_ (by assumption)))).block mb (Nat.lt_of_lt_of_le hlt hx3.size))).len mapU ty; simp only [LEN.out] at hlen))
    go_ret
    exact ⟨rfl, by (repeat (first | exact Ext.rfl' _ | assumption | refine Ext.dr ?_ | refine Ext.drN ?_ _ | refine Ext.al ?_ _ | refine Ext.st ?_ (by simp) _ | refine Ext.tr ?_ (by assumption)))⟩
  | some f =>
    rw [hf] at HK0
    have HK : Hid (lkM (enc pl s.L) l = some (.agg #[.string (str l), .slice (pl l).1 f.b.length (pl l).2, .int .i64 f.mt, .int .i64 (f.ve : Int)])) := Lib.hid HK0
    obtain ⟨n0, hn0⟩ : ∃ n0, n0 = f.b.length := ⟨_, rfl⟩
    rw [← hn0] at HK
    clear HK0 hp1 hp2 hp hen hf hn0
    go_enter Tryz.func24, Tryz.ntmps24
    go_wp2_with (first
      | (go_at_call 55; refine (C.out _).mono ?_; rintro e w1 ⟨rfl, hx1⟩; have c1 := (HH.out w1 hx1).c0)
      | (go_at_call 49; refine (none_no p mb _ c1).mono ?_; rintro e w2 ⟨rfl, hx2⟩)
      | (go_at_call 56; refine (S.out _).mono ?_; rintro e w3 ⟨rfl, rfl⟩; have hx3 := hx1.tr hx2; have HX3 := Lib.hid hx3; have hi3 := HI.out _ hx3; have c3 := (HH.out _ hx3).c0)
      | (at_lookup; refine wpL_look rfl _ _ 44 rfl 110 keyedS mapU Tryz.underlying9 (Tryz.zeroValue110 _) rfl hi3 l hlm rfl ?_; rw [HK.out]; simp only [Option.getD_some, Option.isSome_some, Option.getD_none, Option.isSome_none]; have c00 := fun x => ((HH.out _ hx3).ext (show Ext _ (w3.alloc x) by (repeat (first | exact Ext.rfl' _ | assumption | refine Ext.dr ?_ | refine Ext.drN ?_ _ | refine Ext.al ?_ _ | refine Ext.st ?_ (by simp) _ | refine Ext.tr ?_ (by assumption))))).c0; have c02 := fun x => ((HH.out _ hx3).ext (show Ext _ (w3.alloc x) by (repeat (first | exact Ext.rfl' _ | assumption | refine Ext.dr ?_ | refine Ext.drN ?_ _ | refine Ext.al ?_ _ | refine Ext.st ?_ (by simp) _ | refine Ext.tr ?_ (by assumption))))).c2; have f02 := fun x => ((HH.out _ hx3).ext (show Ext _ (w3.alloc x) by (repeat (first | exact Ext.rfl' _ | assumption | refine Ext.dr ?_ | refine Ext.drN ?_ _ | refine Ext.al ?_ _ | refine Ext.st ?_ (by simp) _ | refine Ext.tr ?_ (by assumption))))).fz 2 (by omega); have hlen := fun x ty => (World.isM.same hi3 ((show Ext w3 (w3.alloc x) by (repeat (first | exact Ext.rfl' _ | assumption | refine Ext.dr ?_ | refine Ext.drN ?_ _ | refine Ext.al ?_ _ | refine Ext.st ?_ (by simp) _ | refine Ext.tr ?_ (by assumption)))).block mb (Nat.lt_of_lt_of_le hlt hx3.size))).len mapU ty; simp only [LEN.out] at hlen))
    go_ret
    exact ⟨rfl, by (repeat (first | exact Ext.rfl' _ | assumption | refine Ext.dr ?_ | refine Ext.drN ?_ _ | refine Ext.al ?_ _ | refine Ext.st ?_ (by simp) _ | refine Ext.tr ?_ (by assumption)))⟩
set_option maxRecDepth 100000 in
set_option maxHeartbeats 4000000 in
theorem wPut_many (w : World) (o : Ow) (k p : Nat) (s : Wrl) (h : WdAt w o k p s) (l : List UInt8) (hl : l.length ≤ 140737488355328) (B : Option Addr) (n d : Nat) (hn : n < 9223372036854775808) (hp : pathF l = true)
    (hbig : ¬ 1048576 < n) (hf : lkM s.L l = none) (hlen : s.L.length = 1000) :
    Calls Tryz.prog 24 #[.pointer (some ⟨p, 0, none⟩), .string (str l), .slice B n d] w (Gives (.int .i64 6) w) := by
  obtain ⟨mb, pl, hh, hm, hlt, hi, hs⟩ := h.row
  have hlm : l.length ≤ maxLen := by simp only [maxLen]; omega
  have HH := Lib.hid (fun w' (e : Ext w w') => hh.ext e)
  have HI := Lib.hid (fun w' (e : Ext w w') => World.isM.same hi (e.block mb hlt))
  have hl2 : (str l).size ≤ 9223372036854775807 := by rw [str_size]; omega
  obtain ⟨hp1, hp2⟩ := path_ok hp
  have C := fun w => Clean_c l hl w
  rw [hp1] at C
  dsimp only at C
  have S := fun w => Tryz.strings_HasSuffix (str l) ⟨#[47]⟩ w hl2
  rw [str_data, hp2] at S
  have HK0 := lk_enc pl s.L l
  have hen := enc_len pl s.L
  rw [hlen] at hen
  have LEN := Lib.hid hen
  have C := Lib.hid C
  have S := Lib.hid S
  have b1 : ¬ (1048576 : Int) < (n : Int) := by omega
  rw [hf] at HK0
  have HK := Lib.hid HK0
  clear HK0 hp1 hp2 hp hen hf hlen
  go_enter Tryz.func24, Tryz.ntmps24
  go_wp2_with (first
    | (go_at_call 55; refine (C.out _).mono ?_; rintro e w1 ⟨rfl, hx1⟩; have c1 := (HH.out w1 hx1).c0)
    | (go_at_call 49; refine (none_no p mb _ c1).mono ?_; rintro e w2 ⟨rfl, hx2⟩)
    | (go_at_call 56; refine (S.out _).mono ?_; rintro e w3 ⟨rfl, rfl⟩; have hx3 := hx1.tr hx2; have HX3 := Lib.hid hx3; have hi3 := HI.out _ hx3; have c3 := (HH.out _ hx3).c0)
    | (at_lookup; refine wpL_look rfl _ _ 44 rfl 110 keyedS mapU Tryz.underlying9 (Tryz.zeroValue110 _) rfl hi3 l hlm rfl ?_; rw [HK.out]; simp only [Option.getD_some, Option.isSome_some, Option.getD_none, Option.isSome_none]; have c00 := fun x => ((HH.out _ hx3).ext (show Ext _ (w3.alloc x) by (repeat (first | exact Ext.rfl' _ | assumption | refine Ext.dr ?_ | refine Ext.drN ?_ _ | refine Ext.al ?_ _ | refine Ext.st ?_ (by simp) _ | refine Ext.tr ?_ (by assumption))))).c0; have c02 := fun x => ((HH.out _ hx3).ext (show Ext _ (w3.alloc x) by (repeat (first | exact Ext.rfl' _ | assumption | refine Ext.dr ?_ | refine Ext.drN ?_ _ | refine Ext.al ?_ _ | refine Ext.st ?_ (by simp) _ | refine Ext.tr ?_ (by assumption))))).c2; have f02 := fun x => ((HH.out _ hx3).ext (show Ext _ (w3.alloc x) by (repeat (first | exact Ext.rfl' _ | assumption | refine Ext.dr ?_ | refine Ext.drN ?_ _ | refine Ext.al ?_ _ | refine Ext.st ?_ (by simp) _ | refine Ext.tr ?_ (by assumption))))).fz 2 (by omega); have hlen := fun x ty => (World.isM.same hi3 ((show Ext w3 (w3.alloc x) by (repeat (first | exact Ext.rfl' _ | assumption | refine Ext.dr ?_ | refine Ext.drN ?_ _ | refine Ext.al ?_ _ | refine Ext.st ?_ (by simp) _ | refine Ext.tr ?_ (by assumption)))).block mb (Nat.lt_of_lt_of_le hlt hx3.size))).len mapU ty; simp only [LEN.out] at hlen))
  go_ret
  exact ⟨rfl, by (repeat (first | exact Ext.rfl' _ | assumption | refine Ext.dr ?_ | refine Ext.drN ?_ _ | refine Ext.al ?_ _ | refine Ext.st ?_ (by simp) _ | refine Ext.tr ?_ (by assumption)))⟩
end Go.Proofs.YtemdgilifnhdpaaGreatDoor
end
