/-
The tables as they are laid when a law begins, and what a call does that the evaluator has run.
-/
import Derived.Test.YtemdgilifnhdpaaGreatDoorEvS
import Derived.Lib.LaidTab
import Derived.Lib.ItoaNum
set_option linter.unusedVariables false
set_option linter.unusedSimpArgs false
set_option linter.unusedVariables false
set_option linter.unusedSimpArgs false
namespace Go.Proofs.YtemdgilifnhdpaaGreatDoor.Ev
open Go.ChangeShapes

/-! ### the tables -/
def bruTabE : List Int := [0, 1, 56, 2, 57, 49, 28, 3, 61, 58, 42, 50, 38, 29, 17, 4, 62, 47, 59, 36, 45, 43, 51, 22, 53, 39, 33, 30, 24, 18, 12, 5, 63, 55, 48, 27, 60, 41, 37, 16, 46, 35, 44, 21, 52, 32, 23, 11, 54, 26, 40, 15, 34, 20, 31, 10, 25, 14, 19, 9, 13, 8, 7, 6]
def PowE (w : World) : Prop := Lib.TabIs Tryz.prog w "internal/strconv.uint64pow10" .u64 Lib.pow10Tab
def BruE (w : World) : Prop := Lib.TabIs Tryz.prog w "math/bits.deBruijn64tab" .u8 bruTabE
theorem gPowE : Tryz.prog.globalNamed "internal/strconv.uint64pow10" = some 1 := by kernel_rfl
theorem gBruE : Tryz.prog.globalNamed "math/bits.deBruijn64tab" = some 3 := by kernel_rfl
theorem powE_of {W : World} {rest : List (String × DataW Unit)} (h : laidMet Tryz.prog (("internal/strconv.uint64pow10", Lib.tabData .u64 Lib.pow10Tab) :: rest) W) : PowE W :=
  Lib.tabIs_of_head gPowE (show (Tryz.prog.globals[1]?).map (·.type) = some 245 by kernel_rfl) Tryz.underlying245 Tryz.underlying118 (show Tryz.prog.cellsOf 118 = 1 by kernel_rfl) (show Tryz.prog.cellsOf 245 = 20 by kernel_rfl) h
theorem bruE_of {W : World} {rest : List (String × DataW Unit)} (h : laidMet Tryz.prog (("math/bits.deBruijn64tab", Lib.tabData .u8 bruTabE) :: rest) W) : BruE W :=
  Lib.tabIs_of_head gBruE (show (Tryz.prog.globals[3]?).map (·.type) = some 282 by kernel_rfl) Tryz.underlying282 Tryz.underlying5 (show Tryz.prog.cellsOf 5 = 1 by kernel_rfl) (show Tryz.prog.cellsOf 282 = 64 by kernel_rfl) h

/-- the tables at hand -/
def MxE (w : World) : Prop := w.heap[1]? = some (.cells (Lib.pow10Tab.map fun z => Value.int .u64 z).toArray 245) ∧ w.heap[3]? = some (.cells (bruTabE.map fun z => Value.int .u8 z).toArray 282)

theorem shape_g {W : World} (h : W.ShapedOpen Tryz.prog) {g t : Nat} (hg : g < Tryz.prog.globals.size) (hr : (((begin Tryz.prog (fun _ _ => 0) default).world.heap[g]?).bind Obj.row?).map (·.2) = some t) : ∃ cs, W.heap[g]? = some (.cells cs t) := by
  obtain ⟨⟨zero, t'⟩, h1, h2⟩ := Option.map_eq_some_iff.1 hr
  simp only at h2
  subst h2
  obtain ⟨cs, h3, -⟩ := h.1 g zero t' hg h1
  exact ⟨cs, h3⟩

theorem tab_cells {W : World} {name : String} {k : IntKind} {zs : List Int} {g t : Nat} {cs : Array Value} (h : Lib.TabIs Tryz.prog W name k zs) (hg : Tryz.prog.globalNamed name = some g) (hc : W.heap[g]? = some (.cells cs t)) : W.heap[g]? = some (.cells (zs.map fun z => Value.int k z).toArray t) := by
  unfold Lib.TabIs World.var? at h
  rw [hg] at h
  simp only [Option.bind_some, hc, Option.some.injEq] at h
  rw [hc, h]

set_option maxRecDepth 100000 in
theorem mxE_of {W : World} (h : W.ShapedOpen Tryz.prog) (h1 : PowE W) (h2 : BruE W) : MxE W := by
  obtain ⟨cs, c1⟩ := shape_g h (g := 1) (t := 245) (of_decide_eq_true (by kernel_rfl)) (by kernel_rfl)
  obtain ⟨ds, c2⟩ := shape_g h (g := 3) (t := 282) (of_decide_eq_true (by kernel_rfl)) (by kernel_rfl)
  exact ⟨tab_cells h1 gPowE c1, tab_cells h2 gBruE c2⟩

theorem MxE.ext {w w' : World} (h : MxE w) (hx : ∀ r, r < w.heap.size → w'.heap[r]? = w.heap[r]?) : MxE w' := by
  obtain ⟨h1, h2⟩ := h
  exact ⟨by rw [hx _ (Array.getElem?_eq_some_iff.1 h1).1]; exact h1, by rw [hx _ (Array.getElem?_eq_some_iff.1 h2).1]; exact h2⟩

def powA : List AV := [1, 10, 100, 1000, 10000, 100000, 1000000, 10000000, 100000000, 1000000000, 10000000000, 100000000000, 1000000000000, 10000000000000, 100000000000000, 1000000000000000, 10000000000000000, 100000000000000000, 1000000000000000000, 10000000000000000000].map fun (n : Nat) => AV.int .u64 (Int.ofNat n)
def bruA : List AV := [0, 1, 56, 2, 57, 49, 28, 3, 61, 58, 42, 50, 38, 29, 17, 4, 62, 47, 59, 36, 45, 43, 51, 22, 53, 39, 33, 30, 24, 18, 12, 5, 63, 55, 48, 27, 60, 41, 37, 16, 46, 35, 44, 21, 52, 32, 23, 11, 54, 26, 40, 15, 34, 20, 31, 10, 25, 14, 19, 9, 13, 8, 7, 6].map fun (n : Nat) => AV.int .u8 (Int.ofNat n)
noncomputable def rowP : AO := .row (T.ofL powA 0 .e) 20 245 false 20 false
noncomputable def rowB : AO := .row (T.ofL bruA 0 .e) 64 282 false 64 false
noncomputable def h0E : H := ⟨8, (T.e.set 1 rowP).set 3 rowB⟩
def muE : Mu := fun g => (g, 0, if g = 1 then 20 else if g = 3 then 64 else 0)

theorem glE : GL smB h0E.next muE := fun g hg => ⟨hg, rfl, rfl⟩
theorem h0E_get {b : Nat} {o : AO} (h : h0E.t.get b = some o) : (b = 3 ∧ o = rowB) ∨ (b = 1 ∧ o = rowP) := by
  simp only [h0E, T.get_set, T.get_e] at h
  split at h
  · rename_i e; cases h; exact .inl ⟨e, rfl⟩
  · split at h
    · rename_i e; cases h; exact .inr ⟨e, rfl⟩
    · cases h

theorem tab_row {ν : Nat → Value} {n : Nat} {w : World} {k : IntKind} {l : List AV} {zs : List Int} {g sz t : Nat} (hl : l = zs.map fun z => AV.int k z) (hz : l.length = sz) (hm : muE g = (g, 0, sz)) (hw : w.heap[g]? = some (.cells (zs.map fun z => Value.int k z).toArray t)) :
    OR n muE ν w g (.row (T.ofL l 0 .e) sz t false sz false) := by
  have hzs : zs.length = sz := by rw [hl] at hz; simpa using hz
  refine ⟨_, 0, 0, by rw [hm]; exact hw, by rw [hm]; simp [hzs], by rw [hm]; simp [hzs], fun _ => ⟨by rw [hm], by simp [hzs]⟩, fun i a hi ha => ?_, .inl rfl⟩
  rw [T.get_ofL] at ha
  split at ha
  · subst hl
    simp only [Nat.sub_zero, List.getElem?_map, Option.map_eq_some_iff] at ha
    obtain ⟨z, hz2, rfl⟩ := ha
    refine ⟨.int k z, ?_, mkInt _ _⟩
    rw [hm]
    simp [hz2]
  · cases ha

theorem srE {ν : Nat → Value} {w : World} (h : MxE w) : SR muE ν h0E w where
  obj := fun b o hb => by
    rcases h0E_get hb with ⟨rfl, rfl⟩ | ⟨rfl, rfl⟩
    · exact ⟨by decide, tab_row (zs := bruTabE) (by kernel_rfl) rfl rfl h.2⟩
    · exact ⟨by decide, tab_row (zs := Lib.pow10Tab) (by kernel_rfl) rfl rfl h.1⟩
  inj := fun b b' o o' _ _ e => e

/-- **A call that the evaluator has run to the end.** -/
theorem runs {ν : Nat → Value} (hν : ∀ k, (ν k).oneCell' = true) {n f : Nat} {args : List AV} {r : AV} (he : isT r (run Tryz.prog smB n (.fn f args h0E)) = true) {w : World} (h : MxE w) {A : Array Value} (hA : Rs 8 muE ν args A.toList) :
    Calls Tryz.prog f A w fun e w' => ∃ x n m, e = .returned x ∧ R n m ν r x ∧ Still w w' := by
  obtain ⟨h', he⟩ := isT_of he
  refine (run_fn (okB hν) hν evMixed he (srE h) glE hA).mono fun e w' ⟨x, m', h1, p, h3⟩ => ⟨x, _, m', h1, h3, p.env, p.size, fun r hr => p.frame r hr fun b o hb hw => ?_⟩
  rcases h0E_get hb with ⟨-, rfl⟩ | ⟨-, rfl⟩ <;> cases hw

theorem Still.toExt {w w' : World} (h : Still w w') : Ext w w' := ⟨h.1.1, h.1.2.1, h.1.2.2, h.2.1, fun k hk => h.2.2 k hk⟩
theorem R_true {ν : Nat → Value} {n : Nat} {m : Mu} {b : Bool} {x : Value} (h : R n m ν (.bool b) x) : x = .bool b := R_bool h

end Go.Proofs.YtemdgilifnhdpaaGreatDoor.Ev
