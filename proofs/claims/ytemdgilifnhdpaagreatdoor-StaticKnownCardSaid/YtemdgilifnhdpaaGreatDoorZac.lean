/-
The tables as they are laid when a law begins, and what a call does that the evaluator has run.
-/
import Derived.Test.YtemdgilifnhdpaaGreatDoorEvS
import Derived.Lib.LaidTab
import Derived.Lib.ItoaNum
import Derived.Test.YtemdgilifnhdpaaGreatDoorZaa
set_option linter.unusedVariables false
set_option linter.unusedSimpArgs false
section
namespace Go.Proofs.YtemdgilifnhdpaaGreatDoor.Ev
open Go.ChangeShapes

def bruTabE : List Int := [0, 1, 56, 2, 57, 49, 28, 3, 61, 58, 42, 50, 38, 29, 17, 4, 62, 47, 59, 36, 45, 43, 51, 22, 53, 39, 33, 30, 24, 18, 12, 5, 63, 55, 48, 27, 60, 41, 37, 16, 46, 35, 44, 21, 52, 32, 23, 11, 54, 26, 40, 15, 34, 20, 31, 10, 25, 14, 19, 9, 13, 8, 7, 6]
def PowE (w : World) : Prop := Lib.TabIs Tryz.prog w "internal/strconv.uint64pow10" .u64 Lib.pow10Tab
def BruE (w : World) : Prop := Lib.TabIs Tryz.prog w "math/bits.deBruijn64tab" .u8 bruTabE
theorem gPowE : Tryz.prog.globalNamed "internal/strconv.uint64pow10" = some 1 := by kernel_rfl
theorem gBruE : Tryz.prog.globalNamed "math/bits.deBruijn64tab" = some 3 := by kernel_rfl
theorem powE_of {W : World} {rest : List (String × DataW Unit)} (h : laidMet Tryz.prog (("internal/strconv.uint64pow10", Lib.tabData .u64 Lib.pow10Tab) :: rest) W) : PowE W :=
  Lib.tabIs_of_head gPowE (show (Tryz.prog.globals[1]?).map (·.type) = some 245 by kernel_rfl) Tryz.underlying245 Tryz.underlying118 (show Tryz.prog.cellsOf 118 = 1 by kernel_rfl) (show Tryz.prog.cellsOf 245 = 20 by kernel_rfl) h
theorem bruE_of {W : World} {rest : List (String × DataW Unit)} (h : laidMet Tryz.prog (("math/bits.deBruijn64tab", Lib.tabData .u8 bruTabE) :: rest) W) : BruE W :=
  Lib.tabIs_of_head gBruE (show (Tryz.prog.globals[3]?).map (·.type) = some 282 by kernel_rfl) Tryz.underlying282 Tryz.underlying5 (show Tryz.prog.cellsOf 5 = 1 by kernel_rfl) (show Tryz.prog.cellsOf 282 = 64 by kernel_rfl) h

def MxE (w : World) : Prop := w.heap[1]? = some (.cells (Lib.pow10Tab.map fun z => Value.int .u64 z).toArray 245) ∧ w.heap[3]? = some (.cells (bruTabE.map fun z => Value.int .u8 z).toArray 282)

theorem shape_g {W : World} (h : W.ShapedOpen Tryz.prog) {g t : Nat} (hg : g < Tryz.prog.globals.size) (hr : (((begin Tryz.prog (fun _ _ => 0) default).world.heap[g]?).bind Obj.row?).map (·.2) = some t) : ∃ cs, W.heap[g]? = some (.cells cs t) := by
  obtain ⟨⟨zero, t'⟩, h1, h2⟩ := Option.map_eq_some_iff.1 hr
  simp only at h2
  subst h2
  obtain ⟨cs, h3, -⟩ := h.1 g zero t' hg h1
  exact ⟨cs, h3⟩

theorem tab_cells {W : World} {name : String} {k : IntKind} {zs : List Int} {g t : Nat} {cs : Array Value} (h : Lib.TabIs Tryz.prog W name k zs) (hg : Tryz.prog.globalNamed name = some g) (hc : W.heap[g]? = some (.cells cs t)) : W.heap[g]? = some (.cells (zs.map fun z => Value.int k z).toArray t) := by
  unfold Lib.TabIs World.var? at h
  rw [hg] at h
  simp only [Option.bind_some, hc, Option.some.injEq] at h
  rw [hc, h]

set_option maxRecDepth 100000 in
theorem mxE_of {W : World} (h : W.ShapedOpen Tryz.prog) (h1 : PowE W) (h2 : BruE W) : MxE W := by
  obtain ⟨cs, c1⟩ := shape_g h (g := 1) (t := 245) (of_decide_eq_true (by kernel_rfl)) (by kernel_rfl)
  obtain ⟨ds, c2⟩ := shape_g h (g := 3) (t := 282) (of_decide_eq_true (by kernel_rfl)) (by kernel_rfl)
  exact ⟨tab_cells h1 gPowE c1, tab_cells h2 gBruE c2⟩

theorem MxE.ext {w w' : World} (h : MxE w) (hx : ∀ r, r < w.heap.size → w'.heap[r]? = w.heap[r]?) : MxE w' := by
  obtain ⟨h1, h2⟩ := h
  exact ⟨by rw [hx _ (Array.getElem?_eq_some_iff.1 h1).1]; exact h1, by rw [hx _ (Array.getElem?_eq_some_iff.1 h2).1]; exact h2⟩

def powA : List AV := [1, 10, 100, 1000, 10000, 100000, 1000000, 10000000, 100000000, 1000000000, 10000000000, 100000000000, 1000000000000, 10000000000000, 100000000000000, 1000000000000000, 10000000000000000, 100000000000000000, 1000000000000000000, 10000000000000000000].map fun (n : Nat) => AV.int .u64 (Int.ofNat n)
def bruA : List AV := [0, 1, 56, 2, 57, 49, 28, 3, 61, 58, 42, 50, 38, 29, 17, 4, 62, 47, 59, 36, 45, 43, 51, 22, 53, 39, 33, 30, 24, 18, 12, 5, 63, 55, 48, 27, 60, 41, 37, 16, 46, 35, 44, 21, 52, 32, 23, 11, 54, 26, 40, 15, 34, 20, 31, 10, 25, 14, 19, 9, 13, 8, 7, 6].map fun (n : Nat) => AV.int .u8 (Int.ofNat n)
noncomputable def rowP : AO := .row (T.ofL powA 0 .e) 20 245 false 20 false
noncomputable def rowB : AO := .row (T.ofL bruA 0 .e) 64 282 false 64 false
noncomputable def h0E : H := ⟨8, (T.e.set 1 rowP).set 3 rowB⟩
def muE : Mu := fun g => (g, 0, if g = 1 then 20 else if g = 3 then 64 else 0)

theorem glE : GL smB h0E.next muE := fun g hg => ⟨hg, rfl, rfl⟩
theorem h0E_get {b : Nat} {o : AO} (h : h0E.t.get b = some o) : (b = 3 ∧ o = rowB) ∨ (b = 1 ∧ o = rowP) := by
  simp only [h0E, T.get_set, T.get_e] at h
  split at h
  · rename_i e; cases h; exact .inl ⟨e, rfl⟩
  · split at h
    · rename_i e; cases h; exact .inr ⟨e, rfl⟩
    · cases h

theorem tab_row {ν : Nat → Value} {n : Nat} {w : World} {k : IntKind} {l : List AV} {zs : List Int} {g sz t : Nat} (hl : l = zs.map fun z => AV.int k z) (hz : l.length = sz) (hm : muE g = (g, 0, sz)) (hw : w.heap[g]? = some (.cells (zs.map fun z => Value.int k z).toArray t)) :
    OR n muE ν w g (.row (T.ofL l 0 .e) sz t false sz false) := by
  have hzs : zs.length = sz := by rw [hl] at hz; simpa using hz
  refine ⟨_, 0, 0, by rw [hm]; exact hw, by rw [hm]; simp [hzs], by rw [hm]; simp [hzs], fun _ => ⟨by rw [hm], by simp [hzs]⟩, fun i a hi ha => ?_, .inl rfl⟩
  rw [T.get_ofL] at ha
  split at ha
  · subst hl
    simp only [Nat.sub_zero, List.getElem?_map, Option.map_eq_some_iff] at ha
    obtain ⟨z, hz2, rfl⟩ := ha
    refine ⟨.int k z, ?_, mkInt _ _⟩
    rw [hm]
    simp [hz2]
  · cases ha

theorem srE {ν : Nat → Value} {w : World} (h : MxE w) : SR muE ν h0E w where
  obj := fun b o hb => by
    rcases h0E_get hb with ⟨rfl, rfl⟩ | ⟨rfl, rfl⟩
    · exact ⟨by decide, tab_row (zs := bruTabE) (by kernel_rfl) rfl rfl h.2⟩
    · exact ⟨by decide, tab_row (zs := Lib.pow10Tab) (by kernel_rfl) rfl rfl h.1⟩
  inj := fun b b' o o' _ _ e => e

theorem runs {ν : Nat → Value} (hν : ∀ k, (ν k).oneCell' = true) {n f : Nat} {args : List AV} {r : AV} (he : isT r (run Tryz.prog smB n (.fn f args h0E)) = true) {w : World} (h : MxE w) {A : Array Value} (hA : Rs 8 muE ν args A.toList) :
    Calls Tryz.prog f A w fun e w' => ∃ x n m, e = .returned x ∧ R n m ν r x ∧ Still w w' := by
  obtain ⟨h', he⟩ := isT_of he
  refine (run_fn (okB hν) hν evMixed he (srE h) glE hA).mono fun e w' ⟨x, m', h1, p, h3⟩ => ⟨x, _, m', h1, h3, p.env, p.size, fun r hr => p.frame r hr fun b o hb hw => ?_⟩
  rcases h0E_get hb with ⟨-, rfl⟩ | ⟨-, rfl⟩ <;> cases hw

theorem Still.toExt {w w' : World} (h : Still w w') : Ext w w' := ⟨h.1.1, h.1.2.1, h.1.2.2, h.2.1, fun k hk => h.2.2 k hk⟩
theorem R_true {ν : Nat → Value} {n : Nat} {m : Mu} {b : Bool} {x : Value} (h : R n m ν (.bool b) x) : x = .bool b := R_bool h

end Go.Proofs.YtemdgilifnhdpaaGreatDoor.Ev
end

section
namespace Go.Proofs.YtemdgilifnhdpaaGreatDoor
open Go.RowKit

set_option maxRecDepth 100000 in
set_option maxHeartbeats 0 in
theorem reason301_run : Ev.isT (.str [77, 111, 118, 101, 100, 32, 80, 101, 114, 109, 97, 110, 101, 110, 116, 108, 121]) (Ev.run Tryz.prog Ev.smB 100000 (.fn 58 [.int .i64 301] Ev.h0E)) = true := by decide +kernel
theorem reason301_c (W : World) (h : Ev.MxE W) : Calls Tryz.prog 58 #[.int .i64 301] W (Gives (.string ⟨#[77, 111, 118, 101, 100, 32, 80, 101, 114, 109, 97, 110, 101, 110, 116, 108, 121]⟩) W) :=
  (Ev.runs (ν := fun _ => .bool true) (fun _ => rfl) reason301_run h (A := #[.int .i64 301]) (Ev.Rs.cons (by simp only [Ev.R]) Ev.Rs.nil)).mono fun e w' ⟨x, n, m, h1, h2, h3⟩ => ⟨by rw [h1, (Ev.R_str h2).1]; rfl, h3.toExt⟩
set_option maxRecDepth 100000 in
set_option maxHeartbeats 0 in
theorem reason400_run : Ev.isT (.str [66, 97, 100, 32, 82, 101, 113, 117, 101, 115, 116]) (Ev.run Tryz.prog Ev.smB 100000 (.fn 58 [.int .i64 400] Ev.h0E)) = true := by decide +kernel
theorem reason400_c (W : World) (h : Ev.MxE W) : Calls Tryz.prog 58 #[.int .i64 400] W (Gives (.string ⟨#[66, 97, 100, 32, 82, 101, 113, 117, 101, 115, 116]⟩) W) :=
  (Ev.runs (ν := fun _ => .bool true) (fun _ => rfl) reason400_run h (A := #[.int .i64 400]) (Ev.Rs.cons (by simp only [Ev.R]) Ev.Rs.nil)).mono fun e w' ⟨x, n, m, h1, h2, h3⟩ => ⟨by rw [h1, (Ev.R_str h2).1]; rfl, h3.toExt⟩
set_option maxRecDepth 100000 in
set_option maxHeartbeats 0 in
theorem reason404_run : Ev.isT (.str [78, 111, 116, 32, 70, 111, 117, 110, 100]) (Ev.run Tryz.prog Ev.smB 100000 (.fn 58 [.int .i64 404] Ev.h0E)) = true := by decide +kernel
theorem reason404_c (W : World) (h : Ev.MxE W) : Calls Tryz.prog 58 #[.int .i64 404] W (Gives (.string ⟨#[78, 111, 116, 32, 70, 111, 117, 110, 100]⟩) W) :=
  (Ev.runs (ν := fun _ => .bool true) (fun _ => rfl) reason404_run h (A := #[.int .i64 404]) (Ev.Rs.cons (by simp only [Ev.R]) Ev.Rs.nil)).mono fun e w' ⟨x, n, m, h1, h2, h3⟩ => ⟨by rw [h1, (Ev.R_str h2).1]; rfl, h3.toExt⟩
set_option maxRecDepth 100000 in
set_option maxHeartbeats 0 in
theorem reason405_run : Ev.isT (.str [77, 101, 116, 104, 111, 100, 32, 78, 111, 116, 32, 65, 108, 108, 111, 119, 101, 100]) (Ev.run Tryz.prog Ev.smB 100000 (.fn 58 [.int .i64 405] Ev.h0E)) = true := by decide +kernel
theorem reason405_c (W : World) (h : Ev.MxE W) : Calls Tryz.prog 58 #[.int .i64 405] W (Gives (.string ⟨#[77, 101, 116, 104, 111, 100, 32, 78, 111, 116, 32, 65, 108, 108, 111, 119, 101, 100]⟩) W) :=
  (Ev.runs (ν := fun _ => .bool true) (fun _ => rfl) reason405_run h (A := #[.int .i64 405]) (Ev.Rs.cons (by simp only [Ev.R]) Ev.Rs.nil)).mono fun e w' ⟨x, n, m, h1, h2, h3⟩ => ⟨by rw [h1, (Ev.R_str h2).1]; rfl, h3.toExt⟩
set_option maxRecDepth 100000 in
set_option maxHeartbeats 0 in
theorem reason412_run : Ev.isT (.str [80, 114, 101, 99, 111, 110, 100, 105, 116, 105, 111, 110, 32, 70, 97, 105, 108, 101, 100]) (Ev.run Tryz.prog Ev.smB 100000 (.fn 58 [.int .i64 412] Ev.h0E)) = true := by decide +kernel
theorem reason412_c (W : World) (h : Ev.MxE W) : Calls Tryz.prog 58 #[.int .i64 412] W (Gives (.string ⟨#[80, 114, 101, 99, 111, 110, 100, 105, 116, 105, 111, 110, 32, 70, 97, 105, 108, 101, 100]⟩) W) :=
  (Ev.runs (ν := fun _ => .bool true) (fun _ => rfl) reason412_run h (A := #[.int .i64 412]) (Ev.Rs.cons (by simp only [Ev.R]) Ev.Rs.nil)).mono fun e w' ⟨x, n, m, h1, h2, h3⟩ => ⟨by rw [h1, (Ev.R_str h2).1]; rfl, h3.toExt⟩
set_option maxRecDepth 100000 in
set_option maxHeartbeats 0 in
theorem reason416_run : Ev.isT (.str [82, 97, 110, 103, 101, 32, 78, 111, 116, 32, 83, 97, 116, 105, 115, 102, 105, 97, 98, 108, 101]) (Ev.run Tryz.prog Ev.smB 100000 (.fn 58 [.int .i64 416] Ev.h0E)) = true := by decide +kernel
theorem reason416_c (W : World) (h : Ev.MxE W) : Calls Tryz.prog 58 #[.int .i64 416] W (Gives (.string ⟨#[82, 97, 110, 103, 101, 32, 78, 111, 116, 32, 83, 97, 116, 105, 115, 102, 105, 97, 98, 108, 101]⟩) W) :=
  (Ev.runs (ν := fun _ => .bool true) (fun _ => rfl) reason416_run h (A := #[.int .i64 416]) (Ev.Rs.cons (by simp only [Ev.R]) Ev.Rs.nil)).mono fun e w' ⟨x, n, m, h1, h2, h3⟩ => ⟨by rw [h1, (Ev.R_str h2).1]; rfl, h3.toExt⟩
end Go.Proofs.YtemdgilifnhdpaaGreatDoor
end

section
namespace Go.Proofs.YtemdgilifnhdpaaGreatDoor
open Go.RowKit

def bc (l : List UInt8) : List Value := l.map fun b => .int .u8 (b.toNat : Int)
@[simp] theorem bc_len (l : List UInt8) : (bc l).length = l.length := by simp [bc]
theorem bc_at (l : List UInt8) (k : Nat) (h : k < l.length) : (bc l)[k]? = some (.int .u8 (l[k].toNat : Int)) := by simp [bc, h]
theorem bc_app (a b : List UInt8) : bc (a ++ b) = bc a ++ bc b := by simp [bc]
theorem bc_drop (a : List UInt8) (k : Nat) : (bc a).drop k = bc (a.drop k) := by simp [bc]
theorem bc_one (l : List UInt8) : ∀ u ∈ bc l, u.oneCell' = true := by
  intro u hu
  simp only [bc, List.mem_map] at hu
  obtain ⟨b, _, rfl⟩ := hu
  rfl
def str (l : List UInt8) : ByteArray := ⟨l.toArray⟩
@[simp] theorem str_data (l : List UInt8) : (str l).data.toList = l := rfl
@[simp] theorem str_toList (s : ByteArray) : str s.data.toList = s := by cases s; simp [str]
@[simp] theorem str_size (l : List UInt8) : (str l).size = l.length := by simp [str, ByteArray.size]

@[simp] theorem str_app (a b : List UInt8) : str a ++ str b = str (a ++ b) := by
  simp [str, ByteArray.mk_append_mk]
@[simp] theorem mk_app_str (a : Array UInt8) (b : List UInt8) : (⟨a⟩ : ByteArray) ++ str b = str (a.toList ++ b) := by
  rw [← str_app]; congr 1
@[simp] theorem str_app_mk (a : List UInt8) (b : Array UInt8) : str a ++ (⟨b⟩ : ByteArray) = str (a ++ b.toList) := by
  rw [← str_app]; congr 1
@[simp] theorem mk_app_mk (a b : Array UInt8) : (⟨a⟩ : ByteArray) ++ (⟨b⟩ : ByteArray) = str (a.toList ++ b.toList) := by
  rw [← str_app]; congr 1
theorem cat_ok {P : Program} (a b : ByteArray) (h : a.size + b.size ≤ 9223372036854775807) : ∀ w, (Op.stringOp .add a b).run P w = .ok (.string (a ++ b)) w := fun w => run_string_add_sum w a b h

section
variable {P : Program} (src dst e : TypeId)
theorem conv_bs (hs : P.underlying src = some (.slice e)) (he : P.underlying e = some (.int .u8)) (hd : P.underlying dst = some .string) {w : World} {A : Option Addr} {l : List UInt8} (h : Rd w A (bc l)) (n c : Nat) (hn : n = l.length) :
    (convert src dst (.slice A n c)).run P w = .ok (.string (str l)) w := by
  subst hn
  by_cases h0 : l = []
  · subst h0
    cases A with
    | none => exact run_convert_bytes_nil w src e hs he 0 c dst hd
    | some a => exact run_convert_bytes_back w src dst e a c [] hs he hd (fun j hj => by simp at hj)
  · obtain ⟨b, o, rfl, _, hc⟩ := h.at_ (by rw [bc_len]; exact List.length_pos_iff.2 h0)
    exact run_convert_bytes_back w src dst e ⟨b, o, none⟩ c l hs he hd (fun j hj => by rw [add_mk]; exact hc j _ (bc_at l j hj))
end
end Go.Proofs.YtemdgilifnhdpaaGreatDoor
end
