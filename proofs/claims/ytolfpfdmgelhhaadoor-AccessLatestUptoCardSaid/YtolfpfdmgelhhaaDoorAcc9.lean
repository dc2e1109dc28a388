/-
Lines: what must come; the law AccessLines as a walk.
-/
import Derived.Test.YtolfpfdmgelhhaaDoorAcc8
import Derived.Test.YtolfpfdmgelhhaaDoorShelfS
set_option linter.unusedVariables false
set_option linter.unusedSimpArgs false
namespace Go.Proofs.YtolfpfdmgelhhaaDoor
open Go.RowKit

/-- The library's own number holds some number. -/
def Mx (w : World) : Prop := ∃ m, w.cell? ⟨0, 0, none⟩ = some (.int .i64 m)
theorem Mx.ext {w w' : World} (h : Mx w) (x : Ext w w') : Mx w' := by
  obtain ⟨m, h⟩ := h
  exact ⟨m, by rw [← h]; exact x.cell (lt_of_cell h)⟩
theorem mx_of {w : World} (h : w.ShapedOpen Tryd.prog) : Mx w := Tryd.laysM146.s1_3 w h
set_option maxRecDepth 100000 in
theorem num21_c (x : Int) (w : World) : Calls Tryd.prog 25 #[.int .i64 x] w fun e w' => e = .returned (.int .i64 x) ∧ w = w' := by
  go_enter Tryd.func25, Tryd.ntmps25
  go_wp2
  go_ret
  exact ⟨rfl, rfl⟩
/-- Eight cells of a block that was just made. -/
theorem eight {w w' : World} {b : Nat} {x0 x1 x2 x3 x4 x5 x6 x7 : Value} {t : TypeId} (h : w.heap[b]? = some (.cells #[x0, x1, x2, x3, x4, x5, x6, x7] t (0, 0))) (x : Ext w w') :
    w'.cell? ⟨b, 0, none⟩ = some x0 ∧ w'.cell? ⟨b, 1, none⟩ = some x1 ∧ w'.cell? ⟨b, 2, none⟩ = some x2 ∧ w'.cell? ⟨b, 3, none⟩ = some x3 ∧ w'.cell? ⟨b, 4, none⟩ = some x4 ∧ w'.cell? ⟨b, 5, none⟩ = some x5 ∧ w'.cell? ⟨b, 6, none⟩ = some x6 ∧ w'.cell? ⟨b, 7, none⟩ = some x7 :=
  ⟨cell_hp (hp_ext x h) rfl, cell_hp (hp_ext x h) rfl, cell_hp (hp_ext x h) rfl, cell_hp (hp_ext x h) rfl, cell_hp (hp_ext x h) rfl, cell_hp (hp_ext x h) rfl, cell_hp (hp_ext x h) rfl, cell_hp (hp_ext x h) rfl⟩
theorem put8 {W : World} {b : Nat} {x0 x1 x2 x3 x4 x5 x6 x7 : Value} {t : TypeId} (h : W.heap[b]? = some (.cells #[x0, x1, x2, x3, x4, x5, x6, x7] t (0, 0))) (v0 v1 v2 v3 v4 v5 v6 v7 : Value) :
    ((((((((W.setCell ⟨b, 0, none⟩ v0).setCell ⟨b, 1, none⟩ v1).setCell ⟨b, 2, none⟩ v2).setCell ⟨b, 3, none⟩ v3).setCell ⟨b, 4, none⟩ v4).setCell ⟨b, 5, none⟩ v5).setCell ⟨b, 6, none⟩ v6).setCell ⟨b, 7, none⟩ v7).heap[b]? = some (.cells #[v0, v1, v2, v3, v4, v5, v6, v7] t (0, 0)) := by
  simp [World.setCell, Array.getElem?_modify, h]
theorem ext8 {w W : World} {b : Nat} (hb : w.heap.size ≤ b) (x : Ext w W) (v0 v1 v2 v3 v4 v5 v6 v7 : Value) :
    Ext w ((((((((W.setCell ⟨b, 0, none⟩ v0).setCell ⟨b, 1, none⟩ v1).setCell ⟨b, 2, none⟩ v2).setCell ⟨b, 3, none⟩ v3).setCell ⟨b, 4, none⟩ v4).setCell ⟨b, 5, none⟩ v5).setCell ⟨b, 6, none⟩ v6).setCell ⟨b, 7, none⟩ v7) :=
  ((((((((x.st hb _).st hb _).st hb _).st hb _).st hb _).st hb _).st hb _).st hb _)
set_option maxRecDepth 100000 in
set_option maxHeartbeats 2000000 in
theorem aOwn_c (x : Ent) (w : World) : Calls Tryd.prog 24 #[x.val] w (Gives x.val w) := by
  unfold Ent.val
  unfold Ent.cells
  go_enter Tryd.func24, Tryd.ntmps24
  go_wp2
  obtain ⟨r0, r1, r2, r3, r4, r5, r6, r7⟩ := eight (hp_new (w := w.alloc (.cells #[.int .i64 x.t, .string (str x.c), .string (str x.m), .string (str x.h), .string (str x.g), .int .i64 x.s, .int .i64 x.b, .string (str x.a)] 41)) (g := w.heap.size + 1) (by simp) (.cells #[.int .i64 x.t, .string (str x.c), .string (str x.m), .string (str x.h), .string (str x.g), .int .i64 x.s, .int .i64 x.b, .string (str x.a)] 38)) (Ext.rfl' _)
  exact bodyPost_ret (v := .agg #[.int .i64 x.t, .string (str x.c), .string (str x.m), .string (str x.h), .string (str x.g), .int .i64 x.s, .int .i64 x.b, .string (str x.a)]) (by simp [results, Tryd.results24, go_sem] at r0 r1 r2 r3 r4 r5 r6 r7 ⊢) rfl ⟨rfl, by (repeat (first | exact Ext.rfl' _ | assumption | refine Ext.dr ?_ | refine Ext.drN ?_ _ | refine Ext.al ?_ _ | refine Ext.st ?_ (by simp) _ | refine Ext.tr ?_ (by assumption)))⟩
def zeroE : Array Value := #[.int .i64 0, .string ⟨#[]⟩, .string ⟨#[]⟩, .string ⟨#[]⟩, .string ⟨#[]⟩, .int .i64 0, .int .i64 0, .string ⟨#[]⟩]
set_option maxRecDepth 100000 in
set_option maxHeartbeats 2000000 in
theorem aParse_five (w : World) (hM : Mx w) : Calls Tryd.prog 22 #[.string ⟨#[53]⟩] w (Gives (.tuple #[.agg zeroE, .int .i64 42]) w) := by
  have HM := Lib.hid hM
  clear hM
  have C : ∀ (w : World), Mx w → Calls Tryd.prog 68 #[.string ⟨#[53]⟩, .string ⟨#[32]⟩] w fun e w' => e = .returned (.slice (some ⟨w.heap.size, 0, none⟩) 1 1) ∧ Ext w w' := fun w hm => by
    obtain ⟨m, hm⟩ := hm
    have K := Tryd.strings_Split ⟨#[53]⟩ ⟨#[32]⟩ m w (by decide) hm (by decide)
    rw [show Lib.countB ⟨#[53]⟩ ⟨#[32]⟩ = 0 from by decide +kernel] at K
    exact K.mono fun e w' ⟨h1, h2⟩ => ⟨h1, by rw [h2]; (repeat (first | exact Ext.rfl' _ | assumption | refine Ext.dr ?_ | refine Ext.drN ?_ _ | refine Ext.al ?_ _ | refine Ext.st ?_ (by simp) _ | refine Ext.tr ?_ (by assumption)))⟩
  have C := Lib.hid C
  go_enter Tryd.func22, Tryd.ntmps22
  go_wp2_with (go_at_call 68; refine (C.out _ (HM.out.ext (by (repeat (first | exact Ext.rfl' _ | assumption | refine Ext.dr ?_ | refine Ext.drN ?_ _ | refine Ext.al ?_ _ | refine Ext.st ?_ (by simp) _ | refine Ext.tr ?_ (by assumption)))))).mono ?_; rintro e w1 ⟨rfl, hx1⟩; have HB := Lib.hid (hp_ext hx1 (hp_al (heap_alloc_new w _))); have k0 := frozen_hp (j := 0) HB.out; have k1 := frozen_hp (j := 1) HB.out; have k2 := frozen_hp (j := 2) HB.out; have k3 := frozen_hp (j := 3) HB.out; have k4 := frozen_hp (j := 4) HB.out; have k5 := frozen_hp (j := 5) HB.out; have k6 := frozen_hp (j := 6) HB.out; have k7 := frozen_hp (j := 7) HB.out; obtain ⟨r0, r1, r2, r3, r4, r5, r6, r7⟩ := eight HB.out (Ext.rfl' _))
  have hp := put8 HB.out (.int .i64 0) (.string ⟨#[]⟩) (.string ⟨#[]⟩) (.string ⟨#[]⟩) (.string ⟨#[]⟩) (.int .i64 0) (.int .i64 0) (.string ⟨#[]⟩)
  have hx := ext8 (b := w.heap.size) (Nat.le_refl _) (show Ext w w1 by (repeat (first | exact Ext.rfl' _ | assumption | refine Ext.dr ?_ | refine Ext.drN ?_ _ | refine Ext.al ?_ _ | refine Ext.st ?_ (by simp) _ | refine Ext.tr ?_ (by assumption)))) (.int .i64 0) (.string ⟨#[]⟩) (.string ⟨#[]⟩) (.string ⟨#[]⟩) (.string ⟨#[]⟩) (.int .i64 0) (.int .i64 0) (.string ⟨#[]⟩)
  obtain ⟨W9, hW9⟩ : ∃ W9, W9 = ((((((((w1.setCell ⟨w.heap.size, 0, none⟩ (.int .i64 0)).setCell ⟨w.heap.size, 1, none⟩ (.string ⟨#[]⟩)).setCell ⟨w.heap.size, 2, none⟩ (.string ⟨#[]⟩)).setCell ⟨w.heap.size, 3, none⟩ (.string ⟨#[]⟩)).setCell ⟨w.heap.size, 4, none⟩ (.string ⟨#[]⟩)).setCell ⟨w.heap.size, 5, none⟩ (.int .i64 0)).setCell ⟨w.heap.size, 6, none⟩ (.int .i64 0)).setCell ⟨w.heap.size, 7, none⟩ (.string ⟨#[]⟩)) := ⟨_, rfl⟩
  rw [← hW9] at hp hx ⊢
  clear hW9 r0 r1 r2 r3 r4 r5 r6 r7 k0 k1 k2 k3 k4 k5 k6 k7
  obtain ⟨r0, r1, r2, r3, r4, r5, r6, r7⟩ := eight hp (Ext.rfl' _)
  exact bodyPost_ret (v := .tuple #[.agg zeroE, .int .i64 42]) (by unfold zeroE; simp [results, Tryd.results22, go_sem, r0, r1, r2, r3, r4, r5, r6, r7]) rfl ⟨rfl, hx⟩
def knownE : Ent := { t := 5, c := [49], m := [71, 69, 84], h := [97], g := [47, 120, 32, 121], s := 200, b := 3, a := [] }
theorem known_line : lineL knownE = ([53, 32, 49, 32, 71, 69, 84, 32, 97, 32, 47, 120, 37, 50, 48, 121, 32, 50, 48, 48, 32, 51, 32, 45], 0) := by decide +kernel
set_option maxRecDepth 100000 in
set_option maxHeartbeats 4000000 in
theorem knows21_c (w : World) (hE : ErrR w) (hP : Pow w) (hM : Mx w) : Calls Tryd.prog 26 #[] w (Gives (.bool true) w) := by
  have C1 := fun (w : World) (hE : ErrR w) (hP : Pow w) => aLine_c knownE (by unfold Ent.wf knownE; decide) w hE hP
  rw [known_line] at C1
  unfold Ent.val Ent.cells knownE at C1
  dsimp only at C1
  rw [show str [49] = ⟨#[49]⟩ from rfl, show str [71, 69, 84] = ⟨#[71, 69, 84]⟩ from rfl, show str [97] = ⟨#[97]⟩ from rfl, show str [47, 120, 32, 121] = ⟨#[47, 120, 32, 121]⟩ from rfl, show str ([] : List UInt8) = ⟨#[]⟩ from rfl, show str ([53, 32, 49, 32, 71, 69, 84, 32, 97, 32, 47, 120, 37, 50, 48, 121, 32, 50, 48, 48, 32, 51, 32, 45] : List UInt8) = ⟨#[53, 32, 49, 32, 71, 69, 84, 32, 97, 32, 47, 120, 37, 50, 48, 121, 32, 50, 48, 48, 32, 51, 32, 45]⟩ from rfl] at C1
  have C1 := Lib.hid C1
  have C2 := Lib.hid (fun w h => aParse_five w h)
  have HE := Lib.hid hE
  have HP := Lib.hid hP
  have HM := Lib.hid hM
  clear hE hP hM
  go_enter Tryd.func26, Tryd.ntmps26
  go_wp2_with (first
    | (go_at_call 27; refine (C1.out _ (HE.out.ext (by (repeat (first | exact Ext.rfl' _ | assumption | refine Ext.dr ?_ | refine Ext.drN ?_ _ | refine Ext.al ?_ _ | refine Ext.st ?_ (by simp) _ | refine Ext.tr ?_ (by assumption))))) (HP.out.ext (by (repeat (first | exact Ext.rfl' _ | assumption | refine Ext.dr ?_ | refine Ext.drN ?_ _ | refine Ext.al ?_ _ | refine Ext.st ?_ (by simp) _ | refine Ext.tr ?_ (by assumption)))))).mono ?_; rintro e w1 ⟨rfl, hx1⟩)
    | (go_at_call 22; refine (C2.out _ (HM.out.ext (by (repeat (first | exact Ext.rfl' _ | assumption | refine Ext.dr ?_ | refine Ext.drN ?_ _ | refine Ext.al ?_ _ | refine Ext.st ?_ (by simp) _ | refine Ext.tr ?_ (by assumption)))))).mono ?_; rintro e w2 ⟨rfl, hx2⟩; unfold zeroE)
    | (go_at_call 25; refine (num21_c _ _).mono ?_; rintro e w3 ⟨rfl, rfl⟩))
  go_ret
  exact ⟨rfl, by (repeat (first | exact Ext.rfl' _ | assumption | refine Ext.dr ?_ | refine Ext.drN ?_ _ | refine Ext.al ?_ _ | refine Ext.st ?_ (by simp) _ | refine Ext.tr ?_ (by assumption)))⟩
end Go.Proofs.YtolfpfdmgelhhaaDoor
