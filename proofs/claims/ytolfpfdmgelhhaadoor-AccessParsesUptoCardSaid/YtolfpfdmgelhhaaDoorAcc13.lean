/-
An entry's parts, asked with a text: it is taken in, and written.
-/
import Derived.Test.YtolfpfdmgelhhaaDoorAPl
set_option linter.unusedVariables false
set_option linter.unusedSimpArgs false
namespace Go.Proofs.YtolfpfdmgelhhaaDoor
open Go.RowKit

set_option maxRecDepth 100000 in
set_option maxHeartbeats 2000000 in
/-- A number that is read. -/
theorem aPartsNF_ok (Bn B a : Nat) (l : List UInt8) (v : Int) (w : World) (hl : l.length ≤ 140737488355328) (hv : numL 10 1000000000000000000 l = (v, 0)) (hE : ErrR w) (h0 : 0 ≤ v) (h1 : v ≤ 1000000000000000000)
    (hne : Bn ≠ B) {cs : Array Value} {t : TypeId} (hBn : w.cell? ⟨Bn, 0, none⟩ = some (.pointer (some ⟨B, a, none⟩))) (hB : w.heap[B]? = some (.cells cs t (0, 0))) {n0 : Int} (hc : cs[a]? = some (.int .i64 n0))
    (hP : ∀ wa, Ext w wa → Pow (wa.setCell ⟨B, a, none⟩ (.int .i64 v))) :
    Calls Tryd.prog 106 #[.string (str l), .pointer (some ⟨Bn, 0, none⟩)] w fun e w' => e = .returned (.tuple #[.string (decB v), .bool true]) ∧ ∃ wa, Ext w wa ∧ Ext (wa.setCell ⟨B, a, none⟩ (.int .i64 v)) w' := by
  have C := fun w hE => Decimal_c l hl w hE
  rw [hv] at C
  have C := Lib.hid C
  have D := Lib.hid (fun w hP => Digits_c v w hP (by omega) (by omega))
  have HE := Lib.hid hE
  have HP := Lib.hid hP
  have HX := Lib.hid (fun (w' : World) (x : Ext w w') => (show w'.cell? ⟨Bn, 0, none⟩ = some (.pointer (some ⟨B, a, none⟩)) ∧ w'.cell? ⟨B, a, none⟩ = some (.int .i64 n0) ∧ w'.frozen? ⟨B, a, none⟩ = false ∧ (w'.setCell ⟨B, a, none⟩ (.int .i64 v)).cell? ⟨Bn, 0, none⟩ = some (.pointer (some ⟨B, a, none⟩)) ∧ (w'.setCell ⟨B, a, none⟩ (.int .i64 v)).cell? ⟨B, a, none⟩ = some (.int .i64 v) from by
    have g := (x.cell (lt_of_cell hBn)).trans hBn
    have g2 := hp_ext x hB
    have hlt := (Array.getElem?_eq_some_iff.1 hc).1
    refine ⟨g, cell_hp g2 hc, frozen_hp g2, ?_, ?_⟩
    · rw [World.cell?_setCell_far _ _ _ _ (Ne.symm hne)]; exact g
    · simp [World.cell?, World.setCell, Array.getElem?_modify, g2, hlt]))
  clear hE hP hBn hB hv hc
  go_enter Tryd.func106, Tryd.ntmps106
  go_wp2_with (first
    | (go_at_call 107; refine (C.out _ (HE.out.ext (by (repeat (first | exact Ext.rfl' _ | assumption | refine Ext.dr ?_ | refine Ext.drN ?_ _ | refine Ext.al ?_ _ | refine Ext.st ?_ (by simp) _ | refine Ext.tr ?_ (by assumption)))))).mono ?_; rintro e w1 ⟨rfl, hx1⟩; obtain ⟨k1, k2, k3, k4, k5⟩ := HX.out w1 (by (repeat (first | exact Ext.rfl' _ | assumption | refine Ext.dr ?_ | refine Ext.drN ?_ _ | refine Ext.al ?_ _ | refine Ext.st ?_ (by simp) _ | refine Ext.tr ?_ (by assumption)))))
    | (go_at_call 64; refine (D.out _ (HP.out _ hx1)).mono ?_; rintro e w2 ⟨rfl, hx2⟩))
  go_ret2
  exact ⟨rfl, w1, hx1, hx2⟩
set_option maxRecDepth 100000 in
set_option maxHeartbeats 2000000 in
/-- A number that is none. -/
theorem aPartsNF_no (Bn B a : Nat) (l : List UInt8) (v ee n0 : Int) (w : World) (hl : l.length ≤ 140737488355328) (hv : numL 10 1000000000000000000 l = (v, ee)) (hee : ee ≠ 0) (hE : ErrR w) (hP : Pow w) (h0 : -9223372036854775808 ≤ n0) (h1 : n0 ≤ 9223372036854775807) (hBn : w.cell? ⟨Bn, 0, none⟩ = some (.pointer (some ⟨B, a, none⟩))) (hB : w.cell? ⟨B, a, none⟩ = some (.int .i64 n0)) :
    Calls Tryd.prog 106 #[.string (str l), .pointer (some ⟨Bn, 0, none⟩)] w (Gives (.tuple #[.string (decB n0), .bool false]) w) := by
  have C := fun w hE => Decimal_c l hl w hE
  rw [hv] at C
  have C := Lib.hid C
  have D := Lib.hid (fun w hP => Digits_c n0 w hP h0 h1)
  have HE := Lib.hid hE
  have HP := Lib.hid hP
  have d1 : (ee == 0) = false := by rw [beq_eq_false_iff_ne]; exact hee
  have HX := Lib.hid (fun (w' : World) (x : Ext w w') => (show w'.cell? ⟨Bn, 0, none⟩ = some (.pointer (some ⟨B, a, none⟩)) ∧ w'.cell? ⟨B, a, none⟩ = some (.int .i64 n0) from ⟨(x.cell (lt_of_cell hBn)).trans hBn, (x.cell (lt_of_cell hB)).trans hB⟩))
  clear hE hP hBn hB hv hee
  go_enter Tryd.func106, Tryd.ntmps106
  go_wp2_with (first
    | (go_at_call 107; refine (C.out _ (HE.out.ext (by (repeat (first | exact Ext.rfl' _ | assumption | refine Ext.dr ?_ | refine Ext.drN ?_ _ | refine Ext.al ?_ _ | refine Ext.st ?_ (by simp) _ | refine Ext.tr ?_ (by assumption)))))).mono ?_; rintro e w1 ⟨rfl, hx1⟩; obtain ⟨k1, k2⟩ := HX.out w1 (by (repeat (first | exact Ext.rfl' _ | assumption | refine Ext.dr ?_ | refine Ext.drN ?_ _ | refine Ext.al ?_ _ | refine Ext.st ?_ (by simp) _ | refine Ext.tr ?_ (by assumption)))))
    | (go_at_call 64; refine (D.out _ (HP.out.ext (by (repeat (first | exact Ext.rfl' _ | assumption | refine Ext.dr ?_ | refine Ext.drN ?_ _ | refine Ext.al ?_ _ | refine Ext.st ?_ (by simp) _ | refine Ext.tr ?_ (by assumption)))))).mono ?_; rintro e w2 ⟨rfl, hx2⟩))
  go_ret2
  exact ⟨rfl, by (repeat (first | exact Ext.rfl' _ | assumption | refine Ext.dr ?_ | refine Ext.drN ?_ _ | refine Ext.al ?_ _ | refine Ext.st ?_ (by simp) _ | refine Ext.tr ?_ (by assumption)))⟩
set_option maxRecDepth 100000 in
set_option maxHeartbeats 2000000 in
/-- A text that is read. -/
theorem aPartsTF_ok (Bn B a : Nat) (l : List UInt8) (t0 : List UInt8) (w : World) (hl : l.length ≤ 35184372088832) (hne0 : l ≠ []) (hE : ErrR w)
    (hne : Bn ≠ B) {cs : Array Value} {t : TypeId} (hBn : w.cell? ⟨Bn, 0, none⟩ = some (.pointer (some ⟨B, a, none⟩))) (hB : w.heap[B]? = some (.cells cs t (0, 0))) (hc : cs[a]? = some (.string (str t0))) :
    Calls Tryd.prog 109 #[.string (str l), .pointer (some ⟨Bn, 0, none⟩)] w fun e w' => e = .returned (.tuple #[.string (str (escL (unL l))), .bool true]) ∧ ∃ wa, Ext w wa ∧ Ext (wa.setCell ⟨B, a, none⟩ (.string (str (unL l)))) w' := by
  have hul := unL_len l
  have C := fun w hE => aUnescape_c l (by omega) w hE
  have D := fun w => aEscape_c (unL l) (by omega) w
  obtain ⟨u, hu⟩ : ∃ u, u = unL l := ⟨_, rfl⟩
  rw [← hu] at C D ⊢
  have C := Lib.hid C
  have D := Lib.hid D
  have HE := Lib.hid hE
  have e1 : l.isEmpty = false := by rw [List.isEmpty_eq_false_iff]; exact hne0
  have e2 : (str l).toList.isEmpty = false := by rw [Lib.toList_data]; exact e1
  have HX := Lib.hid (fun (w' : World) (x : Ext w w') => (show w'.cell? ⟨Bn, 0, none⟩ = some (.pointer (some ⟨B, a, none⟩)) ∧ w'.cell? ⟨B, a, none⟩ = some (.string (str t0)) ∧ w'.frozen? ⟨B, a, none⟩ = false ∧ (w'.setCell ⟨B, a, none⟩ (.string (str u))).cell? ⟨Bn, 0, none⟩ = some (.pointer (some ⟨B, a, none⟩)) ∧ (w'.setCell ⟨B, a, none⟩ (.string (str u))).cell? ⟨B, a, none⟩ = some (.string (str u)) from by
    have g := (x.cell (lt_of_cell hBn)).trans hBn
    have g2 := hp_ext x hB
    have hlt := (Array.getElem?_eq_some_iff.1 hc).1
    refine ⟨g, cell_hp g2 hc, frozen_hp g2, ?_, ?_⟩
    · rw [World.cell?_setCell_far _ _ _ _ (Ne.symm hne)]; exact g
    · simp [World.cell?, World.setCell, Array.getElem?_modify, g2, hlt]))
  have hks := Lib.hid (fun w' (x : Ext w w') => (HX.out w' x).1)
  clear hE hB hc hu hul hne0
  go_enter Tryd.func109, Tryd.ntmps109
  go_wp2
  go_region_held3 (fun w' => w'.cell? ⟨Bn, 0, none⟩ = some (.pointer (some ⟨B, a, none⟩))) (first | assumption | exact hks.out _ (by (repeat (first | exact Ext.rfl' _ | assumption | refine Ext.dr ?_ | refine Ext.drN ?_ _ | refine Ext.al ?_ _ | refine Ext.st ?_ (by simp) _ | refine Ext.tr ?_ (by assumption))))) (first
    | (go_at_call 110; refine (C.out _ (HE.out.ext (by (repeat (first | exact Ext.rfl' _ | assumption | refine Ext.dr ?_ | refine Ext.drN ?_ _ | refine Ext.al ?_ _ | refine Ext.st ?_ (by simp) _ | refine Ext.tr ?_ (by assumption)))))).mono ?_; rintro e w1 ⟨rfl, hx1⟩; obtain ⟨k1, k2, k3, k4, k5⟩ := HX.out w1 (by (repeat (first | exact Ext.rfl' _ | assumption | refine Ext.dr ?_ | refine Ext.drN ?_ _ | refine Ext.al ?_ _ | refine Ext.st ?_ (by simp) _ | refine Ext.tr ?_ (by assumption))))))
  all_goals (
    go_wp2_with (go_at_call 111; refine (D.out _).mono ?_; rintro e w2 ⟨rfl, hx2⟩)
    go_ret2
    exact ⟨rfl, w1, by (repeat (first | exact Ext.rfl' _ | assumption | refine Ext.dr ?_ | refine Ext.drN ?_ _ | refine Ext.al ?_ _ | refine Ext.st ?_ (by simp) _ | refine Ext.tr ?_ (by assumption))), hx2⟩)
set_option maxRecDepth 100000 in
set_option maxHeartbeats 2000000 in
/-- No text: it is not read. -/
theorem aPartsTF_no (Bn B a : Nat) (t : List UInt8) (w : World) (ht : t.length ≤ 35184372088832) (hBn : w.cell? ⟨Bn, 0, none⟩ = some (.pointer (some ⟨B, a, none⟩))) (hB : w.cell? ⟨B, a, none⟩ = some (.string (str t))) :
    Calls Tryd.prog 109 #[.string (str []), .pointer (some ⟨Bn, 0, none⟩)] w (Gives (.tuple #[.string (str (escL t)), .bool false]) w) := aPartsTF_nil Bn B a t w ht hBn hB
end Go.Proofs.YtolfpfdmgelhhaaDoor
