/-
Static: tags by files, both.
-/
import Derived.Test.YtemdgilifnhdpaaGreatDoorHex2
import Derived.Test.YtemdgilifnhdpaaGreatDoorHex1
import Derived.Test.YtemdgilifnhdpaaGreatDoorTrn
set_option linter.unusedVariables false
set_option linter.unusedSimpArgs false
namespace Go.Proofs.YtemdgilifnhdpaaGreatDoor
open Go.RowKit

def tagL (n mt ve : Int) : List UInt8 := hxL (u64N n) ++ [45] ++ hxL (u64N mt) ++ [45] ++ hxL (u64N ve)
theorem hex_sz (n : Int) : (hxL (u64N n)).length ≤ 16 := hx_len 15 (u64N n) (by have := u64N_lt n; omega)
theorem catS {P : Program} (l m : List UInt8) (h : l.length + m.length ≤ 140737488355328) (w : World) : (Op.stringOp .add (str l) (str m)).run P w = .ok (.string (str (l ++ m))) w := by
  rw [cat_ok _ _ (by rw [str_size, str_size]; omega)]; simp
set_option maxRecDepth 100000 in
set_option maxHeartbeats 4000000 in
theorem stTag_c (p : ByteArray) (A : Option Addr) (n c : Nat) (mt ve : Int) (w : World) (hB : Bru w) : Calls Tryz.prog 7 #[.agg #[.string p, .slice A n c, .int .i64 mt], .int .i64 ve] w (Gives (.agg #[.bool false, .string (str (tagL n mt ve))]) w) := by
  have CH := fun (w' : World) (e : Ext w w') => And.intro (HexDigits_c (n : Int) w' (hB.ext e)) (And.intro (HexDigits_c mt w' (hB.ext e)) (HexDigits_c ve w' (hB.ext e)))
  obtain ⟨h1, e1⟩ : ∃ x, x = hexB (n : Int) := ⟨_, rfl⟩
  obtain ⟨h2, e2⟩ : ∃ x, x = hexB mt := ⟨_, rfl⟩
  obtain ⟨h3, e3⟩ : ∃ x, x = hexB ve := ⟨_, rfl⟩
  obtain ⟨s1, f1⟩ : ∃ x, x = str (hxL (u64N n) ++ [45]) := ⟨_, rfl⟩
  obtain ⟨s2, f2⟩ : ∃ x, x = str (hxL (u64N n) ++ [45] ++ hxL (u64N mt)) := ⟨_, rfl⟩
  obtain ⟨s3, f3⟩ : ∃ x, x = str (hxL (u64N n) ++ [45] ++ hxL (u64N mt) ++ [45]) := ⟨_, rfl⟩
  obtain ⟨s4, f4⟩ : ∃ x, x = str (tagL n mt ve) := ⟨_, rfl⟩
  have g1 := hex_sz n
  have g2 := hex_sz mt
  have g3 := hex_sz ve
  have c1 : ∀ w, (Op.stringOp .add h1 ⟨#[45]⟩).run Tryz.prog w = .ok (.string s1) w := fun w => by rw [e1, f1]; exact catS _ [45] (by simp; omega) w
  have c2 : ∀ w, (Op.stringOp .add s1 h2).run Tryz.prog w = .ok (.string s2) w := fun w => by rw [f1, e2, f2]; exact catS _ _ (by simp; omega) w
  have c3 : ∀ w, (Op.stringOp .add s2 ⟨#[45]⟩).run Tryz.prog w = .ok (.string s3) w := fun w => by rw [f2, f3]; exact catS _ [45] (by simp; omega) w
  have c4 : ∀ w, (Op.stringOp .add s3 h3).run Tryz.prog w = .ok (.string s4) w := fun w => by rw [f3, e3, f4]; exact catS _ _ (by simp; omega) w
  have HF := Lib.hid f4
  rw [← f4]
  clear f1 f2 f3 f4 g1 g2 g3
  rw [← e1, ← e2, ← e3] at CH
  have HE := Lib.hid (And.intro e1 (And.intro e2 e3))
  clear e1 e2 e3
  go_enter Tryz.func7, Tryz.ntmps7
  go_upto_region 1 with (fail)
  obtain ⟨Wb, hWb⟩ : ∃ W, W = w.alloc (.cells #[.string p, .slice A n c, .int .i64 mt] 24) := ⟨_, rfl⟩
  rw [← hWb]
  have hxb : Ext w Wb := by rw [hWb]; (repeat (first | exact Ext.rfl' _ | assumption | refine Ext.dr ?_ | refine Ext.drN ?_ _ | refine Ext.al ?_ _ | refine Ext.st ?_ (by simp) _ | refine Ext.tr ?_ (by assumption)))
  have hrow : Wb.heap[w.heap.size]? = some (.cells #[.string p, .slice A n c, .int .i64 mt] 24 (0, 0)) := by rw [hWb]; exact heap_alloc_new w _
  have hks := Lib.hid (fun w' (e : Ext Wb w') => (show w'.cell? ⟨w.heap.size, 1, none⟩ = some (.slice A n c) ∧ w'.cell? ⟨w.heap.size, 2, none⟩ = some (.int .i64 mt) from by
    have h := (e.block w.heap.size (row_lt hrow)).trans hrow
    exact ⟨(row_facts h 1 _ rfl).1, (row_facts h 2 _ rfl).1⟩))
  have hzb : Wb.heap.size = w.heap.size + 1 := by rw [hWb]; simp
  have hrow2 : (Wb.alloc (.cells #[.bool false, .string ⟨#[]⟩] 29)).heap[w.heap.size + 1]? = some (.cells #[.bool false, .string ⟨#[]⟩] 29 (0, 0)) := by rw [← hzb]; exact heap_alloc_new Wb _
  have hq := Lib.hid (fun w' (e : Ext (Wb.alloc (.cells #[.bool false, .string ⟨#[]⟩] 29)) w') => (show (w'.cell? ⟨w.heap.size + 1, 0, none⟩ = some (.bool false) ∧ w'.frozen? ⟨w.heap.size + 1, 0, none⟩ = false) ∧ (w'.cell? ⟨w.heap.size + 1, 1, none⟩ = some (.string ⟨#[]⟩) ∧ w'.frozen? ⟨w.heap.size + 1, 1, none⟩ = false) from by
    have h := (e.block (w.heap.size + 1) (row_lt hrow2)).trans hrow2
    exact ⟨row_facts h 0 _ rfl, row_facts h 1 _ rfl⟩))
  have HZB := Lib.hid hzb
  have hxs := Lib.hid (fun w' u v (e : Ext Wb w') => (show Ext Wb ((w'.setCell ⟨w.heap.size + 1, 0, none⟩ u).setCell ⟨w.heap.size + 1, 1, none⟩ v) from Ext.st (Ext.st e (by rw [HZB.out]; exact Nat.le_refl _) u) (by rw [HZB.out]; exact Nat.le_refl _) v))
  have HXB := Lib.hid hxb
  have CH1 := Lib.hid (fun w' e => (CH w' e).1)
  have CH2 := Lib.hid (fun w' e => (CH w' e).2.1)
  have CH3 := Lib.hid (fun w' e => (CH w' e).2.2)
  clear CH
  clear hWb hxb hrow hzb hrow2
  go_region_held3 (fun w' => w'.cell? ⟨w.heap.size, 1, none⟩ = some (.slice A n c) ∧ w'.cell? ⟨w.heap.size, 2, none⟩ = some (.int .i64 mt)) (with_reducible first | exact hks.out _ (hxs.out _ _ _ (by (repeat (first | exact Ext.rfl' _ | assumption | refine Ext.dr ?_ | refine Ext.al ?_ _ | refine Ext.st ?_ (by simp) _ | refine Ext.tr ?_ (by assumption))))) | exact hks.out _ (by (repeat (first | exact Ext.rfl' _ | assumption | refine Ext.dr ?_ | refine Ext.al ?_ _ | refine Ext.st ?_ (by simp) _ | refine Ext.tr ?_ (by assumption))))) (first
    | (go_at_call 25; refine (CH1.out _ (HXB.out.tr (by (repeat (first | exact Ext.rfl' _ | assumption | refine Ext.dr ?_ | refine Ext.drN ?_ _ | refine Ext.al ?_ _ | refine Ext.st ?_ (by simp) _ | refine Ext.tr ?_ (by assumption)))))).mono ?_; clear CH1; rintro e w2 ⟨rfl, hx2⟩)
    | (go_at_call 25; refine (CH2.out _ (HXB.out.tr (by (repeat (first | exact Ext.rfl' _ | assumption | refine Ext.dr ?_ | refine Ext.drN ?_ _ | refine Ext.al ?_ _ | refine Ext.st ?_ (by simp) _ | refine Ext.tr ?_ (by assumption)))))).mono ?_; clear CH2; rintro e w3 ⟨rfl, hx3⟩)
    | (go_at_call 25; refine (CH3.out _ (HXB.out.tr (by (repeat (first | exact Ext.rfl' _ | assumption | refine Ext.dr ?_ | refine Ext.drN ?_ _ | refine Ext.al ?_ _ | refine Ext.st ?_ (by simp) _ | refine Ext.tr ?_ (by assumption)))))).mono ?_; rintro e w4 ⟨rfl, hx4⟩; obtain ⟨⟨y0, y1⟩, y2, y3⟩ := hq.out w4 (by (repeat (first | exact Ext.rfl' _ | assumption | refine Ext.dr ?_ | refine Ext.drN ?_ _ | refine Ext.al ?_ _ | refine Ext.st ?_ (by simp) _ | refine Ext.tr ?_ (by assumption))))))
  all_goals (
    go_wp2
    refine bodyPost_ret (v := .agg #[.bool false, .string s4]) (by simp [results, Tryz.results7, go_sem, y0, y1, y2, y3]) rfl ?_
    exact ⟨rfl, HXB.out.tr (Ext.st (Ext.st (by (repeat (first | exact Ext.rfl' _ | assumption | refine Ext.dr ?_ | refine Ext.drN ?_ _ | refine Ext.al ?_ _ | refine Ext.st ?_ (by simp) _ | refine Ext.tr ?_ (by assumption)))) (by rw [HZB.out]; exact Nat.le_refl _) _) (by rw [HZB.out]; exact Nat.le_refl _) _)⟩)
set_option maxRecDepth 100000 in
set_option maxHeartbeats 4000000 in
theorem rsTag_c (p : ByteArray) (A : Option Addr) (n c : Nat) (mt ve : Int) (w : World) : Calls Tryz.prog 8 #[.agg #[.string p, .slice A n c, .int .i64 mt], .int .i64 ve] w (Gives (.agg #[.bool false, .string (str (tagL n mt ve))]) w) := by
  have CH := fun (w' : World) (e : Ext w w') => And.intro (rHexDigits_c (n : Int) w') (And.intro (rHexDigits_c mt w') (rHexDigits_c ve w'))
  obtain ⟨h1, e1⟩ : ∃ x, x = hexB (n : Int) := ⟨_, rfl⟩
  obtain ⟨h2, e2⟩ : ∃ x, x = hexB mt := ⟨_, rfl⟩
  obtain ⟨h3, e3⟩ : ∃ x, x = hexB ve := ⟨_, rfl⟩
  obtain ⟨s1, f1⟩ : ∃ x, x = str (hxL (u64N n) ++ [45]) := ⟨_, rfl⟩
  obtain ⟨s2, f2⟩ : ∃ x, x = str (hxL (u64N n) ++ [45] ++ hxL (u64N mt)) := ⟨_, rfl⟩
  obtain ⟨s3, f3⟩ : ∃ x, x = str (hxL (u64N n) ++ [45] ++ hxL (u64N mt) ++ [45]) := ⟨_, rfl⟩
  obtain ⟨s4, f4⟩ : ∃ x, x = str (tagL n mt ve) := ⟨_, rfl⟩
  have g1 := hex_sz n
  have g2 := hex_sz mt
  have g3 := hex_sz ve
  have c1 : ∀ w, (Op.stringOp .add h1 ⟨#[45]⟩).run Tryz.prog w = .ok (.string s1) w := fun w => by rw [e1, f1]; exact catS _ [45] (by simp; omega) w
  have c2 : ∀ w, (Op.stringOp .add s1 h2).run Tryz.prog w = .ok (.string s2) w := fun w => by rw [f1, e2, f2]; exact catS _ _ (by simp; omega) w
  have c3 : ∀ w, (Op.stringOp .add s2 ⟨#[45]⟩).run Tryz.prog w = .ok (.string s3) w := fun w => by rw [f2, f3]; exact catS _ [45] (by simp; omega) w
  have c4 : ∀ w, (Op.stringOp .add s3 h3).run Tryz.prog w = .ok (.string s4) w := fun w => by rw [f3, e3, f4]; exact catS _ _ (by simp; omega) w
  have HF := Lib.hid f4
  rw [← f4]
  clear f1 f2 f3 f4 g1 g2 g3
  rw [← e1, ← e2, ← e3] at CH
  have HE := Lib.hid (And.intro e1 (And.intro e2 e3))
  clear e1 e2 e3
  go_enter Tryz.func8, Tryz.ntmps8
  go_upto_region 1 with (fail)
  obtain ⟨Wb, hWb⟩ : ∃ W, W = w.alloc (.cells #[.string p, .slice A n c, .int .i64 mt] 24) := ⟨_, rfl⟩
  rw [← hWb]
  have hxb : Ext w Wb := by rw [hWb]; (repeat (first | exact Ext.rfl' _ | assumption | refine Ext.dr ?_ | refine Ext.drN ?_ _ | refine Ext.al ?_ _ | refine Ext.st ?_ (by simp) _ | refine Ext.tr ?_ (by assumption)))
  have hrow : Wb.heap[w.heap.size]? = some (.cells #[.string p, .slice A n c, .int .i64 mt] 24 (0, 0)) := by rw [hWb]; exact heap_alloc_new w _
  have hks := Lib.hid (fun w' (e : Ext Wb w') => (show w'.cell? ⟨w.heap.size, 1, none⟩ = some (.slice A n c) ∧ w'.cell? ⟨w.heap.size, 2, none⟩ = some (.int .i64 mt) from by
    have h := (e.block w.heap.size (row_lt hrow)).trans hrow
    exact ⟨(row_facts h 1 _ rfl).1, (row_facts h 2 _ rfl).1⟩))
  have hzb : Wb.heap.size = w.heap.size + 1 := by rw [hWb]; simp
  have hrow2 : (Wb.alloc (.cells #[.bool false, .string ⟨#[]⟩] 31)).heap[w.heap.size + 1]? = some (.cells #[.bool false, .string ⟨#[]⟩] 31 (0, 0)) := by rw [← hzb]; exact heap_alloc_new Wb _
  have hq := Lib.hid (fun w' (e : Ext (Wb.alloc (.cells #[.bool false, .string ⟨#[]⟩] 31)) w') => (show (w'.cell? ⟨w.heap.size + 1, 0, none⟩ = some (.bool false) ∧ w'.frozen? ⟨w.heap.size + 1, 0, none⟩ = false) ∧ (w'.cell? ⟨w.heap.size + 1, 1, none⟩ = some (.string ⟨#[]⟩) ∧ w'.frozen? ⟨w.heap.size + 1, 1, none⟩ = false) from by
    have h := (e.block (w.heap.size + 1) (row_lt hrow2)).trans hrow2
    exact ⟨row_facts h 0 _ rfl, row_facts h 1 _ rfl⟩))
  have HZB := Lib.hid hzb
  have hxs := Lib.hid (fun w' u v (e : Ext Wb w') => (show Ext Wb ((w'.setCell ⟨w.heap.size + 1, 0, none⟩ u).setCell ⟨w.heap.size + 1, 1, none⟩ v) from Ext.st (Ext.st e (by rw [HZB.out]; exact Nat.le_refl _) u) (by rw [HZB.out]; exact Nat.le_refl _) v))
  have HXB := Lib.hid hxb
  have CH1 := Lib.hid (fun w' e => (CH w' e).1)
  have CH2 := Lib.hid (fun w' e => (CH w' e).2.1)
  have CH3 := Lib.hid (fun w' e => (CH w' e).2.2)
  clear CH
  clear hWb hxb hrow hzb hrow2
  go_region_held3 (fun w' => w'.cell? ⟨w.heap.size, 1, none⟩ = some (.slice A n c) ∧ w'.cell? ⟨w.heap.size, 2, none⟩ = some (.int .i64 mt)) (with_reducible first | exact hks.out _ (hxs.out _ _ _ (by (repeat (first | exact Ext.rfl' _ | assumption | refine Ext.dr ?_ | refine Ext.al ?_ _ | refine Ext.st ?_ (by simp) _ | refine Ext.tr ?_ (by assumption))))) | exact hks.out _ (by (repeat (first | exact Ext.rfl' _ | assumption | refine Ext.dr ?_ | refine Ext.al ?_ _ | refine Ext.st ?_ (by simp) _ | refine Ext.tr ?_ (by assumption))))) (first
    | (go_at_call 26; refine (CH1.out _ (HXB.out.tr (by (repeat (first | exact Ext.rfl' _ | assumption | refine Ext.dr ?_ | refine Ext.drN ?_ _ | refine Ext.al ?_ _ | refine Ext.st ?_ (by simp) _ | refine Ext.tr ?_ (by assumption)))))).mono ?_; clear CH1; rintro e w2 ⟨rfl, hx2⟩)
    | (go_at_call 26; refine (CH2.out _ (HXB.out.tr (by (repeat (first | exact Ext.rfl' _ | assumption | refine Ext.dr ?_ | refine Ext.drN ?_ _ | refine Ext.al ?_ _ | refine Ext.st ?_ (by simp) _ | refine Ext.tr ?_ (by assumption)))))).mono ?_; clear CH2; rintro e w3 ⟨rfl, hx3⟩)
    | (go_at_call 26; refine (CH3.out _ (HXB.out.tr (by (repeat (first | exact Ext.rfl' _ | assumption | refine Ext.dr ?_ | refine Ext.drN ?_ _ | refine Ext.al ?_ _ | refine Ext.st ?_ (by simp) _ | refine Ext.tr ?_ (by assumption)))))).mono ?_; rintro e w4 ⟨rfl, hx4⟩; obtain ⟨⟨y0, y1⟩, y2, y3⟩ := hq.out w4 (by (repeat (first | exact Ext.rfl' _ | assumption | refine Ext.dr ?_ | refine Ext.drN ?_ _ | refine Ext.al ?_ _ | refine Ext.st ?_ (by simp) _ | refine Ext.tr ?_ (by assumption))))))
  all_goals (
    go_wp2
    refine bodyPost_ret (v := .agg #[.bool false, .string s4]) (by simp [results, Tryz.results8, go_sem, y0, y1, y2, y3]) rfl ?_
    exact ⟨rfl, HXB.out.tr (Ext.st (Ext.st (by (repeat (first | exact Ext.rfl' _ | assumption | refine Ext.dr ?_ | refine Ext.drN ?_ _ | refine Ext.al ?_ _ | refine Ext.st ?_ (by simp) _ | refine Ext.tr ?_ (by assumption)))) (by rw [HZB.out]; exact Nat.le_refl _) _) (by rw [HZB.out]; exact Nat.le_refl _) _)⟩)
end Go.Proofs.YtemdgilifnhdpaaGreatDoor
