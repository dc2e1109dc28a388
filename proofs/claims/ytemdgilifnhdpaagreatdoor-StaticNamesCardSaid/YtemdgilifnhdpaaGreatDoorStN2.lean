/-
Static: the law StaticNames, walked: kinds by names, tags by files, no world is no answer.
-/
import Derived.Test.YtemdgilifnhdpaaGreatDoorStN1
import Derived.Test.YtemdgilifnhdpaaGreatDoorSt4
import Derived.Test.YtemdgilifnhdpaaGreatDoorSt5
set_option linter.unusedVariables false
set_option linter.unusedSimpArgs false
set_option linter.unusedVariables false
set_option linter.unusedSimpArgs false
namespace Go.Proofs.YtemdgilifnhdpaaGreatDoor
open Go.RowKit

theorem bruOf {w : World} (h : Ev.MxE w) : Bru w := (row_facts h.2 15 _ rfl).1
theorem mxExt {w w' : World} (h : Ev.MxE w) (e : Ext w w') : Ev.MxE w' := h.ext fun r hr => e.block r hr
set_option maxRecDepth 100000 in
set_option maxHeartbeats 1000000 in
theorem snNum_c (n : Int) (w : World) : Calls Tryz.prog 14 #[.int .i64 n] w (Gives (.int .i64 n) w) := by
  go_enter Tryz.func14, Tryz.ntmps14
  go_wp2
  go_ret
  exact ⟨rfl, by (repeat (first | exact Ext.rfl' _ | assumption | refine Ext.dr ?_ | refine Ext.drN ?_ _ | refine Ext.al ?_ _ | refine Ext.st ?_ (by simp) _ | refine Ext.tr ?_ (by assumption)))⟩
/-- two cells of a tag -/
def TagAt (w : World) (p : Nat) (T : ByteArray) : Prop := w.cell? ⟨p, 0, none⟩ = some (.bool false) ∧ w.cell? ⟨p, 1, none⟩ = some (.string T)
theorem TagAt.ext {w w' : World} {p : Nat} {T : ByteArray} (h : TagAt w p T) (e : Ext w w') : TagAt w' p T := ⟨(e.cell (p := ⟨p, 0, none⟩) (lt_of_cell h.1)).trans h.1, (e.cell (p := ⟨p, 1, none⟩) (lt_of_cell h.2)).trans h.2⟩
set_option maxRecDepth 100000 in
set_option maxHeartbeats 8000000 in
theorem staticNames_w (W : World) (hM : Ev.MxE W) (l : List UInt8) (hs : l.length ≤ 140737488355328) (q : ByteArray) (A : Option Addr) (n c : Nat) (mt ve : Int) (r0 r1 r2 r3 : Value) :
    Calls Tryz.prog 3 #[.string (str l), .agg #[.string q, .slice A n c, .int .i64 mt], .int .i64 ve, .agg #[r0, r1, r2, r3]] W (Gives (.bool true) W) := by
  obtain ⟨T, hT⟩ : ∃ T, T = str (tagL n mt ve) := ⟨_, rfl⟩
  obtain ⟨K, hK⟩ : ∃ K, K = str (mimeL l) := ⟨_, rfl⟩
  have CM := Lib.hid (fun w => Mime_c l hs w)
  have CR := Lib.hid (fun w => rMime_c l hs w)
  have CT := Lib.hid (fun w (e : Ext W w) => stTag_c q A n c mt ve w (bruOf (mxExt hM e)))
  have CU := Lib.hid (fun w => rsTag_c q A n c mt ve w)
  have CK := Lib.hid (fun w (e : Ext W w) => snKnows_c w (mxExt hM e))
  rw [← hT] at CT CU
  rw [← hK] at CM CR
  clear hM hs hT hK
  obtain ⟨s, hs⟩ : ∃ s, s = str l := ⟨_, rfl⟩
  have CSN := Lib.hid (fun w => snServe_nil #[r0, r1, r2, r3] s w)
  have CSU := Lib.hid (fun p w h => snServe_unmade p #[r0, r1, r2, r3] s w h)
  unfold snReqZ at CSN CSU
  rw [← hs] at CM CR
  rw [← hs]
  clear hs
  go_enter Tryz.func3, Tryz.ntmps3
  go_upto_region 1 with (fail)
  obtain ⟨W2, hW2⟩ : ∃ X, X = (W.alloc (.cells #[.string q, .slice A n c, .int .i64 mt] 24)).alloc (.cells #[r0, r1, r2, r3] 27) := ⟨_, rfl⟩
  rw [← hW2]
  have HX2 := Lib.hid (show Ext W W2 by rw [hW2]; (repeat (first | exact Ext.rfl' _ | assumption | refine Ext.dr ?_ | refine Ext.drN ?_ _ | refine Ext.al ?_ _ | refine Ext.st ?_ (by simp) _ | refine Ext.tr ?_ (by assumption))))
  have rf : W2.heap[W.heap.size]? = some (.cells #[.string q, .slice A n c, .int .i64 mt] 24 (0, 0)) := by
    rw [hW2]
    exact ((Ext.al (Ext.rfl' _) _).block W.heap.size (row_lt (heap_alloc_new W _))).trans (heap_alloc_new W _)
  have rr : W2.heap[W.heap.size + 1]? = some (.cells #[r0, r1, r2, r3] 27 (0, 0)) := by
    rw [hW2]
    simpa using heap_alloc_new (W.alloc (.cells #[.string q, .slice A n c, .int .i64 mt] 24)) (.cells #[r0, r1, r2, r3] 27)
  have KF := Lib.hid (fun w' (e : Ext W2 w') => (show w'.cell? ⟨W.heap.size, 0, none⟩ = some (.string q) ∧ w'.cell? ⟨W.heap.size, 1, none⟩ = some (.slice A n c) ∧ w'.cell? ⟨W.heap.size, 2, none⟩ = some (.int .i64 mt) from by
    have h := (e.block W.heap.size (row_lt rf)).trans rf
    exact ⟨(row_facts h 0 _ rfl).1, (row_facts h 1 _ rfl).1, (row_facts h 2 _ rfl).1⟩))
  have KR := Lib.hid (fun w' (e : Ext W2 w') => (show w'.cell? ⟨W.heap.size + 1, 0, none⟩ = some r0 ∧ w'.cell? ⟨W.heap.size + 1, 1, none⟩ = some r1 ∧ w'.cell? ⟨W.heap.size + 1, 2, none⟩ = some r2 ∧ w'.cell? ⟨W.heap.size + 1, 3, none⟩ = some r3 from by
    have h := (e.block (W.heap.size + 1) (row_lt rr)).trans rr
    exact ⟨(row_facts h 0 _ rfl).1, (row_facts h 1 _ rfl).1, (row_facts h 2 _ rfl).1, (row_facts h 3 _ rfl).1⟩))
  clear hW2 rf rr
  obtain ⟨f0, f1, f2⟩ := KF.out W2 (Ext.rfl' _)
  go_cut [9] (fun v9 wq => ∃ p, v9 = .pointer (some ⟨p, 0, none⟩) ∧ TagAt wq p T ∧ Ext W2 wq)
  case first =>
    go_wp2_with (go_at_call 7; refine (CT.out _ (HX2.out.tr (by (repeat (first | exact Ext.rfl' _ | assumption | refine Ext.dr ?_ | refine Ext.drN ?_ _ | refine Ext.al ?_ _ | refine Ext.st ?_ (by simp) _ | refine Ext.tr ?_ (by assumption)))))).mono ?_; rintro e w1 ⟨rfl, hx1⟩)
    go_meet
    exact ⟨_, rfl, ⟨(row_facts (heap_alloc_new w1 _) 0 _ rfl).1, (row_facts (heap_alloc_new w1 _) 1 _ rfl).1⟩, by (repeat (first | exact Ext.rfl' _ | assumption | refine Ext.dr ?_ | refine Ext.drN ?_ _ | refine Ext.al ?_ _ | refine Ext.st ?_ (by simp) _ | refine Ext.tr ?_ (by assumption)))⟩
  case rest =>
    obtain ⟨p9, rfl, ht9, hx9⟩ := hcut
    have HT9 := Lib.hid ht9
    have HX9 := Lib.hid hx9
    clear ht9 f0 f1 f2
    obtain ⟨f0, f1, f2⟩ := KF.out _ hx9
    clear hx9
    obtain ⟨Wc, hWc⟩ : ∃ X, X = wc := ⟨_, rfl⟩
    subst hWc
    go_upto_region 2 with (fail)
    go_cut [10] (fun v10 wq => ∃ p, v10 = .pointer (some ⟨p, 0, none⟩) ∧ TagAt wq p T ∧ Ext Wc wq)
    case first =>
      go_wp2_with (go_at_call 8; refine (CU.out _).mono ?_; rintro e w1 ⟨rfl, hx1⟩)
      go_meet
      exact ⟨_, rfl, ⟨(row_facts (heap_alloc_new w1 _) 0 _ rfl).1, (row_facts (heap_alloc_new w1 _) 1 _ rfl).1⟩, by (repeat (first | exact Ext.rfl' _ | assumption | refine Ext.dr ?_ | refine Ext.drN ?_ _ | refine Ext.al ?_ _ | refine Ext.st ?_ (by simp) _ | refine Ext.tr ?_ (by assumption)))⟩
    case rest =>
      obtain ⟨p10, rfl, ht10, hx10⟩ := hcut
      have HT10 := Lib.hid ht10
      have HX10 := Lib.hid hx10
      have HXA := Lib.hid (HX9.out.tr hx10)
      clear ht10 hx10 f0 f1 f2
      obtain ⟨Wd, hWd⟩ : ∃ X, X = wc := ⟨_, rfl⟩
      subst hWd
      go_upto_region 3 with (fail)
      go_cut [11, 12] (fun _ v12 wq => v12 = .int .i64 1 ∧ Ext Wd wq)
      case first =>
        go_region_held3 (fun w' => w'.cell? ⟨W.heap.size + 1, 0, none⟩ = some r0 ∧ w'.cell? ⟨W.heap.size + 1, 1, none⟩ = some r1 ∧ w'.cell? ⟨W.heap.size + 1, 2, none⟩ = some r2 ∧ w'.cell? ⟨W.heap.size + 1, 3, none⟩ = some r3) (with_reducible first | exact KR.out _ (HXA.out.tr (by (repeat (first | exact Ext.rfl' _ | assumption | refine Ext.dr ?_ | refine Ext.al ?_ _ | refine Ext.st ?_ (by first | assumption | simp) _ | refine Ext.tr ?_ (by assumption)))))) (first
          | (go_at_call 11; refine (snFiles_c _).mono ?_; rintro e w2 ⟨rfl, hx2⟩; have hz2 : Wd.heap.size ≤ w2.heap.size := (show Ext Wd w2 from (by (repeat (first | exact Ext.rfl' _ | assumption | refine Ext.dr ?_ | refine Ext.drN ?_ _ | refine Ext.al ?_ _ | refine Ext.st ?_ (by simp) _ | refine Ext.tr ?_ (by assumption))))).size)
          | (go_at_call 10; refine (snOwnLoc_c _).mono ?_; rintro e w3 ⟨rfl, hx3⟩; have hz3 : Wd.heap.size ≤ w3.heap.size := (show Ext Wd w3 from (by (repeat (first | exact Ext.rfl' _ | assumption | refine Ext.dr ?_ | refine Ext.drN ?_ _ | refine Ext.al ?_ _ | refine Ext.st ?_ (by simp) _ | refine Ext.tr ?_ (by assumption))))).size)
          | (go_at_call 9; refine (CSN.out _).mono ?_; rintro e w4 ⟨rfl, hx4⟩; first | (have hh := hx4; have y0 := hh.new 0 _ rfl; have y1 := hh.newfr 0; have y2 := hh.new 1 _ rfl; have y3 := hh.newfr 1; have y4 := hh.new 2 _ rfl; have y5 := hh.newfr 2; clear hh) | (have hh := hx3.tr hx4; have y0 := hh.new 0 _ rfl; have y1 := hh.newfr 0; have y2 := hh.new 1 _ rfl; have y3 := hh.newfr 1; have y4 := hh.new 2 _ rfl; have y5 := hh.newfr 2; clear hh) | (have hh := hx2.tr (hx3.tr hx4); have y0 := hh.new 0 _ rfl; have y1 := hh.newfr 0; have y2 := hh.new 1 _ rfl; have y3 := hh.newfr 1; have y4 := hh.new 2 _ rfl; have y5 := hh.newfr 2; clear hh) | (have hh := hx2.tr (hx3.tr hx4); have y0 := hh.newdr 0 _ rfl; have y1 := hh.newfrdr 0; have y2 := hh.newdr 1 _ rfl; have y3 := hh.newfrdr 1; have y4 := hh.newdr 2 _ rfl; have y5 := hh.newfrdr 2; clear hh) | skip))
        all_goals (go_wp2_with fail; go_meet; exact ⟨rfl, by (repeat (first | exact Ext.rfl' _ | assumption | refine Ext.dr ?_ | refine Ext.al ?_ _ | refine Ext.st ?_ (by first | assumption | simp) _ | refine Ext.tr ?_ (by assumption)))⟩)
      case rest =>
        obtain ⟨rfl, hx12⟩ := hcut
        have HX12 := Lib.hid hx12
        have HXB := Lib.hid (HXA.out.tr hx12)
        clear hx12
        obtain ⟨We, hWe⟩ : ∃ X, X = wc := ⟨_, rfl⟩
        subst hWe
        go_upto_region 4 with (fail)
        go_cut [13, 14] (fun _ v14 wq => v14 = .int .i64 1 ∧ Ext We wq)
        case first =>
          go_region_held3 (fun w' => w'.cell? ⟨W.heap.size + 1, 0, none⟩ = some r0 ∧ w'.cell? ⟨W.heap.size + 1, 1, none⟩ = some r1 ∧ w'.cell? ⟨W.heap.size + 1, 2, none⟩ = some r2 ∧ w'.cell? ⟨W.heap.size + 1, 3, none⟩ = some r3) (with_reducible first | exact KR.out _ (HXB.out.tr (by (repeat (first | exact Ext.rfl' _ | assumption | refine Ext.dr ?_ | refine Ext.al ?_ _ | refine Ext.st ?_ (by first | assumption | exact Nat.le_succ_of_le (by assumption) | simp) _ | refine Ext.tr ?_ (by assumption)))))) (first
            | (go_at_call 11; refine (snFiles_c _).mono ?_; rintro e w2 ⟨rfl, hx2⟩; have hz2 : We.heap.size ≤ w2.heap.size := (show Ext We w2 from (by (repeat (first | exact Ext.rfl' _ | assumption | refine Ext.dr ?_ | refine Ext.drN ?_ _ | refine Ext.al ?_ _ | refine Ext.st ?_ (by simp) _ | refine Ext.tr ?_ (by assumption))))).size)
            | (go_at_call 10; refine (snOwnLoc_c _).mono ?_; rintro e w3 ⟨rfl, hx3⟩; have hz3 : We.heap.size ≤ w3.heap.size := (show Ext We w3 from (by (repeat (first | exact Ext.rfl' _ | assumption | refine Ext.dr ?_ | refine Ext.drN ?_ _ | refine Ext.al ?_ _ | refine Ext.st ?_ (by simp) _ | refine Ext.tr ?_ (by assumption))))).size)
            | (go_at_call 9; refine (CSU.out _ _ (by first | (exact (show Ext (w3.alloc (.cells #[.map none, .int .i64 0, .int .i64 0] 46)) _ from (by (repeat (first | exact Ext.rfl' _ | assumption | refine Ext.dr ?_ | refine Ext.al ?_ _ | refine Ext.st ?_ (by first | assumption | exact Nat.le_succ_of_le (by assumption) | simp) _ | refine Ext.tr ?_ (by assumption))); done)).new 0 _ rfl) | (exact (show Ext (w2.alloc (.cells #[.map none, .int .i64 0, .int .i64 0] 46)) _ from (by (repeat (first | exact Ext.rfl' _ | assumption | refine Ext.dr ?_ | refine Ext.al ?_ _ | refine Ext.st ?_ (by first | assumption | exact Nat.le_succ_of_le (by assumption) | simp) _ | refine Ext.tr ?_ (by assumption))); done)).new 0 _ rfl) | (exact (show Ext (We.alloc (.cells #[.map none, .int .i64 0, .int .i64 0] 46)) _ from (by (repeat (first | exact Ext.rfl' _ | assumption | refine Ext.dr ?_ | refine Ext.al ?_ _ | refine Ext.st ?_ (by first | assumption | exact Nat.le_succ_of_le (by assumption) | simp) _ | refine Ext.tr ?_ (by assumption))); done)).new 0 _ rfl) | (simp; done) | (simpa using (show Ext ((w3.alloc (.cells #[.int .i64 0, .slice none 0 0, .slice none 0 0] 34)).alloc (.cells #[.map none, .int .i64 0, .int .i64 0] 46)) _ from (by (repeat (first | exact Ext.rfl' _ | assumption | refine Ext.dr ?_ | refine Ext.al ?_ _ | refine Ext.st ?_ (by first | assumption | exact Nat.le_succ_of_le (by assumption) | simp) _ | refine Ext.tr ?_ (by assumption))); done)).new 0 _ rfl) | (simpa using (show Ext ((w2.alloc (.cells #[.int .i64 0, .slice none 0 0, .slice none 0 0] 34)).alloc (.cells #[.map none, .int .i64 0, .int .i64 0] 46)) _ from (by (repeat (first | exact Ext.rfl' _ | assumption | refine Ext.dr ?_ | refine Ext.al ?_ _ | refine Ext.st ?_ (by first | assumption | exact Nat.le_succ_of_le (by assumption) | simp) _ | refine Ext.tr ?_ (by assumption))); done)).new 0 _ rfl) | (simpa using (show Ext ((We.alloc (.cells #[.int .i64 0, .slice none 0 0, .slice none 0 0] 34)).alloc (.cells #[.map none, .int .i64 0, .int .i64 0] 46)) _ from (by (repeat (first | exact Ext.rfl' _ | assumption | refine Ext.dr ?_ | refine Ext.al ?_ _ | refine Ext.st ?_ (by first | assumption | exact Nat.le_succ_of_le (by assumption) | simp) _ | refine Ext.tr ?_ (by assumption))); done)).new 0 _ rfl))).mono ?_; rintro e w4 ⟨rfl, hx4⟩; have g3 : Ext w2 w3 := (by (repeat (first | exact Ext.rfl' _ | assumption | refine Ext.dr ?_ | refine Ext.drN ?_ _ | refine Ext.al ?_ _ | refine Ext.st ?_ (by simp) _ | refine Ext.tr ?_ (by assumption)))); have g4 : Ext w3 w4 := (by (repeat (first | exact Ext.rfl' _ | assumption | refine Ext.dr ?_ | refine Ext.drN ?_ _ | refine Ext.al ?_ _ | refine Ext.st ?_ (by simp) _ | refine Ext.tr ?_ (by assumption)))); first | (have y0 : w4.cell? ⟨_, 0, none⟩ = some (.int .i64 0) := hx4.new 0 _ rfl; have y1 := hx4.newfr 0; have y2 : w4.cell? ⟨_, 1, none⟩ = some (.slice none 0 0) := hx4.new 1 _ rfl; have y3 := hx4.newfr 1; have y4 : w4.cell? ⟨_, 2, none⟩ = some (.slice none 0 0) := hx4.new 2 _ rfl; have y5 := hx4.newfr 2; (try simp at y0 y1 y2 y3 y4 y5)) | (have y0 : w4.cell? ⟨_, 0, none⟩ = some (.int .i64 0) := ((Ext.al (Ext.rfl' _) _).tr hx4).new 0 _ rfl; have y1 := ((Ext.al (Ext.rfl' _) _).tr hx4).newfr 0; have y2 : w4.cell? ⟨_, 1, none⟩ = some (.slice none 0 0) := ((Ext.al (Ext.rfl' _) _).tr hx4).new 1 _ rfl; have y3 := ((Ext.al (Ext.rfl' _) _).tr hx4).newfr 1; have y4 : w4.cell? ⟨_, 2, none⟩ = some (.slice none 0 0) := ((Ext.al (Ext.rfl' _) _).tr hx4).new 2 _ rfl; have y5 := ((Ext.al (Ext.rfl' _) _).tr hx4).newfr 2; (try simp at y0 y1 y2 y3 y4 y5)) | (have y0 : w4.cell? ⟨_, 0, none⟩ = some (.int .i64 0) := (Ext.tr (Ext.undr (Ext.al (Ext.rfl' _) _)) hx4).new 0 _ rfl; have y1 := (Ext.tr (Ext.undr (Ext.al (Ext.rfl' _) _)) hx4).newfr 0; have y2 : w4.cell? ⟨_, 1, none⟩ = some (.slice none 0 0) := (Ext.tr (Ext.undr (Ext.al (Ext.rfl' _) _)) hx4).new 1 _ rfl; have y3 := (Ext.tr (Ext.undr (Ext.al (Ext.rfl' _) _)) hx4).newfr 1; have y4 : w4.cell? ⟨_, 2, none⟩ = some (.slice none 0 0) := (Ext.tr (Ext.undr (Ext.al (Ext.rfl' _) _)) hx4).new 2 _ rfl; have y5 := (Ext.tr (Ext.undr (Ext.al (Ext.rfl' _) _)) hx4).newfr 2; (try simp at y0 y1 y2 y3 y4 y5)) | (have y0 : w4.cell? ⟨_, 0, none⟩ = some (.int .i64 0) := (hx3.tr g4).new 0 _ rfl; have y1 := (hx3.tr g4).newfr 0; have y2 : w4.cell? ⟨_, 1, none⟩ = some (.slice none 0 0) := (hx3.tr g4).new 1 _ rfl; have y3 := (hx3.tr g4).newfr 1; have y4 : w4.cell? ⟨_, 2, none⟩ = some (.slice none 0 0) := (hx3.tr g4).new 2 _ rfl; have y5 := (hx3.tr g4).newfr 2; (try simp at y0 y1 y2 y3 y4 y5)) | (have y0 : w4.cell? ⟨_, 0, none⟩ = some (.int .i64 0) := ((Ext.al (Ext.rfl' _) _).tr (hx3.tr g4)).new 0 _ rfl; have y1 := ((Ext.al (Ext.rfl' _) _).tr (hx3.tr g4)).newfr 0; have y2 : w4.cell? ⟨_, 1, none⟩ = some (.slice none 0 0) := ((Ext.al (Ext.rfl' _) _).tr (hx3.tr g4)).new 1 _ rfl; have y3 := ((Ext.al (Ext.rfl' _) _).tr (hx3.tr g4)).newfr 1; have y4 : w4.cell? ⟨_, 2, none⟩ = some (.slice none 0 0) := ((Ext.al (Ext.rfl' _) _).tr (hx3.tr g4)).new 2 _ rfl; have y5 := ((Ext.al (Ext.rfl' _) _).tr (hx3.tr g4)).newfr 2; (try simp at y0 y1 y2 y3 y4 y5)) | (have y0 : w4.cell? ⟨_, 0, none⟩ = some (.int .i64 0) := (Ext.tr (Ext.undr (Ext.al (Ext.rfl' _) _)) (hx3.tr g4)).new 0 _ rfl; have y1 := (Ext.tr (Ext.undr (Ext.al (Ext.rfl' _) _)) (hx3.tr g4)).newfr 0; have y2 : w4.cell? ⟨_, 1, none⟩ = some (.slice none 0 0) := (Ext.tr (Ext.undr (Ext.al (Ext.rfl' _) _)) (hx3.tr g4)).new 1 _ rfl; have y3 := (Ext.tr (Ext.undr (Ext.al (Ext.rfl' _) _)) (hx3.tr g4)).newfr 1; have y4 : w4.cell? ⟨_, 2, none⟩ = some (.slice none 0 0) := (Ext.tr (Ext.undr (Ext.al (Ext.rfl' _) _)) (hx3.tr g4)).new 2 _ rfl; have y5 := (Ext.tr (Ext.undr (Ext.al (Ext.rfl' _) _)) (hx3.tr g4)).newfr 2; (try simp at y0 y1 y2 y3 y4 y5)) | (have y0 : w4.cell? ⟨_, 0, none⟩ = some (.int .i64 0) := (hx2.tr (g3.tr g4)).new 0 _ rfl; have y1 := (hx2.tr (g3.tr g4)).newfr 0; have y2 : w4.cell? ⟨_, 1, none⟩ = some (.slice none 0 0) := (hx2.tr (g3.tr g4)).new 1 _ rfl; have y3 := (hx2.tr (g3.tr g4)).newfr 1; have y4 : w4.cell? ⟨_, 2, none⟩ = some (.slice none 0 0) := (hx2.tr (g3.tr g4)).new 2 _ rfl; have y5 := (hx2.tr (g3.tr g4)).newfr 2; (try simp at y0 y1 y2 y3 y4 y5)) | (have y0 : w4.cell? ⟨_, 0, none⟩ = some (.int .i64 0) := ((Ext.al (Ext.rfl' _) _).tr (hx2.tr (g3.tr g4))).new 0 _ rfl; have y1 := ((Ext.al (Ext.rfl' _) _).tr (hx2.tr (g3.tr g4))).newfr 0; have y2 : w4.cell? ⟨_, 1, none⟩ = some (.slice none 0 0) := ((Ext.al (Ext.rfl' _) _).tr (hx2.tr (g3.tr g4))).new 1 _ rfl; have y3 := ((Ext.al (Ext.rfl' _) _).tr (hx2.tr (g3.tr g4))).newfr 1; have y4 : w4.cell? ⟨_, 2, none⟩ = some (.slice none 0 0) := ((Ext.al (Ext.rfl' _) _).tr (hx2.tr (g3.tr g4))).new 2 _ rfl; have y5 := ((Ext.al (Ext.rfl' _) _).tr (hx2.tr (g3.tr g4))).newfr 2; (try simp at y0 y1 y2 y3 y4 y5)) | (have y0 : w4.cell? ⟨_, 0, none⟩ = some (.int .i64 0) := (Ext.tr (Ext.undr (Ext.al (Ext.rfl' _) _)) (hx2.tr (g3.tr g4))).new 0 _ rfl; have y1 := (Ext.tr (Ext.undr (Ext.al (Ext.rfl' _) _)) (hx2.tr (g3.tr g4))).newfr 0; have y2 : w4.cell? ⟨_, 1, none⟩ = some (.slice none 0 0) := (Ext.tr (Ext.undr (Ext.al (Ext.rfl' _) _)) (hx2.tr (g3.tr g4))).new 1 _ rfl; have y3 := (Ext.tr (Ext.undr (Ext.al (Ext.rfl' _) _)) (hx2.tr (g3.tr g4))).newfr 1; have y4 : w4.cell? ⟨_, 2, none⟩ = some (.slice none 0 0) := (Ext.tr (Ext.undr (Ext.al (Ext.rfl' _) _)) (hx2.tr (g3.tr g4))).new 2 _ rfl; have y5 := (Ext.tr (Ext.undr (Ext.al (Ext.rfl' _) _)) (hx2.tr (g3.tr g4))).newfr 2; (try simp at y0 y1 y2 y3 y4 y5)) | (have y0 : w4.cell? ⟨_, 0, none⟩ = some (.int .i64 0) := (Ext.undr (hx2.tr (g3.tr g4))).new 0 _ rfl; have y1 := (Ext.undr (hx2.tr (g3.tr g4))).newfr 0; have y2 : w4.cell? ⟨_, 1, none⟩ = some (.slice none 0 0) := (Ext.undr (hx2.tr (g3.tr g4))).new 1 _ rfl; have y3 := (Ext.undr (hx2.tr (g3.tr g4))).newfr 1; have y4 : w4.cell? ⟨_, 2, none⟩ = some (.slice none 0 0) := (Ext.undr (hx2.tr (g3.tr g4))).new 2 _ rfl; have y5 := (Ext.undr (hx2.tr (g3.tr g4))).newfr 2; (try simp at y0 y1 y2 y3 y4 y5)) | (have y0 : w4.cell? ⟨_, 0, none⟩ = some (.int .i64 0) := ((Ext.al (Ext.rfl' _) _).tr (Ext.undr (hx2.tr (g3.tr g4)))).new 0 _ rfl; have y1 := ((Ext.al (Ext.rfl' _) _).tr (Ext.undr (hx2.tr (g3.tr g4)))).newfr 0; have y2 : w4.cell? ⟨_, 1, none⟩ = some (.slice none 0 0) := ((Ext.al (Ext.rfl' _) _).tr (Ext.undr (hx2.tr (g3.tr g4)))).new 1 _ rfl; have y3 := ((Ext.al (Ext.rfl' _) _).tr (Ext.undr (hx2.tr (g3.tr g4)))).newfr 1; have y4 : w4.cell? ⟨_, 2, none⟩ = some (.slice none 0 0) := ((Ext.al (Ext.rfl' _) _).tr (Ext.undr (hx2.tr (g3.tr g4)))).new 2 _ rfl; have y5 := ((Ext.al (Ext.rfl' _) _).tr (Ext.undr (hx2.tr (g3.tr g4)))).newfr 2; (try simp at y0 y1 y2 y3 y4 y5)) | (have y0 : w4.cell? ⟨_, 0, none⟩ = some (.int .i64 0) := (Ext.tr (Ext.undr (Ext.al (Ext.rfl' _) _)) (Ext.undr (hx2.tr (g3.tr g4)))).new 0 _ rfl; have y1 := (Ext.tr (Ext.undr (Ext.al (Ext.rfl' _) _)) (Ext.undr (hx2.tr (g3.tr g4)))).newfr 0; have y2 : w4.cell? ⟨_, 1, none⟩ = some (.slice none 0 0) := (Ext.tr (Ext.undr (Ext.al (Ext.rfl' _) _)) (Ext.undr (hx2.tr (g3.tr g4)))).new 1 _ rfl; have y3 := (Ext.tr (Ext.undr (Ext.al (Ext.rfl' _) _)) (Ext.undr (hx2.tr (g3.tr g4)))).newfr 1; have y4 : w4.cell? ⟨_, 2, none⟩ = some (.slice none 0 0) := (Ext.tr (Ext.undr (Ext.al (Ext.rfl' _) _)) (Ext.undr (hx2.tr (g3.tr g4)))).new 2 _ rfl; have y5 := (Ext.tr (Ext.undr (Ext.al (Ext.rfl' _) _)) (Ext.undr (hx2.tr (g3.tr g4)))).newfr 2; (try simp at y0 y1 y2 y3 y4 y5)) | skip; clear g3 g4))
          all_goals (go_wp2_with fail; go_meet; exact ⟨rfl, by (repeat (first | exact Ext.rfl' _ | assumption | refine Ext.dr ?_ | refine Ext.al ?_ _ | refine Ext.st ?_ (by first | assumption | exact Nat.le_succ_of_le (by assumption) | simp) _ | refine Ext.tr ?_ (by assumption)))⟩)
        case rest =>
          obtain ⟨rfl, hx14⟩ := hcut
          have HX14 := Lib.hid hx14
          have HXC := Lib.hid (HXB.out.tr hx14)
          clear hx14
          obtain ⟨Wf, hWf⟩ : ∃ X, X = wc := ⟨_, rfl⟩
          subst hWf
          have HK9 := Lib.hid (fun w' (e : Ext Wf w') => HT9.out.ext (((HX10.out.tr HX12.out).tr HX14.out).tr e))
          have HK10 := Lib.hid (fun w' (e : Ext Wf w') => HT10.out.ext ((HX12.out.tr HX14.out).tr e))
          have HXW := Lib.hid (fun w' (e : Ext Wf w') => (HX2.out.tr HXC.out).tr e)
          clear HT9 HT10 HX9 HX10 HX12 HX14 HXA HXB HXC KF KR CT CU CSN CSU
          go_wp2_with (first
            | (go_at_call 12; refine (CM.out _).mono ?_; clear CM; rintro e w1 ⟨rfl, hx1⟩)
            | (go_at_call 13; refine (CR.out _).mono ?_; clear CR; rintro e w2 ⟨rfl, hx2⟩; obtain ⟨a0, a1⟩ := HK9.out w2 (by (repeat (first | exact Ext.rfl' _ | assumption | refine Ext.dr ?_ | refine Ext.drN ?_ _ | refine Ext.al ?_ _ | refine Ext.st ?_ (by simp) _ | refine Ext.tr ?_ (by assumption)))); obtain ⟨b0, b1⟩ := HK10.out w2 (by (repeat (first | exact Ext.rfl' _ | assumption | refine Ext.dr ?_ | refine Ext.drN ?_ _ | refine Ext.al ?_ _ | refine Ext.st ?_ (by simp) _ | refine Ext.tr ?_ (by assumption)))))
            | (go_at_call 14; refine (snNum_c _ _).mono ?_; rintro e w3 ⟨rfl, hx3⟩)
            | (go_at_call 15; refine (CK.out _ (HXW.out _ (by (repeat (first | exact Ext.rfl' _ | assumption | refine Ext.dr ?_ | refine Ext.drN ?_ _ | refine Ext.al ?_ _ | refine Ext.st ?_ (by simp) _ | refine Ext.tr ?_ (by assumption)))))).mono ?_; clear CK; rintro e w5 ⟨rfl, hx5⟩))
          go_ret
          exact ⟨rfl, HXW.out _ (by (repeat (first | exact Ext.rfl' _ | assumption | refine Ext.dr ?_ | refine Ext.drN ?_ _ | refine Ext.al ?_ _ | refine Ext.st ?_ (by simp) _ | refine Ext.tr ?_ (by assumption))))⟩
end Go.Proofs.YtemdgilifnhdpaaGreatDoor
