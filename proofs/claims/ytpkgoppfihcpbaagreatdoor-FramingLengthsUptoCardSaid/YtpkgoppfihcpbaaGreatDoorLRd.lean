/-
Response, the program's and the reference's.
-/
import Derived.Test.YtpkgoppfihcpbaaGreatDoorLRc
import Derived.Test.YtpkgoppfihcpbaaGreatDoorFg3
set_option linter.unusedVariables false
set_option linter.unusedSimpArgs false
/-
Response, the program's and the reference's.
-/
section
namespace Go.Proofs.YtpkgoppfihcpbaaGreatDoor
open Go.RowKit

def heaN : List UInt8 := [72, 69, 65, 68]
def conN : List UInt8 := [67, 79, 78, 78, 69, 67, 84]
/-- A response that has no body, whatever its fields say. -/
def bareR (m : List UInt8) (st : Int) : Prop := m = heaN ∨ st < 200 ∨ st = 204 ∨ st = 304 ∨ (m = conN ∧ st < 300)
instance (m : List UInt8) (st : Int) : Decidable (bareR m st) := by unfold bareR; infer_instance
/-- A body's length, as Response tells it. -/
def rspV (m : List UInt8) (st : Int) (fs : List Fld) : Int × Int × Int :=
  if bareR m st then (0, 0, 0) else if (reqV 1 fs).2.2 = 0 ∧ (reqV 1 fs).1 = 0 then (3, 0, 0) else reqV 1 fs
theorem reqV_zero (mi : Int) (fs : List Fld) (h : (reqV mi fs).1 = 0) : (reqV mi fs).2.1 = 0 := by
  unfold reqV reqL reqT at *
  repeat' split
  all_goals (first | rfl | simp_all)
set_option maxRecDepth 100000 in
set_option maxHeartbeats 4000000 in
theorem fResponse_c (m : List UInt8) (st : Int) (fs : List Fld) (hF : FitF fs) (A : Option Addr) (n c : Nat) (hn : fs.length = n) (w : World) (hE : ErrR w) (h : Rd w A (fc fs)) :
    Calls Tryz.prog 7 #[.string (str m), .int .i64 st, .slice A n c] w (Gives (.tuple #[.agg #[.int .i64 (rspV m st fs).1, .int .i64 (rspV m st fs).2.1], .int .i64 (rspV m st fs).2.2]) w) := by
  have CR := fun (w' : World) (e : Ext w w') => fRequest_any fs hF A n c hn ⟨#[]⟩ ⟨#[]⟩ 1 w' (hE.ext e) (h.ext e)
  clear hE h hF hn
  by_cases a1 : m = heaN
  · have e1 : str m = ⟨#[72, 69, 65, 68]⟩ := by rw [a1]; rfl
    rw [rspV, if_pos (.inl a1), e1]
    clear a1 e1
    go_enter Tryz.func7, Tryz.ntmps7
    go_wp2
    refine bodyPost_ret (v := .tuple #[.agg #[.int .i64 0, .int .i64 0], .int .i64 0]) (by simp [results, Tryz.results7, go_sem]) rfl ?_
    exact ⟨rfl, by (repeat (first | exact Ext.rfl' _ | assumption | refine Ext.dr ?_ | refine Ext.drN ?_ _ | refine Ext.al ?_ _ | refine Ext.st ?_ (by simp) _ | refine Ext.tr ?_ (by assumption)))⟩
  · by_cases a2 : st < 200
    · rw [rspV, if_pos (.inr (.inl a2))]
      obtain ⟨sm, hsm⟩ : ∃ s, s = str m := ⟨_, rfl⟩
      have e1 : (sm.toList == [72, 69, 65, 68]) = false := by rw [beq_eq_false_iff_ne, hsm, Lib.toList_data]; exact a1
      have e2 : ¬ sm.toList = [72, 69, 65, 68] := by rw [hsm, Lib.toList_data]; exact a1
      rw [← hsm]
      clear a1 hsm
      go_enter Tryz.func7, Tryz.ntmps7
      go_wp2
      refine bodyPost_ret (v := .tuple #[.agg #[.int .i64 0, .int .i64 0], .int .i64 0]) (by simp [results, Tryz.results7, go_sem]) rfl ?_
      exact ⟨rfl, by (repeat (first | exact Ext.rfl' _ | assumption | refine Ext.dr ?_ | refine Ext.drN ?_ _ | refine Ext.al ?_ _ | refine Ext.st ?_ (by simp) _ | refine Ext.tr ?_ (by assumption)))⟩
    · by_cases a3 : st = 204 ∨ st = 304
      · rw [rspV, if_pos (by rcases a3 with h | h; exact .inr (.inr (.inl h)); exact .inr (.inr (.inr (.inl h))))]
        obtain ⟨sm, hsm⟩ : ∃ s, s = str m := ⟨_, rfl⟩
        have e1 : (sm.toList == [72, 69, 65, 68]) = false := by rw [beq_eq_false_iff_ne, hsm, Lib.toList_data]; exact a1
        have e2 : ¬ sm.toList = [72, 69, 65, 68] := by rw [hsm, Lib.toList_data]; exact a1
        rw [← hsm]
        clear a1 hsm
        rcases a3 with rfl | rfl
        · go_enter Tryz.func7, Tryz.ntmps7
          go_wp2
          refine bodyPost_ret (v := .tuple #[.agg #[.int .i64 0, .int .i64 0], .int .i64 0]) (by simp [results, Tryz.results7, go_sem]) rfl ?_
          exact ⟨rfl, by (repeat (first | exact Ext.rfl' _ | assumption | refine Ext.dr ?_ | refine Ext.drN ?_ _ | refine Ext.al ?_ _ | refine Ext.st ?_ (by simp) _ | refine Ext.tr ?_ (by assumption)))⟩
        · go_enter Tryz.func7, Tryz.ntmps7
          go_wp2
          refine bodyPost_ret (v := .tuple #[.agg #[.int .i64 0, .int .i64 0], .int .i64 0]) (by simp [results, Tryz.results7, go_sem]) rfl ?_
          exact ⟨rfl, by (repeat (first | exact Ext.rfl' _ | assumption | refine Ext.dr ?_ | refine Ext.drN ?_ _ | refine Ext.al ?_ _ | refine Ext.st ?_ (by simp) _ | refine Ext.tr ?_ (by assumption)))⟩
      · have f3 : (st == 204) = false := by rw [beq_eq_false_iff_ne]; omega
        have f4 : (st == 304) = false := by rw [beq_eq_false_iff_ne]; omega
        by_cases a5 : m = conN ∧ st < 300
        · obtain ⟨a5, a6⟩ := a5
          rw [rspV, if_pos (.inr (.inr (.inr (.inr ⟨a5, a6⟩))))]
          have e5 : str m = ⟨#[67, 79, 78, 78, 69, 67, 84]⟩ := by rw [a5]; rfl
          rw [e5]
          clear a1 a3 a5 e5
          go_enter Tryz.func7, Tryz.ntmps7
          go_wp2
          refine bodyPost_ret (v := .tuple #[.agg #[.int .i64 0, .int .i64 0], .int .i64 0]) (by simp [results, Tryz.results7, go_sem]) rfl ?_
          exact ⟨rfl, by (repeat (first | exact Ext.rfl' _ | assumption | refine Ext.dr ?_ | refine Ext.drN ?_ _ | refine Ext.al ?_ _ | refine Ext.st ?_ (by simp) _ | refine Ext.tr ?_ (by assumption)))⟩
        · have HRS := Lib.hid (show rspV m st fs = if (reqV 1 fs).2.2 = 0 ∧ (reqV 1 fs).1 = 0 then (3, 0, 0) else reqV 1 fs from by
            rw [rspV, if_neg]
            rintro (h | h | h | h | h)
            · exact a1 h
            · exact a2 h
            · exact a3 (.inl h)
            · exact a3 (.inr h)
            · exact a5 h)
          have hz := reqV_zero 1 fs
          obtain ⟨R, hR⟩ : ∃ R, R = rspV m st fs := ⟨_, rfl⟩
          rw [← hR] at HRS ⊢
          obtain ⟨⟨k, nn, e⟩, hr⟩ : ∃ r, r = reqV 1 fs := ⟨_, rfl⟩
          rw [← hr] at HRS hz CR
          dsimp only at HRS hz CR
          have CR := Lib.hid CR
          obtain ⟨sm, hsm⟩ : ∃ s, s = str m := ⟨_, rfl⟩
          have e1 : (sm.toList == [72, 69, 65, 68]) = false := by rw [beq_eq_false_iff_ne, hsm, Lib.toList_data]; exact a1
          have e2 : ¬ sm.toList = [72, 69, 65, 68] := by rw [hsm, Lib.toList_data]; exact a1
          by_cases a7 : m = conN
          · have a8 : ¬ st < 300 := fun h => a5 ⟨a7, h⟩
            have e5 : sm = ⟨#[67, 79, 78, 78, 69, 67, 84]⟩ := by rw [hsm, a7]; rfl
            rw [← hsm, e5]
            clear a1 a3 a5 a7 hsm e1 e2 e5 hR hr
            by_cases he : e = 0
            · by_cases hk : k = 0
              · have hn0 := hz hk
                have HL := Lib.hid (show R = (3, 0, 0) from by rw [HRS.out, if_pos ⟨he, hk⟩])
                subst he hk hn0
                clear hz
                go_enter Tryz.func7, Tryz.ntmps7
                go_wp2_with (first
                  | (go_at_call 5; refine (CR.out _ (by (repeat (first | exact Ext.rfl' _ | assumption | refine Ext.dr ?_ | refine Ext.drN ?_ _ | refine Ext.al ?_ _ | refine Ext.st ?_ (by simp) _ | refine Ext.tr ?_ (by assumption))))).mono ?_; rintro ee w1 ⟨rfl, hx1⟩; have p0 := (show ∀ x, (w1.alloc x).cell? ⟨w.heap.size, 0, none⟩ = some (.int .i64 0) from fun x => (hx1.al x).new 0 _ rfl); have pf0 := (show ∀ x, (w1.alloc x).frozen? ⟨w.heap.size, 0, none⟩ = false from fun x => (hx1.al x).newfr 0); have p1 := (show ∀ x, (w1.alloc x).cell? ⟨w.heap.size, 1, none⟩ = some (.int .i64 0) from fun x => (hx1.al x).new 1 _ rfl); have pf1 := (show ∀ x, (w1.alloc x).frozen? ⟨w.heap.size, 1, none⟩ = false from fun x => (hx1.al x).newfr 1); have hx0 : Ext w w1 := (by (repeat (first | exact Ext.rfl' _ | assumption | refine Ext.dr ?_ | refine Ext.drN ?_ _ | refine Ext.al ?_ _ | refine Ext.st ?_ (by simp) _ | refine Ext.tr ?_ (by assumption)))))
                  | (go_at_call 6; refine (CR.out _ (by (repeat (first | exact Ext.rfl' _ | assumption | refine Ext.dr ?_ | refine Ext.drN ?_ _ | refine Ext.al ?_ _ | refine Ext.st ?_ (by simp) _ | refine Ext.tr ?_ (by assumption))))).mono ?_; rintro ee w1 ⟨rfl, hx1⟩; have p0 := (show ∀ x, (w1.alloc x).cell? ⟨w.heap.size, 0, none⟩ = some (.int .i64 0) from fun x => (hx1.al x).new 0 _ rfl); have pf0 := (show ∀ x, (w1.alloc x).frozen? ⟨w.heap.size, 0, none⟩ = false from fun x => (hx1.al x).newfr 0); have p1 := (show ∀ x, (w1.alloc x).cell? ⟨w.heap.size, 1, none⟩ = some (.int .i64 0) from fun x => (hx1.al x).new 1 _ rfl); have pf1 := (show ∀ x, (w1.alloc x).frozen? ⟨w.heap.size, 1, none⟩ = false from fun x => (hx1.al x).newfr 1); have hx0 : Ext w w1 := (by (repeat (first | exact Ext.rfl' _ | assumption | refine Ext.dr ?_ | refine Ext.drN ?_ _ | refine Ext.al ?_ _ | refine Ext.st ?_ (by simp) _ | refine Ext.tr ?_ (by assumption))))))
                refine bodyPost_ret (v := .tuple #[.agg #[.int .i64 3, .int .i64 0], .int .i64 0]) (by simp [results, Tryz.results7, go_sem, p0, p1, pf0, pf1]) rfl ?_
                exact ⟨by rw [HL.out], by (repeat (first | exact Ext.rfl' _ | assumption | refine Ext.dr ?_ | refine Ext.drN ?_ _ | refine Ext.al ?_ _ | refine Ext.st ?_ (by simp) _ | refine Ext.tr ?_ (by assumption)))⟩
              · have HL := Lib.hid (show R = (k, nn, 0) from by rw [HRS.out, if_neg (fun h => hk h.2), he])
                have d1 : (k == 0) = false := by rw [beq_eq_false_iff_ne]; exact hk
                subst he
                clear hz
                go_enter Tryz.func7, Tryz.ntmps7
                go_wp2_with (first
                  | (go_at_call 5; refine (CR.out _ (by (repeat (first | exact Ext.rfl' _ | assumption | refine Ext.dr ?_ | refine Ext.drN ?_ _ | refine Ext.al ?_ _ | refine Ext.st ?_ (by simp) _ | refine Ext.tr ?_ (by assumption))))).mono ?_; rintro ee w1 ⟨rfl, hx1⟩; have p0 := (show ∀ x, (w1.alloc x).cell? ⟨w.heap.size, 0, none⟩ = some (.int .i64 0) from fun x => (hx1.al x).new 0 _ rfl); have pf0 := (show ∀ x, (w1.alloc x).frozen? ⟨w.heap.size, 0, none⟩ = false from fun x => (hx1.al x).newfr 0); have p1 := (show ∀ x, (w1.alloc x).cell? ⟨w.heap.size, 1, none⟩ = some (.int .i64 0) from fun x => (hx1.al x).new 1 _ rfl); have pf1 := (show ∀ x, (w1.alloc x).frozen? ⟨w.heap.size, 1, none⟩ = false from fun x => (hx1.al x).newfr 1); have hx0 : Ext w w1 := (by (repeat (first | exact Ext.rfl' _ | assumption | refine Ext.dr ?_ | refine Ext.drN ?_ _ | refine Ext.al ?_ _ | refine Ext.st ?_ (by simp) _ | refine Ext.tr ?_ (by assumption)))))
                  | (go_at_call 6; refine (CR.out _ (by (repeat (first | exact Ext.rfl' _ | assumption | refine Ext.dr ?_ | refine Ext.drN ?_ _ | refine Ext.al ?_ _ | refine Ext.st ?_ (by simp) _ | refine Ext.tr ?_ (by assumption))))).mono ?_; rintro ee w1 ⟨rfl, hx1⟩; have p0 := (show ∀ x, (w1.alloc x).cell? ⟨w.heap.size, 0, none⟩ = some (.int .i64 0) from fun x => (hx1.al x).new 0 _ rfl); have pf0 := (show ∀ x, (w1.alloc x).frozen? ⟨w.heap.size, 0, none⟩ = false from fun x => (hx1.al x).newfr 0); have p1 := (show ∀ x, (w1.alloc x).cell? ⟨w.heap.size, 1, none⟩ = some (.int .i64 0) from fun x => (hx1.al x).new 1 _ rfl); have pf1 := (show ∀ x, (w1.alloc x).frozen? ⟨w.heap.size, 1, none⟩ = false from fun x => (hx1.al x).newfr 1); have hx0 : Ext w w1 := (by (repeat (first | exact Ext.rfl' _ | assumption | refine Ext.dr ?_ | refine Ext.drN ?_ _ | refine Ext.al ?_ _ | refine Ext.st ?_ (by simp) _ | refine Ext.tr ?_ (by assumption))))))
                refine bodyPost_ret (v := .tuple #[.agg #[.int .i64 k, .int .i64 nn], .int .i64 0]) (by simp [results, Tryz.results7, go_sem, p0, p1, pf0, pf1]) rfl ?_
                exact ⟨by rw [HL.out], by (repeat (first | exact Ext.rfl' _ | assumption | refine Ext.dr ?_ | refine Ext.drN ?_ _ | refine Ext.al ?_ _ | refine Ext.st ?_ (by simp) _ | refine Ext.tr ?_ (by assumption)))⟩
            · have HL := Lib.hid (show R = (k, nn, e) from by rw [HRS.out, if_neg (fun h => he h.1)])
              have d1 : (e == 0) = false := by rw [beq_eq_false_iff_ne]; exact he
              clear hz
              go_enter Tryz.func7, Tryz.ntmps7
              go_wp2_with (first
                | (go_at_call 5; refine (CR.out _ (by (repeat (first | exact Ext.rfl' _ | assumption | refine Ext.dr ?_ | refine Ext.drN ?_ _ | refine Ext.al ?_ _ | refine Ext.st ?_ (by simp) _ | refine Ext.tr ?_ (by assumption))))).mono ?_; rintro ee w1 ⟨rfl, hx1⟩; have p0 := (show ∀ x, (w1.alloc x).cell? ⟨w.heap.size, 0, none⟩ = some (.int .i64 0) from fun x => (hx1.al x).new 0 _ rfl); have pf0 := (show ∀ x, (w1.alloc x).frozen? ⟨w.heap.size, 0, none⟩ = false from fun x => (hx1.al x).newfr 0); have p1 := (show ∀ x, (w1.alloc x).cell? ⟨w.heap.size, 1, none⟩ = some (.int .i64 0) from fun x => (hx1.al x).new 1 _ rfl); have pf1 := (show ∀ x, (w1.alloc x).frozen? ⟨w.heap.size, 1, none⟩ = false from fun x => (hx1.al x).newfr 1); have hx0 : Ext w w1 := (by (repeat (first | exact Ext.rfl' _ | assumption | refine Ext.dr ?_ | refine Ext.drN ?_ _ | refine Ext.al ?_ _ | refine Ext.st ?_ (by simp) _ | refine Ext.tr ?_ (by assumption)))))
                | (go_at_call 6; refine (CR.out _ (by (repeat (first | exact Ext.rfl' _ | assumption | refine Ext.dr ?_ | refine Ext.drN ?_ _ | refine Ext.al ?_ _ | refine Ext.st ?_ (by simp) _ | refine Ext.tr ?_ (by assumption))))).mono ?_; rintro ee w1 ⟨rfl, hx1⟩; have p0 := (show ∀ x, (w1.alloc x).cell? ⟨w.heap.size, 0, none⟩ = some (.int .i64 0) from fun x => (hx1.al x).new 0 _ rfl); have pf0 := (show ∀ x, (w1.alloc x).frozen? ⟨w.heap.size, 0, none⟩ = false from fun x => (hx1.al x).newfr 0); have p1 := (show ∀ x, (w1.alloc x).cell? ⟨w.heap.size, 1, none⟩ = some (.int .i64 0) from fun x => (hx1.al x).new 1 _ rfl); have pf1 := (show ∀ x, (w1.alloc x).frozen? ⟨w.heap.size, 1, none⟩ = false from fun x => (hx1.al x).newfr 1); have hx0 : Ext w w1 := (by (repeat (first | exact Ext.rfl' _ | assumption | refine Ext.dr ?_ | refine Ext.drN ?_ _ | refine Ext.al ?_ _ | refine Ext.st ?_ (by simp) _ | refine Ext.tr ?_ (by assumption))))))
              refine bodyPost_ret (v := .tuple #[.agg #[.int .i64 k, .int .i64 nn], .int .i64 e]) (by simp [results, Tryz.results7, go_sem, p0, p1, pf0, pf1]) rfl ?_
              exact ⟨by rw [HL.out], by (repeat (first | exact Ext.rfl' _ | assumption | refine Ext.dr ?_ | refine Ext.drN ?_ _ | refine Ext.al ?_ _ | refine Ext.st ?_ (by simp) _ | refine Ext.tr ?_ (by assumption)))⟩
          · have e3 : (sm.toList == [67, 79, 78, 78, 69, 67, 84]) = false := by rw [beq_eq_false_iff_ne, hsm, Lib.toList_data]; exact a7
            have e4 : ¬ sm.toList = [67, 79, 78, 78, 69, 67, 84] := by rw [hsm, Lib.toList_data]; exact a7
            rw [← hsm]
            clear a1 a3 a5 a7 hsm hR hr
            by_cases he : e = 0
            · by_cases hk : k = 0
              · have hn0 := hz hk
                have HL := Lib.hid (show R = (3, 0, 0) from by rw [HRS.out, if_pos ⟨he, hk⟩])
                subst he hk hn0
                clear hz
                go_enter Tryz.func7, Tryz.ntmps7
                go_wp2_with (first
                  | (go_at_call 5; refine (CR.out _ (by (repeat (first | exact Ext.rfl' _ | assumption | refine Ext.dr ?_ | refine Ext.drN ?_ _ | refine Ext.al ?_ _ | refine Ext.st ?_ (by simp) _ | refine Ext.tr ?_ (by assumption))))).mono ?_; rintro ee w1 ⟨rfl, hx1⟩; have p0 := (show ∀ x, (w1.alloc x).cell? ⟨w.heap.size, 0, none⟩ = some (.int .i64 0) from fun x => (hx1.al x).new 0 _ rfl); have pf0 := (show ∀ x, (w1.alloc x).frozen? ⟨w.heap.size, 0, none⟩ = false from fun x => (hx1.al x).newfr 0); have p1 := (show ∀ x, (w1.alloc x).cell? ⟨w.heap.size, 1, none⟩ = some (.int .i64 0) from fun x => (hx1.al x).new 1 _ rfl); have pf1 := (show ∀ x, (w1.alloc x).frozen? ⟨w.heap.size, 1, none⟩ = false from fun x => (hx1.al x).newfr 1); have hx0 : Ext w w1 := (by (repeat (first | exact Ext.rfl' _ | assumption | refine Ext.dr ?_ | refine Ext.drN ?_ _ | refine Ext.al ?_ _ | refine Ext.st ?_ (by simp) _ | refine Ext.tr ?_ (by assumption)))))
                  | (go_at_call 6; refine (CR.out _ (by (repeat (first | exact Ext.rfl' _ | assumption | refine Ext.dr ?_ | refine Ext.drN ?_ _ | refine Ext.al ?_ _ | refine Ext.st ?_ (by simp) _ | refine Ext.tr ?_ (by assumption))))).mono ?_; rintro ee w1 ⟨rfl, hx1⟩; have p0 := (show ∀ x, (w1.alloc x).cell? ⟨w.heap.size, 0, none⟩ = some (.int .i64 0) from fun x => (hx1.al x).new 0 _ rfl); have pf0 := (show ∀ x, (w1.alloc x).frozen? ⟨w.heap.size, 0, none⟩ = false from fun x => (hx1.al x).newfr 0); have p1 := (show ∀ x, (w1.alloc x).cell? ⟨w.heap.size, 1, none⟩ = some (.int .i64 0) from fun x => (hx1.al x).new 1 _ rfl); have pf1 := (show ∀ x, (w1.alloc x).frozen? ⟨w.heap.size, 1, none⟩ = false from fun x => (hx1.al x).newfr 1); have hx0 : Ext w w1 := (by (repeat (first | exact Ext.rfl' _ | assumption | refine Ext.dr ?_ | refine Ext.drN ?_ _ | refine Ext.al ?_ _ | refine Ext.st ?_ (by simp) _ | refine Ext.tr ?_ (by assumption))))))
                refine bodyPost_ret (v := .tuple #[.agg #[.int .i64 3, .int .i64 0], .int .i64 0]) (by simp [results, Tryz.results7, go_sem, p0, p1, pf0, pf1]) rfl ?_
                exact ⟨by rw [HL.out], by (repeat (first | exact Ext.rfl' _ | assumption | refine Ext.dr ?_ | refine Ext.drN ?_ _ | refine Ext.al ?_ _ | refine Ext.st ?_ (by simp) _ | refine Ext.tr ?_ (by assumption)))⟩
              · have HL := Lib.hid (show R = (k, nn, 0) from by rw [HRS.out, if_neg (fun h => hk h.2), he])
                have d1 : (k == 0) = false := by rw [beq_eq_false_iff_ne]; exact hk
                subst he
                clear hz
                go_enter Tryz.func7, Tryz.ntmps7
                go_wp2_with (first
                  | (go_at_call 5; refine (CR.out _ (by (repeat (first | exact Ext.rfl' _ | assumption | refine Ext.dr ?_ | refine Ext.drN ?_ _ | refine Ext.al ?_ _ | refine Ext.st ?_ (by simp) _ | refine Ext.tr ?_ (by assumption))))).mono ?_; rintro ee w1 ⟨rfl, hx1⟩; have p0 := (show ∀ x, (w1.alloc x).cell? ⟨w.heap.size, 0, none⟩ = some (.int .i64 0) from fun x => (hx1.al x).new 0 _ rfl); have pf0 := (show ∀ x, (w1.alloc x).frozen? ⟨w.heap.size, 0, none⟩ = false from fun x => (hx1.al x).newfr 0); have p1 := (show ∀ x, (w1.alloc x).cell? ⟨w.heap.size, 1, none⟩ = some (.int .i64 0) from fun x => (hx1.al x).new 1 _ rfl); have pf1 := (show ∀ x, (w1.alloc x).frozen? ⟨w.heap.size, 1, none⟩ = false from fun x => (hx1.al x).newfr 1); have hx0 : Ext w w1 := (by (repeat (first | exact Ext.rfl' _ | assumption | refine Ext.dr ?_ | refine Ext.drN ?_ _ | refine Ext.al ?_ _ | refine Ext.st ?_ (by simp) _ | refine Ext.tr ?_ (by assumption)))))
                  | (go_at_call 6; refine (CR.out _ (by (repeat (first | exact Ext.rfl' _ | assumption | refine Ext.dr ?_ | refine Ext.drN ?_ _ | refine Ext.al ?_ _ | refine Ext.st ?_ (by simp) _ | refine Ext.tr ?_ (by assumption))))).mono ?_; rintro ee w1 ⟨rfl, hx1⟩; have p0 := (show ∀ x, (w1.alloc x).cell? ⟨w.heap.size, 0, none⟩ = some (.int .i64 0) from fun x => (hx1.al x).new 0 _ rfl); have pf0 := (show ∀ x, (w1.alloc x).frozen? ⟨w.heap.size, 0, none⟩ = false from fun x => (hx1.al x).newfr 0); have p1 := (show ∀ x, (w1.alloc x).cell? ⟨w.heap.size, 1, none⟩ = some (.int .i64 0) from fun x => (hx1.al x).new 1 _ rfl); have pf1 := (show ∀ x, (w1.alloc x).frozen? ⟨w.heap.size, 1, none⟩ = false from fun x => (hx1.al x).newfr 1); have hx0 : Ext w w1 := (by (repeat (first | exact Ext.rfl' _ | assumption | refine Ext.dr ?_ | refine Ext.drN ?_ _ | refine Ext.al ?_ _ | refine Ext.st ?_ (by simp) _ | refine Ext.tr ?_ (by assumption))))))
                refine bodyPost_ret (v := .tuple #[.agg #[.int .i64 k, .int .i64 nn], .int .i64 0]) (by simp [results, Tryz.results7, go_sem, p0, p1, pf0, pf1]) rfl ?_
                exact ⟨by rw [HL.out], by (repeat (first | exact Ext.rfl' _ | assumption | refine Ext.dr ?_ | refine Ext.drN ?_ _ | refine Ext.al ?_ _ | refine Ext.st ?_ (by simp) _ | refine Ext.tr ?_ (by assumption)))⟩
            · have HL := Lib.hid (show R = (k, nn, e) from by rw [HRS.out, if_neg (fun h => he h.1)])
              have d1 : (e == 0) = false := by rw [beq_eq_false_iff_ne]; exact he
              clear hz
              go_enter Tryz.func7, Tryz.ntmps7
              go_wp2_with (first
                | (go_at_call 5; refine (CR.out _ (by (repeat (first | exact Ext.rfl' _ | assumption | refine Ext.dr ?_ | refine Ext.drN ?_ _ | refine Ext.al ?_ _ | refine Ext.st ?_ (by simp) _ | refine Ext.tr ?_ (by assumption))))).mono ?_; rintro ee w1 ⟨rfl, hx1⟩; have p0 := (show ∀ x, (w1.alloc x).cell? ⟨w.heap.size, 0, none⟩ = some (.int .i64 0) from fun x => (hx1.al x).new 0 _ rfl); have pf0 := (show ∀ x, (w1.alloc x).frozen? ⟨w.heap.size, 0, none⟩ = false from fun x => (hx1.al x).newfr 0); have p1 := (show ∀ x, (w1.alloc x).cell? ⟨w.heap.size, 1, none⟩ = some (.int .i64 0) from fun x => (hx1.al x).new 1 _ rfl); have pf1 := (show ∀ x, (w1.alloc x).frozen? ⟨w.heap.size, 1, none⟩ = false from fun x => (hx1.al x).newfr 1); have hx0 : Ext w w1 := (by (repeat (first | exact Ext.rfl' _ | assumption | refine Ext.dr ?_ | refine Ext.drN ?_ _ | refine Ext.al ?_ _ | refine Ext.st ?_ (by simp) _ | refine Ext.tr ?_ (by assumption)))))
                | (go_at_call 6; refine (CR.out _ (by (repeat (first | exact Ext.rfl' _ | assumption | refine Ext.dr ?_ | refine Ext.drN ?_ _ | refine Ext.al ?_ _ | refine Ext.st ?_ (by simp) _ | refine Ext.tr ?_ (by assumption))))).mono ?_; rintro ee w1 ⟨rfl, hx1⟩; have p0 := (show ∀ x, (w1.alloc x).cell? ⟨w.heap.size, 0, none⟩ = some (.int .i64 0) from fun x => (hx1.al x).new 0 _ rfl); have pf0 := (show ∀ x, (w1.alloc x).frozen? ⟨w.heap.size, 0, none⟩ = false from fun x => (hx1.al x).newfr 0); have p1 := (show ∀ x, (w1.alloc x).cell? ⟨w.heap.size, 1, none⟩ = some (.int .i64 0) from fun x => (hx1.al x).new 1 _ rfl); have pf1 := (show ∀ x, (w1.alloc x).frozen? ⟨w.heap.size, 1, none⟩ = false from fun x => (hx1.al x).newfr 1); have hx0 : Ext w w1 := (by (repeat (first | exact Ext.rfl' _ | assumption | refine Ext.dr ?_ | refine Ext.drN ?_ _ | refine Ext.al ?_ _ | refine Ext.st ?_ (by simp) _ | refine Ext.tr ?_ (by assumption))))))
              refine bodyPost_ret (v := .tuple #[.agg #[.int .i64 k, .int .i64 nn], .int .i64 e]) (by simp [results, Tryz.results7, go_sem, p0, p1, pf0, pf1]) rfl ?_
              exact ⟨by rw [HL.out], by (repeat (first | exact Ext.rfl' _ | assumption | refine Ext.dr ?_ | refine Ext.drN ?_ _ | refine Ext.al ?_ _ | refine Ext.st ?_ (by simp) _ | refine Ext.tr ?_ (by assumption)))⟩
set_option maxRecDepth 100000 in
set_option maxHeartbeats 4000000 in
theorem rfResponse_c (m : List UInt8) (st : Int) (fs : List Fld) (hF : FitF fs) (A : Option Addr) (n c : Nat) (hn : fs.length = n) (w : World) (h : Rd w A (fc fs)) :
    Calls Tryz.prog 8 #[.string (str m), .int .i64 st, .slice A n c] w (Gives (.tuple #[.agg #[.int .i64 (rspV m st fs).1, .int .i64 (rspV m st fs).2.1], .int .i64 (rspV m st fs).2.2]) w) := by
  have CR := fun (w' : World) (e : Ext w w') => rfRequest_c fs hF A n c hn ⟨#[]⟩ ⟨#[]⟩ 1 w' (h.ext e)
  clear h hF hn
  by_cases a1 : m = heaN
  · have e1 : str m = ⟨#[72, 69, 65, 68]⟩ := by rw [a1]; rfl
    rw [rspV, if_pos (.inl a1), e1]
    clear a1 e1
    go_enter Tryz.func8, Tryz.ntmps8
    go_wp2
    refine bodyPost_ret (v := .tuple #[.agg #[.int .i64 0, .int .i64 0], .int .i64 0]) (by simp [results, Tryz.results8, go_sem]) rfl ?_
    exact ⟨rfl, by (repeat (first | exact Ext.rfl' _ | assumption | refine Ext.dr ?_ | refine Ext.drN ?_ _ | refine Ext.al ?_ _ | refine Ext.st ?_ (by simp) _ | refine Ext.tr ?_ (by assumption)))⟩
  · by_cases a2 : st < 200
    · rw [rspV, if_pos (.inr (.inl a2))]
      obtain ⟨sm, hsm⟩ : ∃ s, s = str m := ⟨_, rfl⟩
      have e1 : (sm.toList == [72, 69, 65, 68]) = false := by rw [beq_eq_false_iff_ne, hsm, Lib.toList_data]; exact a1
      have e2 : ¬ sm.toList = [72, 69, 65, 68] := by rw [hsm, Lib.toList_data]; exact a1
      rw [← hsm]
      clear a1 hsm
      go_enter Tryz.func8, Tryz.ntmps8
      go_wp2
      refine bodyPost_ret (v := .tuple #[.agg #[.int .i64 0, .int .i64 0], .int .i64 0]) (by simp [results, Tryz.results8, go_sem]) rfl ?_
      exact ⟨rfl, by (repeat (first | exact Ext.rfl' _ | assumption | refine Ext.dr ?_ | refine Ext.drN ?_ _ | refine Ext.al ?_ _ | refine Ext.st ?_ (by simp) _ | refine Ext.tr ?_ (by assumption)))⟩
    · by_cases a3 : st = 204 ∨ st = 304
      · rw [rspV, if_pos (by rcases a3 with h | h; exact .inr (.inr (.inl h)); exact .inr (.inr (.inr (.inl h))))]
        obtain ⟨sm, hsm⟩ : ∃ s, s = str m := ⟨_, rfl⟩
        have e1 : (sm.toList == [72, 69, 65, 68]) = false := by rw [beq_eq_false_iff_ne, hsm, Lib.toList_data]; exact a1
        have e2 : ¬ sm.toList = [72, 69, 65, 68] := by rw [hsm, Lib.toList_data]; exact a1
        rw [← hsm]
        clear a1 hsm
        rcases a3 with rfl | rfl
        · go_enter Tryz.func8, Tryz.ntmps8
          go_wp2
          refine bodyPost_ret (v := .tuple #[.agg #[.int .i64 0, .int .i64 0], .int .i64 0]) (by simp [results, Tryz.results8, go_sem]) rfl ?_
          exact ⟨rfl, by (repeat (first | exact Ext.rfl' _ | assumption | refine Ext.dr ?_ | refine Ext.drN ?_ _ | refine Ext.al ?_ _ | refine Ext.st ?_ (by simp) _ | refine Ext.tr ?_ (by assumption)))⟩
        · go_enter Tryz.func8, Tryz.ntmps8
          go_wp2
          refine bodyPost_ret (v := .tuple #[.agg #[.int .i64 0, .int .i64 0], .int .i64 0]) (by simp [results, Tryz.results8, go_sem]) rfl ?_
          exact ⟨rfl, by (repeat (first | exact Ext.rfl' _ | assumption | refine Ext.dr ?_ | refine Ext.drN ?_ _ | refine Ext.al ?_ _ | refine Ext.st ?_ (by simp) _ | refine Ext.tr ?_ (by assumption)))⟩
      · have f3 : (st == 204) = false := by rw [beq_eq_false_iff_ne]; omega
        have f4 : (st == 304) = false := by rw [beq_eq_false_iff_ne]; omega
        by_cases a5 : m = conN ∧ st < 300
        · obtain ⟨a5, a6⟩ := a5
          rw [rspV, if_pos (.inr (.inr (.inr (.inr ⟨a5, a6⟩))))]
          have e5 : str m = ⟨#[67, 79, 78, 78, 69, 67, 84]⟩ := by rw [a5]; rfl
          rw [e5]
          clear a1 a3 a5 e5
          go_enter Tryz.func8, Tryz.ntmps8
          go_wp2
          refine bodyPost_ret (v := .tuple #[.agg #[.int .i64 0, .int .i64 0], .int .i64 0]) (by simp [results, Tryz.results8, go_sem]) rfl ?_
          exact ⟨rfl, by (repeat (first | exact Ext.rfl' _ | assumption | refine Ext.dr ?_ | refine Ext.drN ?_ _ | refine Ext.al ?_ _ | refine Ext.st ?_ (by simp) _ | refine Ext.tr ?_ (by assumption)))⟩
        · have HRS := Lib.hid (show rspV m st fs = if (reqV 1 fs).2.2 = 0 ∧ (reqV 1 fs).1 = 0 then (3, 0, 0) else reqV 1 fs from by
            rw [rspV, if_neg]
            rintro (h | h | h | h | h)
            · exact a1 h
            · exact a2 h
            · exact a3 (.inl h)
            · exact a3 (.inr h)
            · exact a5 h)
          have hz := reqV_zero 1 fs
          obtain ⟨R, hR⟩ : ∃ R, R = rspV m st fs := ⟨_, rfl⟩
          rw [← hR] at HRS ⊢
          obtain ⟨⟨k, nn, e⟩, hr⟩ : ∃ r, r = reqV 1 fs := ⟨_, rfl⟩
          rw [← hr] at HRS hz CR
          dsimp only at HRS hz CR
          have CR := Lib.hid CR
          obtain ⟨sm, hsm⟩ : ∃ s, s = str m := ⟨_, rfl⟩
          have e1 : (sm.toList == [72, 69, 65, 68]) = false := by rw [beq_eq_false_iff_ne, hsm, Lib.toList_data]; exact a1
          have e2 : ¬ sm.toList = [72, 69, 65, 68] := by rw [hsm, Lib.toList_data]; exact a1
          by_cases a7 : m = conN
          · have a8 : ¬ st < 300 := fun h => a5 ⟨a7, h⟩
            have e5 : sm = ⟨#[67, 79, 78, 78, 69, 67, 84]⟩ := by rw [hsm, a7]; rfl
            rw [← hsm, e5]
            clear a1 a3 a5 a7 hsm e1 e2 e5 hR hr
            by_cases he : e = 0
            · by_cases hk : k = 0
              · have hn0 := hz hk
                have HL := Lib.hid (show R = (3, 0, 0) from by rw [HRS.out, if_pos ⟨he, hk⟩])
                subst he hk hn0
                clear hz
                go_enter Tryz.func8, Tryz.ntmps8
                go_wp2_with (first
                  | (go_at_call 5; refine (CR.out _ (by (repeat (first | exact Ext.rfl' _ | assumption | refine Ext.dr ?_ | refine Ext.drN ?_ _ | refine Ext.al ?_ _ | refine Ext.st ?_ (by simp) _ | refine Ext.tr ?_ (by assumption))))).mono ?_; rintro ee w1 ⟨rfl, hx1⟩; have p0 := (show ∀ x, (w1.alloc x).cell? ⟨w.heap.size, 0, none⟩ = some (.int .i64 0) from fun x => (hx1.al x).new 0 _ rfl); have pf0 := (show ∀ x, (w1.alloc x).frozen? ⟨w.heap.size, 0, none⟩ = false from fun x => (hx1.al x).newfr 0); have p1 := (show ∀ x, (w1.alloc x).cell? ⟨w.heap.size, 1, none⟩ = some (.int .i64 0) from fun x => (hx1.al x).new 1 _ rfl); have pf1 := (show ∀ x, (w1.alloc x).frozen? ⟨w.heap.size, 1, none⟩ = false from fun x => (hx1.al x).newfr 1); have hx0 : Ext w w1 := (by (repeat (first | exact Ext.rfl' _ | assumption | refine Ext.dr ?_ | refine Ext.drN ?_ _ | refine Ext.al ?_ _ | refine Ext.st ?_ (by simp) _ | refine Ext.tr ?_ (by assumption)))))
                  | (go_at_call 6; refine (CR.out _ (by (repeat (first | exact Ext.rfl' _ | assumption | refine Ext.dr ?_ | refine Ext.drN ?_ _ | refine Ext.al ?_ _ | refine Ext.st ?_ (by simp) _ | refine Ext.tr ?_ (by assumption))))).mono ?_; rintro ee w1 ⟨rfl, hx1⟩; have p0 := (show ∀ x, (w1.alloc x).cell? ⟨w.heap.size, 0, none⟩ = some (.int .i64 0) from fun x => (hx1.al x).new 0 _ rfl); have pf0 := (show ∀ x, (w1.alloc x).frozen? ⟨w.heap.size, 0, none⟩ = false from fun x => (hx1.al x).newfr 0); have p1 := (show ∀ x, (w1.alloc x).cell? ⟨w.heap.size, 1, none⟩ = some (.int .i64 0) from fun x => (hx1.al x).new 1 _ rfl); have pf1 := (show ∀ x, (w1.alloc x).frozen? ⟨w.heap.size, 1, none⟩ = false from fun x => (hx1.al x).newfr 1); have hx0 : Ext w w1 := (by (repeat (first | exact Ext.rfl' _ | assumption | refine Ext.dr ?_ | refine Ext.drN ?_ _ | refine Ext.al ?_ _ | refine Ext.st ?_ (by simp) _ | refine Ext.tr ?_ (by assumption))))))
                refine bodyPost_ret (v := .tuple #[.agg #[.int .i64 3, .int .i64 0], .int .i64 0]) (by simp [results, Tryz.results8, go_sem, p0, p1, pf0, pf1]) rfl ?_
                exact ⟨by rw [HL.out], by (repeat (first | exact Ext.rfl' _ | assumption | refine Ext.dr ?_ | refine Ext.drN ?_ _ | refine Ext.al ?_ _ | refine Ext.st ?_ (by simp) _ | refine Ext.tr ?_ (by assumption)))⟩
              · have HL := Lib.hid (show R = (k, nn, 0) from by rw [HRS.out, if_neg (fun h => hk h.2), he])
                have d1 : (k == 0) = false := by rw [beq_eq_false_iff_ne]; exact hk
                subst he
                clear hz
                go_enter Tryz.func8, Tryz.ntmps8
                go_wp2_with (first
                  | (go_at_call 5; refine (CR.out _ (by (repeat (first | exact Ext.rfl' _ | assumption | refine Ext.dr ?_ | refine Ext.drN ?_ _ | refine Ext.al ?_ _ | refine Ext.st ?_ (by simp) _ | refine Ext.tr ?_ (by assumption))))).mono ?_; rintro ee w1 ⟨rfl, hx1⟩; have p0 := (show ∀ x, (w1.alloc x).cell? ⟨w.heap.size, 0, none⟩ = some (.int .i64 0) from fun x => (hx1.al x).new 0 _ rfl); have pf0 := (show ∀ x, (w1.alloc x).frozen? ⟨w.heap.size, 0, none⟩ = false from fun x => (hx1.al x).newfr 0); have p1 := (show ∀ x, (w1.alloc x).cell? ⟨w.heap.size, 1, none⟩ = some (.int .i64 0) from fun x => (hx1.al x).new 1 _ rfl); have pf1 := (show ∀ x, (w1.alloc x).frozen? ⟨w.heap.size, 1, none⟩ = false from fun x => (hx1.al x).newfr 1); have hx0 : Ext w w1 := (by (repeat (first | exact Ext.rfl' _ | assumption | refine Ext.dr ?_ | refine Ext.drN ?_ _ | refine Ext.al ?_ _ | refine Ext.st ?_ (by simp) _ | refine Ext.tr ?_ (by assumption)))))
                  | (go_at_call 6; refine (CR.out _ (by (repeat (first | exact Ext.rfl' _ | assumption | refine Ext.dr ?_ | refine Ext.drN ?_ _ | refine Ext.al ?_ _ | refine Ext.st ?_ (by simp) _ | refine Ext.tr ?_ (by assumption))))).mono ?_; rintro ee w1 ⟨rfl, hx1⟩; have p0 := (show ∀ x, (w1.alloc x).cell? ⟨w.heap.size, 0, none⟩ = some (.int .i64 0) from fun x => (hx1.al x).new 0 _ rfl); have pf0 := (show ∀ x, (w1.alloc x).frozen? ⟨w.heap.size, 0, none⟩ = false from fun x => (hx1.al x).newfr 0); have p1 := (show ∀ x, (w1.alloc x).cell? ⟨w.heap.size, 1, none⟩ = some (.int .i64 0) from fun x => (hx1.al x).new 1 _ rfl); have pf1 := (show ∀ x, (w1.alloc x).frozen? ⟨w.heap.size, 1, none⟩ = false from fun x => (hx1.al x).newfr 1); have hx0 : Ext w w1 := (by (repeat (first | exact Ext.rfl' _ | assumption | refine Ext.dr ?_ | refine Ext.drN ?_ _ | refine Ext.al ?_ _ | refine Ext.st ?_ (by simp) _ | refine Ext.tr ?_ (by assumption))))))
                refine bodyPost_ret (v := .tuple #[.agg #[.int .i64 k, .int .i64 nn], .int .i64 0]) (by simp [results, Tryz.results8, go_sem, p0, p1, pf0, pf1]) rfl ?_
                exact ⟨by rw [HL.out], by (repeat (first | exact Ext.rfl' _ | assumption | refine Ext.dr ?_ | refine Ext.drN ?_ _ | refine Ext.al ?_ _ | refine Ext.st ?_ (by simp) _ | refine Ext.tr ?_ (by assumption)))⟩
            · have HL := Lib.hid (show R = (k, nn, e) from by rw [HRS.out, if_neg (fun h => he h.1)])
              have d1 : (e == 0) = false := by rw [beq_eq_false_iff_ne]; exact he
              clear hz
              go_enter Tryz.func8, Tryz.ntmps8
              go_wp2_with (first
                | (go_at_call 5; refine (CR.out _ (by (repeat (first | exact Ext.rfl' _ | assumption | refine Ext.dr ?_ | refine Ext.drN ?_ _ | refine Ext.al ?_ _ | refine Ext.st ?_ (by simp) _ | refine Ext.tr ?_ (by assumption))))).mono ?_; rintro ee w1 ⟨rfl, hx1⟩; have p0 := (show ∀ x, (w1.alloc x).cell? ⟨w.heap.size, 0, none⟩ = some (.int .i64 0) from fun x => (hx1.al x).new 0 _ rfl); have pf0 := (show ∀ x, (w1.alloc x).frozen? ⟨w.heap.size, 0, none⟩ = false from fun x => (hx1.al x).newfr 0); have p1 := (show ∀ x, (w1.alloc x).cell? ⟨w.heap.size, 1, none⟩ = some (.int .i64 0) from fun x => (hx1.al x).new 1 _ rfl); have pf1 := (show ∀ x, (w1.alloc x).frozen? ⟨w.heap.size, 1, none⟩ = false from fun x => (hx1.al x).newfr 1); have hx0 : Ext w w1 := (by (repeat (first | exact Ext.rfl' _ | assumption | refine Ext.dr ?_ | refine Ext.drN ?_ _ | refine Ext.al ?_ _ | refine Ext.st ?_ (by simp) _ | refine Ext.tr ?_ (by assumption)))))
                | (go_at_call 6; refine (CR.out _ (by (repeat (first | exact Ext.rfl' _ | assumption | refine Ext.dr ?_ | refine Ext.drN ?_ _ | refine Ext.al ?_ _ | refine Ext.st ?_ (by simp) _ | refine Ext.tr ?_ (by assumption))))).mono ?_; rintro ee w1 ⟨rfl, hx1⟩; have p0 := (show ∀ x, (w1.alloc x).cell? ⟨w.heap.size, 0, none⟩ = some (.int .i64 0) from fun x => (hx1.al x).new 0 _ rfl); have pf0 := (show ∀ x, (w1.alloc x).frozen? ⟨w.heap.size, 0, none⟩ = false from fun x => (hx1.al x).newfr 0); have p1 := (show ∀ x, (w1.alloc x).cell? ⟨w.heap.size, 1, none⟩ = some (.int .i64 0) from fun x => (hx1.al x).new 1 _ rfl); have pf1 := (show ∀ x, (w1.alloc x).frozen? ⟨w.heap.size, 1, none⟩ = false from fun x => (hx1.al x).newfr 1); have hx0 : Ext w w1 := (by (repeat (first | exact Ext.rfl' _ | assumption | refine Ext.dr ?_ | refine Ext.drN ?_ _ | refine Ext.al ?_ _ | refine Ext.st ?_ (by simp) _ | refine Ext.tr ?_ (by assumption))))))
              refine bodyPost_ret (v := .tuple #[.agg #[.int .i64 k, .int .i64 nn], .int .i64 e]) (by simp [results, Tryz.results8, go_sem, p0, p1, pf0, pf1]) rfl ?_
              exact ⟨by rw [HL.out], by (repeat (first | exact Ext.rfl' _ | assumption | refine Ext.dr ?_ | refine Ext.drN ?_ _ | refine Ext.al ?_ _ | refine Ext.st ?_ (by simp) _ | refine Ext.tr ?_ (by assumption)))⟩
          · have e3 : (sm.toList == [67, 79, 78, 78, 69, 67, 84]) = false := by rw [beq_eq_false_iff_ne, hsm, Lib.toList_data]; exact a7
            have e4 : ¬ sm.toList = [67, 79, 78, 78, 69, 67, 84] := by rw [hsm, Lib.toList_data]; exact a7
            rw [← hsm]
            clear a1 a3 a5 a7 hsm hR hr
            by_cases he : e = 0
            · by_cases hk : k = 0
              · have hn0 := hz hk
                have HL := Lib.hid (show R = (3, 0, 0) from by rw [HRS.out, if_pos ⟨he, hk⟩])
                subst he hk hn0
                clear hz
                go_enter Tryz.func8, Tryz.ntmps8
                go_wp2_with (first
                  | (go_at_call 5; refine (CR.out _ (by (repeat (first | exact Ext.rfl' _ | assumption | refine Ext.dr ?_ | refine Ext.drN ?_ _ | refine Ext.al ?_ _ | refine Ext.st ?_ (by simp) _ | refine Ext.tr ?_ (by assumption))))).mono ?_; rintro ee w1 ⟨rfl, hx1⟩; have p0 := (show ∀ x, (w1.alloc x).cell? ⟨w.heap.size, 0, none⟩ = some (.int .i64 0) from fun x => (hx1.al x).new 0 _ rfl); have pf0 := (show ∀ x, (w1.alloc x).frozen? ⟨w.heap.size, 0, none⟩ = false from fun x => (hx1.al x).newfr 0); have p1 := (show ∀ x, (w1.alloc x).cell? ⟨w.heap.size, 1, none⟩ = some (.int .i64 0) from fun x => (hx1.al x).new 1 _ rfl); have pf1 := (show ∀ x, (w1.alloc x).frozen? ⟨w.heap.size, 1, none⟩ = false from fun x => (hx1.al x).newfr 1); have hx0 : Ext w w1 := (by (repeat (first | exact Ext.rfl' _ | assumption | refine Ext.dr ?_ | refine Ext.drN ?_ _ | refine Ext.al ?_ _ | refine Ext.st ?_ (by simp) _ | refine Ext.tr ?_ (by assumption)))))
                  | (go_at_call 6; refine (CR.out _ (by (repeat (first | exact Ext.rfl' _ | assumption | refine Ext.dr ?_ | refine Ext.drN ?_ _ | refine Ext.al ?_ _ | refine Ext.st ?_ (by simp) _ | refine Ext.tr ?_ (by assumption))))).mono ?_; rintro ee w1 ⟨rfl, hx1⟩; have p0 := (show ∀ x, (w1.alloc x).cell? ⟨w.heap.size, 0, none⟩ = some (.int .i64 0) from fun x => (hx1.al x).new 0 _ rfl); have pf0 := (show ∀ x, (w1.alloc x).frozen? ⟨w.heap.size, 0, none⟩ = false from fun x => (hx1.al x).newfr 0); have p1 := (show ∀ x, (w1.alloc x).cell? ⟨w.heap.size, 1, none⟩ = some (.int .i64 0) from fun x => (hx1.al x).new 1 _ rfl); have pf1 := (show ∀ x, (w1.alloc x).frozen? ⟨w.heap.size, 1, none⟩ = false from fun x => (hx1.al x).newfr 1); have hx0 : Ext w w1 := (by (repeat (first | exact Ext.rfl' _ | assumption | refine Ext.dr ?_ | refine Ext.drN ?_ _ | refine Ext.al ?_ _ | refine Ext.st ?_ (by simp) _ | refine Ext.tr ?_ (by assumption))))))
                refine bodyPost_ret (v := .tuple #[.agg #[.int .i64 3, .int .i64 0], .int .i64 0]) (by simp [results, Tryz.results8, go_sem, p0, p1, pf0, pf1]) rfl ?_
                exact ⟨by rw [HL.out], by (repeat (first | exact Ext.rfl' _ | assumption | refine Ext.dr ?_ | refine Ext.drN ?_ _ | refine Ext.al ?_ _ | refine Ext.st ?_ (by simp) _ | refine Ext.tr ?_ (by assumption)))⟩
              · have HL := Lib.hid (show R = (k, nn, 0) from by rw [HRS.out, if_neg (fun h => hk h.2), he])
                have d1 : (k == 0) = false := by rw [beq_eq_false_iff_ne]; exact hk
                subst he
                clear hz
                go_enter Tryz.func8, Tryz.ntmps8
                go_wp2_with (first
                  | (go_at_call 5; refine (CR.out _ (by (repeat (first | exact Ext.rfl' _ | assumption | refine Ext.dr ?_ | refine Ext.drN ?_ _ | refine Ext.al ?_ _ | refine Ext.st ?_ (by simp) _ | refine Ext.tr ?_ (by assumption))))).mono ?_; rintro ee w1 ⟨rfl, hx1⟩; have p0 := (show ∀ x, (w1.alloc x).cell? ⟨w.heap.size, 0, none⟩ = some (.int .i64 0) from fun x => (hx1.al x).new 0 _ rfl); have pf0 := (show ∀ x, (w1.alloc x).frozen? ⟨w.heap.size, 0, none⟩ = false from fun x => (hx1.al x).newfr 0); have p1 := (show ∀ x, (w1.alloc x).cell? ⟨w.heap.size, 1, none⟩ = some (.int .i64 0) from fun x => (hx1.al x).new 1 _ rfl); have pf1 := (show ∀ x, (w1.alloc x).frozen? ⟨w.heap.size, 1, none⟩ = false from fun x => (hx1.al x).newfr 1); have hx0 : Ext w w1 := (by (repeat (first | exact Ext.rfl' _ | assumption | refine Ext.dr ?_ | refine Ext.drN ?_ _ | refine Ext.al ?_ _ | refine Ext.st ?_ (by simp) _ | refine Ext.tr ?_ (by assumption)))))
                  | (go_at_call 6; refine (CR.out _ (by (repeat (first | exact Ext.rfl' _ | assumption | refine Ext.dr ?_ | refine Ext.drN ?_ _ | refine Ext.al ?_ _ | refine Ext.st ?_ (by simp) _ | refine Ext.tr ?_ (by assumption))))).mono ?_; rintro ee w1 ⟨rfl, hx1⟩; have p0 := (show ∀ x, (w1.alloc x).cell? ⟨w.heap.size, 0, none⟩ = some (.int .i64 0) from fun x => (hx1.al x).new 0 _ rfl); have pf0 := (show ∀ x, (w1.alloc x).frozen? ⟨w.heap.size, 0, none⟩ = false from fun x => (hx1.al x).newfr 0); have p1 := (show ∀ x, (w1.alloc x).cell? ⟨w.heap.size, 1, none⟩ = some (.int .i64 0) from fun x => (hx1.al x).new 1 _ rfl); have pf1 := (show ∀ x, (w1.alloc x).frozen? ⟨w.heap.size, 1, none⟩ = false from fun x => (hx1.al x).newfr 1); have hx0 : Ext w w1 := (by (repeat (first | exact Ext.rfl' _ | assumption | refine Ext.dr ?_ | refine Ext.drN ?_ _ | refine Ext.al ?_ _ | refine Ext.st ?_ (by simp) _ | refine Ext.tr ?_ (by assumption))))))
                refine bodyPost_ret (v := .tuple #[.agg #[.int .i64 k, .int .i64 nn], .int .i64 0]) (by simp [results, Tryz.results8, go_sem, p0, p1, pf0, pf1]) rfl ?_
                exact ⟨by rw [HL.out], by (repeat (first | exact Ext.rfl' _ | assumption | refine Ext.dr ?_ | refine Ext.drN ?_ _ | refine Ext.al ?_ _ | refine Ext.st ?_ (by simp) _ | refine Ext.tr ?_ (by assumption)))⟩
            · have HL := Lib.hid (show R = (k, nn, e) from by rw [HRS.out, if_neg (fun h => he h.1)])
              have d1 : (e == 0) = false := by rw [beq_eq_false_iff_ne]; exact he
              clear hz
              go_enter Tryz.func8, Tryz.ntmps8
              go_wp2_with (first
                | (go_at_call 5; refine (CR.out _ (by (repeat (first | exact Ext.rfl' _ | assumption | refine Ext.dr ?_ | refine Ext.drN ?_ _ | refine Ext.al ?_ _ | refine Ext.st ?_ (by simp) _ | refine Ext.tr ?_ (by assumption))))).mono ?_; rintro ee w1 ⟨rfl, hx1⟩; have p0 := (show ∀ x, (w1.alloc x).cell? ⟨w.heap.size, 0, none⟩ = some (.int .i64 0) from fun x => (hx1.al x).new 0 _ rfl); have pf0 := (show ∀ x, (w1.alloc x).frozen? ⟨w.heap.size, 0, none⟩ = false from fun x => (hx1.al x).newfr 0); have p1 := (show ∀ x, (w1.alloc x).cell? ⟨w.heap.size, 1, none⟩ = some (.int .i64 0) from fun x => (hx1.al x).new 1 _ rfl); have pf1 := (show ∀ x, (w1.alloc x).frozen? ⟨w.heap.size, 1, none⟩ = false from fun x => (hx1.al x).newfr 1); have hx0 : Ext w w1 := (by (repeat (first | exact Ext.rfl' _ | assumption | refine Ext.dr ?_ | refine Ext.drN ?_ _ | refine Ext.al ?_ _ | refine Ext.st ?_ (by simp) _ | refine Ext.tr ?_ (by assumption)))))
                | (go_at_call 6; refine (CR.out _ (by (repeat (first | exact Ext.rfl' _ | assumption | refine Ext.dr ?_ | refine Ext.drN ?_ _ | refine Ext.al ?_ _ | refine Ext.st ?_ (by simp) _ | refine Ext.tr ?_ (by assumption))))).mono ?_; rintro ee w1 ⟨rfl, hx1⟩; have p0 := (show ∀ x, (w1.alloc x).cell? ⟨w.heap.size, 0, none⟩ = some (.int .i64 0) from fun x => (hx1.al x).new 0 _ rfl); have pf0 := (show ∀ x, (w1.alloc x).frozen? ⟨w.heap.size, 0, none⟩ = false from fun x => (hx1.al x).newfr 0); have p1 := (show ∀ x, (w1.alloc x).cell? ⟨w.heap.size, 1, none⟩ = some (.int .i64 0) from fun x => (hx1.al x).new 1 _ rfl); have pf1 := (show ∀ x, (w1.alloc x).frozen? ⟨w.heap.size, 1, none⟩ = false from fun x => (hx1.al x).newfr 1); have hx0 : Ext w w1 := (by (repeat (first | exact Ext.rfl' _ | assumption | refine Ext.dr ?_ | refine Ext.drN ?_ _ | refine Ext.al ?_ _ | refine Ext.st ?_ (by simp) _ | refine Ext.tr ?_ (by assumption))))))
              refine bodyPost_ret (v := .tuple #[.agg #[.int .i64 k, .int .i64 nn], .int .i64 e]) (by simp [results, Tryz.results8, go_sem, p0, p1, pf0, pf1]) rfl ?_
              exact ⟨by rw [HL.out], by (repeat (first | exact Ext.rfl' _ | assumption | refine Ext.dr ?_ | refine Ext.drN ?_ _ | refine Ext.al ?_ _ | refine Ext.st ?_ (by simp) _ | refine Ext.tr ?_ (by assumption)))⟩
theorem same12_c (a b : Int) (w : World) : Calls Tryz.prog 9 #[.agg #[.int .i64 a, .int .i64 b], .agg #[.int .i64 a, .int .i64 b]] w (Gives (.bool true) w) := by
  go_enter Tryz.func9, Tryz.ntmps9
  go_wp2
  go_ret
  exact ⟨rfl, by (repeat (first | exact Ext.rfl' _ | assumption | refine Ext.dr ?_ | refine Ext.drN ?_ _ | refine Ext.al ?_ _ | refine Ext.st ?_ (by simp) _ | refine Ext.tr ?_ (by assumption)))⟩
end Go.Proofs.YtpkgoppfihcpbaaGreatDoor
end

/-
How long the body of any request and of any response is: the law as a walk.
-/
section
namespace Go.Proofs.YtpkgoppfihcpbaaGreatDoor
open Go.RowKit

theorem blk2 {W W' : World} {a b : Value} {t : TypeId} (h : Ext (W.alloc (.cells #[a, b] t)) W') : W'.cell? ⟨W.heap.size, 0, none⟩ = some a ∧ W'.cell? ⟨W.heap.size, 1, none⟩ = some b := ⟨h.new 0 _ rfl, h.new 1 _ rfl⟩
set_option maxRecDepth 100000 in
set_option maxHeartbeats 8000000 in
theorem FramingLengths_w (w : World) (hE : ErrR w) (rm rt m : List UInt8) (mi st : Int) (fs : List Fld) (hF : FitF fs) (A : Option Addr) (n c : Nat) (hn : fs.length = n) (h : Rd w A (fc fs)) :
    Calls Tryz.prog 3 #[.agg #[.string (str rm), .string (str rt), .int .i64 mi, .slice A n c], .string (str m), .int .i64 st] w (Gives (.bool true) w) := by
  have HER := Lib.hid hE
  have HA := Lib.hid h
  obtain ⟨sm, hsm⟩ : ∃ s, s = str rm := ⟨_, rfl⟩
  obtain ⟨sx, hsx⟩ : ∃ s, s = str rt := ⟨_, rfl⟩
  have C1 := fun w hE h => fRequest_any fs hF A n c hn sm sx mi w hE h
  have C2 := fun w h => rfRequest_c fs hF A n c hn sm sx mi w h
  have C3 := fun w hE h => fResponse_c m st fs hF A n c hn w hE h
  have C4 := fun w h => rfResponse_c m st fs hF A n c hn w h
  obtain ⟨⟨k1, n1, e1⟩, hr1⟩ : ∃ r, r = reqV mi fs := ⟨_, rfl⟩
  obtain ⟨⟨k2, n2, e2⟩, hr2⟩ : ∃ r, r = rspV m st fs := ⟨_, rfl⟩
  rw [← hr1] at C1 C2
  rw [← hr2] at C3 C4
  dsimp only at C1 C2 C3 C4
  obtain ⟨sq, hsq⟩ : ∃ s, s = str m := ⟨_, rfl⟩
  rw [← hsq] at C3 C4
  rw [← hsm, ← hsx, ← hsq]
  have C1 := Lib.hid C1
  have C2 := Lib.hid C2
  have C3 := Lib.hid C3
  have C4 := Lib.hid C4
  have hks := Lib.hid (fun w' (e : Ext (w.alloc (.cells #[.string sm, .string sx, .int .i64 mi, .slice A n c] 24)) w') => (show w'.cell? ⟨w.heap.size, 0, none⟩ = some (.string sm) ∧ w'.cell? ⟨w.heap.size, 1, none⟩ = some (.string sx) ∧ w'.cell? ⟨w.heap.size, 2, none⟩ = some (.int .i64 mi) ∧ w'.cell? ⟨w.heap.size, 3, none⟩ = some (.slice A n c) from ⟨e.new 0 _ rfl, e.new 1 _ rfl, e.new 2 _ rfl, e.new 3 _ rfl⟩))
  have xa := Lib.hid ((Ext.rfl' w).al (.cells #[.string sm, .string sx, .int .i64 mi, .slice A n c] 24))
  clear hE h hn hF hr1 hr2 hsm hsx hsq
  go_enter Tryz.func3, Tryz.ntmps3
  go_wp2_with (first
    | (go_at_call 5; refine (C1.out _ (HER.out.ext xa.out) (HA.out.ext xa.out)).mono ?_; rintro e w1 ⟨rfl, x1⟩; have t0 := fun x => (hks.out (w1.alloc x) (x1.al x)).1; have t1 := fun x => (hks.out (w1.alloc x) (x1.al x)).2.1; have t2 := fun x => (hks.out (w1.alloc x) (x1.al x)).2.2.1; have t3 := fun x => (hks.out (w1.alloc x) (x1.al x)).2.2.2; have X1 := Lib.hid x1; clear x1)
    | (go_at_call 6; refine (C2.out _ (HA.out.ext ((xa.out.tr X1.out).al _))).mono ?_; rintro e w2 ⟨rfl, x2⟩; clear t0 t1 t2 t3; have X2 := Lib.hid x2; have XR2 := Lib.hid (X1.out.tr (((Ext.rfl' w1).al _).tr x2)); have t3 := fun x => (hks.out (w2.alloc x) (XR2.out.al x)).2.2.2; clear x2)
    | (go_at_call 7; refine (C3.out _ (HER.out.ext ((xa.out.tr XR2.out).al _)) (HA.out.ext ((xa.out.tr XR2.out).al _))).mono ?_; rintro e w3 ⟨rfl, x3⟩; clear t3; have X3 := Lib.hid x3; have XR3 := Lib.hid (XR2.out.tr (((Ext.rfl' w2).al _).tr x3)); have t3 := fun x => (hks.out (w3.alloc x) (XR3.out.al x)).2.2.2; clear x3)
    | (go_at_call 8; refine (C4.out _ (HA.out.ext ((xa.out.tr XR3.out).al _))).mono ?_; rintro e w4 ⟨rfl, x4⟩; clear t3; have X4 := Lib.hid x4; have E3 := Lib.hid x4; have E2 := Lib.hid (X3.out.tr (((Ext.rfl' w3).al _).tr x4)); have E1 := Lib.hid (X2.out.tr (((Ext.rfl' w2).al _).tr E2.out)); have p70 := fun x => (blk2 (E1.out.al x)).1; have p71 := fun x => (blk2 (E1.out.al x)).2; have p90 := fun x => (blk2 (E2.out.al x)).1; have p91 := fun x => (blk2 (E2.out.al x)).2; have XF := Lib.hid (xa.out.tr (XR3.out.tr (((Ext.rfl' w3).al _).tr x4))); clear x4)
    | (go_at_call 10; refine (num12_c _ _).mono ?_; rintro e w9 ⟨rfl, rfl⟩)
    | (go_at_call 11; refine (knows12_c _ (HER.out.ext (XF.out.tr (by (repeat (first | exact Ext.rfl' _ | assumption | refine Ext.dr ?_ | refine Ext.drN ?_ _ | refine Ext.al ?_ _ | refine Ext.st ?_ (by simp) _ | refine Ext.tr ?_ (by assumption))))))).mono ?_; rintro e w7 ⟨rfl, x7⟩)
    | (go_at_call 9; refine (same12_c _ _ _).mono ?_; rintro e w5 ⟨rfl, x5⟩; clear p70 p71 p90 p91; have q0 := (blk2 (E3.out.tr (((Ext.rfl' w4).al _).tr x5))).1; have q1 := (blk2 (E3.out.tr (((Ext.rfl' w4).al _).tr x5))).2; have r0 := (blk2 x5).1; have r1 := (blk2 x5).2)
    | (go_at_call 9; refine (same12_c _ _ _).mono ?_; rintro e w6 ⟨rfl, x6⟩))
  go_ret
  exact ⟨rfl, XF.out.tr (by (repeat (first | exact Ext.rfl' _ | assumption | refine Ext.dr ?_ | refine Ext.drN ?_ _ | refine Ext.al ?_ _ | refine Ext.st ?_ (by simp) _ | refine Ext.tr ?_ (by assumption))))⟩
theorem vals_subU {fs : List Fld} {nm v : List UInt8} (h : v ∈ valsH fs nm) : ∃ p ∈ fs, v = p.2 := by
  unfold valsH at h
  obtain ⟨p, hp, rfl⟩ := List.mem_map.1 h
  exact ⟨p, (List.mem_filter.1 hp).1, rfl⟩
theorem vals_lenU (fs : List Fld) (nm : List UInt8) : (valsH fs nm).length ≤ fs.length := by
  unfold valsH
  rw [List.length_map]
  exact List.length_filter_le _ _
theorem flat_bd {α : Type} (f : List UInt8 → List α) (L : Nat) : ∀ (vs : List (List UInt8)), (∀ v ∈ vs, (f v).length ≤ L) → (vs.flatMap f).length ≤ vs.length * L
  | [], _ => by simp
  | v :: vs, h => by
    have h1 := h v List.mem_cons_self
    have h2 := flat_bd f L vs (fun u hu => h u (List.mem_cons_of_mem _ hu))
    rw [List.flatMap_cons, List.length_append, List.length_cons, Nat.succ_mul]
    omega
theorem split_in {s v : List UInt8} (h : s ∈ splitL 44 v) : s.length ≤ v.length := keep_len h
/-- Fields that together are small. -/
theorem fit_of {fs : List Fld} (h : ∀ x ∈ fs, x.1.length + x.2.length + 2 + fs.length ≤ 1048576) : FitF fs := by
  have hn : fs.length ≤ 1048576 := by
    cases fs with
    | nil => exact Nat.zero_le _
    | cons p fs => have := h p List.mem_cons_self; omega
  have hv : ∀ nm, ∀ v ∈ valsH fs nm, v.length + 2 + fs.length ≤ 1048576 := fun nm v hv => by
    obtain ⟨p, hp, rfl⟩ := vals_subU hv
    have := h p hp; omega
  have hprod : fs.length * (1048576 - fs.length) ≤ 1099511627776 := by
    have h1 : fs.length * (1048576 - fs.length) ≤ 1048576 * 1048576 := Nat.mul_le_mul hn (Nat.sub_le _ _)
    omega
  have hb : ∀ (nm : List UInt8) {α : Type} (f : List UInt8 → List α), (∀ v, (f v).length ≤ v.length + 1) → ((valsH fs nm).flatMap f).length ≤ 1099511627776 := fun nm α f hf => by
    have h1 := flat_bd f (1048576 - fs.length) (valsH fs nm) (fun v hv2 => by have := hv nm v hv2; have := hf v; omega)
    have h2 := Nat.mul_le_mul_right (1048576 - fs.length) (vals_lenU fs nm)
    omega
  refine ⟨by omega, fun p hp => by have := h p hp; unfold maxLen; omega, fun v hv2 => by have := hv teN v hv2; omega, hb teN _ toks_len, by have := vals_lenU fs teN; omega, fun v hv2 => by have := hv clN v hv2; omega, hb clN _ (splitL_len 44), ?_, by have := vals_lenU fs clN; omega⟩
  intro s hs
  obtain ⟨v, hv2, hs2⟩ := List.mem_flatMap.1 hs
  have h1 := split_in hs2
  have h2 := hv clN v hv2
  omega
end Go.Proofs.YtpkgoppfihcpbaaGreatDoor
end
