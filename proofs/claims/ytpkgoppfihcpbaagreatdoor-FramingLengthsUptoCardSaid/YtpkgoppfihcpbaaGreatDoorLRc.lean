/-
Framing's Request: of fields without a Transfer-Encoding.
-/
import Derived.Test.YtpkgoppfihcpbaaGreatDoorFg1
import Derived.Test.YtpkgoppfihcpbaaGreatDoorHd1
import Derived.Test.YtpkgoppfihcpbaaGreatDoorLRb
set_option linter.unusedVariables false
set_option linter.unusedSimpArgs false
/-
Framing's Request: of fields without a Transfer-Encoding.
-/
section
namespace Go.Proofs.YtpkgoppfihcpbaaGreatDoor
open Go.RowKit

def clN : List UInt8 := [67, 111, 110, 116, 101, 110, 116, 45, 76, 101, 110, 103, 116, 104]
def teN : List UInt8 := [84, 114, 97, 110, 115, 102, 101, 114, 45, 69, 110, 99, 111, 100, 105, 110, 103]
theorem two_rowsF {w w1 : World} {x y : Array Value} {t u : TypeId} (e : Ext ((w.alloc (.cells x t)).alloc (.cells y u)) w1) : w1.heap[w.heap.size]? = some (.cells x t (0, 0)) ∧ w1.heap[w.heap.size + 1]? = some (.cells y u (0, 0)) := by
  have hz : (w.alloc (.cells x t)).heap.size = w.heap.size + 1 := by simp
  have h1 := heap_alloc_new (w.alloc (.cells x t)) (.cells y u)
  rw [hz] at h1
  exact ⟨(e.block w.heap.size (by simp; omega)).trans ((((Ext.rfl' (w.alloc _)).al _).block w.heap.size (by simp)).trans (heap_alloc_new w (.cells x t))), (e.block (w.heap.size + 1) (by simp)).trans h1⟩
/-- A body's length, as Request tells it of fields that name no coding. -/
def reqL (fs : List Fld) : Int × Int × Int := if valsH fs clN = [] then (0, 0, 0) else if (lenV (valsH fs clN)).2 ≠ 0 then (0, 0, (lenV (valsH fs clN)).2) else (1, (lenV (valsH fs clN)).1, 0)
set_option maxRecDepth 100000 in
set_option maxHeartbeats 4000000 in
theorem fRequest_cl (fs : List Fld) (A : Option Addr) (n c : Nat) (hn : fs.length = n) (hb : n ≤ 8796093022206) (hsz : ∀ p ∈ fs, p.1.length ≤ maxLen) (hte : valsH fs teN = []) (me ta : ByteArray) (mi : Int) (w : World) (hE : ErrR w) (h : Rd w A (fc fs))
    (hv : ∀ v ∈ valsH fs clN, v.length ≤ 1099511627776) (hT : (partsL (valsH fs clN)).length ≤ 1099511627776) (hP : ∀ s ∈ partsL (valsH fs clN), s.length ≤ 140737488355328) (hc8 : (valsH fs clN).length ≤ 8796093022206) :
    Calls Tryz.prog 5 #[.agg #[.string me, .string ta, .int .i64 mi, .slice A n c]] w (Gives (.tuple #[.agg #[.int .i64 (reqL fs).1, .int .i64 (reqL fs).2.1], .int .i64 (reqL fs).2.2]) w) := by
  have HR := Lib.hid h
  have HEE := Lib.hid hE
  have CCL := fun w' h' => hValues_c fs clN A n c hn hb (by decide) hsz w' h'
  rw [show str clN = ⟨#[67, 111, 110, 116, 101, 110, 116, 45, 76, 101, 110, 103, 116, 104]⟩ from rfl] at CCL
  have CCL := Lib.hid CCL
  have CTE := fun w' h' => hValues_c fs teN A n c hn hb (by decide) hsz w' h'
  rw [hte, show str teN = ⟨#[84, 114, 97, 110, 115, 102, 101, 114, 45, 69, 110, 99, 111, 100, 105, 110, 103]⟩ from rfl] at CTE
  have CTE := Lib.hid CTE
  have CLN := Lib.hid (fun (A' : Option Addr) (c' : Nat) (w' : World) (h0 : valsH fs clN ≠ []) hE' h' => fLengths_c (valsH fs clN) A' (valsH fs clN).length c' rfl (List.length_pos_iff.2 h0) hv hT hP hc8 w' hE' h')
  have HX := Lib.hid (fun w' (e : Ext ((w.alloc (.cells #[.string me, .string ta, .int .i64 mi, .slice A n c] 24)).alloc (.cells #[.int .i64 0, .int .i64 0] 26)) w') => show w'.cell? ⟨w.heap.size, 3, none⟩ = some (.slice A n c) from (row_facts (two_rowsF e).1 3 _ rfl).1)
  obtain ⟨vs, hvs⟩ : ∃ q, q = valsH fs clN := ⟨_, rfl⟩
  have HRL := Lib.hid (show reqL fs = if vs = [] then (0, 0, 0) else if (lenV vs).2 ≠ 0 then (0, 0, (lenV vs).2) else (1, (lenV vs).1, 0) from by rw [hvs]; rfl)
  rw [← hvs] at CCL CLN
  clear h hE hn hsz hte hv hT hP hvs hc8
  go_enter Tryz.func5, Tryz.ntmps5
  go_wp2
  have c0 := HX.out _ (Ext.rfl' _)
  go_region_with (first
    | (go_at_call_of 18 (Value.string ⟨#[67, 111, 110, 116, 101, 110, 116, 45, 76, 101, 110, 103, 116, 104]⟩); refine (CCL.out _ (HR.out.ext (by (repeat (first | exact Ext.rfl' _ | assumption | refine Ext.dr ?_ | refine Ext.drN ?_ _ | refine Ext.al ?_ _ | refine Ext.st ?_ (by simp) _ | refine Ext.tr ?_ (by assumption)))))).mono ?_; rintro e w3 ⟨v, rfl, ⟨A3, c3, rfl, hrd3⟩, hx3⟩; have hc3 := HX.out w3 (by (repeat (first | exact Ext.rfl' _ | assumption | refine Ext.dr ?_ | refine Ext.drN ?_ _ | refine Ext.al ?_ _ | refine Ext.st ?_ (by simp) _ | refine Ext.tr ?_ (by assumption)))))
    | (go_at_call_of 18 (Value.string ⟨#[84, 114, 97, 110, 115, 102, 101, 114, 45, 69, 110, 99, 111, 100, 105, 110, 103]⟩); refine (CTE.out _ (HR.out.ext (by (repeat (first | exact Ext.rfl' _ | assumption | refine Ext.dr ?_ | refine Ext.drN ?_ _ | refine Ext.al ?_ _ | refine Ext.st ?_ (by simp) _ | refine Ext.tr ?_ (by assumption)))))).mono ?_; rintro e w4 ⟨v, rfl, ⟨A4, c4, rfl, hrd4⟩, hx4⟩))
  all_goals (
    have e4 : Ext ((w.alloc (.cells #[.string me, .string ta, .int .i64 mi, .slice A n c] 24)).alloc (.cells #[.int .i64 0, .int .i64 0] 26)) w4 := by (repeat (first | exact Ext.rfl' _ | assumption | refine Ext.dr ?_ | refine Ext.drN ?_ _ | refine Ext.al ?_ _ | refine Ext.st ?_ (by simp) _ | refine Ext.tr ?_ (by assumption)))
    obtain ⟨_, r4⟩ := two_rowsF e4
    obtain ⟨p0, pf0⟩ := row_facts r4 0 _ rfl
    obtain ⟨p1, pf1⟩ := row_facts r4 1 _ rfl
    have E4 := Lib.hid e4
    clear r4 e4
    by_cases h0 : vs = []
    · subst h0
      go_wp2
      refine bodyPost_ret (v := .tuple #[.agg #[.int .i64 0, .int .i64 0], .int .i64 0]) (by simp [results, Tryz.results5, go_sem, p0, p1]) rfl ?_
      exact ⟨by rw [HRL.out]; rfl, by (repeat (first | exact Ext.rfl' _ | assumption | refine Ext.dr ?_ | refine Ext.drN ?_ _ | refine Ext.al ?_ _ | refine Ext.st ?_ (by simp) _ | refine Ext.tr ?_ (by assumption)))⟩
    · have hpos : (0 : Int) < (vs.length : Int) := by have := List.length_pos_iff.2 h0; omega
      have CL := Lib.hid (fun w' hE' h' => CLN.out A3 c3 w' h0 hE' h')
      have HRL2 := Lib.hid (show reqL fs = if (lenV vs).2 ≠ 0 then (0, 0, (lenV vs).2) else (1, (lenV vs).1, 0) from by rw [HRL.out, if_neg h0])
      obtain ⟨lv, hlv⟩ : ∃ q, q = (lenV vs).1 := ⟨_, rfl⟩
      obtain ⟨le, hle⟩ : ∃ q, q = (lenV vs).2 := ⟨_, rfl⟩
      rw [← hlv, ← hle] at CL HRL2
      clear hlv hle h0
      by_cases h1 : le = 0
      · subst h1
        go_wp2_with (go_at_call 20; refine (CL.out _ (HEE.out.ext (by (repeat (first | exact Ext.rfl' _ | assumption | refine Ext.dr ?_ | refine Ext.drN ?_ _ | refine Ext.al ?_ _ | refine Ext.st ?_ (by simp) _ | refine Ext.tr ?_ (by assumption))))) (hrd3.ext (by (repeat (first | exact Ext.rfl' _ | assumption | refine Ext.dr ?_ | refine Ext.drN ?_ _ | refine Ext.al ?_ _ | refine Ext.st ?_ (by simp) _ | refine Ext.tr ?_ (by assumption)))))).mono ?_; rintro e w5 ⟨rfl, hx5⟩; obtain ⟨_, r5⟩ := two_rowsF (E4.out.tr hx5); obtain ⟨q0, qf0⟩ := row_facts r5 0 _ rfl; obtain ⟨q1, qf1⟩ := row_facts r5 1 _ rfl; clear r5)
        refine bodyPost_ret (v := .tuple #[.agg #[.int .i64 1, .int .i64 lv], .int .i64 0]) (by simp [results, Tryz.results5, go_sem, q0, q1]) rfl ?_
        exact ⟨by rw [HRL2.out]; rfl, by (repeat (first | exact Ext.rfl' _ | assumption | refine Ext.dr ?_ | refine Ext.drN ?_ _ | refine Ext.al ?_ _ | refine Ext.st ?_ (by simp) _ | refine Ext.tr ?_ (by assumption)))⟩
      · have d1 : (le != 0) = true := by rw [bne_iff_ne]; exact h1
        go_wp2_with (go_at_call 20; refine (CL.out _ (HEE.out.ext (by (repeat (first | exact Ext.rfl' _ | assumption | refine Ext.dr ?_ | refine Ext.drN ?_ _ | refine Ext.al ?_ _ | refine Ext.st ?_ (by simp) _ | refine Ext.tr ?_ (by assumption))))) (hrd3.ext (by (repeat (first | exact Ext.rfl' _ | assumption | refine Ext.dr ?_ | refine Ext.drN ?_ _ | refine Ext.al ?_ _ | refine Ext.st ?_ (by simp) _ | refine Ext.tr ?_ (by assumption)))))).mono ?_; rintro e w5 ⟨rfl, hx5⟩; obtain ⟨_, r5⟩ := two_rowsF (E4.out.tr hx5); obtain ⟨q0, qf0⟩ := row_facts r5 0 _ rfl; obtain ⟨q1, qf1⟩ := row_facts r5 1 _ rfl; clear r5)
        refine bodyPost_ret (v := .tuple #[.agg #[.int .i64 0, .int .i64 0], .int .i64 le]) (by simp [results, Tryz.results5, go_sem, q0, q1]) rfl ?_
        exact ⟨by rw [HRL2.out, if_pos h1], by (repeat (first | exact Ext.rfl' _ | assumption | refine Ext.dr ?_ | refine Ext.drN ?_ _ | refine Ext.al ?_ _ | refine Ext.st ?_ (by simp) _ | refine Ext.tr ?_ (by assumption)))⟩)
end Go.Proofs.YtpkgoppfihcpbaaGreatDoor
end

/-
Framing's Request: of fields that name a coding.
-/
section
namespace Go.Proofs.YtpkgoppfihcpbaaGreatDoor
open Go.RowKit

/-- A body's length, as Request tells it of fields that name a coding. -/
def reqT (mi : Int) (fs : List Fld) : Int × Int × Int := if valsH fs clN ≠ [] ∨ mi = 0 then (0, 0, 45) else if codV (valsH fs teN) ≠ 0 then (0, 0, codV (valsH fs teN)) else (2, 0, 0)
set_option maxRecDepth 100000 in
set_option maxHeartbeats 4000000 in
theorem fRequest_te (fs : List Fld) (A : Option Addr) (n c : Nat) (hn : fs.length = n) (hb : n ≤ 8796093022206) (hsz : ∀ p ∈ fs, p.1.length ≤ maxLen) (hte : valsH fs teN ≠ []) (me ta : ByteArray) (mi : Int) (w : World) (h : Rd w A (fc fs))
    (hcd : valsH fs clN = [] → mi ≠ 0 → (∀ v ∈ valsH fs teN, v.length ≤ 1099511627776) ∧ (toksA (valsH fs teN)).length ≤ 1099511627776 ∧ (valsH fs teN).length ≤ 8796093022206) :
    Calls Tryz.prog 5 #[.agg #[.string me, .string ta, .int .i64 mi, .slice A n c]] w (Gives (.tuple #[.agg #[.int .i64 (reqT mi fs).1, .int .i64 (reqT mi fs).2.1], .int .i64 (reqT mi fs).2.2]) w) := by
  have HR := Lib.hid h
  have CCL := fun w' h' => hValues_c fs clN A n c hn hb (by decide) hsz w' h'
  rw [show str clN = ⟨#[67, 111, 110, 116, 101, 110, 116, 45, 76, 101, 110, 103, 116, 104]⟩ from rfl] at CCL
  have CTE := fun w' h' => hValues_c fs teN A n c hn hb (by decide) hsz w' h'
  rw [show str teN = ⟨#[84, 114, 97, 110, 115, 102, 101, 114, 45, 69, 110, 99, 111, 100, 105, 110, 103]⟩ from rfl] at CTE
  have HX := Lib.hid (fun w' (e : Ext ((w.alloc (.cells #[.string me, .string ta, .int .i64 mi, .slice A n c] 24)).alloc (.cells #[.int .i64 0, .int .i64 0] 26)) w') => show w'.cell? ⟨w.heap.size, 3, none⟩ = some (.slice A n c) from (row_facts (two_rowsF e).1 3 _ rfl).1)
  have HX2 := Lib.hid (fun w' (e : Ext ((w.alloc (.cells #[.string me, .string ta, .int .i64 mi, .slice A n c] 24)).alloc (.cells #[.int .i64 0, .int .i64 0] 26)) w') => show w'.cell? ⟨w.heap.size, 2, none⟩ = some (.int .i64 mi) from (row_facts (two_rowsF e).1 2 _ rfl).1)
  have CC := Lib.hid (fun (A' : Option Addr) (c' : Nat) (w' : World) (h0 : valsH fs clN = []) (h1 : mi ≠ 0) h' => fCodings_c (valsH fs teN) A' (valsH fs teN).length c' rfl (hcd h0 h1).1 (hcd h0 h1).2.1 (hcd h0 h1).2.2 w' h')
  obtain ⟨vs, hvs⟩ : ∃ q, q = valsH fs clN := ⟨_, rfl⟩
  obtain ⟨ts, hts⟩ : ∃ q, q = valsH fs teN := ⟨_, rfl⟩
  have HRL := Lib.hid (show reqT mi fs = if vs ≠ [] ∨ mi = 0 then (0, 0, 45) else if codV ts ≠ 0 then (0, 0, codV ts) else (2, 0, 0) from by rw [hvs, hts]; rfl)
  rw [← hvs] at CCL CC
  rw [← hts] at CTE CC hte
  have CCL := Lib.hid CCL
  have CTE := Lib.hid CTE
  obtain ⟨R, hR⟩ : ∃ R, R = reqT mi fs := ⟨_, rfl⟩
  rw [← hR] at HRL ⊢
  have hpos : (0 : Int) < (ts.length : Int) := by have := List.length_pos_iff.2 hte; omega
  clear h hn hsz hte hcd hvs hts hR
  go_enter Tryz.func5, Tryz.ntmps5
  go_wp2
  have c0 := HX.out _ (Ext.rfl' _)
  go_region_with (first
    | (go_at_call_of 18 (Value.string ⟨#[67, 111, 110, 116, 101, 110, 116, 45, 76, 101, 110, 103, 116, 104]⟩); refine (CCL.out _ (HR.out.ext (by (repeat (first | exact Ext.rfl' _ | assumption | refine Ext.dr ?_ | refine Ext.drN ?_ _ | refine Ext.al ?_ _ | refine Ext.st ?_ (by simp) _ | refine Ext.tr ?_ (by assumption)))))).mono ?_; rintro e w3 ⟨v, rfl, ⟨A3, c3, rfl, hrd3⟩, hx3⟩; have hc3 := HX.out w3 (by (repeat (first | exact Ext.rfl' _ | assumption | refine Ext.dr ?_ | refine Ext.drN ?_ _ | refine Ext.al ?_ _ | refine Ext.st ?_ (by simp) _ | refine Ext.tr ?_ (by assumption)))))
    | (go_at_call_of 18 (Value.string ⟨#[84, 114, 97, 110, 115, 102, 101, 114, 45, 69, 110, 99, 111, 100, 105, 110, 103]⟩); refine (CTE.out _ (HR.out.ext (by (repeat (first | exact Ext.rfl' _ | assumption | refine Ext.dr ?_ | refine Ext.drN ?_ _ | refine Ext.al ?_ _ | refine Ext.st ?_ (by simp) _ | refine Ext.tr ?_ (by assumption)))))).mono ?_; rintro e w4 ⟨v, rfl, ⟨A4, c4, rfl, hrd4⟩, hx4⟩))
  all_goals (
    have e4 : Ext ((w.alloc (.cells #[.string me, .string ta, .int .i64 mi, .slice A n c] 24)).alloc (.cells #[.int .i64 0, .int .i64 0] 26)) w4 := by (repeat (first | exact Ext.rfl' _ | assumption | refine Ext.dr ?_ | refine Ext.drN ?_ _ | refine Ext.al ?_ _ | refine Ext.st ?_ (by simp) _ | refine Ext.tr ?_ (by assumption)))
    obtain ⟨_, r4⟩ := two_rowsF e4
    obtain ⟨p0, pf0⟩ := row_facts r4 0 _ rfl
    obtain ⟨p1, pf1⟩ := row_facts r4 1 _ rfl
    have cm := HX2.out w4 e4
    have E4 := Lib.hid e4
    clear r4 e4
    by_cases h0 : vs = []
    · by_cases h1 : mi = 0
      · have HL := Lib.hid (show R = (0, 0, 45) from by rw [HRL.out, if_pos (.inr h1)])
        subst h0 h1
        go_wp2
        refine bodyPost_ret (v := .tuple #[.agg #[.int .i64 0, .int .i64 0], .int .i64 45]) (by simp [results, Tryz.results5, go_sem, p0, p1]) rfl ?_
        exact ⟨by rw [HL.out], by (repeat (first | exact Ext.rfl' _ | assumption | refine Ext.dr ?_ | refine Ext.drN ?_ _ | refine Ext.al ?_ _ | refine Ext.st ?_ (by simp) _ | refine Ext.tr ?_ (by assumption)))⟩
      · have C9 := Lib.hid (fun w' h' => CC.out A4 c4 w' h0 h1 h')
        have HRL2 := Lib.hid (show R = if codV ts ≠ 0 then (0, 0, codV ts) else (2, 0, 0) from by rw [HRL.out, if_neg (by simp [h0, h1])])
        obtain ⟨le, hle⟩ : ∃ q, q = codV ts := ⟨_, rfl⟩
        rw [← hle] at C9 HRL2
        have d0 : (mi == 0) = false := by rw [beq_eq_false_iff_ne]; exact h1
        subst h0
        clear hle h1
        by_cases h2 : le = 0
        · have HL := Lib.hid (show R = (2, 0, 0) from by rw [HRL2.out, if_neg (by simp [h2])])
          subst h2
          go_wp2_with (go_at_call 19; refine (C9.out _ (hrd4.ext (by (repeat (first | exact Ext.rfl' _ | assumption | refine Ext.dr ?_ | refine Ext.drN ?_ _ | refine Ext.al ?_ _ | refine Ext.st ?_ (by simp) _ | refine Ext.tr ?_ (by assumption)))))).mono ?_; rintro e w5 ⟨rfl, hx5⟩; obtain ⟨_, r5⟩ := two_rowsF (E4.out.tr hx5); obtain ⟨q0, qf0⟩ := row_facts r5 0 _ rfl; obtain ⟨q1, qf1⟩ := row_facts r5 1 _ rfl; clear r5)
          refine bodyPost_ret (v := .tuple #[.agg #[.int .i64 2, .int .i64 0], .int .i64 0]) (by simp [results, Tryz.results5, go_sem, q0, q1]) rfl ?_
          exact ⟨by rw [HL.out], by (repeat (first | exact Ext.rfl' _ | assumption | refine Ext.dr ?_ | refine Ext.drN ?_ _ | refine Ext.al ?_ _ | refine Ext.st ?_ (by simp) _ | refine Ext.tr ?_ (by assumption)))⟩
        · have HL := Lib.hid (show R = (0, 0, le) from by rw [HRL2.out, if_pos h2])
          have d1 : (le != 0) = true := by rw [bne_iff_ne]; exact h2
          go_wp2_with (go_at_call 19; refine (C9.out _ (hrd4.ext (by (repeat (first | exact Ext.rfl' _ | assumption | refine Ext.dr ?_ | refine Ext.drN ?_ _ | refine Ext.al ?_ _ | refine Ext.st ?_ (by simp) _ | refine Ext.tr ?_ (by assumption)))))).mono ?_; rintro e w5 ⟨rfl, hx5⟩; obtain ⟨_, r5⟩ := two_rowsF (E4.out.tr hx5); obtain ⟨q0, qf0⟩ := row_facts r5 0 _ rfl; obtain ⟨q1, qf1⟩ := row_facts r5 1 _ rfl; clear r5)
          refine bodyPost_ret (v := .tuple #[.agg #[.int .i64 0, .int .i64 0], .int .i64 le]) (by simp [results, Tryz.results5, go_sem, q0, q1]) rfl ?_
          exact ⟨by rw [HL.out], by (repeat (first | exact Ext.rfl' _ | assumption | refine Ext.dr ?_ | refine Ext.drN ?_ _ | refine Ext.al ?_ _ | refine Ext.st ?_ (by simp) _ | refine Ext.tr ?_ (by assumption)))⟩
    · have hp2 : (0 : Int) < (vs.length : Int) := by have := List.length_pos_iff.2 h0; omega
      have hp3 : 0 < vs.length := List.length_pos_iff.2 h0
      have hp4 : decide (0 < vs.length) = true := by rw [decide_eq_true_eq]; exact hp3
      have HL := Lib.hid (show R = (0, 0, 45) from by rw [HRL.out, if_pos (.inl h0)])
      clear h0
      go_wp2
      refine bodyPost_ret (v := .tuple #[.agg #[.int .i64 0, .int .i64 0], .int .i64 45]) (by simp [results, Tryz.results5, go_sem, p0, p1]) rfl ?_
      exact ⟨by rw [HL.out], by (repeat (first | exact Ext.rfl' _ | assumption | refine Ext.dr ?_ | refine Ext.drN ?_ _ | refine Ext.al ?_ _ | refine Ext.st ?_ (by simp) _ | refine Ext.tr ?_ (by assumption)))⟩)
end Go.Proofs.YtpkgoppfihcpbaaGreatDoor
end

/-
Request, the program's and the reference's: a body's length of any fields.
-/
section
namespace Go.Proofs.YtpkgoppfihcpbaaGreatDoor
open Go.RowKit

def clS' : List UInt8 := [99, 111, 110, 116, 101, 110, 116, 45, 108, 101, 110, 103, 116, 104]
def teS' : List UInt8 := [116, 114, 97, 110, 115, 102, 101, 114, 45, 101, 110, 99, 111, 100, 105, 110, 103]
theorem vals_cl (fs : List Fld) : valsH fs clS' = valsH fs clN := by unfold valsH; rw [show lowL clS' = lowL clN from by decide +kernel]
theorem vals_te (fs : List Fld) : valsH fs teS' = valsH fs teN := by unfold valsH; rw [show lowL teS' = lowL teN from by decide +kernel]
/-- A body's length, as Request tells it. -/
def reqV (mi : Int) (fs : List Fld) : Int × Int × Int := if valsH fs teN = [] then reqL fs else reqT mi fs
/-- Fields that fit the machine. -/
structure FitF (fs : List Fld) : Prop where
  n : fs.length ≤ 8796093022206
  k : ∀ p ∈ fs, p.1.length ≤ maxLen
  t1 : ∀ v ∈ valsH fs teN, v.length ≤ 1099511627776
  t2 : (toksA (valsH fs teN)).length ≤ 1099511627776
  t3 : (valsH fs teN).length ≤ 8796093022206
  c1 : ∀ v ∈ valsH fs clN, v.length ≤ 1099511627776
  c2 : (partsL (valsH fs clN)).length ≤ 1099511627776
  c3 : ∀ s ∈ partsL (valsH fs clN), s.length ≤ 140737488355328
  c4 : (valsH fs clN).length ≤ 8796093022206
theorem fRequest_any (fs : List Fld) (hF : FitF fs) (A : Option Addr) (n c : Nat) (hn : fs.length = n) (me ta : ByteArray) (mi : Int) (w : World) (hE : ErrR w) (h : Rd w A (fc fs)) :
    Calls Tryz.prog 5 #[.agg #[.string me, .string ta, .int .i64 mi, .slice A n c]] w (Gives (.tuple #[.agg #[.int .i64 (reqV mi fs).1, .int .i64 (reqV mi fs).2.1], .int .i64 (reqV mi fs).2.2]) w) := by
  by_cases ht : valsH fs teN = []
  · have e : reqV mi fs = reqL fs := if_pos ht
    rw [e]
    exact fRequest_cl fs A n c hn (by have := hF.n; omega) hF.k ht me ta mi w hE h hF.c1 hF.c2 hF.c3 hF.c4
  · have e : reqV mi fs = reqT mi fs := if_neg ht
    rw [e]
    exact fRequest_te fs A n c hn (by have := hF.n; omega) hF.k ht me ta mi w h (fun _ _ => ⟨hF.t1, hF.t2, hF.t3⟩)
set_option maxRecDepth 100000 in
set_option maxHeartbeats 4000000 in
theorem rfRequest_c (fs : List Fld) (hF : FitF fs) (A : Option Addr) (n c : Nat) (hn : fs.length = n) (me ta : ByteArray) (mi : Int) (w : World) (h : Rd w A (fc fs)) :
    Calls Tryz.prog 6 #[.agg #[.string me, .string ta, .int .i64 mi, .slice A n c]] w (Gives (.tuple #[.agg #[.int .i64 (reqV mi fs).1, .int .i64 (reqV mi fs).2.1], .int .i64 (reqV mi fs).2.2]) w) := by
  have HR := Lib.hid h
  have CCL := fun w' h' => rhValues_c fs clS' A n c hn (by have := hF.n; omega) (by decide) hF.k w' h'
  rw [vals_cl, show str clS' = ⟨#[99, 111, 110, 116, 101, 110, 116, 45, 108, 101, 110, 103, 116, 104]⟩ from rfl] at CCL
  have CTE := fun w' h' => rhValues_c fs teS' A n c hn (by have := hF.n; omega) (by decide) hF.k w' h'
  rw [vals_te, show str teS' = ⟨#[116, 114, 97, 110, 115, 102, 101, 114, 45, 101, 110, 99, 111, 100, 105, 110, 103]⟩ from rfl] at CTE
  have HX := Lib.hid (fun w' (e : Ext ((w.alloc (.cells #[.string me, .string ta, .int .i64 mi, .slice A n c] 24)).alloc (.cells #[.int .i64 0, .int .i64 0] 30)) w') => show w'.cell? ⟨w.heap.size, 3, none⟩ = some (.slice A n c) from (row_facts (two_rowsF e).1 3 _ rfl).1)
  have CC := Lib.hid (fun (A' : Option Addr) (c' : Nat) (w' : World) h' => rfCodings_c (valsH fs teN) A' (valsH fs teN).length c' rfl hF.t1 hF.t2 hF.t3 w' h')
  have CLN := Lib.hid (fun (A' : Option Addr) (c' : Nat) (w' : World) (h0 : valsH fs clN ≠ []) h' => rfLengths_c (valsH fs clN) A' (valsH fs clN).length c' rfl (List.length_pos_iff.2 h0) hF.c1 hF.c2 hF.c3 hF.c4 w' h')
  obtain ⟨vs, hvs⟩ : ∃ q, q = valsH fs clN := ⟨_, rfl⟩
  obtain ⟨ts, hts⟩ : ∃ q, q = valsH fs teN := ⟨_, rfl⟩
  have HRL := Lib.hid (show reqV mi fs = if ts = [] then (if vs = [] then (0, 0, 0) else if (lenV vs).2 ≠ 0 then (0, 0, (lenV vs).2) else (1, (lenV vs).1, 0)) else (if vs ≠ [] ∨ mi = 0 then (0, 0, 45) else if codV ts ≠ 0 then (0, 0, codV ts) else (2, 0, 0)) from by rw [hvs, hts]; rfl)
  rw [← hvs] at CCL CLN
  rw [← hts] at CTE CC
  have CCL := Lib.hid CCL
  have CTE := Lib.hid CTE
  obtain ⟨R, hR⟩ : ∃ R, R = reqV mi fs := ⟨_, rfl⟩
  rw [← hR] at HRL ⊢
  clear h hn hF hvs hts hR
  go_enter Tryz.func6, Tryz.ntmps6
  by_cases ht : ts = []
  · have HRL1 := Lib.hid (show R = if vs = [] then (0, 0, 0) else if (lenV vs).2 ≠ 0 then (0, 0, (lenV vs).2) else (1, (lenV vs).1, 0) from by rw [HRL.out, if_pos ht])
    subst ht
    by_cases hv : vs = []
    · have HL := Lib.hid (show R = (0, 0, 0) from by rw [HRL1.out, if_pos hv])
      subst hv
      go_wp2_with (first | (go_at_call_of 21 (Value.string ⟨#[99, 111, 110, 116, 101, 110, 116, 45, 108, 101, 110, 103, 116, 104]⟩); refine (CCL.out _ (HR.out.ext (by (repeat (first | exact Ext.rfl' _ | assumption | refine Ext.dr ?_ | refine Ext.drN ?_ _ | refine Ext.al ?_ _ | refine Ext.st ?_ (by simp) _ | refine Ext.tr ?_ (by assumption)))))).mono ?_; rintro e w3 ⟨v, rfl, ⟨A3, c3, rfl, hrd3⟩, hx3⟩; have hc3 := HX.out w3 (by (repeat (first | exact Ext.rfl' _ | assumption | refine Ext.dr ?_ | refine Ext.drN ?_ _ | refine Ext.al ?_ _ | refine Ext.st ?_ (by simp) _ | refine Ext.tr ?_ (by assumption))))) | (go_at_call_of 21 (Value.string ⟨#[116, 114, 97, 110, 115, 102, 101, 114, 45, 101, 110, 99, 111, 100, 105, 110, 103]⟩); refine (CTE.out _ (HR.out.ext (by (repeat (first | exact Ext.rfl' _ | assumption | refine Ext.dr ?_ | refine Ext.drN ?_ _ | refine Ext.al ?_ _ | refine Ext.st ?_ (by simp) _ | refine Ext.tr ?_ (by assumption)))))).mono ?_; rintro e w4 ⟨v, rfl, ⟨A4, c4, rfl, hrd4⟩, hx4⟩; have e4 : Ext ((w.alloc (.cells #[.string me, .string ta, .int .i64 mi, .slice A n c] 24)).alloc (.cells #[.int .i64 0, .int .i64 0] 30)) w4 := (by (repeat (first | exact Ext.rfl' _ | assumption | refine Ext.dr ?_ | refine Ext.drN ?_ _ | refine Ext.al ?_ _ | refine Ext.st ?_ (by simp) _ | refine Ext.tr ?_ (by assumption)))); have hrr := two_rowsF e4; have p0 := (row_facts hrr.2 0 _ rfl).1; have pf0 := (row_facts hrr.2 0 _ rfl).2; have p1 := (row_facts hrr.2 1 _ rfl).1; have pf1 := (row_facts hrr.2 1 _ rfl).2; have cm := (row_facts hrr.1 2 _ rfl).1; have E4 := Lib.hid e4; clear e4 hrr))
      refine bodyPost_ret (v := .tuple #[.agg #[.int .i64 0, .int .i64 0], .int .i64 0]) (by simp [results, Tryz.results6, go_sem, p0, p1]) rfl ?_
      exact ⟨by rw [HL.out], by (repeat (first | exact Ext.rfl' _ | assumption | refine Ext.dr ?_ | refine Ext.drN ?_ _ | refine Ext.al ?_ _ | refine Ext.st ?_ (by simp) _ | refine Ext.tr ?_ (by assumption)))⟩
    · have hp2 : 0 < vs.length := List.length_pos_iff.2 hv
      have d0 : ((vs.length : Int) == 0) = false := by rw [beq_eq_false_iff_ne]; omega
      have CL := Lib.hid (fun (w' : World) (A' : Option Addr) (c' : Nat) h' => CLN.out A' c' w' hv h')
      have HRL2 := Lib.hid (show R = if (lenV vs).2 ≠ 0 then (0, 0, (lenV vs).2) else (1, (lenV vs).1, 0) from by rw [HRL1.out, if_neg hv])
      obtain ⟨lv, hlv⟩ : ∃ q, q = (lenV vs).1 := ⟨_, rfl⟩
      obtain ⟨le, hle⟩ : ∃ q, q = (lenV vs).2 := ⟨_, rfl⟩
      rw [← hlv, ← hle] at CL HRL2
      have CL := Lib.hid (fun (w' : World) {A' : Option Addr} {c' : Nat} h' => CL.out w' A' c' h')
      clear hlv hle hv hp2
      by_cases h1 : le = 0
      · have HL := Lib.hid (show R = (1, lv, 0) from by rw [HRL2.out, if_neg (by simp [h1])])
        subst h1
        go_wp2_with (first | (go_at_call_of 21 (Value.string ⟨#[99, 111, 110, 116, 101, 110, 116, 45, 108, 101, 110, 103, 116, 104]⟩); refine (CCL.out _ (HR.out.ext (by (repeat (first | exact Ext.rfl' _ | assumption | refine Ext.dr ?_ | refine Ext.drN ?_ _ | refine Ext.al ?_ _ | refine Ext.st ?_ (by simp) _ | refine Ext.tr ?_ (by assumption)))))).mono ?_; rintro e w3 ⟨v, rfl, ⟨A3, c3, rfl, hrd3⟩, hx3⟩; have hc3 := HX.out w3 (by (repeat (first | exact Ext.rfl' _ | assumption | refine Ext.dr ?_ | refine Ext.drN ?_ _ | refine Ext.al ?_ _ | refine Ext.st ?_ (by simp) _ | refine Ext.tr ?_ (by assumption))))) | (go_at_call_of 21 (Value.string ⟨#[116, 114, 97, 110, 115, 102, 101, 114, 45, 101, 110, 99, 111, 100, 105, 110, 103]⟩); refine (CTE.out _ (HR.out.ext (by (repeat (first | exact Ext.rfl' _ | assumption | refine Ext.dr ?_ | refine Ext.drN ?_ _ | refine Ext.al ?_ _ | refine Ext.st ?_ (by simp) _ | refine Ext.tr ?_ (by assumption)))))).mono ?_; rintro e w4 ⟨v, rfl, ⟨A4, c4, rfl, hrd4⟩, hx4⟩; have e4 : Ext ((w.alloc (.cells #[.string me, .string ta, .int .i64 mi, .slice A n c] 24)).alloc (.cells #[.int .i64 0, .int .i64 0] 30)) w4 := (by (repeat (first | exact Ext.rfl' _ | assumption | refine Ext.dr ?_ | refine Ext.drN ?_ _ | refine Ext.al ?_ _ | refine Ext.st ?_ (by simp) _ | refine Ext.tr ?_ (by assumption)))); have hrr := two_rowsF e4; have p0 := (row_facts hrr.2 0 _ rfl).1; have pf0 := (row_facts hrr.2 0 _ rfl).2; have p1 := (row_facts hrr.2 1 _ rfl).1; have pf1 := (row_facts hrr.2 1 _ rfl).2; have cm := (row_facts hrr.1 2 _ rfl).1; have E4 := Lib.hid e4; clear e4 hrr) | (go_at_call 23; refine (CL.out _ (hrd3.ext (by (repeat (first | exact Ext.rfl' _ | assumption | refine Ext.dr ?_ | refine Ext.drN ?_ _ | refine Ext.al ?_ _ | refine Ext.st ?_ (by simp) _ | refine Ext.tr ?_ (by assumption)))))).mono ?_; rintro e w5 ⟨rfl, hx5⟩; have hr5 := two_rowsF (E4.out.tr hx5); have q0 := (row_facts hr5.2 0 _ rfl).1; have qf0 := (row_facts hr5.2 0 _ rfl).2; have q1 := (row_facts hr5.2 1 _ rfl).1; have qf1 := (row_facts hr5.2 1 _ rfl).2; clear hr5 p0 p1 pf0 pf1))
        refine bodyPost_ret (v := .tuple #[.agg #[.int .i64 1, .int .i64 lv], .int .i64 0]) (by simp [results, Tryz.results6, go_sem, q0, q1]) rfl ?_
        exact ⟨by rw [HL.out], by (repeat (first | exact Ext.rfl' _ | assumption | refine Ext.dr ?_ | refine Ext.drN ?_ _ | refine Ext.al ?_ _ | refine Ext.st ?_ (by simp) _ | refine Ext.tr ?_ (by assumption)))⟩
      · have HL := Lib.hid (show R = (0, 0, le) from by rw [HRL2.out, if_pos h1])
        have d1 : (le != 0) = true := by rw [bne_iff_ne]; exact h1
        go_wp2_with (first | (go_at_call_of 21 (Value.string ⟨#[99, 111, 110, 116, 101, 110, 116, 45, 108, 101, 110, 103, 116, 104]⟩); refine (CCL.out _ (HR.out.ext (by (repeat (first | exact Ext.rfl' _ | assumption | refine Ext.dr ?_ | refine Ext.drN ?_ _ | refine Ext.al ?_ _ | refine Ext.st ?_ (by simp) _ | refine Ext.tr ?_ (by assumption)))))).mono ?_; rintro e w3 ⟨v, rfl, ⟨A3, c3, rfl, hrd3⟩, hx3⟩; have hc3 := HX.out w3 (by (repeat (first | exact Ext.rfl' _ | assumption | refine Ext.dr ?_ | refine Ext.drN ?_ _ | refine Ext.al ?_ _ | refine Ext.st ?_ (by simp) _ | refine Ext.tr ?_ (by assumption))))) | (go_at_call_of 21 (Value.string ⟨#[116, 114, 97, 110, 115, 102, 101, 114, 45, 101, 110, 99, 111, 100, 105, 110, 103]⟩); refine (CTE.out _ (HR.out.ext (by (repeat (first | exact Ext.rfl' _ | assumption | refine Ext.dr ?_ | refine Ext.drN ?_ _ | refine Ext.al ?_ _ | refine Ext.st ?_ (by simp) _ | refine Ext.tr ?_ (by assumption)))))).mono ?_; rintro e w4 ⟨v, rfl, ⟨A4, c4, rfl, hrd4⟩, hx4⟩; have e4 : Ext ((w.alloc (.cells #[.string me, .string ta, .int .i64 mi, .slice A n c] 24)).alloc (.cells #[.int .i64 0, .int .i64 0] 30)) w4 := (by (repeat (first | exact Ext.rfl' _ | assumption | refine Ext.dr ?_ | refine Ext.drN ?_ _ | refine Ext.al ?_ _ | refine Ext.st ?_ (by simp) _ | refine Ext.tr ?_ (by assumption)))); have hrr := two_rowsF e4; have p0 := (row_facts hrr.2 0 _ rfl).1; have pf0 := (row_facts hrr.2 0 _ rfl).2; have p1 := (row_facts hrr.2 1 _ rfl).1; have pf1 := (row_facts hrr.2 1 _ rfl).2; have cm := (row_facts hrr.1 2 _ rfl).1; have E4 := Lib.hid e4; clear e4 hrr) | (go_at_call 23; refine (CL.out _ (hrd3.ext (by (repeat (first | exact Ext.rfl' _ | assumption | refine Ext.dr ?_ | refine Ext.drN ?_ _ | refine Ext.al ?_ _ | refine Ext.st ?_ (by simp) _ | refine Ext.tr ?_ (by assumption)))))).mono ?_; rintro e w5 ⟨rfl, hx5⟩; have hr5 := two_rowsF (E4.out.tr hx5); have q0 := (row_facts hr5.2 0 _ rfl).1; have qf0 := (row_facts hr5.2 0 _ rfl).2; have q1 := (row_facts hr5.2 1 _ rfl).1; have qf1 := (row_facts hr5.2 1 _ rfl).2; clear hr5 p0 p1 pf0 pf1))
        refine bodyPost_ret (v := .tuple #[.agg #[.int .i64 0, .int .i64 0], .int .i64 le]) (by simp [results, Tryz.results6, go_sem, q0, q1]) rfl ?_
        exact ⟨by rw [HL.out], by (repeat (first | exact Ext.rfl' _ | assumption | refine Ext.dr ?_ | refine Ext.drN ?_ _ | refine Ext.al ?_ _ | refine Ext.st ?_ (by simp) _ | refine Ext.tr ?_ (by assumption)))⟩
  · have HRL1 := Lib.hid (show R = if vs ≠ [] ∨ mi = 0 then (0, 0, 45) else if codV ts ≠ 0 then (0, 0, codV ts) else (2, 0, 0) from by rw [HRL.out, if_neg ht])
    have hpos : (0 : Int) < (ts.length : Int) := by have := List.length_pos_iff.2 ht; omega
    have hpos2 : 0 < ts.length := List.length_pos_iff.2 ht
    clear ht
    by_cases hv : vs = []
    · by_cases hm : mi = 0
      · have HL := Lib.hid (show R = (0, 0, 45) from by rw [HRL1.out, if_pos (.inr hm)])
        have dm : (mi == 0) = true := by rw [beq_iff_eq]; exact hm
        subst hv
        clear hm
        go_wp2_with (first | (go_at_call_of 21 (Value.string ⟨#[99, 111, 110, 116, 101, 110, 116, 45, 108, 101, 110, 103, 116, 104]⟩); refine (CCL.out _ (HR.out.ext (by (repeat (first | exact Ext.rfl' _ | assumption | refine Ext.dr ?_ | refine Ext.drN ?_ _ | refine Ext.al ?_ _ | refine Ext.st ?_ (by simp) _ | refine Ext.tr ?_ (by assumption)))))).mono ?_; rintro e w3 ⟨v, rfl, ⟨A3, c3, rfl, hrd3⟩, hx3⟩; have hc3 := HX.out w3 (by (repeat (first | exact Ext.rfl' _ | assumption | refine Ext.dr ?_ | refine Ext.drN ?_ _ | refine Ext.al ?_ _ | refine Ext.st ?_ (by simp) _ | refine Ext.tr ?_ (by assumption))))) | (go_at_call_of 21 (Value.string ⟨#[116, 114, 97, 110, 115, 102, 101, 114, 45, 101, 110, 99, 111, 100, 105, 110, 103]⟩); refine (CTE.out _ (HR.out.ext (by (repeat (first | exact Ext.rfl' _ | assumption | refine Ext.dr ?_ | refine Ext.drN ?_ _ | refine Ext.al ?_ _ | refine Ext.st ?_ (by simp) _ | refine Ext.tr ?_ (by assumption)))))).mono ?_; rintro e w4 ⟨v, rfl, ⟨A4, c4, rfl, hrd4⟩, hx4⟩; have e4 : Ext ((w.alloc (.cells #[.string me, .string ta, .int .i64 mi, .slice A n c] 24)).alloc (.cells #[.int .i64 0, .int .i64 0] 30)) w4 := (by (repeat (first | exact Ext.rfl' _ | assumption | refine Ext.dr ?_ | refine Ext.drN ?_ _ | refine Ext.al ?_ _ | refine Ext.st ?_ (by simp) _ | refine Ext.tr ?_ (by assumption)))); have hrr := two_rowsF e4; have p0 := (row_facts hrr.2 0 _ rfl).1; have pf0 := (row_facts hrr.2 0 _ rfl).2; have p1 := (row_facts hrr.2 1 _ rfl).1; have pf1 := (row_facts hrr.2 1 _ rfl).2; have cm := (row_facts hrr.1 2 _ rfl).1; have E4 := Lib.hid e4; clear e4 hrr))
        refine bodyPost_ret (v := .tuple #[.agg #[.int .i64 0, .int .i64 0], .int .i64 45]) (by simp [results, Tryz.results6, go_sem, p0, p1]) rfl ?_
        exact ⟨by rw [HL.out], by (repeat (first | exact Ext.rfl' _ | assumption | refine Ext.dr ?_ | refine Ext.drN ?_ _ | refine Ext.al ?_ _ | refine Ext.st ?_ (by simp) _ | refine Ext.tr ?_ (by assumption)))⟩
      · have HRL2 := Lib.hid (show R = if codV ts ≠ 0 then (0, 0, codV ts) else (2, 0, 0) from by rw [HRL1.out, if_neg (by simp [hv, hm])])
        obtain ⟨le, hle⟩ : ∃ q, q = codV ts := ⟨_, rfl⟩
        have CC := CC.out
        rw [← hle] at CC HRL2
        have C9 := Lib.hid (fun (w' : World) {A' : Option Addr} {c' : Nat} h' => CC A' c' w' h')
        have dm : (mi == 0) = false := by rw [beq_eq_false_iff_ne]; exact hm
        subst hv
        clear hle hm CC
        by_cases h2 : le = 0
        · have HL := Lib.hid (show R = (2, 0, 0) from by rw [HRL2.out, if_neg (by simp [h2])])
          subst h2
          go_wp2_with (first | (go_at_call_of 21 (Value.string ⟨#[99, 111, 110, 116, 101, 110, 116, 45, 108, 101, 110, 103, 116, 104]⟩); refine (CCL.out _ (HR.out.ext (by (repeat (first | exact Ext.rfl' _ | assumption | refine Ext.dr ?_ | refine Ext.drN ?_ _ | refine Ext.al ?_ _ | refine Ext.st ?_ (by simp) _ | refine Ext.tr ?_ (by assumption)))))).mono ?_; rintro e w3 ⟨v, rfl, ⟨A3, c3, rfl, hrd3⟩, hx3⟩; have hc3 := HX.out w3 (by (repeat (first | exact Ext.rfl' _ | assumption | refine Ext.dr ?_ | refine Ext.drN ?_ _ | refine Ext.al ?_ _ | refine Ext.st ?_ (by simp) _ | refine Ext.tr ?_ (by assumption))))) | (go_at_call_of 21 (Value.string ⟨#[116, 114, 97, 110, 115, 102, 101, 114, 45, 101, 110, 99, 111, 100, 105, 110, 103]⟩); refine (CTE.out _ (HR.out.ext (by (repeat (first | exact Ext.rfl' _ | assumption | refine Ext.dr ?_ | refine Ext.drN ?_ _ | refine Ext.al ?_ _ | refine Ext.st ?_ (by simp) _ | refine Ext.tr ?_ (by assumption)))))).mono ?_; rintro e w4 ⟨v, rfl, ⟨A4, c4, rfl, hrd4⟩, hx4⟩; have e4 : Ext ((w.alloc (.cells #[.string me, .string ta, .int .i64 mi, .slice A n c] 24)).alloc (.cells #[.int .i64 0, .int .i64 0] 30)) w4 := (by (repeat (first | exact Ext.rfl' _ | assumption | refine Ext.dr ?_ | refine Ext.drN ?_ _ | refine Ext.al ?_ _ | refine Ext.st ?_ (by simp) _ | refine Ext.tr ?_ (by assumption)))); have hrr := two_rowsF e4; have p0 := (row_facts hrr.2 0 _ rfl).1; have pf0 := (row_facts hrr.2 0 _ rfl).2; have p1 := (row_facts hrr.2 1 _ rfl).1; have pf1 := (row_facts hrr.2 1 _ rfl).2; have cm := (row_facts hrr.1 2 _ rfl).1; have E4 := Lib.hid e4; clear e4 hrr) | (go_at_call 22; refine (C9.out _ (hrd4.ext (by (repeat (first | exact Ext.rfl' _ | assumption | refine Ext.dr ?_ | refine Ext.drN ?_ _ | refine Ext.al ?_ _ | refine Ext.st ?_ (by simp) _ | refine Ext.tr ?_ (by assumption)))))).mono ?_; rintro e w5 ⟨rfl, hx5⟩; have hr5 := two_rowsF (E4.out.tr hx5); have q0 := (row_facts hr5.2 0 _ rfl).1; have qf0 := (row_facts hr5.2 0 _ rfl).2; have q1 := (row_facts hr5.2 1 _ rfl).1; have qf1 := (row_facts hr5.2 1 _ rfl).2; clear hr5 p0 p1 pf0 pf1))
          refine bodyPost_ret (v := .tuple #[.agg #[.int .i64 2, .int .i64 0], .int .i64 0]) (by simp [results, Tryz.results6, go_sem, q0, q1]) rfl ?_
          exact ⟨by rw [HL.out], by (repeat (first | exact Ext.rfl' _ | assumption | refine Ext.dr ?_ | refine Ext.drN ?_ _ | refine Ext.al ?_ _ | refine Ext.st ?_ (by simp) _ | refine Ext.tr ?_ (by assumption)))⟩
        · have HL := Lib.hid (show R = (0, 0, le) from by rw [HRL2.out, if_pos h2])
          have d1 : (le != 0) = true := by rw [bne_iff_ne]; exact h2
          go_wp2_with (first | (go_at_call_of 21 (Value.string ⟨#[99, 111, 110, 116, 101, 110, 116, 45, 108, 101, 110, 103, 116, 104]⟩); refine (CCL.out _ (HR.out.ext (by (repeat (first | exact Ext.rfl' _ | assumption | refine Ext.dr ?_ | refine Ext.drN ?_ _ | refine Ext.al ?_ _ | refine Ext.st ?_ (by simp) _ | refine Ext.tr ?_ (by assumption)))))).mono ?_; rintro e w3 ⟨v, rfl, ⟨A3, c3, rfl, hrd3⟩, hx3⟩; have hc3 := HX.out w3 (by (repeat (first | exact Ext.rfl' _ | assumption | refine Ext.dr ?_ | refine Ext.drN ?_ _ | refine Ext.al ?_ _ | refine Ext.st ?_ (by simp) _ | refine Ext.tr ?_ (by assumption))))) | (go_at_call_of 21 (Value.string ⟨#[116, 114, 97, 110, 115, 102, 101, 114, 45, 101, 110, 99, 111, 100, 105, 110, 103]⟩); refine (CTE.out _ (HR.out.ext (by (repeat (first | exact Ext.rfl' _ | assumption | refine Ext.dr ?_ | refine Ext.drN ?_ _ | refine Ext.al ?_ _ | refine Ext.st ?_ (by simp) _ | refine Ext.tr ?_ (by assumption)))))).mono ?_; rintro e w4 ⟨v, rfl, ⟨A4, c4, rfl, hrd4⟩, hx4⟩; have e4 : Ext ((w.alloc (.cells #[.string me, .string ta, .int .i64 mi, .slice A n c] 24)).alloc (.cells #[.int .i64 0, .int .i64 0] 30)) w4 := (by (repeat (first | exact Ext.rfl' _ | assumption | refine Ext.dr ?_ | refine Ext.drN ?_ _ | refine Ext.al ?_ _ | refine Ext.st ?_ (by simp) _ | refine Ext.tr ?_ (by assumption)))); have hrr := two_rowsF e4; have p0 := (row_facts hrr.2 0 _ rfl).1; have pf0 := (row_facts hrr.2 0 _ rfl).2; have p1 := (row_facts hrr.2 1 _ rfl).1; have pf1 := (row_facts hrr.2 1 _ rfl).2; have cm := (row_facts hrr.1 2 _ rfl).1; have E4 := Lib.hid e4; clear e4 hrr) | (go_at_call 22; refine (C9.out _ (hrd4.ext (by (repeat (first | exact Ext.rfl' _ | assumption | refine Ext.dr ?_ | refine Ext.drN ?_ _ | refine Ext.al ?_ _ | refine Ext.st ?_ (by simp) _ | refine Ext.tr ?_ (by assumption)))))).mono ?_; rintro e w5 ⟨rfl, hx5⟩; have hr5 := two_rowsF (E4.out.tr hx5); have q0 := (row_facts hr5.2 0 _ rfl).1; have qf0 := (row_facts hr5.2 0 _ rfl).2; have q1 := (row_facts hr5.2 1 _ rfl).1; have qf1 := (row_facts hr5.2 1 _ rfl).2; clear hr5 p0 p1 pf0 pf1))
          refine bodyPost_ret (v := .tuple #[.agg #[.int .i64 0, .int .i64 0], .int .i64 le]) (by simp [results, Tryz.results6, go_sem, q0, q1]) rfl ?_
          exact ⟨by rw [HL.out], by (repeat (first | exact Ext.rfl' _ | assumption | refine Ext.dr ?_ | refine Ext.drN ?_ _ | refine Ext.al ?_ _ | refine Ext.st ?_ (by simp) _ | refine Ext.tr ?_ (by assumption)))⟩
    · have hp2 : (0 : Int) < (vs.length : Int) := by have := List.length_pos_iff.2 hv; omega
      have hp3 : 0 < vs.length := List.length_pos_iff.2 hv
      have hp4 : decide (0 < vs.length) = true := by rw [decide_eq_true_eq]; exact hp3
      have HL := Lib.hid (show R = (0, 0, 45) from by rw [HRL1.out, if_pos (.inl hv)])
      clear hv
      go_wp2_with (first | (go_at_call_of 21 (Value.string ⟨#[99, 111, 110, 116, 101, 110, 116, 45, 108, 101, 110, 103, 116, 104]⟩); refine (CCL.out _ (HR.out.ext (by (repeat (first | exact Ext.rfl' _ | assumption | refine Ext.dr ?_ | refine Ext.drN ?_ _ | refine Ext.al ?_ _ | refine Ext.st ?_ (by simp) _ | refine Ext.tr ?_ (by assumption)))))).mono ?_; rintro e w3 ⟨v, rfl, ⟨A3, c3, rfl, hrd3⟩, hx3⟩; have hc3 := HX.out w3 (by (repeat (first | exact Ext.rfl' _ | assumption | refine Ext.dr ?_ | refine Ext.drN ?_ _ | refine Ext.al ?_ _ | refine Ext.st ?_ (by simp) _ | refine Ext.tr ?_ (by assumption))))) | (go_at_call_of 21 (Value.string ⟨#[116, 114, 97, 110, 115, 102, 101, 114, 45, 101, 110, 99, 111, 100, 105, 110, 103]⟩); refine (CTE.out _ (HR.out.ext (by (repeat (first | exact Ext.rfl' _ | assumption | refine Ext.dr ?_ | refine Ext.drN ?_ _ | refine Ext.al ?_ _ | refine Ext.st ?_ (by simp) _ | refine Ext.tr ?_ (by assumption)))))).mono ?_; rintro e w4 ⟨v, rfl, ⟨A4, c4, rfl, hrd4⟩, hx4⟩; have e4 : Ext ((w.alloc (.cells #[.string me, .string ta, .int .i64 mi, .slice A n c] 24)).alloc (.cells #[.int .i64 0, .int .i64 0] 30)) w4 := (by (repeat (first | exact Ext.rfl' _ | assumption | refine Ext.dr ?_ | refine Ext.drN ?_ _ | refine Ext.al ?_ _ | refine Ext.st ?_ (by simp) _ | refine Ext.tr ?_ (by assumption)))); have hrr := two_rowsF e4; have p0 := (row_facts hrr.2 0 _ rfl).1; have pf0 := (row_facts hrr.2 0 _ rfl).2; have p1 := (row_facts hrr.2 1 _ rfl).1; have pf1 := (row_facts hrr.2 1 _ rfl).2; have cm := (row_facts hrr.1 2 _ rfl).1; have E4 := Lib.hid e4; clear e4 hrr))
      refine bodyPost_ret (v := .tuple #[.agg #[.int .i64 0, .int .i64 0], .int .i64 45]) (by simp [results, Tryz.results6, go_sem, p0, p1]) rfl ?_
      exact ⟨by rw [HL.out], by (repeat (first | exact Ext.rfl' _ | assumption | refine Ext.dr ?_ | refine Ext.drN ?_ _ | refine Ext.al ?_ _ | refine Ext.st ?_ (by simp) _ | refine Ext.tr ?_ (by assumption)))⟩
end Go.Proofs.YtpkgoppfihcpbaaGreatDoor
end
