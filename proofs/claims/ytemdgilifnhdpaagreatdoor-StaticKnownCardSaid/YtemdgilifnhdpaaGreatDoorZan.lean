/-
Static: a field of one tag (Tags; the conditions' tags).
-/
import Derived.Test.YtemdgilifnhdpaaGreatDoorZak
import Derived.Test.YtemdgilifnhdpaaGreatDoorZah
import Derived.Test.YtemdgilifnhdpaaGreatDoorCln
set_option linter.unusedVariables false
set_option linter.unusedSimpArgs false
section
namespace Go.Proofs.YtemdgilifnhdpaaGreatDoor
open Go.RowKit Go.Shelf

def IsTgs (st : ByteArray) (v : Value) (w : World) : Prop := ∃ A c, v = .tuple #[.slice A 1 c, .bool false, .int .i64 0] ∧ Rd w A [.bool false, .string st]
set_option maxRecDepth 100000 in
set_option maxHeartbeats 2000000 in
theorem flTags_c (tl : List UInt8) (hall : InTag tl) (htl : tl.length ≤ 1000) (w : World) : Calls Tryz.prog 98 #[.string (str (qTag tl))] w (Ret (IsTgs (str tl)) w) := by
  have C := Lib.hid (fun w => callsIn_wide.1 (tags_in tl hall htl w))
  unfold kdT at C
  have CT := fun w => Trim_c (qTag tl) (by rw [qTag_len]; unfold maxLen; omega) w
  rw [trim_qTag] at CT
  have CT := Lib.hid CT
  have e1 : ¬ (str (qTag tl)).toList = [42] := by rw [str_tl]; simp [qTag]
  have e2 : ((str (qTag tl)).toList == [42]) = false := by rw [beq_eq_false_iff_ne]; exact e1
  have e3 : ((str (qTag tl)).toList == (⟨#[42]⟩ : ByteArray).toList) = false := by rw [show (⟨#[42]⟩ : ByteArray).toList = [42] from by rw [ByteArray.toList_eq]]; exact e2
  have e4 : ¬ (str (qTag tl)).toList = (⟨#[42]⟩ : ByteArray).toList := by rw [show (⟨#[42]⟩ : ByteArray).toList = [42] from by rw [ByteArray.toList_eq]]; exact e1
  obtain ⟨sq, hsq⟩ : ∃ x, x = str (qTag tl) := ⟨_, rfl⟩
  obtain ⟨st, hst⟩ : ∃ x, x = str tl := ⟨_, rfl⟩
  rw [← hsq] at C CT e1 e2 e3 e4 ⊢
  rw [← hst] at C ⊢
  clear hsq hst hall htl
  go_enter Tryz.func98, Tryz.ntmps98
  go_wp2_with (first
    | (go_at_call 132; refine (CT.out _).mono ?_; rintro e w1 ⟨rfl, hx1⟩)
    | (go_at_call 133; refine (C.out _).mono ?_; rintro e w2 ⟨v, rfl, ⟨A2, c2, rfl, hr2⟩, hx2⟩))
  refine bodyPost_ret (v := .tuple #[.slice A2 1 c2, .bool false, .int .i64 0]) (by simp [results, Tryz.results98, go_sem]) rfl ?_
  exact Ret.mk ⟨A2, c2, rfl, hr2.ext (by (repeat (first | exact Ext.rfl' _ | assumption | refine Ext.dr ?_ | refine Ext.drN ?_ _ | refine Ext.al ?_ _ | refine Ext.st ?_ (by simp) _ | refine Ext.tr ?_ (by assumption))))⟩ (by (repeat (first | exact Ext.rfl' _ | assumption | refine Ext.dr ?_ | refine Ext.drN ?_ _ | refine Ext.al ?_ _ | refine Ext.st ?_ (by simp) _ | refine Ext.tr ?_ (by assumption))))
theorem joinOne (l : List UInt8) (A : Option Addr) (c : Nat) (hc : 1 ≤ c) (hl : l.length ≤ 1000000) (w : World) (h : Rd w A (sc [l])) :
    Calls Tryz.prog 90 #[.slice A 1 c, .string ⟨#[44]⟩] w (Gives (.string (str l)) w) := by
  obtain ⟨b, o, rfl, hb, hcl⟩ := h.at_ (by simp)
  have K := Tryz.strings_Join b o c [str l] ⟨#[44]⟩ w (fun j x hj => by
    have hj0 : j = 0 := by
      have := (List.getElem?_eq_some_iff.1 hj).1
      simp at this; omega
    subst hj0
    have := hcl 0 (.string (str l)) (by simp [sc])
    simp at hj
    rw [← hj]; exact this) hb (by simp) (by simpa using hc) (by simp [Lib.join]; omega)
  refine K.mono ?_
  rintro e w' ⟨rfl, hx⟩
  exact ⟨ret_val (by simp [Lib.join, str]), hx⟩
set_option maxRecDepth 100000 in
set_option maxHeartbeats 4000000 in
theorem cdTags_one (fs : List Fld) (nm tl : List UInt8) (A : Option Addr) (n c : Nat) (hn : fs.length = n) (hb : n ≤ 8796093022206) (hnm : nm.length ≤ maxLen) (hsz : ∀ p ∈ fs, p.1.length ≤ maxLen) (hone : valsH fs nm = [qTag tl]) (hall : InTag tl) (htl : tl.length ≤ 1000) (lk wk : Bool) (tg : ByteArray) (md now : Int) (b : Bool) (hbt : (b = true ∧ str tl = tg) ∨ (b = false ∧ ¬ (str tl).toList = tg.toList)) (w : World) (h : Rd w A (fc fs)) :
    Calls Tryz.prog 64 #[askV lk A n c wk tg md true now, .string (str nm), .func (.func 68) #[] #[]] w (Gives (.tuple #[.bool b, .bool true]) w) := by
  have C := fun w' h' => hValues_t fs nm A n c hn hb hnm hsz w' h'
  rw [hone] at C
  have C := Lib.hid C
  have H := Lib.hid h
  have CJ := Lib.hid (fun A c hc w h => joinOne (qTag tl) A c hc (by rw [qTag_len]; omega) w h)
  have CT := Lib.hid (fun w => flTags_c tl hall htl w)
  have CW := Lib.hid (fun w => (show Calls Tryz.prog 68 #[.agg #[.bool false, .string (str tl)], .agg #[.bool wk, .string tg]] w (Gives (.bool b) w) from by
    rcases hbt with ⟨rfl, h⟩ | ⟨rfl, h⟩
    · rw [h]; exact flWeak_yes _ _ _ w
    · exact flWeak_no _ _ _ _ h w))
  obtain ⟨sq, hsq⟩ : ∃ x, x = str (qTag tl) := ⟨_, rfl⟩
  obtain ⟨st, hst⟩ : ∃ x, x = str tl := ⟨_, rfl⟩
  rw [← hsq] at CJ CT
  rw [← hst] at CW CT
  obtain ⟨W0, hW0⟩ : ∃ X, X = w.alloc (.cells #[.bool lk, .slice A n c, .bool wk, .string tg, .int .i64 md, .bool true, .int .i64 now] 123) := ⟨_, rfl⟩
  have hr0 : W0.heap[w.heap.size]? = some (.cells #[.bool lk, .slice A n c, .bool wk, .string tg, .int .i64 md, .bool true, .int .i64 now] 123 (0, 0)) := by rw [hW0]; exact heap_alloc_new w _
  have HR := Lib.hid (fun w' (e : Ext W0 w') => (show w'.cell? ⟨w.heap.size, 2, none⟩ = some (.bool wk) ∧ w'.cell? ⟨w.heap.size, 3, none⟩ = some (.string tg) ∧ w'.cell? ⟨w.heap.size, 5, none⟩ = some (.bool true) from by
    have r := (e.block _ (row_lt hr0)).trans hr0
    exact ⟨(row_facts r 2 _ rfl).1, (row_facts r 3 _ rfl).1, (row_facts r 5 _ rfl).1⟩))
  have b1 := (row_facts hr0 1 _ rfl).1
  have HX0 := Lib.hid (show Ext w W0 by rw [hW0]; (repeat (first | exact Ext.rfl' _ | assumption | refine Ext.dr ?_ | refine Ext.drN ?_ _ | refine Ext.al ?_ _ | refine Ext.st ?_ (by simp) _ | refine Ext.tr ?_ (by assumption))))
  have HW0 := Lib.hid hW0
  clear h hone hsz hn hall htl hbt hsq hst hW0 hr0
  unfold askV
  go_enter Tryz.func64, Tryz.ntmps64
  go_upto_region 1 with (fail)
  rw [← HW0.out]
  go_wp2_with (first
    | (go_at_call 35; refine (C.out _ (H.out.ext (HX0.out.tr (by (repeat (first | exact Ext.rfl' _ | assumption | refine Ext.dr ?_ | refine Ext.drN ?_ _ | refine Ext.al ?_ _ | refine Ext.st ?_ (by simp) _ | refine Ext.tr ?_ (by assumption))))))).mono ?_; rintro e w1 ⟨v, rfl, ⟨A1, c1, rfl, hr1, hc1⟩, hx1⟩; have CJ1 := Lib.hid (CJ.out A1 c1 hc1 w1 hr1))
    | (go_at_call 90; refine CJ1.out.mono ?_; rintro e w2 ⟨rfl, hx2⟩)
    | (go_at_call 98; refine (CT.out _).mono ?_; rintro e w3 ⟨v, rfl, ⟨A3, c3, rfl, hr3⟩, hx3⟩; obtain ⟨a2, a3, a5⟩ := HR.out w3 (by (repeat (first | exact Ext.rfl' _ | assumption | refine Ext.dr ?_ | refine Ext.drN ?_ _ | refine Ext.al ?_ _ | refine Ext.st ?_ (by simp) _ | refine Ext.tr ?_ (by assumption))))))
  obtain ⟨g3, f3, rfl, hg3, hc3⟩ := hr3.at_ (by simp)
  have HX3 := Lib.hid (show Ext W0 w3 by (repeat (first | exact Ext.rfl' _ | assumption | refine Ext.dr ?_ | refine Ext.drN ?_ _ | refine Ext.al ?_ _ | refine Ext.st ?_ (by simp) _ | refine Ext.tr ?_ (by assumption))))
  have HC3 := Lib.hid (fun w' (e : Ext w3 w') => (show w'.cell? ⟨g3, f3, none⟩ = some (.bool false) ∧ w'.cell? ⟨g3, f3 + 1, none⟩ = some (.string st) from
    ⟨(e.cell (p := ⟨g3, f3, none⟩) hg3).trans (hc3 0 _ rfl), (e.cell (p := ⟨g3, f3 + 1, none⟩) hg3).trans (hc3 1 _ rfl)⟩))
  clear hr3 hc3 hx1 hx2 hx3 hr1 hc1 CJ1
  go_loopw [6, 39] (fun v6 v39 wr => ∃ j : Nat, v39 = .int .i64 (j : Int) ∧ j ≤ 1 ∧ v6 = .bool (decide (j = 1) && b) ∧ Ext w3 wr) (fun _ v39 _ => 1 - (intOf v39).toNat)
  case atStart => exact ⟨0, rfl, by omega, rfl, Ext.rfl' _⟩
  case round =>
    obtain ⟨j, rfl, hj, rfl, hx⟩ := hrel
    rcases j with _ | _ | j
    · obtain ⟨d0, d1⟩ := HC3.out wr hx
      obtain ⟨d2, d3, d5⟩ := HR.out (wr.alloc (.cells #[.bool false, .string st] 29)) (HX3.out.tr (hx.al _))
      go_wp2_with (first
        | (go_at_call 68; refine (CW.out _).mono ?_; rintro e w4 ⟨rfl, hx4⟩))
      go_roundw
      case rel => exact ⟨1, by rfl, by omega, by cases b <;> rfl, hx.tr (by (repeat (first | exact Ext.rfl' _ | assumption | refine Ext.dr ?_ | refine Ext.drN ?_ _ | refine Ext.al ?_ _ | refine Ext.st ?_ (by simp) _ | refine Ext.tr ?_ (by assumption))))⟩
      case measure => simp [intOf]
    · go_wp2
      refine bodyPost_ret (v := .tuple #[.bool b, .bool true]) (by simp [results, Tryz.results64, go_sem]) rfl ?_
      exact ⟨rfl, HX0.out.tr (HX3.out.tr hx)⟩
    · omega
end Go.Proofs.YtemdgilifnhdpaaGreatDoor
end

section
namespace Go.Proofs.YtemdgilifnhdpaaGreatDoor
open Go.RowKit

set_option maxRecDepth 100000 in
set_option maxHeartbeats 2000000 in
theorem cdEvalA_tag (fs : List Fld) (A : Option Addr) (n c : Nat) (hn : fs.length = n) (hb : n ≤ 8796093022206) (hsz : ∀ p ∈ fs, p.1.length ≤ maxLen) (hm1 : valsH fs [73, 102, 45, 77, 97, 116, 99, 104] = []) (hm2 : valsH fs [73, 102, 45, 85, 110, 109, 111, 100, 105, 102, 105, 101, 100, 45, 83, 105, 110, 99, 101] = []) (lk wk ex : Bool) (tg : ByteArray) (md now : Int) (a x : Nat) (w : World) (h : Rd w A (fc fs)) (ha : AskAt w a lk A n c wk tg md ex now) :
    Calls Tryz.prog 63 #[.pointer (some ⟨a, 0, none⟩), .pointer (some ⟨x, 0, none⟩)] w (Gives (.int .i64 0) w) := by
  have C1 := fun fv w' h' => cdTags_no fs [73, 102, 45, 77, 97, 116, 99, 104] A n c hn hb (by simp [maxLen]) hsz hm1 lk wk ex tg md now fv w' h'
  have C2 := fun w' h' => cdDate_no fs [73, 102, 45, 85, 110, 109, 111, 100, 105, 102, 105, 101, 100, 45, 83, 105, 110, 99, 101] A n c hn hb (by simp [maxLen]) hsz hm2 lk wk ex tg md now w' h'
  unfold askV at C1 C2
  have C1 := Lib.hid C1
  have C2 := Lib.hid C2
  have H := Lib.hid h
  have HA := Lib.hid ha
  obtain ⟨c0, c1, c2, c3, c4, c5, c6⟩ := ha.cells
  clear h ha hm1 hm2 hsz hn
  go_enter Tryz.func63, Tryz.ntmps63
  go_wp2_with (first
    | (go_at_call 64; refine (C1.out _ _ (H.out.ext (by (repeat (first | exact Ext.rfl' _ | assumption | refine Ext.dr ?_ | refine Ext.drN ?_ _ | refine Ext.al ?_ _ | refine Ext.st ?_ (by simp) _ | refine Ext.tr ?_ (by assumption)))))).mono ?_; clear C1; rintro e w1 ⟨rfl, hx1⟩; obtain ⟨d0, d1, d2, d3, d4, d5, d6⟩ := (HA.out.ext hx1).cells)
    | (go_at_call 66; refine (C2.out _ (H.out.ext (by (repeat (first | exact Ext.rfl' _ | assumption | refine Ext.dr ?_ | refine Ext.drN ?_ _ | refine Ext.al ?_ _ | refine Ext.st ?_ (by simp) _ | refine Ext.tr ?_ (by assumption)))))).mono ?_; rintro e w2 ⟨rfl, hx2⟩))
  go_ret
  exact ⟨rfl, by (repeat (first | exact Ext.rfl' _ | assumption | refine Ext.dr ?_ | refine Ext.drN ?_ _ | refine Ext.al ?_ _ | refine Ext.st ?_ (by simp) _ | refine Ext.tr ?_ (by assumption)))⟩
set_option maxRecDepth 100000 in
set_option maxHeartbeats 2000000 in
theorem cdEvalB_tag (fs : List Fld) (A : Option Addr) (n c : Nat) (hn : fs.length = n) (hb : n ≤ 8796093022206) (hsz : ∀ p ∈ fs, p.1.length ≤ maxLen) (tl : List UInt8) (hm3 : valsH fs [73, 102, 45, 78, 111, 110, 101, 45, 77, 97, 116, 99, 104] = [qTag tl]) (hall : InTag tl) (htl : tl.length ≤ 1000) (bt : Bool) (hm4 : valsH fs [73, 102, 45, 77, 111, 100, 105, 102, 105, 101, 100, 45, 83, 105, 110, 99, 101] = []) (wk : Bool) (tg : ByteArray) (hbt : (bt = true ∧ str tl = tg) ∨ (bt = false ∧ ¬ (str tl).toList = tg.toList)) (md now : Int) (a y x : Nat) (w : World) (h : Rd w A (fc fs)) (ha : AskAt w a true A n c wk tg md true now) :
    Calls Tryz.prog 67 #[.pointer (some ⟨a, 0, none⟩), .pointer (some ⟨y, 0, none⟩), .pointer (some ⟨x, 0, none⟩)] w (Gives (.int .i64 (if bt = true then 304 else 0)) w) := by
  have C1 := fun w' h' => cdTags_one fs [73, 102, 45, 78, 111, 110, 101, 45, 77, 97, 116, 99, 104] tl A n c hn hb (by simp [maxLen]) hsz hm3 hall htl true wk tg md now bt hbt w' h'
  have C2 := fun w' h' => cdDate_no fs [73, 102, 45, 77, 111, 100, 105, 102, 105, 101, 100, 45, 83, 105, 110, 99, 101] A n c hn hb (by simp [maxLen]) hsz hm4 true wk true tg md now w' h'
  unfold askV at C1 C2
  have C1 := Lib.hid C1
  have C2 := Lib.hid C2
  have H := Lib.hid h
  have HA := Lib.hid ha
  obtain ⟨c0, c1, c2, c3, c4, c5, c6⟩ := ha.cells
  clear h ha hm3 hm4 hall htl hbt hsz hn
  cases bt with
  | true =>
    rw [if_pos rfl]
    go_enter Tryz.func67, Tryz.ntmps67
    go_wp2_with (first
      | (go_at_call 64; refine (C1.out _ (H.out.ext (by (repeat (first | exact Ext.rfl' _ | assumption | refine Ext.dr ?_ | refine Ext.drN ?_ _ | refine Ext.al ?_ _ | refine Ext.st ?_ (by simp) _ | refine Ext.tr ?_ (by assumption)))))).mono ?_; clear C1; rintro e w1 ⟨rfl, hx1⟩; obtain ⟨d0, d1, d2, d3, d4, d5, d6⟩ := (HA.out.ext hx1).cells)
      | (go_at_call 66; refine (C2.out _ (H.out.ext (by (repeat (first | exact Ext.rfl' _ | assumption | refine Ext.dr ?_ | refine Ext.drN ?_ _ | refine Ext.al ?_ _ | refine Ext.st ?_ (by simp) _ | refine Ext.tr ?_ (by assumption)))))).mono ?_; rintro e w2 ⟨rfl, hx2⟩; obtain ⟨e0, e1, e2, e3, e4, e5, e6⟩ := (HA.out.ext (hx1.tr hx2)).cells))
    go_ret
    exact ⟨rfl, by (repeat (first | exact Ext.rfl' _ | assumption | refine Ext.dr ?_ | refine Ext.drN ?_ _ | refine Ext.al ?_ _ | refine Ext.st ?_ (by simp) _ | refine Ext.tr ?_ (by assumption)))⟩
  | false =>
    rw [if_neg (by decide)]
    go_enter Tryz.func67, Tryz.ntmps67
    go_wp2_with (first
      | (go_at_call 64; refine (C1.out _ (H.out.ext (by (repeat (first | exact Ext.rfl' _ | assumption | refine Ext.dr ?_ | refine Ext.drN ?_ _ | refine Ext.al ?_ _ | refine Ext.st ?_ (by simp) _ | refine Ext.tr ?_ (by assumption)))))).mono ?_; clear C1; rintro e w1 ⟨rfl, hx1⟩; obtain ⟨d0, d1, d2, d3, d4, d5, d6⟩ := (HA.out.ext hx1).cells)
      | (go_at_call 66; refine (C2.out _ (H.out.ext (by (repeat (first | exact Ext.rfl' _ | assumption | refine Ext.dr ?_ | refine Ext.drN ?_ _ | refine Ext.al ?_ _ | refine Ext.st ?_ (by simp) _ | refine Ext.tr ?_ (by assumption)))))).mono ?_; rintro e w2 ⟨rfl, hx2⟩; obtain ⟨e0, e1, e2, e3, e4, e5, e6⟩ := (HA.out.ext (hx1.tr hx2)).cells))
    go_ret
    exact ⟨rfl, by (repeat (first | exact Ext.rfl' _ | assumption | refine Ext.dr ?_ | refine Ext.drN ?_ _ | refine Ext.al ?_ _ | refine Ext.st ?_ (by simp) _ | refine Ext.tr ?_ (by assumption)))⟩
set_option maxRecDepth 100000 in
set_option maxHeartbeats 2000000 in
theorem cdEval_tag (fs : List Fld) (A : Option Addr) (n c : Nat) (hn : fs.length = n) (hb : n ≤ 8796093022206) (hsz : ∀ p ∈ fs, p.1.length ≤ maxLen) (hm1 : valsH fs [73, 102, 45, 77, 97, 116, 99, 104] = []) (hm2 : valsH fs [73, 102, 45, 85, 110, 109, 111, 100, 105, 102, 105, 101, 100, 45, 83, 105, 110, 99, 101] = []) (tl : List UInt8) (hm3 : valsH fs [73, 102, 45, 78, 111, 110, 101, 45, 77, 97, 116, 99, 104] = [qTag tl]) (hall : InTag tl) (htl : tl.length ≤ 1000) (bt : Bool) (hm4 : valsH fs [73, 102, 45, 77, 111, 100, 105, 102, 105, 101, 100, 45, 83, 105, 110, 99, 101] = []) (wk : Bool) (tg : ByteArray) (hbt : (bt = true ∧ str tl = tg) ∨ (bt = false ∧ ¬ (str tl).toList = tg.toList)) (md now : Int) (w : World) (h : Rd w A (fc fs)) :
    Calls Tryz.prog 30 #[.string ⟨#[71, 69, 84]⟩, .slice A n c, .agg #[.bool wk, .string tg, .int .i64 md, .bool true], .int .i64 now] w (Gives (.int .i64 (if bt = true then 304 else 200)) w) := by
  have hmf : ∀ (fn : Fn) (first cap : Array Value) (w : World), (Instr.makeFunc fn first cap).run Tryz.prog w = .ok (.func fn first cap) w := fun _ _ _ _ => rfl
  obtain ⟨W2, hW2⟩ : ∃ W, W = (w.alloc (.cells #[.bool wk, .string tg, .int .i64 md, .bool true] 80)).alloc (.cells #[.int .i64 now] 3) := ⟨_, rfl⟩
  have hs2 : W2.heap.size = w.heap.size + 1 + 1 := by rw [hW2]; simp
  have ha : AskAt (W2.alloc (.cells #[.bool true, .slice A n c, .bool wk, .string tg, .int .i64 md, .bool true, .int .i64 now] 123)) (w.heap.size + 1 + 1) true A n c wk tg md true now := by
    unfold AskAt
    rw [← hs2]
    exact heap_alloc_new W2 _
  rw [hW2] at ha
  have HA := Lib.hid ha
  have H := Lib.hid h
  have CA := Lib.hid (fun w' h' ha' => cdEvalA_tag fs A n c hn hb hsz hm1 hm2 true wk true tg md now (w.heap.size + 1 + 1) w.heap.size w' h' ha')
  have CB := (fun w' h' ha' => cdEvalB_tag fs A n c hn hb hsz tl hm3 hall htl bt hm4 wk tg hbt md now (w.heap.size + 1 + 1) (w.heap.size + 1) w.heap.size w' h' ha')
  have ix0 : ∀ (u v : Value) w, (Instr.index 129 (.agg #[u, v]) (.int .i64 0)).run Tryz.prog w = .ok u w := fun u v w => run_idx_arrD (e := 87) Tryz.underlying129 (fun _ => by rfl) (fun _ => by rfl) (by decide) (by decide) rfl w
  have ix1 : ∀ (u v : Value) w, (Instr.index 129 (.agg #[u, v]) (.int .i64 1)).run Tryz.prog w = .ok v w := fun u v w => run_idx_arrD (e := 87) Tryz.underlying129 (fun _ => by rfl) (fun _ => by rfl) (by decide) (by decide) rfl w
  clear h ha hsz hm1 hm2 hm3 hm4 hall htl hbt hn hW2 hs2
  cases bt with
  | true =>
    rw [if_pos rfl] at CB ⊢
    have CB := Lib.hid CB
    go_enter Tryz.func30, Tryz.ntmps30
    go_upto_region 3 with (fail)
    go_wp2
    go_loopw [8, 28] (fun v8 v28 wr => v8 = .int .i64 0 ∧ ∃ j : Nat, v28 = .int .i64 (j : Int) ∧ j ≤ 1 ∧ Ext ((((w.alloc (.cells #[.bool wk, .string tg, .int .i64 md, .bool true] 80)).alloc (.cells #[.int .i64 now] 3)).alloc (.cells #[.bool true, .slice A n c, .bool wk, .string tg, .int .i64 md, .bool true, .int .i64 now] 123))) wr) (fun _ v28 _ => (2 - intOf v28).toNat)
    case atStart => exact ⟨rfl, 0, rfl, by omega, by (repeat (first | exact Ext.rfl' _ | assumption | refine Ext.dr ?_ | refine Ext.drN ?_ _ | refine Ext.al ?_ _ | refine Ext.st ?_ (by simp) _ | refine Ext.tr ?_ (by assumption)))⟩
    case round =>
      obtain ⟨rfl, j, rfl, hj, hx⟩ := hrel
      have H2 := Lib.hid (show j ≠ 2 by omega)
      have HX := Lib.hid hx
      have R := Lib.hid (H.out.ext (Ext.tr (by (repeat (first | exact Ext.rfl' _ | assumption | refine Ext.dr ?_ | refine Ext.drN ?_ _ | refine Ext.al ?_ _ | refine Ext.st ?_ (by simp) _ | refine Ext.tr ?_ (by assumption)))) hx))
      have HAR := Lib.hid (HA.out.ext hx)
      clear hx
      rcases j with _ | _ | _ | j
      · go_wp2_with (go_at_call 63; refine (CA.out _ R.out HAR.out).mono ?_; rintro e w2 ⟨rfl, hx2⟩)
        go_roundw
        case rel => exact ⟨rfl, 1, by go_num, by omega, HX.out.tr hx2⟩
        case measure => simp [intOf]
      · go_wp2_with (go_at_call 67; refine (CB.out _ R.out HAR.out).mono ?_; rintro e w2 ⟨rfl, hx2⟩)
        go_ret
        exact ⟨rfl, Ext.tr (by (repeat (first | exact Ext.rfl' _ | assumption | refine Ext.dr ?_ | refine Ext.drN ?_ _ | refine Ext.al ?_ _ | refine Ext.st ?_ (by simp) _ | refine Ext.tr ?_ (by assumption)))) (HX.out.tr hx2)⟩
      · exfalso; exact H2.out rfl
      · omega
  | false =>
    rw [if_neg (by decide)] at CB ⊢
    have CB := Lib.hid CB
    go_enter Tryz.func30, Tryz.ntmps30
    go_upto_region 3 with (fail)
    go_wp2
    go_loopw [8, 28] (fun v8 v28 wr => v8 = .int .i64 0 ∧ ∃ j : Nat, v28 = .int .i64 (j : Int) ∧ j ≤ 2 ∧ Ext ((((w.alloc (.cells #[.bool wk, .string tg, .int .i64 md, .bool true] 80)).alloc (.cells #[.int .i64 now] 3)).alloc (.cells #[.bool true, .slice A n c, .bool wk, .string tg, .int .i64 md, .bool true, .int .i64 now] 123))) wr) (fun _ v28 _ => (2 - intOf v28).toNat)
    case atStart => exact ⟨rfl, 0, rfl, by omega, by (repeat (first | exact Ext.rfl' _ | assumption | refine Ext.dr ?_ | refine Ext.drN ?_ _ | refine Ext.al ?_ _ | refine Ext.st ?_ (by simp) _ | refine Ext.tr ?_ (by assumption)))⟩
    case round =>
      obtain ⟨rfl, j, rfl, hj, hx⟩ := hrel
      have HX := Lib.hid hx
      have R := Lib.hid (H.out.ext (Ext.tr (by (repeat (first | exact Ext.rfl' _ | assumption | refine Ext.dr ?_ | refine Ext.drN ?_ _ | refine Ext.al ?_ _ | refine Ext.st ?_ (by simp) _ | refine Ext.tr ?_ (by assumption)))) hx))
      have HAR := Lib.hid (HA.out.ext hx)
      clear hx
      rcases j with _ | _ | _ | j
      · go_wp2_with (go_at_call 63; refine (CA.out _ R.out HAR.out).mono ?_; rintro e w2 ⟨rfl, hx2⟩)
        go_roundw
        case rel => exact ⟨rfl, 1, by go_num, by omega, HX.out.tr hx2⟩
        case measure => simp [intOf]
      · go_wp2_with (go_at_call 67; refine (CB.out _ R.out HAR.out).mono ?_; rintro e w2 ⟨rfl, hx2⟩)
        go_roundw
        case rel => exact ⟨rfl, 2, by go_num, by omega, HX.out.tr hx2⟩
        case measure => simp [intOf]
      · go_wp2
        go_ret
        exact ⟨rfl, Ext.tr (by (repeat (first | exact Ext.rfl' _ | assumption | refine Ext.dr ?_ | refine Ext.drN ?_ _ | refine Ext.al ?_ _ | refine Ext.st ?_ (by simp) _ | refine Ext.tr ?_ (by assumption)))) HX.out⟩
      · omega
end Go.Proofs.YtemdgilifnhdpaaGreatDoor
end
