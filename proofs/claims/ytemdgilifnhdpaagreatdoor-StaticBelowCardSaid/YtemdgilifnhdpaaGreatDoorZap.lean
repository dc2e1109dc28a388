/-
Static: what is known of a file (no age).
-/
import Derived.Test.YtemdgilifnhdpaaGreatDoorZao
import Derived.Test.YtemdgilifnhdpaaGreatDoorZaj
import Derived.Test.YtemdgilifnhdpaaGreatDoorZak
import Derived.Test.YtemdgilifnhdpaaGreatDoorZal
import Derived.Test.YtemdgilifnhdpaaGreatDoorZaa
import Derived.Test.YtemdgilifnhdpaaGreatDoorChecked
import Derived.Lib.Builder
import Derived.Lib.UnsafeStr
import Derived.Lib.Walk
import Derived.Laws.Externs
set_option linter.unusedVariables false
set_option linter.unusedSimpArgs false
section
namespace Go.Proofs.YtemdgilifnhdpaaGreatDoor
open Go.RowKit

set_option maxRecDepth 100000 in
set_option maxHeartbeats 2000000 in
theorem stKnown_whole (k P : Nat) (fs : List Fld) (hl : fs.length ≤ 100) (st : Int) (bv : Value) (br : Bool) (nm : ByteArray) (B : Option Addr) (m d : Nat) (mt : Int) (h0 : 0 ≤ mt) (h1 : mt ≤ 253402300799) (tl : List UInt8) (htl : tl.length ≤ 1000) (A : Option Addr) (c : Nat) (w : World) (o : Ow) (h : AnAt w o k P fs st bv br A c) :
    Calls Tryz.prog 32 #[.agg #[.string nm, .slice B m d, .int .i64 mt, .bool false, .string (str tl), .int .i64 0], .pointer (some ⟨P, 0, none⟩), .bool true] w (AnsTo k P (fs ++ [([69, 84, 97, 103], [34] ++ tl ++ [34]), ([76, 97, 115, 116, 45, 77, 111, 100, 105, 102, 105, 101, 100], fmtD mt), ([65, 99, 99, 101, 112, 116, 45, 82, 97, 110, 103, 101, 115], [98, 121, 116, 101, 115])]) st bv br w o) := by
  have CF := Lib.hid (daFormat_c mt h0 h1)
  have CT := TagText_c tl (by omega)
  have H := Lib.hid h
  obtain ⟨o1, ho1⟩ : ∃ o1 : Ow, o1 = fun x => if x < w.heap.size then o x else k + 5 := ⟨_, rfl⟩
  obtain ⟨W0, hW0⟩ : ∃ W, W = w.alloc (.cells #[.string nm, .slice B m d, .int .i64 mt, .bool false, .string (str tl), .int .i64 0] 85) := ⟨_, rfl⟩
  have hr0 : W0.heap[w.heap.size]? = some (.cells #[.string nm, .slice B m d, .int .i64 mt, .bool false, .string (str tl), .int .i64 0] 85 (0, 0)) := by rw [hW0]; exact heap_alloc_new w _
  have T0 : Stp (fun i => i = k ∨ i = k + 1) w o W0 o1 := Stp.ext2 (by rw [hW0]; (repeat (first | exact Ext.rfl' _ | assumption | refine Ext.dr ?_ | refine Ext.drN ?_ _ | refine Ext.al ?_ _ | refine Ext.st ?_ (by simp) _ | refine Ext.tr ?_ (by assumption)))) (fun b hb => by rw [ho1]; exact if_pos hb)
  have how : o1 w.heap.size = k + 5 := by rw [ho1]; exact if_neg (by omega)
  have HV := Lib.hid (fun w' o' (t : Stp (fun i => i = k ∨ i = k + 1) W0 o1 w' o') => (show w'.cell? ⟨w.heap.size, 2, none⟩ = some (.int .i64 mt) ∧ w'.cell? ⟨w.heap.size, 3, none⟩ = some (.bool false) ∧ w'.cell? ⟨w.heap.size, 4, none⟩ = some (.string (str tl)) ∧ w'.cell? ⟨w.heap.size, 5, none⟩ = some (.int .i64 0) from
    have r := (t.keep w.heap.size (row_lt hr0) (by rw [how]; omega)).trans hr0
    ⟨(row_facts r 2 _ rfl).1, (row_facts r 3 _ rfl).1, (row_facts r 4 _ rfl).1, (row_facts r 5 _ rfl).1⟩))
  have T00 := Lib.hid T0
  obtain ⟨x2, x3, x4, x5⟩ := HV.out W0 o1 (Stp.ext (Ext.rfl' _))
  have HW := Lib.hid hW0
  clear T0 how hr0 ho1 h h0 h1 htl
  obtain ⟨gl, hgl⟩ : ∃ x, x = [34] ++ tl ++ [34] := ⟨_, rfl⟩
  rw [← hgl] at CT ⊢
  have CT := Lib.hid CT
  obtain ⟨gd, hgd⟩ : ∃ x, x = fmtD mt := ⟨_, rfl⟩
  rw [← hgd] at CF ⊢
  have C3 := Lib.hid (fun w' (e : Ext W0 w') => (show Calls Tryz.prog 27 #[.pointer (some ⟨P, 0, none⟩), .string ⟨#[69, 84, 97, 103]⟩, .string (str gl)] w' (AnsTo k P (fs ++ [([69, 84, 97, 103], gl)]) st bv br w' o1) from
    stAdd_c k P fs [69, 84, 97, 103] gl (by omega) st bv br A c w' o1 (by
      have s : Stp (fun i => i = k + 9) w o w' o1 := (Stp.ext2 (by rw [HW.out]; (repeat (first | exact Ext.rfl' _ | assumption | refine Ext.dr ?_ | refine Ext.drN ?_ _ | refine Ext.al ?_ _ | refine Ext.st ?_ (by simp) _ | refine Ext.tr ?_ (by assumption)))) (fun b hb => by have := T00.out.own b hb; exact this)).tr (Stp.ext e)
      have hP := row_lt H.out.row
      exact ⟨(s.own P hP).trans H.out.own, (s.keep P hP (by rw [H.out.own]; omega)).trans H.out.row, H.out.sl.stp s (by omega), H.out.z⟩)))
  have C4 := Lib.hid (fun A3 c3 w' o' (h : AnAt w' o' k P (fs ++ [([69, 84, 97, 103], gl)]) st bv br A3 c3) => (show Calls Tryz.prog 27 #[.pointer (some ⟨P, 0, none⟩), .string ⟨#[76, 97, 115, 116, 45, 77, 111, 100, 105, 102, 105, 101, 100]⟩, .string (str gd)] w' (AnsTo k P (fs ++ [([69, 84, 97, 103], gl)] ++ [([76, 97, 115, 116, 45, 77, 111, 100, 105, 102, 105, 101, 100], gd)]) st bv br w' o') from
    stAdd_c k P _ _ gd (by simp; omega) st bv br A3 c3 w' o' h))
  have C5 := Lib.hid (fun A3 c3 w' o' (h : AnAt w' o' k P (fs ++ [([69, 84, 97, 103], gl)] ++ [([76, 97, 115, 116, 45, 77, 111, 100, 105, 102, 105, 101, 100], gd)]) st bv br A3 c3) => (show Calls Tryz.prog 27 #[.pointer (some ⟨P, 0, none⟩), .string ⟨#[65, 99, 99, 101, 112, 116, 45, 82, 97, 110, 103, 101, 115]⟩, .string ⟨#[98, 121, 116, 101, 115]⟩] w' (AnsTo k P (fs ++ [([69, 84, 97, 103], gl)] ++ [([76, 97, 115, 116, 45, 77, 111, 100, 105, 102, 105, 101, 100], gd)] ++ [([65, 99, 99, 101, 112, 116, 45, 82, 97, 110, 103, 101, 115], [98, 121, 116, 101, 115])]) st bv br w' o') from
    stAdd_c k P _ _ [98, 121, 116, 101, 115] (by simp; omega) st bv br A3 c3 w' o' h))
  have HF := Lib.hid (show fs ++ [([69, 84, 97, 103], gl)] ++ [([76, 97, 115, 116, 45, 77, 111, 100, 105, 102, 105, 101, 100], gd)] ++ [([65, 99, 99, 101, 112, 116, 45, 82, 97, 110, 103, 101, 115], [98, 121, 116, 101, 115])] = fs ++ [([69, 84, 97, 103], gl), ([76, 97, 115, 116, 45, 77, 111, 100, 105, 102, 105, 101, 100], gd), ([65, 99, 99, 101, 112, 116, 45, 82, 97, 110, 103, 101, 115], [98, 121, 116, 101, 115])] from by simp)
  rw [← HF.out]
  clear hgl hgd
  obtain ⟨RR, hRR⟩ : ∃ x, x = AnsTo k P (fs ++ [([69, 84, 97, 103], gl)] ++ [([76, 97, 115, 116, 45, 77, 111, 100, 105, 102, 105, 101, 100], gd)] ++ [([65, 99, 99, 101, 112, 116, 45, 82, 97, 110, 103, 101, 115], [98, 121, 116, 101, 115])]) st bv br w o := ⟨_, rfl⟩
  rw [← hRR]
  have HRR := Lib.hid hRR
  clear hRR
  go_enter Tryz.func32, Tryz.ntmps32
  go_upto_region 1 with (fail)
  rw [← hW0]
  clear hW0
  go_upto_region 2 with (go_at_call 69; refine (CF.out _).mono ?_; clear CF; rintro e w1 ⟨rfl, hx1⟩; obtain ⟨y2, y3, y4, y5⟩ := HV.out w1 o1 (Stp.ext hx1))
  go_region_held3 (fun w' => w'.cell? ⟨w.heap.size, 3, none⟩ = some (.bool false) ∧ w'.cell? ⟨w.heap.size, 4, none⟩ = some (.string (str tl))) (first | exact ⟨z3, z4⟩ | exact ⟨(HV.out _ o1 (Stp.ext (by (repeat (first | exact Ext.rfl' _ | assumption | refine Ext.dr ?_ | refine Ext.al ?_ _ | refine Ext.st ?_ (by simp) _ | refine Ext.tr ?_ (by assumption)))))).2.1, (HV.out _ o1 (Stp.ext (by (repeat (first | exact Ext.rfl' _ | assumption | refine Ext.dr ?_ | refine Ext.al ?_ _ | refine Ext.st ?_ (by simp) _ | refine Ext.tr ?_ (by assumption)))))).2.2.1⟩) (first
    | (go_at_call 70; refine (CT.out _).mono ?_; rintro e w2 ⟨rfl, hx2⟩)
    | (go_at_call 27; refine (C3.out _ (by (repeat (first | exact Ext.rfl' _ | assumption | refine Ext.dr ?_ | refine Ext.drN ?_ _ | refine Ext.al ?_ _ | refine Ext.st ?_ (by simp) _ | refine Ext.tr ?_ (by assumption))))).mono ?_; rintro e w3 ⟨rfl, o3, A3, c3, hn3, st3⟩; obtain ⟨z2, z3, z4, z5⟩ := HV.out w3 o3 ((Stp.ext (by (repeat (first | exact Ext.rfl' _ | assumption | refine Ext.dr ?_ | refine Ext.drN ?_ _ | refine Ext.al ?_ _ | refine Ext.st ?_ (by simp) _ | refine Ext.tr ?_ (by assumption))))).tr st3)))
  all_goals (
    go_wp2_with (first
      | (go_at_call 27; refine (C4.out _ _ _ _ hn3).mono ?_; clear C4; rintro e w4 ⟨rfl, o4, A4, c4, hn4, st4⟩; obtain ⟨q2, q3, q4, q5⟩ := HV.out w4 o4 (((Stp.ext (o := o1) (by (repeat (first | exact Ext.rfl' _ | assumption | refine Ext.dr ?_ | refine Ext.drN ?_ _ | refine Ext.al ?_ _ | refine Ext.st ?_ (by simp) _ | refine Ext.tr ?_ (by assumption))))).tr st3).tr st4))
      | (go_at_call 27; refine (C5.out _ _ _ _ hn4).mono ?_; clear C5; rintro e w5 ⟨rfl, o5, A5, c5, hn5, st5⟩; obtain ⟨r2, r3, r4, r5⟩ := HV.out w5 o5 ((((Stp.ext (o := o1) (by (repeat (first | exact Ext.rfl' _ | assumption | refine Ext.dr ?_ | refine Ext.drN ?_ _ | refine Ext.al ?_ _ | refine Ext.st ?_ (by simp) _ | refine Ext.tr ?_ (by assumption))))).tr st3).tr st4).tr st5)))
    go_end0
    rw [HRR.out]
    exact ⟨rfl, o5, A5, c5, hn5, T00.out.tr ((((Stp.ext (o := o1) (by (repeat (first | exact Ext.rfl' _ | assumption | refine Ext.dr ?_ | refine Ext.drN ?_ _ | refine Ext.al ?_ _ | refine Ext.st ?_ (by simp) _ | refine Ext.tr ?_ (by assumption))))).tr st3).tr st4).tr st5)⟩)
end Go.Proofs.YtemdgilifnhdpaaGreatDoor
end

section
namespace Go.Proofs.YtemdgilifnhdpaaGreatDoor
open Go.RowKit

theorem AnAt.put {w : World} {o : Ow} {k P : Nat} {fs : List Fld} {st : Int} {bv : Value} {br : Bool} {A : Option Addr} {c : Nat} (h : AnAt w o k P fs st bv br A c) (s2 : Int) (b2 : Value) :
    AnAt ((w.setCell ⟨P, 1, none⟩ (.int .i64 s2)).setCell ⟨P, 2, none⟩ b2) o k P fs s2 b2 br A c ∧ Stp (fun i => i = k) w o ((w.setCell ⟨P, 1, none⟩ (.int .i64 s2)).setCell ⟨P, 2, none⟩ b2) o := by
  have r1 := row_set h.row 1 (.int .i64 s2)
  have r2 := row_set r1 2 b2
  have s : Stp (fun i => i = k) w o ((w.setCell ⟨P, 1, none⟩ (.int .i64 s2)).setCell ⟨P, 2, none⟩ b2) o := (Stp.set P 1 _ (fun _ => h.own)).tr (Stp.set P 2 _ (fun _ => h.own))
  exact ⟨⟨h.own, r2, h.sl.stp s (by omega), h.z⟩, s⟩
theorem AnAt.stp {K : Nat → Prop} {w w' : World} {o o' : Ow} {k P : Nat} {fs : List Fld} {st : Int} {bv : Value} {br : Bool} {A : Option Addr} {c : Nat} (h : AnAt w o k P fs st bv br A c) (s : Stp K w o w' o') (h0 : ¬ K k) (h1 : ¬ K (k + 1)) : AnAt w' o' k P fs st bv br A c :=
  ⟨(s.own P (row_lt h.row)).trans h.own, (s.keep P (row_lt h.row) (by rw [h.own]; exact h0)).trans h.row, h.sl.stp s h1, h.z⟩
end Go.Proofs.YtemdgilifnhdpaaGreatDoor
end

section
namespace Go.Proofs.YtemdgilifnhdpaaGreatDoor
open Go.RowKit

def fullF (kind tl : List UInt8) (mt : Int) : List Fld := [([67, 111, 110, 116, 101, 110, 116, 45, 84, 121, 112, 101], kind), ([69, 84, 97, 103], [34] ++ tl ++ [34]), ([76, 97, 115, 116, 45, 77, 111, 100, 105, 102, 105, 101, 100], fmtD mt), ([65, 99, 99, 101, 112, 116, 45, 82, 97, 110, 103, 101, 115], [98, 121, 116, 101, 115])]
def KFull (k : Nat) : Nat → Prop := fun i => i = k ∨ i = k + 1 ∨ i = k + 2
set_option maxRecDepth 100000 in
set_option maxHeartbeats 4000000 in
theorem stFull_c (k P : Nat) (fs : List Fld) (hl : fs.length ≤ 90) (st : Int) (bv : Value) (br : Bool) (s2 : Int) (kind : List UInt8) (nm : ByteArray) (B : Option Addr) (m d : Nat) (mt : Int) (h0 : 0 ≤ mt) (h1 : mt ≤ 253402300799) (tl : List UInt8) (htl : tl.length ≤ 1000) (bb : List UInt8) (Bs : Option Addr) (dd : Nat) (hb : bb.length ≤ 140737488351232) (A : Option Addr) (c : Nat) (w : World) (o : Ow) (h : AnAt w o k P fs st bv br A c) (hr : Rd w Bs (bc bb)) :
    Calls Tryz.prog 36 #[.agg #[.string nm, .slice B m d, .int .i64 mt, .bool false, .string (str tl), .int .i64 0], .pointer (some ⟨P, 0, none⟩), .int .i64 s2, .string (str kind), .string ⟨#[]⟩, .slice Bs bb.length dd] w
      (fun e w' => e = .returned (.tuple #[]) ∧ ∃ o' A' c' Ab cb, AnAt w' o' k P (fs ++ fullF kind tl mt) s2 (.slice Ab bb.length cb) br A' c' ∧ Sl w' o' (k + 2) 1 Ab bb.length cb (bc bb) ∧ (Ab = none → cb = 0) ∧ Stp (KFull k) w o w' o') := by
  have H := Lib.hid h
  have HR := Lib.hid hr
  obtain ⟨n, hn⟩ : ∃ n, n = bb.length := ⟨_, rfl⟩
  rw [← hn]
  have HN := Lib.hid hn
  obtain ⟨o1, ho1⟩ : ∃ o1 : Ow, o1 = fun x => if x < w.heap.size then o x else k + 5 := ⟨_, rfl⟩
  obtain ⟨W0, hW0⟩ : ∃ W, W = w.alloc (.cells #[.string nm, .slice B m d, .int .i64 mt, .bool false, .string (str tl), .int .i64 0] 85) := ⟨_, rfl⟩
  have hr0 : W0.heap[w.heap.size]? = some (.cells #[.string nm, .slice B m d, .int .i64 mt, .bool false, .string (str tl), .int .i64 0] 85 (0, 0)) := by rw [hW0]; exact heap_alloc_new w _
  have T0 : Stp (fun _ => False) w o W0 o1 := Stp.ext2 (by rw [hW0]; (repeat (first | exact Ext.rfl' _ | assumption | refine Ext.dr ?_ | refine Ext.drN ?_ _ | refine Ext.al ?_ _ | refine Ext.st ?_ (by simp) _ | refine Ext.tr ?_ (by assumption)))) (fun b hb => by rw [ho1]; exact if_pos hb)
  have how : o1 w.heap.size = k + 5 := by rw [ho1]; exact if_neg (by omega)
  have HV := Lib.hid (fun w' o' (t : Stp (KFull k) W0 o1 w' o') => (show w'.cell? ⟨w.heap.size, 0, none⟩ = some (.string nm) ∧ w'.cell? ⟨w.heap.size, 1, none⟩ = some (.slice B m d) ∧ w'.cell? ⟨w.heap.size, 2, none⟩ = some (.int .i64 mt) ∧ w'.cell? ⟨w.heap.size, 3, none⟩ = some (.bool false) ∧ w'.cell? ⟨w.heap.size, 4, none⟩ = some (.string (str tl)) ∧ w'.cell? ⟨w.heap.size, 5, none⟩ = some (.int .i64 0) from
    have r := (t.keep w.heap.size (row_lt hr0) (by rw [how]; unfold KFull; omega)).trans hr0
    ⟨(row_facts r 0 _ rfl).1, (row_facts r 1 _ rfl).1, (row_facts r 2 _ rfl).1, (row_facts r 3 _ rfl).1, (row_facts r 4 _ rfl).1, (row_facts r 5 _ rfl).1⟩))
  have HA0 := h.stp T0 (fun x => x) (fun x => x)
  have HX0 : Ext w W0 := by rw [hW0]; (repeat (first | exact Ext.rfl' _ | assumption | refine Ext.dr ?_ | refine Ext.drN ?_ _ | refine Ext.al ?_ _ | refine Ext.st ?_ (by simp) _ | refine Ext.tr ?_ (by assumption)))
  have HRC := Lib.hid (hr.ext HX0)
  have hn5 : n ≤ 140737488351232 := by rw [hn]; exact hb
  have HT0 := Lib.hid T0
  have hms : maxLen = 9223372036854775807 := rfl
  have HAA := Lib.hid HA0
  have HW := Lib.hid hW0
  clear T0 how hr0 ho1 h hr HA0 hn HX0
  have CA := Lib.hid (fun A' c' w' o' bv' (h : AnAt w' o' k P fs s2 bv' br A' c') => (show Calls Tryz.prog 27 #[.pointer (some ⟨P, 0, none⟩), .string ⟨#[67, 111, 110, 116, 101, 110, 116, 45, 84, 121, 112, 101]⟩, .string (str kind)] w' (AnsTo k P (fs ++ [([67, 111, 110, 116, 101, 110, 116, 45, 84, 121, 112, 101], kind)]) s2 bv' br w' o') from
    stAdd_c k P fs [67, 111, 110, 116, 101, 110, 116, 45, 84, 121, 112, 101] kind (by omega) s2 bv' br A' c' w' o' h))
  have CN := Lib.hid (fun A' c' w' o' bv' (h : AnAt w' o' k P (fs ++ [([67, 111, 110, 116, 101, 110, 116, 45, 84, 121, 112, 101], kind)]) s2 bv' br A' c') => stKnown_whole k P _ (by simp; omega) s2 bv' br nm B m d mt h0 h1 tl htl A' c' w' o' h)
  have m0 : ∀ i, False → KFull k i := fun _ h => h.elim
  have m1 : ∀ i, i = k → KFull k i := fun _ h => .inl h
  have m2 : ∀ i, (i = k ∨ i = k + 1) → KFull k i := fun _ h => by unfold KFull; omega
  go_enter Tryz.func36, Tryz.ntmps36
  go_upto_region 1 with (fail)
  rw [← HW.out]
  go_wp2_with (first
    | (at_builtin; refine wpL_fresh slt_u8 (.const (.slice none 0 0)) (.tmp 15) rfl rfl (o := o1) (k + 2) rfl rfl (Sl.src Tryz.underlying22 (HRC.out.ext (by (repeat (first | exact Ext.rfl' _ | assumption | refine Ext.dr ?_ | refine Ext.drN ?_ _ | refine Ext.al ?_ _ | refine Ext.st ?_ (by simp) _ | refine Ext.tr ?_ (by assumption))))) (by rw [HN.out]; simp) (by omega) (bc_one _) dd) (by omega) (by omega) ?_; intro A1 c1 w1 o2 hs1 hst1 hn1; have ha1 := HAA.out.stp hst1 (fun x => x) (fun x => x); obtain ⟨z1, z2⟩ := row_facts ha1.row 1 _ rfl; obtain ⟨z3, z4⟩ := row_facts ha1.row 2 _ rfl; have hp1 := ha1.put s2 (.slice A1 n c1); have tp1 := (hst1.mono m0).tr (hp1.2.mono m1))
    | (go_at_call 27; refine (CA.out _ _ _ _ _ hp1.1).mono ?_; clear CA; rintro e w2 ⟨rfl, o3, A3, c3, hn3, st3⟩; have tp2 := tp1.tr (st3.mono m2); obtain ⟨x0, x1, x2, x3, x4, x5⟩ := HV.out w2 o3 tp2)
    | (go_at_call 32; refine (CN.out _ _ _ _ _ hn3).mono ?_; clear CN; rintro e w3 ⟨rfl, o4, A4, c4, hn4, st4⟩))
  go_end0
  have hf : fs ++ [([67, 111, 110, 116, 101, 110, 116, 45, 84, 121, 112, 101], kind)] ++ [([69, 84, 97, 103], [34] ++ tl ++ [34]), ([76, 97, 115, 116, 45, 77, 111, 100, 105, 102, 105, 101, 100], fmtD mt), ([65, 99, 99, 101, 112, 116, 45, 82, 97, 110, 103, 101, 115], [98, 121, 116, 101, 115])] = fs ++ fullF kind tl mt := by rw [List.append_assoc]; rfl
  rw [hf] at hn4
  exact ⟨rfl, o4, A4, c4, A1, c1, hn4, ((hs1.stp hp1.2 (by omega)).stp st3 (by omega)).stp st4 (by omega), hn1, (HT0.out.mono m0).tr (tp2.tr (st4.mono m2))⟩
end Go.Proofs.YtemdgilifnhdpaaGreatDoor
end

section
namespace Go.Proofs.YtemdgilifnhdpaaGreatDoor
open Go.RowKit

def cutP (pre : List UInt8) : Nat := (Lib.lastIndexByte (str pre) 47).toNat
theorem cutP_at (pre : List UInt8) : (Lib.lastIndexByte (str pre) 47 = -1 ∧ cutP pre = 0) ∨ (Lib.lastIndexByte (str pre) 47 = (cutP pre : Int) ∧ cutP pre < pre.length) := by
  unfold cutP
  rcases Lib.lastIndexByte_spec (str pre) 47 with ⟨h, _⟩ | ⟨i, hi, h, _⟩
  · exact .inl ⟨h, by rw [h]; rfl⟩
  · rw [str_size] at hi
    exact .inr ⟨by rw [h]; simp, by rw [h]; simpa using hi⟩
theorem cutP_le (pre : List UInt8) : cutP pre ≤ pre.length := by rcases cutP_at pre with ⟨_, h⟩ | ⟨_, h⟩ <;> omega
theorem cutP_one : cutP [47] = 0 := by decide +kernel
def nameS (pre root r : List UInt8) : List UInt8 := Lib.trimSuffix root [47] ++ r.drop (cutP pre)
theorem trimS_len (root : List UInt8) : (Lib.trimSuffix root [47]).length ≤ root.length := by
  unfold Lib.trimSuffix
  split
  · rw [List.length_take]; omega
  · exact Nat.le_refl _
theorem trimS_no {root : List UInt8} (h : root.getLast? ≠ some 47) : Lib.trimSuffix root [47] = root := by
  unfold Lib.trimSuffix
  rw [suf47, if_neg (by simpa using h)]
def askS (pre root index path : List UInt8) : Option (List UInt8) ⊕ Int :=
  if (resU path).2 ≠ 0 then .inr 400 else
  if Lib.hasPrefix (resU path).1 pre = false then .inr 404 else
  if Lib.hasSuffix (nameS pre root (resU path).1) [47] = false then .inl (some (nameS pre root (resU path).1)) else
  if index = [] then .inr 404 else .inl (some (nameS pre root (resU path).1 ++ index))
def findS (s : Wrl) (pre root index path : List UInt8) : (List UInt8 × Fil) ⊕ Int :=
  match askS pre root index path with
  | .inr n => .inr n
  | .inl none => .inr 0
  | .inl (some nm) => match lkM s.L nm with
    | some f => .inl (nm, f)
    | none => if folderW s (nm ++ [47]) then .inr 301 else .inr 404
def rsnS (n : Int) : List UInt8 :=
  if n = 301 then [77, 111, 118, 101, 100, 32, 80, 101, 114, 109, 97, 110, 101, 110, 116, 108, 121] else
  if n = 400 then [66, 97, 100, 32, 82, 101, 113, 117, 101, 115, 116] else
  if n = 404 then [78, 111, 116, 32, 70, 111, 117, 110, 100] else
  if n = 405 then [77, 101, 116, 104, 111, 100, 32, 78, 111, 116, 32, 65, 108, 108, 111, 119, 101, 100] else
  if n = 412 then [80, 114, 101, 99, 111, 110, 100, 105, 116, 105, 111, 110, 32, 70, 97, 105, 108, 101, 100] else
  [82, 97, 110, 103, 101, 32, 78, 111, 116, 32, 83, 97, 116, 105, 115, 102, 105, 97, 98, 108, 101]
def locF (path : List UInt8) : Fld := ([76, 111, 99, 97, 116, 105, 111, 110], path ++ [47])
theorem resU_two (l : List UInt8) : (resU l).2 = 0 ∨ resU l = ([], 40) := by
  cases h : decL l with
  | none => exact .inr (resU_none h)
  | some x => rw [resU_some h]; exact clean_two x
theorem resU_in {path r : List UInt8} (h : resU path = (r, 0)) : r.head? = some 47 ∧ r.length ≤ 4096 := by
  cases hd : decL path with
  | none => rw [resU_none hd] at h; cases h
  | some x =>
    rw [resU_some hd] at h
    obtain ⟨_, h2, _, left, hw, hok, hx, hl⟩ := clean_some h
    refine ⟨?_, by omega⟩
    rw [hx]
    unfold outS
    split
    · rfl
    · rename_i hn
      cases left with
      | nil => exact absurd rfl hn
      | cons a b => simp
theorem find_below {s : Wrl} {root index path nm : List UInt8} {f : Fil} (hr : root.getLast? ≠ some 47) (h : findS s [47] root index path = .inl (nm, f)) : lkM s.L nm = some f ∧ (root ++ [47]) <+: nm := by
  unfold findS at h
  split at h
  · cases h
  · cases h
  · rename_i nm' ha
    split at h
    · rename_i f' hf
      injection h with h
      obtain ⟨rfl, rfl⟩ := Prod.mk.inj h
      refine ⟨hf, ?_⟩
      unfold askS at ha
      rcases resU_two path with h0 | h0
      · rw [if_neg (by simp [h0])] at ha
        obtain ⟨hh, _⟩ := resU_in (path := path) (r := (resU path).1) (by rw [← h0])
        obtain ⟨t, ht⟩ : ∃ t, (resU path).1 = 47 :: t := by
          cases hc : (resU path).1 with
          | nil => rw [hc] at hh; cases hh
          | cons a b => rw [hc] at hh; injection hh with hh; exact ⟨b, by rw [hh]⟩
        have hn : nameS [47] root (resU path).1 = root ++ 47 :: t := by unfold nameS; rw [cutP_one, trimS_no hr, ht]; rfl
        rw [hn] at ha
        split at ha
        · cases ha
        · split at ha
          · injection ha with ha; injection ha with ha
            exact ⟨t, by rw [← ha]; simp⟩
          · split at ha
            · cases ha
            · injection ha with ha; injection ha with ha
              exact ⟨t ++ index, by rw [← ha]; simp⟩
      · rw [if_pos (by rw [h0]; decide)] at ha; cases ha
    · split at h <;> cases h
end Go.Proofs.YtemdgilifnhdpaaGreatDoor
end

section
namespace Go.Proofs.YtemdgilifnhdpaaGreatDoor
open Go.RowKit

theorem evBld_size : ∃ j, Tryz.prog.info? 196 = some j ∧ j.size = 2 := by
  have h : (Tryz.prog.info? 196).map (·.size) = some 2 := by kernel_rfl
  obtain ⟨j, hj, hs⟩ := Option.map_eq_some_iff.1 h
  exact ⟨j, hj, hs⟩
theorem evBld_lies : liesAt Tryz.prog Tryz.prog.depth 196 (2 / Tryz.prog.cellsOf 196) 0 196 1 = true := by kernel_rfl
set_option maxRecDepth 100000 in
set_option maxHeartbeats 1000000 in
theorem evCheck_fresh (b : Nat) (w : World) (h0 : w.cell? ⟨b, 0, none⟩ = some (.pointer none)) (hsh : w.shape? b = some (196, 2)) (hfz : w.frozen? ⟨b, 0, none⟩ = false) :
    Calls Tryz.prog 164 #[.pointer (some ⟨b, 0, none⟩)] w fun e w' => e = .returned (.tuple #[]) ∧ w' = w.setCell ⟨b, 0, none⟩ (.pointer (some ⟨b, 0, none⟩)) := by
  obtain ⟨j, hj, hjs⟩ := evBld_size
  have HJ := Lib.hid hj
  have HS := Lib.hid hjs
  have HH := Lib.hid hsh
  clear hj hjs hsh
  go_enter Tryz.func164, Tryz.ntmps164
  go_wp2
  rw [Lib.run_to_unsafe w ⟨b, 0, none⟩ Tryz.underlying194 Tryz.underlying261 HJ.out (by rw [HS.out]; decide) HH.out (Nat.zero_lt_succ 1)]
  simp only [Result.andThen]
  rw [Oper.upon_value]
  go_wp2
  rw [run_callFunc_extern Tryz.func193 (by kernel_rfl) (by kernel_rfl) (by kernel_rfl) (e := Extern.AbiNoEscape.same) (by kernel_rfl)]
  rw [Lib.run_noEscape]
  simp only [Result.andThen]
  rw [Oper.upon_value]
  go_wp2
  rw [Lib.run_from_unsafe w ⟨b, 0, none⟩ Tryz.underlying261 Tryz.underlying194 HJ.out HH.out evBld_lies]
  simp only [Result.andThen]
  rw [Oper.upon_value]
  go_wp2
  go_end0
  exact ⟨rfl, rfl⟩
set_option maxRecDepth 100000 in
set_option maxHeartbeats 1000000 in
theorem evCheck_used (b : Nat) (w : World) (h0 : w.cell? ⟨b, 0, none⟩ = some (.pointer (some ⟨b, 0, none⟩))) :
    Calls Tryz.prog 164 #[.pointer (some ⟨b, 0, none⟩)] w fun e w' => e = .returned (.tuple #[]) ∧ w' = w := by
  obtain ⟨j, hj, hjs⟩ := evBld_size
  have HJ := Lib.hid hj
  clear hj hjs
  go_enter Tryz.func164, Tryz.ntmps164
  go_wp2
  rw [Lib.run_neq_ptr_same w _ Tryz.underlying194 HJ.out]
  go_wp2
  go_end0
  exact ⟨rfl, rfl⟩
end Go.Proofs.YtemdgilifnhdpaaGreatDoor
end
