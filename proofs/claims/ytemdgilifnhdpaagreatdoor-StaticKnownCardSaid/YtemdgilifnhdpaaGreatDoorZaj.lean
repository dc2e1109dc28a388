/-
Static: what is known of a file (no age).
-/
import Derived.Test.YtemdgilifnhdpaaGreatDoorZai
import Derived.Test.YtemdgilifnhdpaaGreatDoorZah
import Derived.Test.YtemdgilifnhdpaaGreatDoorZac
import Derived.Lib.ConvBytes
set_option linter.unusedVariables false
set_option linter.unusedSimpArgs false
section
namespace Go.Proofs.YtemdgilifnhdpaaGreatDoor
open Go.RowKit

set_option maxRecDepth 100000 in
set_option maxHeartbeats 2000000 in
theorem stKnown_bare (k P : Nat) (fs : List Fld) (hl : fs.length ≤ 100) (st : Int) (bv : Value) (br : Bool) (nm : ByteArray) (B : Option Addr) (m d : Nat) (mt : Int) (h0 : 0 ≤ mt) (h1 : mt ≤ 253402300799) (tl : List UInt8) (htl : tl.length ≤ 1000) (A : Option Addr) (c : Nat) (w : World) (o : Ow) (h : AnAt w o k P fs st bv br A c) :
    Calls Tryz.prog 32 #[.agg #[.string nm, .slice B m d, .int .i64 mt, .bool false, .string (str tl), .int .i64 0], .pointer (some ⟨P, 0, none⟩), .bool false] w (AnsTo k P (fs ++ [([69, 84, 97, 103], [34] ++ tl ++ [34]), ([76, 97, 115, 116, 45, 77, 111, 100, 105, 102, 105, 101, 100], fmtD mt)]) st bv br w o) := by
  have CF := Lib.hid (daFormat_c mt h0 h1)
  have CT := TagText_c tl (by omega)
  have H := Lib.hid h
  obtain ⟨o1, ho1⟩ : ∃ o1 : Ow, o1 = fun x => if x < w.heap.size then o x else k + 5 := ⟨_, rfl⟩
  obtain ⟨W0, hW0⟩ : ∃ W, W = w.alloc (.cells #[.string nm, .slice B m d, .int .i64 mt, .bool false, .string (str tl), .int .i64 0] 85) := ⟨_, rfl⟩
  have hr0 : W0.heap[w.heap.size]? = some (.cells #[.string nm, .slice B m d, .int .i64 mt, .bool false, .string (str tl), .int .i64 0] 85 (0, 0)) := by rw [hW0]; exact heap_alloc_new w _
  have T0 : Stp (fun i => i = k ∨ i = k + 1) w o W0 o1 := Stp.ext2 (by rw [hW0]; (repeat (first | exact Ext.rfl' _ | assumption | refine Ext.dr ?_ | refine Ext.drN ?_ _ | refine Ext.al ?_ _ | refine Ext.st ?_ (by simp) _ | refine Ext.tr ?_ (by assumption)))) (fun b hb => by rw [ho1]; exact if_pos hb)
  have how : o1 w.heap.size = k + 5 := by rw [ho1]; exact if_neg (by omega)
  have HV := Lib.hid (fun w' o' (t : Stp (fun i => i = k ∨ i = k + 1) W0 o1 w' o') => (show w'.cell? ⟨w.heap.size, 2, none⟩ = some (.int .i64 mt) ∧ w'.cell? ⟨w.heap.size, 3, none⟩ = some (.bool false) ∧ w'.cell? ⟨w.heap.size, 4, none⟩ = some (.string (str tl)) ∧ w'.cell? ⟨w.heap.size, 5, none⟩ = some (.int .i64 0) from
    have r := (t.keep w.heap.size (row_lt hr0) (by rw [how]; omega)).trans hr0
    ⟨(row_facts r 2 _ rfl).1, (row_facts r 3 _ rfl).1, (row_facts r 4 _ rfl).1, (row_facts r 5 _ rfl).1⟩))
  have T00 := Lib.hid T0
  obtain ⟨x2, x3, x4, x5⟩ := HV.out W0 o1 (Stp.ext (Ext.rfl' _))
  have HW := Lib.hid hW0
  clear T0 how hr0 ho1 h h0 h1 htl
  obtain ⟨gl, hgl⟩ : ∃ x, x = [34] ++ tl ++ [34] := ⟨_, rfl⟩
  rw [← hgl] at CT ⊢
  have CT := Lib.hid CT
  obtain ⟨gd, hgd⟩ : ∃ x, x = fmtD mt := ⟨_, rfl⟩
  rw [← hgd] at CF ⊢
  have C3 := Lib.hid (fun w' (e : Ext W0 w') => (show Calls Tryz.prog 27 #[.pointer (some ⟨P, 0, none⟩), .string ⟨#[69, 84, 97, 103]⟩, .string (str gl)] w' (AnsTo k P (fs ++ [([69, 84, 97, 103], gl)]) st bv br w' o1) from
    stAdd_c k P fs [69, 84, 97, 103] gl (by omega) st bv br A c w' o1 (by
      have s : Stp (fun i => i = k + 9) w o w' o1 := (Stp.ext2 (by rw [HW.out]; (repeat (first | exact Ext.rfl' _ | assumption | refine Ext.dr ?_ | refine Ext.drN ?_ _ | refine Ext.al ?_ _ | refine Ext.st ?_ (by simp) _ | refine Ext.tr ?_ (by assumption)))) (fun b hb => by have := T00.out.own b hb; exact this)).tr (Stp.ext e)
      have hP := row_lt H.out.row
      exact ⟨(s.own P hP).trans H.out.own, (s.keep P hP (by rw [H.out.own]; omega)).trans H.out.row, H.out.sl.stp s (by omega), H.out.z⟩)))
  have C4 := Lib.hid (fun A3 c3 w' o' (h : AnAt w' o' k P (fs ++ [([69, 84, 97, 103], gl)]) st bv br A3 c3) => (show Calls Tryz.prog 27 #[.pointer (some ⟨P, 0, none⟩), .string ⟨#[76, 97, 115, 116, 45, 77, 111, 100, 105, 102, 105, 101, 100]⟩, .string (str gd)] w' (AnsTo k P (fs ++ [([69, 84, 97, 103], gl)] ++ [([76, 97, 115, 116, 45, 77, 111, 100, 105, 102, 105, 101, 100], gd)]) st bv br w' o') from
    stAdd_c k P _ _ gd (by simp; omega) st bv br A3 c3 w' o' h))
  have HF := Lib.hid (show fs ++ [([69, 84, 97, 103], gl)] ++ [([76, 97, 115, 116, 45, 77, 111, 100, 105, 102, 105, 101, 100], gd)] = fs ++ [([69, 84, 97, 103], gl), ([76, 97, 115, 116, 45, 77, 111, 100, 105, 102, 105, 101, 100], gd)] from by simp)
  rw [← HF.out]
  clear hgl hgd
  obtain ⟨RR, hRR⟩ : ∃ x, x = AnsTo k P (fs ++ [([69, 84, 97, 103], gl)] ++ [([76, 97, 115, 116, 45, 77, 111, 100, 105, 102, 105, 101, 100], gd)]) st bv br w o := ⟨_, rfl⟩
  rw [← hRR]
  have HRR := Lib.hid hRR
  clear hRR
  go_enter Tryz.func32, Tryz.ntmps32
  go_upto_region 1 with (fail)
  rw [← hW0]
  clear hW0
  go_upto_region 2 with (go_at_call 69; refine (CF.out _).mono ?_; clear CF; rintro e w1 ⟨rfl, hx1⟩; obtain ⟨y2, y3, y4, y5⟩ := HV.out w1 o1 (Stp.ext hx1))
  go_region_held3 (fun w' => w'.cell? ⟨w.heap.size, 3, none⟩ = some (.bool false) ∧ w'.cell? ⟨w.heap.size, 4, none⟩ = some (.string (str tl))) (first | exact ⟨z3, z4⟩ | exact ⟨(HV.out _ o1 (Stp.ext (by (repeat (first | exact Ext.rfl' _ | assumption | refine Ext.dr ?_ | refine Ext.al ?_ _ | refine Ext.st ?_ (by simp) _ | refine Ext.tr ?_ (by assumption)))))).2.1, (HV.out _ o1 (Stp.ext (by (repeat (first | exact Ext.rfl' _ | assumption | refine Ext.dr ?_ | refine Ext.al ?_ _ | refine Ext.st ?_ (by simp) _ | refine Ext.tr ?_ (by assumption)))))).2.2.1⟩) (first
    | (go_at_call 70; refine (CT.out _).mono ?_; rintro e w2 ⟨rfl, hx2⟩)
    | (go_at_call 27; refine (C3.out _ (by (repeat (first | exact Ext.rfl' _ | assumption | refine Ext.dr ?_ | refine Ext.drN ?_ _ | refine Ext.al ?_ _ | refine Ext.st ?_ (by simp) _ | refine Ext.tr ?_ (by assumption))))).mono ?_; rintro e w3 ⟨rfl, o3, A3, c3, hn3, st3⟩; obtain ⟨z2, z3, z4, z5⟩ := HV.out w3 o3 ((Stp.ext (by (repeat (first | exact Ext.rfl' _ | assumption | refine Ext.dr ?_ | refine Ext.drN ?_ _ | refine Ext.al ?_ _ | refine Ext.st ?_ (by simp) _ | refine Ext.tr ?_ (by assumption))))).tr st3)))
  all_goals (
    go_wp2_with (go_at_call 27; refine (C4.out _ _ _ _ hn3).mono ?_; rintro e w4 ⟨rfl, o4, A4, c4, hn4, st4⟩; obtain ⟨q2, q3, q4, q5⟩ := HV.out w4 o4 (((Stp.ext (o := o1) (by (repeat (first | exact Ext.rfl' _ | assumption | refine Ext.dr ?_ | refine Ext.drN ?_ _ | refine Ext.al ?_ _ | refine Ext.st ?_ (by simp) _ | refine Ext.tr ?_ (by assumption))))).tr st3).tr st4))
    go_end0
    rw [HRR.out]
    exact ⟨rfl, o4, A4, c4, hn4, T00.out.tr (((Stp.ext (o := o1) (by (repeat (first | exact Ext.rfl' _ | assumption | refine Ext.dr ?_ | refine Ext.drN ?_ _ | refine Ext.al ?_ _ | refine Ext.st ?_ (by simp) _ | refine Ext.tr ?_ (by assumption))))).tr st3).tr st4)⟩)
set_option maxRecDepth 100000 in
set_option maxHeartbeats 2000000 in
theorem stKnown_whole (k P : Nat) (fs : List Fld) (hl : fs.length ≤ 100) (st : Int) (bv : Value) (br : Bool) (nm : ByteArray) (B : Option Addr) (m d : Nat) (mt : Int) (h0 : 0 ≤ mt) (h1 : mt ≤ 253402300799) (tl : List UInt8) (htl : tl.length ≤ 1000) (A : Option Addr) (c : Nat) (w : World) (o : Ow) (h : AnAt w o k P fs st bv br A c) :
    Calls Tryz.prog 32 #[.agg #[.string nm, .slice B m d, .int .i64 mt, .bool false, .string (str tl), .int .i64 0], .pointer (some ⟨P, 0, none⟩), .bool true] w (AnsTo k P (fs ++ [([69, 84, 97, 103], [34] ++ tl ++ [34]), ([76, 97, 115, 116, 45, 77, 111, 100, 105, 102, 105, 101, 100], fmtD mt), ([65, 99, 99, 101, 112, 116, 45, 82, 97, 110, 103, 101, 115], [98, 121, 116, 101, 115])]) st bv br w o) := by
  have CF := Lib.hid (daFormat_c mt h0 h1)
  have CT := TagText_c tl (by omega)
  have H := Lib.hid h
  obtain ⟨o1, ho1⟩ : ∃ o1 : Ow, o1 = fun x => if x < w.heap.size then o x else k + 5 := ⟨_, rfl⟩
  obtain ⟨W0, hW0⟩ : ∃ W, W = w.alloc (.cells #[.string nm, .slice B m d, .int .i64 mt, .bool false, .string (str tl), .int .i64 0] 85) := ⟨_, rfl⟩
  have hr0 : W0.heap[w.heap.size]? = some (.cells #[.string nm, .slice B m d, .int .i64 mt, .bool false, .string (str tl), .int .i64 0] 85 (0, 0)) := by rw [hW0]; exact heap_alloc_new w _
  have T0 : Stp (fun i => i = k ∨ i = k + 1) w o W0 o1 := Stp.ext2 (by rw [hW0]; (repeat (first | exact Ext.rfl' _ | assumption | refine Ext.dr ?_ | refine Ext.drN ?_ _ | refine Ext.al ?_ _ | refine Ext.st ?_ (by simp) _ | refine Ext.tr ?_ (by assumption)))) (fun b hb => by rw [ho1]; exact if_pos hb)
  have how : o1 w.heap.size = k + 5 := by rw [ho1]; exact if_neg (by omega)
  have HV := Lib.hid (fun w' o' (t : Stp (fun i => i = k ∨ i = k + 1) W0 o1 w' o') => (show w'.cell? ⟨w.heap.size, 2, none⟩ = some (.int .i64 mt) ∧ w'.cell? ⟨w.heap.size, 3, none⟩ = some (.bool false) ∧ w'.cell? ⟨w.heap.size, 4, none⟩ = some (.string (str tl)) ∧ w'.cell? ⟨w.heap.size, 5, none⟩ = some (.int .i64 0) from
    have r := (t.keep w.heap.size (row_lt hr0) (by rw [how]; omega)).trans hr0
    ⟨(row_facts r 2 _ rfl).1, (row_facts r 3 _ rfl).1, (row_facts r 4 _ rfl).1, (row_facts r 5 _ rfl).1⟩))
  have T00 := Lib.hid T0
  obtain ⟨x2, x3, x4, x5⟩ := HV.out W0 o1 (Stp.ext (Ext.rfl' _))
  have HW := Lib.hid hW0
  clear T0 how hr0 ho1 h h0 h1 htl
  obtain ⟨gl, hgl⟩ : ∃ x, x = [34] ++ tl ++ [34] := ⟨_, rfl⟩
  rw [← hgl] at CT ⊢
  have CT := Lib.hid CT
  obtain ⟨gd, hgd⟩ : ∃ x, x = fmtD mt := ⟨_, rfl⟩
  rw [← hgd] at CF ⊢
  have C3 := Lib.hid (fun w' (e : Ext W0 w') => (show Calls Tryz.prog 27 #[.pointer (some ⟨P, 0, none⟩), .string ⟨#[69, 84, 97, 103]⟩, .string (str gl)] w' (AnsTo k P (fs ++ [([69, 84, 97, 103], gl)]) st bv br w' o1) from
    stAdd_c k P fs [69, 84, 97, 103] gl (by omega) st bv br A c w' o1 (by
      have s : Stp (fun i => i = k + 9) w o w' o1 := (Stp.ext2 (by rw [HW.out]; (repeat (first | exact Ext.rfl' _ | assumption | refine Ext.dr ?_ | refine Ext.drN ?_ _ | refine Ext.al ?_ _ | refine Ext.st ?_ (by simp) _ | refine Ext.tr ?_ (by assumption)))) (fun b hb => by have := T00.out.own b hb; exact this)).tr (Stp.ext e)
      have hP := row_lt H.out.row
      exact ⟨(s.own P hP).trans H.out.own, (s.keep P hP (by rw [H.out.own]; omega)).trans H.out.row, H.out.sl.stp s (by omega), H.out.z⟩)))
  have C4 := Lib.hid (fun A3 c3 w' o' (h : AnAt w' o' k P (fs ++ [([69, 84, 97, 103], gl)]) st bv br A3 c3) => (show Calls Tryz.prog 27 #[.pointer (some ⟨P, 0, none⟩), .string ⟨#[76, 97, 115, 116, 45, 77, 111, 100, 105, 102, 105, 101, 100]⟩, .string (str gd)] w' (AnsTo k P (fs ++ [([69, 84, 97, 103], gl)] ++ [([76, 97, 115, 116, 45, 77, 111, 100, 105, 102, 105, 101, 100], gd)]) st bv br w' o') from
    stAdd_c k P _ _ gd (by simp; omega) st bv br A3 c3 w' o' h))
  have C5 := Lib.hid (fun A3 c3 w' o' (h : AnAt w' o' k P (fs ++ [([69, 84, 97, 103], gl)] ++ [([76, 97, 115, 116, 45, 77, 111, 100, 105, 102, 105, 101, 100], gd)]) st bv br A3 c3) => (show Calls Tryz.prog 27 #[.pointer (some ⟨P, 0, none⟩), .string ⟨#[65, 99, 99, 101, 112, 116, 45, 82, 97, 110, 103, 101, 115]⟩, .string ⟨#[98, 121, 116, 101, 115]⟩] w' (AnsTo k P (fs ++ [([69, 84, 97, 103], gl)] ++ [([76, 97, 115, 116, 45, 77, 111, 100, 105, 102, 105, 101, 100], gd)] ++ [([65, 99, 99, 101, 112, 116, 45, 82, 97, 110, 103, 101, 115], [98, 121, 116, 101, 115])]) st bv br w' o') from
    stAdd_c k P _ _ [98, 121, 116, 101, 115] (by simp; omega) st bv br A3 c3 w' o' h))
  have HF := Lib.hid (show fs ++ [([69, 84, 97, 103], gl)] ++ [([76, 97, 115, 116, 45, 77, 111, 100, 105, 102, 105, 101, 100], gd)] ++ [([65, 99, 99, 101, 112, 116, 45, 82, 97, 110, 103, 101, 115], [98, 121, 116, 101, 115])] = fs ++ [([69, 84, 97, 103], gl), ([76, 97, 115, 116, 45, 77, 111, 100, 105, 102, 105, 101, 100], gd), ([65, 99, 99, 101, 112, 116, 45, 82, 97, 110, 103, 101, 115], [98, 121, 116, 101, 115])] from by simp)
  rw [← HF.out]
  clear hgl hgd
  obtain ⟨RR, hRR⟩ : ∃ x, x = AnsTo k P (fs ++ [([69, 84, 97, 103], gl)] ++ [([76, 97, 115, 116, 45, 77, 111, 100, 105, 102, 105, 101, 100], gd)] ++ [([65, 99, 99, 101, 112, 116, 45, 82, 97, 110, 103, 101, 115], [98, 121, 116, 101, 115])]) st bv br w o := ⟨_, rfl⟩
  rw [← hRR]
  have HRR := Lib.hid hRR
  clear hRR
  go_enter Tryz.func32, Tryz.ntmps32
  go_upto_region 1 with (fail)
  rw [← hW0]
  clear hW0
  go_upto_region 2 with (go_at_call 69; refine (CF.out _).mono ?_; clear CF; rintro e w1 ⟨rfl, hx1⟩; obtain ⟨y2, y3, y4, y5⟩ := HV.out w1 o1 (Stp.ext hx1))
  go_region_held3 (fun w' => w'.cell? ⟨w.heap.size, 3, none⟩ = some (.bool false) ∧ w'.cell? ⟨w.heap.size, 4, none⟩ = some (.string (str tl))) (first | exact ⟨z3, z4⟩ | exact ⟨(HV.out _ o1 (Stp.ext (by (repeat (first | exact Ext.rfl' _ | assumption | refine Ext.dr ?_ | refine Ext.al ?_ _ | refine Ext.st ?_ (by simp) _ | refine Ext.tr ?_ (by assumption)))))).2.1, (HV.out _ o1 (Stp.ext (by (repeat (first | exact Ext.rfl' _ | assumption | refine Ext.dr ?_ | refine Ext.al ?_ _ | refine Ext.st ?_ (by simp) _ | refine Ext.tr ?_ (by assumption)))))).2.2.1⟩) (first
    | (go_at_call 70; refine (CT.out _).mono ?_; rintro e w2 ⟨rfl, hx2⟩)
    | (go_at_call 27; refine (C3.out _ (by (repeat (first | exact Ext.rfl' _ | assumption | refine Ext.dr ?_ | refine Ext.drN ?_ _ | refine Ext.al ?_ _ | refine Ext.st ?_ (by simp) _ | refine Ext.tr ?_ (by assumption))))).mono ?_; rintro e w3 ⟨rfl, o3, A3, c3, hn3, st3⟩; obtain ⟨z2, z3, z4, z5⟩ := HV.out w3 o3 ((Stp.ext (by (repeat (first | exact Ext.rfl' _ | assumption | refine Ext.dr ?_ | refine Ext.drN ?_ _ | refine Ext.al ?_ _ | refine Ext.st ?_ (by simp) _ | refine Ext.tr ?_ (by assumption))))).tr st3)))
  all_goals (
    go_wp2_with (first
      | (go_at_call 27; refine (C4.out _ _ _ _ hn3).mono ?_; clear C4; rintro e w4 ⟨rfl, o4, A4, c4, hn4, st4⟩; obtain ⟨q2, q3, q4, q5⟩ := HV.out w4 o4 (((Stp.ext (o := o1) (by (repeat (first | exact Ext.rfl' _ | assumption | refine Ext.dr ?_ | refine Ext.drN ?_ _ | refine Ext.al ?_ _ | refine Ext.st ?_ (by simp) _ | refine Ext.tr ?_ (by assumption))))).tr st3).tr st4))
      | (go_at_call 27; refine (C5.out _ _ _ _ hn4).mono ?_; clear C5; rintro e w5 ⟨rfl, o5, A5, c5, hn5, st5⟩; obtain ⟨r2, r3, r4, r5⟩ := HV.out w5 o5 ((((Stp.ext (o := o1) (by (repeat (first | exact Ext.rfl' _ | assumption | refine Ext.dr ?_ | refine Ext.drN ?_ _ | refine Ext.al ?_ _ | refine Ext.st ?_ (by simp) _ | refine Ext.tr ?_ (by assumption))))).tr st3).tr st4).tr st5)))
    go_end0
    rw [HRR.out]
    exact ⟨rfl, o5, A5, c5, hn5, T00.out.tr ((((Stp.ext (o := o1) (by (repeat (first | exact Ext.rfl' _ | assumption | refine Ext.dr ?_ | refine Ext.drN ?_ _ | refine Ext.al ?_ _ | refine Ext.st ?_ (by simp) _ | refine Ext.tr ?_ (by assumption))))).tr st3).tr st4).tr st5)⟩)
end Go.Proofs.YtemdgilifnhdpaaGreatDoor
end

section
namespace Go.Proofs.YtemdgilifnhdpaaGreatDoor
open Go.RowKit

theorem AnAt.put {w : World} {o : Ow} {k P : Nat} {fs : List Fld} {st : Int} {bv : Value} {br : Bool} {A : Option Addr} {c : Nat} (h : AnAt w o k P fs st bv br A c) (s2 : Int) (b2 : Value) :
    AnAt ((w.setCell ⟨P, 1, none⟩ (.int .i64 s2)).setCell ⟨P, 2, none⟩ b2) o k P fs s2 b2 br A c ∧ Stp (fun i => i = k) w o ((w.setCell ⟨P, 1, none⟩ (.int .i64 s2)).setCell ⟨P, 2, none⟩ b2) o := by
  have r1 := row_set h.row 1 (.int .i64 s2)
  have r2 := row_set r1 2 b2
  have s : Stp (fun i => i = k) w o ((w.setCell ⟨P, 1, none⟩ (.int .i64 s2)).setCell ⟨P, 2, none⟩ b2) o := (Stp.set P 1 _ (fun _ => h.own)).tr (Stp.set P 2 _ (fun _ => h.own))
  exact ⟨⟨h.own, r2, h.sl.stp s (by omega), h.z⟩, s⟩
theorem AnAt.stp {K : Nat → Prop} {w w' : World} {o o' : Ow} {k P : Nat} {fs : List Fld} {st : Int} {bv : Value} {br : Bool} {A : Option Addr} {c : Nat} (h : AnAt w o k P fs st bv br A c) (s : Stp K w o w' o') (h0 : ¬ K k) (h1 : ¬ K (k + 1)) : AnAt w' o' k P fs st bv br A c :=
  ⟨(s.own P (row_lt h.row)).trans h.own, (s.keep P (row_lt h.row) (by rw [h.own]; exact h0)).trans h.row, h.sl.stp s h1, h.z⟩
end Go.Proofs.YtemdgilifnhdpaaGreatDoor
end

section
namespace Go.Proofs.YtemdgilifnhdpaaGreatDoor
open Go.RowKit

def fullF (kind tl : List UInt8) (mt : Int) : List Fld := [([67, 111, 110, 116, 101, 110, 116, 45, 84, 121, 112, 101], kind), ([69, 84, 97, 103], [34] ++ tl ++ [34]), ([76, 97, 115, 116, 45, 77, 111, 100, 105, 102, 105, 101, 100], fmtD mt), ([65, 99, 99, 101, 112, 116, 45, 82, 97, 110, 103, 101, 115], [98, 121, 116, 101, 115])]
def KFull (k : Nat) : Nat → Prop := fun i => i = k ∨ i = k + 1 ∨ i = k + 2
set_option maxRecDepth 100000 in
set_option maxHeartbeats 4000000 in
theorem stFull_c (k P : Nat) (fs : List Fld) (hl : fs.length ≤ 90) (st : Int) (bv : Value) (br : Bool) (s2 : Int) (kind : List UInt8) (nm : ByteArray) (B : Option Addr) (m d : Nat) (mt : Int) (h0 : 0 ≤ mt) (h1 : mt ≤ 253402300799) (tl : List UInt8) (htl : tl.length ≤ 1000) (bb : List UInt8) (Bs : Option Addr) (dd : Nat) (hb : bb.length ≤ 140737488351232) (A : Option Addr) (c : Nat) (w : World) (o : Ow) (h : AnAt w o k P fs st bv br A c) (hr : Rd w Bs (bc bb)) :
    Calls Tryz.prog 36 #[.agg #[.string nm, .slice B m d, .int .i64 mt, .bool false, .string (str tl), .int .i64 0], .pointer (some ⟨P, 0, none⟩), .int .i64 s2, .string (str kind), .string ⟨#[]⟩, .slice Bs bb.length dd] w
      (fun e w' => e = .returned (.tuple #[]) ∧ ∃ o' A' c' Ab cb, AnAt w' o' k P (fs ++ fullF kind tl mt) s2 (.slice Ab bb.length cb) br A' c' ∧ Sl w' o' (k + 2) 1 Ab bb.length cb (bc bb) ∧ (Ab = none → cb = 0) ∧ Stp (KFull k) w o w' o') := by
  have H := Lib.hid h
  have HR := Lib.hid hr
  obtain ⟨n, hn⟩ : ∃ n, n = bb.length := ⟨_, rfl⟩
  rw [← hn]
  have HN := Lib.hid hn
  obtain ⟨o1, ho1⟩ : ∃ o1 : Ow, o1 = fun x => if x < w.heap.size then o x else k + 5 := ⟨_, rfl⟩
  obtain ⟨W0, hW0⟩ : ∃ W, W = w.alloc (.cells #[.string nm, .slice B m d, .int .i64 mt, .bool false, .string (str tl), .int .i64 0] 85) := ⟨_, rfl⟩
  have hr0 : W0.heap[w.heap.size]? = some (.cells #[.string nm, .slice B m d, .int .i64 mt, .bool false, .string (str tl), .int .i64 0] 85 (0, 0)) := by rw [hW0]; exact heap_alloc_new w _
  have T0 : Stp (fun _ => False) w o W0 o1 := Stp.ext2 (by rw [hW0]; (repeat (first | exact Ext.rfl' _ | assumption | refine Ext.dr ?_ | refine Ext.drN ?_ _ | refine Ext.al ?_ _ | refine Ext.st ?_ (by simp) _ | refine Ext.tr ?_ (by assumption)))) (fun b hb => by rw [ho1]; exact if_pos hb)
  have how : o1 w.heap.size = k + 5 := by rw [ho1]; exact if_neg (by omega)
  have HV := Lib.hid (fun w' o' (t : Stp (KFull k) W0 o1 w' o') => (show w'.cell? ⟨w.heap.size, 0, none⟩ = some (.string nm) ∧ w'.cell? ⟨w.heap.size, 1, none⟩ = some (.slice B m d) ∧ w'.cell? ⟨w.heap.size, 2, none⟩ = some (.int .i64 mt) ∧ w'.cell? ⟨w.heap.size, 3, none⟩ = some (.bool false) ∧ w'.cell? ⟨w.heap.size, 4, none⟩ = some (.string (str tl)) ∧ w'.cell? ⟨w.heap.size, 5, none⟩ = some (.int .i64 0) from
    have r := (t.keep w.heap.size (row_lt hr0) (by rw [how]; unfold KFull; omega)).trans hr0
    ⟨(row_facts r 0 _ rfl).1, (row_facts r 1 _ rfl).1, (row_facts r 2 _ rfl).1, (row_facts r 3 _ rfl).1, (row_facts r 4 _ rfl).1, (row_facts r 5 _ rfl).1⟩))
  have HA0 := h.stp T0 (fun x => x) (fun x => x)
  have HX0 : Ext w W0 := by rw [hW0]; (repeat (first | exact Ext.rfl' _ | assumption | refine Ext.dr ?_ | refine Ext.drN ?_ _ | refine Ext.al ?_ _ | refine Ext.st ?_ (by simp) _ | refine Ext.tr ?_ (by assumption)))
  have HRC := Lib.hid (hr.ext HX0)
  have hn5 : n ≤ 140737488351232 := by rw [hn]; exact hb
  have HT0 := Lib.hid T0
  have hms : maxLen = 9223372036854775807 := rfl
  have HAA := Lib.hid HA0
  have HW := Lib.hid hW0
  clear T0 how hr0 ho1 h hr HA0 hn HX0
  have CA := Lib.hid (fun A' c' w' o' bv' (h : AnAt w' o' k P fs s2 bv' br A' c') => (show Calls Tryz.prog 27 #[.pointer (some ⟨P, 0, none⟩), .string ⟨#[67, 111, 110, 116, 101, 110, 116, 45, 84, 121, 112, 101]⟩, .string (str kind)] w' (AnsTo k P (fs ++ [([67, 111, 110, 116, 101, 110, 116, 45, 84, 121, 112, 101], kind)]) s2 bv' br w' o') from
    stAdd_c k P fs [67, 111, 110, 116, 101, 110, 116, 45, 84, 121, 112, 101] kind (by omega) s2 bv' br A' c' w' o' h))
  have CN := Lib.hid (fun A' c' w' o' bv' (h : AnAt w' o' k P (fs ++ [([67, 111, 110, 116, 101, 110, 116, 45, 84, 121, 112, 101], kind)]) s2 bv' br A' c') => stKnown_whole k P _ (by simp; omega) s2 bv' br nm B m d mt h0 h1 tl htl A' c' w' o' h)
  have m0 : ∀ i, False → KFull k i := fun _ h => h.elim
  have m1 : ∀ i, i = k → KFull k i := fun _ h => .inl h
  have m2 : ∀ i, (i = k ∨ i = k + 1) → KFull k i := fun _ h => by unfold KFull; omega
  go_enter Tryz.func36, Tryz.ntmps36
  go_upto_region 1 with (fail)
  rw [← HW.out]
  go_wp2_with (first
    | (at_builtin; refine wpL_fresh slt_u8 (.const (.slice none 0 0)) (.tmp 15) rfl rfl (o := o1) (k + 2) rfl rfl (Sl.src Tryz.underlying22 (HRC.out.ext (by (repeat (first | exact Ext.rfl' _ | assumption | refine Ext.dr ?_ | refine Ext.drN ?_ _ | refine Ext.al ?_ _ | refine Ext.st ?_ (by simp) _ | refine Ext.tr ?_ (by assumption))))) (by rw [HN.out]; simp) (by omega) (bc_one _) dd) (by omega) (by omega) ?_; intro A1 c1 w1 o2 hs1 hst1 hn1; have ha1 := HAA.out.stp hst1 (fun x => x) (fun x => x); obtain ⟨z1, z2⟩ := row_facts ha1.row 1 _ rfl; obtain ⟨z3, z4⟩ := row_facts ha1.row 2 _ rfl; have hp1 := ha1.put s2 (.slice A1 n c1); have tp1 := (hst1.mono m0).tr (hp1.2.mono m1))
    | (go_at_call 27; refine (CA.out _ _ _ _ _ hp1.1).mono ?_; clear CA; rintro e w2 ⟨rfl, o3, A3, c3, hn3, st3⟩; have tp2 := tp1.tr (st3.mono m2); obtain ⟨x0, x1, x2, x3, x4, x5⟩ := HV.out w2 o3 tp2)
    | (go_at_call 32; refine (CN.out _ _ _ _ _ hn3).mono ?_; clear CN; rintro e w3 ⟨rfl, o4, A4, c4, hn4, st4⟩))
  go_end0
  have hf : fs ++ [([67, 111, 110, 116, 101, 110, 116, 45, 84, 121, 112, 101], kind)] ++ [([69, 84, 97, 103], [34] ++ tl ++ [34]), ([76, 97, 115, 116, 45, 77, 111, 100, 105, 102, 105, 101, 100], fmtD mt), ([65, 99, 99, 101, 112, 116, 45, 82, 97, 110, 103, 101, 115], [98, 121, 116, 101, 115])] = fs ++ fullF kind tl mt := by rw [List.append_assoc]; rfl
  rw [hf] at hn4
  exact ⟨rfl, o4, A4, c4, A1, c1, hn4, ((hs1.stp hp1.2 (by omega)).stp st3 (by omega)).stp st4 (by omega), hn1, (HT0.out.mono m0).tr (tp2.tr (st4.mono m2))⟩
end Go.Proofs.YtemdgilifnhdpaaGreatDoor
end

section
namespace Go.Proofs.YtemdgilifnhdpaaGreatDoor
open Go.RowKit

theorem Stp.setNewO {K : Nat → Prop} {w w' : World} {o o' : Ow} (h : Stp K w o w' o') (b off : Nat) (u : Value) (hb : w.heap.size ≤ b) : Stp K w o (w'.setCell ⟨b, off, none⟩ u) o' :=
  ⟨h.os, h.tape, h.output, by have := h.size; simpa using this, h.own, fun i hi hk => (Below.heap_setCell w' ⟨b, off, none⟩ u i (by show i ≠ b; omega)).trans (h.keep i hi hk)⟩
def respV (st : Int) (n : Nat) (A : Option Addr) (c : Nat) (bv : Value) : Value := .agg #[.int .i64 st, .slice A n c, bv]
set_option maxRecDepth 100000 in
set_option maxHeartbeats 4000000 in
theorem stResp_bare (k P : Nat) (fs : List Fld) (st : Int) (B : Option Addr) (n d : Nat) (A : Option Addr) (c : Nat) (w : World) (o : Ow) (h : AnAt w o k P fs st (.slice B n d) true A c) :
    Calls Tryz.prog 37 #[.pointer (some ⟨P, 0, none⟩)] w (Gives (respV st fs.length A c (.slice B n d)) w) := by
  obtain ⟨c0, f0⟩ := row_facts h.row 0 _ rfl
  obtain ⟨c1, f1⟩ := row_facts h.row 1 _ rfl
  obtain ⟨c2, f2⟩ := row_facts h.row 2 _ rfl
  obtain ⟨c3, f3⟩ := row_facts h.row 3 _ rfl
  have hP := row_lt h.row
  unfold respV
  obtain ⟨m, hm⟩ : ∃ m, m = fs.length := ⟨_, rfl⟩
  rw [← hm] at c0 ⊢
  clear h hm
  go_enter Tryz.func37, Tryz.ntmps37
  go_wp2
  go_region
  go_wp2
  refine bodyPost_ret (v := .agg #[.int .i64 st, .slice A m c, .slice B n d]) (by simp [results, Tryz.results37, go_sem]) rfl ⟨rfl, by (repeat (first | exact Ext.rfl' _ | assumption | refine Ext.dr ?_ | refine Ext.drN ?_ _ | refine Ext.al ?_ _ | refine Ext.st ?_ (by simp) _ | refine Ext.tr ?_ (by assumption)))⟩
def lenF (n : Nat) : Fld := ([67, 111, 110, 116, 101, 110, 116, 45, 76, 101, 110, 103, 116, 104], Lib.itoa n)
set_option maxRecDepth 100000 in
set_option maxHeartbeats 4000000 in
theorem stResp_whole (k P : Nat) (fs : List Fld) (hl : fs.length ≤ 999) (st : Int) (B : Option Addr) (n d : Nat) (hn : n ≤ 140737488355328) (A : Option Addr) (c : Nat) (w : World) (o : Ow) (hp : Pow w) (h : AnAt w o k P fs st (.slice B n d) false A c) :
    Calls Tryz.prog 37 #[.pointer (some ⟨P, 0, none⟩)] w (fun e w' => ∃ o' A' c', e = .returned (respV st (fs.length + 1) A' c' (.slice B n d)) ∧ AnAt w' o' k P (fs ++ [lenF n]) st (.slice B n d) false A' c' ∧ Stp (fun i => i = k ∨ i = k + 1) w o w' o') := by
  have H := Lib.hid h
  have HP := Lib.hid hp
  have CD := Lib.hid (fun w' (e : Ext w w') => Digits_c (n : Int) w' (hp.ext e) (by omega) (by omega))
  have CA := Lib.hid (fun w' (e : Ext w w') => (show Calls Tryz.prog 27 #[.pointer (some ⟨P, 0, none⟩), .string ⟨#[67, 111, 110, 116, 101, 110, 116, 45, 76, 101, 110, 103, 116, 104]⟩, .string (decB n)] w' (AnsTo k P (fs ++ [lenF n]) st (.slice B n d) false w' (fun x => if x < w.heap.size then o x else k + 7)) from
    stAdd_c k P fs [67, 111, 110, 116, 101, 110, 116, 45, 76, 101, 110, 103, 116, 104] (Lib.itoa n) (by omega) st (.slice B n d) false A c w' _ (h.stp (K := fun _ => False) (Stp.ext2 e (fun b hb => if_pos hb)) (fun x => x) (fun x => x))))
  obtain ⟨c2, f2⟩ := row_facts h.row 2 _ rfl
  obtain ⟨c3, f3⟩ := row_facts h.row 3 _ rfl
  have hP := row_lt h.row
  obtain ⟨dn, hdn⟩ : ∃ x, x = decB n := ⟨_, rfl⟩
  rw [← hdn] at CD CA
  have hn6 : (n : Int) ≤ 140737488355328 := by omega
  clear h hp hdn
  go_enter Tryz.func37, Tryz.ntmps37
  go_wp2
  go_region_with (first
    | (go_at_call 71; refine (CD.out _ (by (repeat (first | exact Ext.rfl' _ | assumption | refine Ext.dr ?_ | refine Ext.drN ?_ _ | refine Ext.al ?_ _ | refine Ext.st ?_ (by simp) _ | refine Ext.tr ?_ (by assumption))))).mono ?_; rintro e w2 ⟨rfl, hx2⟩)
    | (go_at_call 27; refine (CA.out _ (by (repeat (first | exact Ext.rfl' _ | assumption | refine Ext.dr ?_ | refine Ext.drN ?_ _ | refine Ext.al ?_ _ | refine Ext.st ?_ (by simp) _ | refine Ext.tr ?_ (by assumption))))).mono ?_; rintro e w3 ⟨rfl, o3, A3, c3, hn3, st3⟩))
  have e0 : Ext (w.alloc (.cells #[.int .i64 0, .slice none 0 0, .slice none 0 0] 34)) w2 := by (repeat (first | exact Ext.rfl' _ | assumption | refine Ext.dr ?_ | refine Ext.drN ?_ _ | refine Ext.al ?_ _ | refine Ext.st ?_ (by simp) _ | refine Ext.tr ?_ (by assumption)))
  have r2 := (e0.block w.heap.size (row_lt (heap_alloc_new w _))).trans (heap_alloc_new w _)
  have r3 := (st3.keep w.heap.size (row_lt r2) (by
    show ¬ ((if w.heap.size < w.heap.size then o w.heap.size else k + 7) = k ∨ (if w.heap.size < w.heap.size then o w.heap.size else k + 7) = k + 1)
    rw [if_neg (Nat.lt_irrefl _)]; omega)).trans r2
  obtain ⟨y0, y1⟩ := row_facts r3 0 _ rfl
  obtain ⟨y2, y3⟩ := row_facts r3 1 _ rfl
  obtain ⟨y4, y5⟩ := row_facts r3 2 _ rfl
  obtain ⟨u0, u1⟩ := row_facts hn3.row 0 _ rfl
  obtain ⟨u2, u3⟩ := row_facts hn3.row 1 _ rfl
  obtain ⟨u4, u5⟩ := row_facts hn3.row 2 _ rfl
  have hm : (fs ++ [lenF n]).length = fs.length + 1 := by simp
  rw [hm] at u0
  have HM := Lib.hid hm
  have HN3 := Lib.hid hn3
  have hxw : Ext w w2 := by (repeat (first | exact Ext.rfl' _ | assumption | refine Ext.dr ?_ | refine Ext.drN ?_ _ | refine Ext.al ?_ _ | refine Ext.st ?_ (by simp) _ | refine Ext.tr ?_ (by assumption)))
  have HST := Lib.hid ((Stp.ext2 (K := fun i => i = k ∨ i = k + 1) (o' := fun x => if x < w.heap.size then o x else k + 7) hxw (fun b hb => if_pos hb)).tr st3)
  have HO3 := Lib.hid (show o3 w.heap.size = k + 7 from by
    have := st3.own w.heap.size (row_lt r2)
    rw [this]; exact if_neg (Nat.lt_irrefl _))
  have HLT := Lib.hid (row_lt r3)
  clear r2 r3 hm hn3 e0 hxw st3 c2 f2
  go_wp2
  go_region
  go_wp2
  unfold respV
  refine bodyPost_ret (v := .agg #[.int .i64 st, .slice A3 (fs.length + 1) c3, .slice B n d]) (by simp [results, Tryz.results37, go_sem, y0, y1, y2, y3, y4, y5]) rfl ⟨o3, A3, c3, rfl, ?_, ?_⟩
  · exact HN3.out.stp (K := fun i => i = k + 7) ((Stp.set w.heap.size 0 _ (fun _ => HO3.out)).tr ((Stp.set w.heap.size 1 _ (fun _ => HO3.out)).tr ((Stp.set w.heap.size 2 _ (fun _ => HO3.out)).tr (Stp.ext (Ext.dr (Ext.rfl' _)))))) (by omega) (by omega)
  · exact (((HST.out.setNewO _ 0 _ (Nat.le_refl _)).setNewO _ 1 _ (Nat.le_refl _)).setNewO _ 2 _ (Nat.le_refl _)).tr (Stp.ext (Ext.dr (Ext.rfl' _)))
end Go.Proofs.YtemdgilifnhdpaaGreatDoor
end

section
namespace Go.Proofs.YtemdgilifnhdpaaGreatDoor
open Go.RowKit

theorem Ext.bwS {a b : World} (h : Ext a b) (e : TypeId) (s : ByteArray) : Ext a (Lib.bytesWorld b e s) :=
  ⟨by simpa [Lib.bytesWorld, World.freeze, World.alloc, World.drew, -World.alloc_eq, -World.drew_eq] using h.os,
   by simpa [Lib.bytesWorld, World.freeze, World.alloc, World.drew, -World.alloc_eq, -World.drew_eq] using h.tape,
   by simpa [Lib.bytesWorld, World.freeze, World.alloc, World.drew, -World.alloc_eq, -World.drew_eq] using h.output,
   by rw [Lib.bytesWorld_size]; have := h.size; omega,
   fun i hi => by rw [Lib.bytesWorld_at_old _ _ _ _ (by have := h.size; omega)]; exact h.block i hi⟩
def ctF : Fld := ([67, 111, 110, 116, 101, 110, 116, 45, 84, 121, 112, 101], [116, 101, 120, 116, 47, 112, 108, 97, 105, 110])
set_option maxRecDepth 100000 in
set_option maxHeartbeats 4000000 in
theorem stPlain_c (code : Int) (tx : List UInt8) (ht : tx.length ≤ 100) (k P : Nat) (fs : List Fld) (hl : fs.length ≤ 90) (st : Int) (bv : Value) (br : Bool) (A : Option Addr) (c : Nat) (w : World) (o : Ow) (h : AnAt w o k P fs st bv br A c) (hR : ∀ w', Ext w w' → Calls Tryz.prog 58 #[.int .i64 code] w' (Gives (.string (str tx)) w')) :
    Calls Tryz.prog 28 #[.pointer (some ⟨P, 0, none⟩), .int .i64 code] w (fun e w' => e = .returned (.tuple #[]) ∧ ∃ o' A' c' B d, AnAt w' o' k P (fs ++ [ctF]) code (.slice B (tx.length + 1) d) br A' c' ∧ Stp (fun i => i = k ∨ i = k + 1) w o w' o') := by
  have H := Lib.hid h
  have HR := Lib.hid hR
  have hcat : ∀ w, (Op.stringOp .add (str tx) ⟨#[10]⟩).run Tryz.prog w = .ok (.string (str (tx ++ [10]))) w := fun w => catS _ [10] (by simp; omega) w
  obtain ⟨s1, e1⟩ : ∃ x, x = str tx := ⟨_, rfl⟩
  obtain ⟨s2, e2⟩ : ∃ x, x = str (tx ++ [10]) := ⟨_, rfl⟩
  have hz : s2.size = tx.length + 1 := by rw [e2, str_size]; simp
  rw [← e1, ← e2] at hcat
  rw [← e1] at HR
  have hP := row_lt h.row
  have CV := fun w => Lib.run_convert_string_bytes (P := Tryz.prog) w 9 22 5 s2 Tryz.underlying9 Tryz.underlying22 Tryz.underlying5
  have HZ := Lib.hid hz
  have CA := Lib.hid (fun A' c' w' o' bv' (h : AnAt w' o' k P fs code bv' br A' c') => (show Calls Tryz.prog 27 #[.pointer (some ⟨P, 0, none⟩), .string ⟨#[67, 111, 110, 116, 101, 110, 116, 45, 84, 121, 112, 101]⟩, .string ⟨#[116, 101, 120, 116, 47, 112, 108, 97, 105, 110]⟩] w' (AnsTo k P (fs ++ [ctF]) code bv' br w' o') from
    stAdd_c k P fs [67, 111, 110, 116, 101, 110, 116, 45, 84, 121, 112, 101] [116, 101, 120, 116, 47, 112, 108, 97, 105, 110] (by omega) code bv' br A' c' w' o' h))
  clear h hR hz e1 e2
  go_enter Tryz.func28, Tryz.ntmps28
  go_wp2_with (first
    | (go_at_call 58; refine (HR.out _ (by (repeat (first | exact Ext.rfl' _ | assumption | refine Ext.dr ?_ | refine Ext.drN ?_ _ | refine Ext.al ?_ _ | refine Ext.st ?_ (by simp) _ | refine Ext.tr ?_ (by assumption))))).mono ?_; rintro e w1 ⟨rfl, hx1⟩; have xb := (hx1.bwS 5 s2); have sb : Stp (fun i => i = k) w o (Lib.bytesWorld w1 5 s2) o := Stp.ext xb; have ab := H.out.stp (K := fun _ => False) (Stp.ext xb) (fun x => x) (fun x => x); obtain ⟨c1, f1⟩ := row_facts ab.row 1 _ rfl; obtain ⟨c2, f2⟩ := row_facts ab.row 2 _ rfl; have hp1 := ab.put code (.slice (some ⟨w1.heap.size, 0, none⟩) s2.size (grownCap w1 s2.size 0 5)))
    | (go_at_call 27; refine (CA.out _ _ _ _ _ hp1.1).mono ?_; clear CA; rintro e w2 ⟨rfl, o3, A3, c3, hn3, st3⟩))
  go_end0
  rw [HZ.out] at hn3
  exact ⟨rfl, o3, A3, c3, _, _, hn3, ((sb.mono fun _ h => .inl h).tr (hp1.2.mono fun _ h => .inl h)).tr st3⟩
end Go.Proofs.YtemdgilifnhdpaaGreatDoor
end
