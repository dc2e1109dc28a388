/-
A configuration's text: plain words; a line of it.
-/
import Derived.Test.YtmnohicojefhfaaGreatDoorBWa
import Derived.Test.YtmnohicojefhfaaGreatDoorUHa
import Derived.Deep.RegionWith
import Derived.Test.YtmnohicojefhfaaGreatDoorCFc
import Derived.Deep.CutBlock
import Derived.Deep.DeepCutAuto
set_option linter.unusedVariables false
set_option linter.unusedSimpArgs false
section
namespace Go.Proofs.YtmnohicojefhfaaGreatDoor
open Go.RowKit

inductive Ar where
 | num (n : Int)
 | txt (s : List UInt8)
def decT (n : Int) : List UInt8 := (decB n).data.toList
def argT : Ar → List UInt8
 | .num n => 32 :: decT n
 | .txt s => [32, 34] ++ s ++ [34]
def argV : Ar → Value
 | .num n => .iface 3 (.int .i64 n)
 | .txt s => .iface 9 (.string (str s))
def argsT (xs : List Ar) : List UInt8 := xs.flatMap argT
def lineT (en nm : List UInt8) (xs : List Ar) : List UInt8 := nm ++ argsT xs ++ (en ++ [10])
theorem decT_str (n : Int) : str (decT n) = decB n := str_toList _
theorem decT_len (n : Int) (h0 : -9223372036854775808 ≤ n) (h1 : n ≤ 9223372036854775807) : (decT n).length ≤ 21 := by
 have := Lib.itoa_length_le n h0 h1
 unfold decT decB
 rw [str_data]; exact this
def ArOk : Ar → Prop
 | .num n => -9223372036854775808 ≤ n ∧ n ≤ 9223372036854775807
 | .txt s => s.length ≤ 140737488355328
theorem catS (l m : List UInt8) (h : l.length + m.length ≤ 281474976710656) (w : World) : (Op.stringOp .add (str l) (str m)).run Tryz.prog w = .ok (.string (str (l ++ m))) w := by
 rw [cat_ok _ _ (by rw [str_size, str_size]; omega)]
 simp
theorem argsT_take (xs : List Ar) (i : Nat) (h : i < xs.length) : argsT (xs.take (i + 1)) = argsT (xs.take i) ++ argT xs[i] := by
 unfold argsT
 rw [List.take_succ_eq_append_getElem h, List.flatMap_append]; simp
theorem argsT_le (xs : List Ar) (i : Nat) : (argsT (xs.take i)).length ≤ (argsT xs).length := by
 unfold argsT
 conv => rhs; rw [← List.take_append_drop i xs, List.flatMap_append, List.length_append]
 omega
theorem argT_pos (x : Ar) : 1 ≤ (argT x).length := by
 cases x with
 | num n => show 1 ≤ (32 :: decT n).length; simp
 | txt s => show 1 ≤ ([32, 34] ++ s ++ [34]).length; simp
theorem argsT_cnt : ∀ (xs : List Ar), xs.length ≤ (argsT xs).length := by
 intro xs
 induction xs with
 | nil => exact Nat.zero_le _
 | cons x r ih =>
  have h := argT_pos x
  have e : argsT (x :: r) = argT x ++ argsT r := rfl
  rw [e, List.length_append, List.length_cons]
  omega
set_option maxRecDepth 100000 in
set_option maxHeartbeats 4000000 in
theorem cLine_c (k b : Nat) (l en nm : List UInt8) (xs : List Ar) (A : Option Addr) (n c : Nat) (w : World) (o : Ow) (h : BwAt w o k b l) (hn : n = xs.length) (hA : Rd w A (xs.map argV)) (hAo : xs ≠ [] → ∀ a, A = some a → a.block < w.heap.size → ¬ KW k (o a.block)) (hOk : ∀ x ∈ xs, ArOk x)
  (hP : ∀ w' o', Stp (KW k) w o w' o' → Pow w') (hl : l.length + (lineT en nm xs).length ≤ 140737488355328) :
  Calls Tryz.prog 39 #[.pointer (some ⟨b, 0, none⟩), .string (str en), .string (str nm), .slice A n c] w fun e w' => ∃ o', e = .returned (.tuple #[]) ∧ BwAt w' o' k b (l ++ lineT en nm xs) ∧ Stp (KW k) w o w' o' := by
 subst hn
 have hlt : (lineT en nm xs).length = nm.length + (argsT xs).length + (en.length + 1) := by simp [lineT]; omega
 have hta1 : ∀ (v : Value) w, (Instr.typeAssert (.iface 3 v) 20 3 true).run Tryz.prog w = .ok (.tuple #[v, .bool true]) w := fun v w => by first | rfl | (simp [Instr.typeAssert, go_sem]; done)
 have hta2 : ∀ (v : Value) w, (Instr.typeAssert (.iface 9 v) 20 3 true).run Tryz.prog w = .ok (.tuple #[.int .i64 0, .bool false]) w := fun v w => by first | rfl | (simp [Instr.typeAssert, go_sem]; done)
 have hta3 : ∀ (v : Value) w, (Instr.typeAssert (.iface 9 v) 20 9 true).run Tryz.prog w = .ok (.tuple #[v, .bool true]) w := fun v w => by first | rfl | (simp [Instr.typeAssert, go_sem]; done)
 have hk1 : ¬ KW k k → False := fun h => h (.inl rfl)
 have CW0 := Lib.hid (bwWrite_c k b l nm w o h (by omega))
 have HA := Lib.hid hA
 have HAO := Lib.hid hAo
 have HOK := Lib.hid hOk
 have HP := Lib.hid hP
 have HLT := Lib.hid hlt
 have HL := Lib.hid hl
 have HX : Hid (xs.length ≤ 140737488355328) := Lib.hid (by have := argsT_cnt xs; omega)
 obtain ⟨sn, hsn⟩ : ∃ s, s = str nm := ⟨_, rfl⟩
 rw [← hsn] at CW0 ⊢
 obtain ⟨se, hse⟩ : ∃ s, s = str en := ⟨_, rfl⟩
 have HSE := Lib.hid hse
 rw [← hse]
 clear h hA hAo hOk hP hlt hl hsn hse hk1
 go_enter Tryz.func39, Tryz.ntmps39
 go_wp2_with (go_at_call 85; refine CW0.out.mono ?_; rintro e w1 ⟨o1, rfl, hb1, hs1⟩; have HB1 := Lib.hid hb1; have HS1 := Lib.hid hs1; clear hb1 hs1)
 go_loopw [19] (fun v19 wr => ∃ (i : Nat) (o' : Ow), v19 = .int .i64 (i : Int) ∧ i ≤ xs.length ∧ Hid (BwAt wr o' k b (l ++ nm ++ argsT (xs.take i))) ∧ Hid (Stp (KW k) w o wr o')) (fun v19 _ => xs.length - (intOf v19).toNat)
 case atStart => exact ⟨0, o1, rfl, Nat.zero_le _, Lib.hid (by simpa [argsT] using HB1.out), HS1⟩
 case round =>
  obtain ⟨i, o2, rfl, hi, HB, HS⟩ := hrel
  by_cases hlt : i < xs.length
  ·have hne : xs ≠ [] := fun e => by rw [e] at hlt; simp at hlt
   have hrd := HA.out.stp HS.out (HAO.out hne)
   obtain ⟨g, f, rfl, hc⟩ : ∃ g f, A = some ⟨g, f, none⟩ ∧ wr.cell? ⟨g, f + i, none⟩ = some (argV xs[i]) := by
    rcases hrd with h | ⟨g, f, hA, hc⟩
    ·exact absurd (List.map_eq_nil_iff.1 h) hne
    ·exact ⟨g, f, hA, hc i _ (by rw [List.getElem?_map, List.getElem?_eq_getElem hlt]; rfl)⟩
   have hok := HOK.out xs[i] (List.getElem_mem hlt)
   have htk := argsT_take xs i hlt
   have hle := argsT_le xs (i + 1)
   obtain ⟨x, hx⟩ : ∃ x, x = xs[i] := ⟨_, rfl⟩
   rw [← hx] at hc hok htk
   rw [htk, List.length_append] at hle
   have HTK := Lib.hid htk
   clear hx htk hrd hne
   have j0 : (0 : Int) ≤ (i : Int) := by omega
   have j1 : (i : Int) < (xs.length : Int) := by omega
   have hkk : IntKind.i64.wrap ((i : Int) + 1) = ((i + 1 : Nat) : Int) := by
    have := HX.out; rw [IntKind.wrap_i64]; omega
   cases x with
   | num v =>
    have hbd := HL.out
    have hbd2 := HLT.out
    have hdl := decT_len v hok.1 hok.2
    have hat : (argT (.num v)).length = (decT v).length + 1 := rfl
    have CD := Lib.hid (fun w' (hx : Ext wr w') => Digits_c v w' ((HP.out _ _ HS.out).ext hx) hok.1 hok.2)
    have CW := Lib.hid (fun w' (hx : Ext wr w') => bwWrite_c k b (l ++ nm ++ argsT (xs.take i)) (32 :: decT v) w' o2 (HB.out.ext hx) (by simp only [List.length_append, List.length_cons]; omega))
    obtain ⟨sd, hsd⟩ : ∃ s, s = decB v := ⟨_, rfl⟩
    obtain ⟨s2, hs2⟩ : ∃ s, s = str (32 :: decT v) := ⟨_, rfl⟩
    have cc : ∀ w, (Op.stringOp .add ⟨#[32]⟩ sd).run Tryz.prog w = .ok (.string s2) w := fun w => by rw [hsd, hs2, ← decT_str]; exact catS [32] (decT v) (by simp; omega) w
    rw [← hsd] at CD
    rw [← hs2] at CW
    simp only [argV] at hc
    clear hbd hbd2 hdl hat hsd hs2 hok hle
    go_wp2
    go_region_with (first
     | (go_at_call 86; refine (CD.out _ (by (repeat first | exact Ex0 | assumption | refine Ex1 ?_ | refine Ex2 ?_ | refine Ex3 ?_ | refine Ex4 ?_ | refine Ex5 ?_))).mono ?_; rintro e w3 ⟨rfl, hx3⟩)
     | (go_at_call 85; refine (CW.out _ (by (repeat first | exact Ex0 | assumption | refine Ex1 ?_ | refine Ex2 ?_ | refine Ex3 ?_ | refine Ex4 ?_ | refine Ex5 ?_))).mono ?_; rintro e w4 ⟨o4, rfl, hb4, hs4⟩))
    all_goals (
     have HB4 := Lib.hid hb4
     have HS4 := Lib.hid ((HS.out.tr (Stp.ext (by (repeat first | exact Ex0 | assumption | refine Ex1 ?_ | refine Ex2 ?_ | refine Ex3 ?_ | refine Ex4 ?_ | refine Ex5 ?_)))).tr hs4)
     clear hb4 hs4
     go_wp2
     go_roundw
     case rel => exact ⟨i + 1, o4, rfl, by omega, Lib.hid (by rw [HTK.out]; simpa [argT] using HB4.out), HS4⟩
     case measure => simp [intOf]; omega)
   | txt s =>
    have hbd := HL.out
    have hbd2 := HLT.out
    have hat : (argT (.txt s)).length = s.length + 3 := by simp [argT]
    have CW := Lib.hid (bwWrite_c k b (l ++ nm ++ argsT (xs.take i)) ([32, 34] ++ s ++ [34]) wr o2 HB.out (by simp only [List.length_append, List.length_cons, List.length_nil]; omega))
    obtain ⟨s0, hs0⟩ : ∃ z, z = str s := ⟨_, rfl⟩
    obtain ⟨s1, hs1⟩ : ∃ z, z = str ([32, 34] ++ s) := ⟨_, rfl⟩
    obtain ⟨s2, hs2⟩ : ∃ z, z = str ([32, 34] ++ s ++ [34]) := ⟨_, rfl⟩
    have hsl : s.length ≤ 140737488355328 := hok
    have cc1 : ∀ w, (Op.stringOp .add ⟨#[32, 34]⟩ s0).run Tryz.prog w = .ok (.string s1) w := fun w => by rw [hs0, hs1]; exact catS [32, 34] s (by simp; omega) w
    have cc2 : ∀ w, (Op.stringOp .add s1 ⟨#[34]⟩).run Tryz.prog w = .ok (.string s2) w := fun w => by rw [hs1, hs2]; exact catS ([32, 34] ++ s) [34] (by simp; omega) w
    rw [← hs2] at CW
    simp only [argV] at hc
    rw [← hs0] at hc
    clear hbd hbd2 hat hs0 hs1 hs2 hok hle hsl
    go_wp2_with (go_at_call 85; refine CW.out.mono ?_; rintro e w4 ⟨o4, rfl, hb4, hs4⟩; have HB4 := Lib.hid hb4; have HS4 := Lib.hid (HS.out.tr hs4); clear hb4 hs4)
    go_roundw
    case rel => exact ⟨i + 1, o4, rfl, by omega, Lib.hid (by rw [HTK.out]; simpa [argT] using HB4.out), HS4⟩
    case measure => simp [intOf]; omega
  ·have hbd := HL.out
   have hbd2 := HLT.out
   have htk : xs.take i = xs := List.take_of_length_le (by omega)
   rw [htk] at HB
   have CW := Lib.hid (bwWrite_c k b (l ++ nm ++ argsT xs) (en ++ [10]) wr o2 HB.out (by simp only [List.length_append, List.length_cons, List.length_nil]; omega))
   obtain ⟨s1, hs1⟩ : ∃ z, z = str (en ++ [10]) := ⟨_, rfl⟩
   have cc1 : ∀ w, (Op.stringOp .add se ⟨#[10]⟩).run Tryz.prog w = .ok (.string s1) w := fun w => by rw [HSE.out, hs1]; exact catS en [10] (by simp; omega) w
   rw [← hs1] at CW
   clear hbd hbd2 htk hs1
   go_wp2_with (go_at_call 85; refine CW.out.mono ?_; rintro e w4 ⟨o4, rfl, hb4, hs4⟩; have HB4 := Lib.hid hb4; have HS4 := Lib.hid (HS.out.tr hs4); clear hb4 hs4)
   go_end0
   exact ⟨o4, rfl, by have := HB4.out; unfold lineT; simpa [List.append_assoc] using this, HS4.out⟩
end Go.Proofs.YtmnohicojefhfaaGreatDoor
end

section
namespace Go.Proofs.YtmnohicojefhfaaGreatDoor
open Go.RowKit

theorem lineN_c (k b : Nat) (l en nm : List UInt8) (xs : List Ar) (w : World) (o : Ow) (h : BwAt w o k b l) (hk : 0 < k) (hOk : ∀ x ∈ xs, ArOk x) (hP : ∀ w' o', Stp (KW k) w o w' o' → Pow w') (hl : l.length + (lineT en nm xs).length ≤ 140737488355328) (g : Nat) (hg : w.heap.size = g) :
  Calls Tryz.prog 39 #[.pointer (some ⟨b, 0, none⟩), .string (str en), .string (str nm), .slice (some ⟨g, 0, none⟩) xs.length xs.length] (w.alloc (.cells (xs.map argV).toArray 20)) fun e w' => ∃ o', e = .returned (.tuple #[]) ∧ BwAt w' o' k b (l ++ lineT en nm xs) ∧ Stp (KW k) w o w' o' := by
 subst hg
 have st : ∀ K, Stp K w o (w.alloc (.cells (xs.map argV).toArray 20)) (fun x => if x < w.heap.size then o x else 0) := fun K => Stp.ext2 ((Ext.rfl' w).al _) (fun x hx => if_pos hx)
 refine (cLine_c k b l en nm xs (some ⟨w.heap.size, 0, none⟩) xs.length xs.length _ (fun x => if x < w.heap.size then o x else 0) (h.stp (st fun _ => False) (fun x => x) (fun x => x)) rfl ?_ ?_ hOk (fun w' o' s => hP w' o' ((st _).tr s)) hl).mono ?_
 ·exact .inr ⟨_, 0, rfl, fun j u hu => by
   have := new_cells w (xs.map argV).toArray 20 j u (by simpa using hu)
   rw [add_mk] at this
   exact this⟩
 ·intro _ a ha _
  cases ha
  unfold KW
  simp
  omega
 ·rintro e w' ⟨o', he, hb, hs⟩
  exact ⟨o', he, hb, (st _).tr hs⟩
theorem line0_c (k b : Nat) (l en nm : List UInt8) (w : World) (o : Ow) (h : BwAt w o k b l) (hP : ∀ w' o', Stp (KW k) w o w' o' → Pow w') (hl : l.length + (lineT en nm []).length ≤ 140737488355328) :
  Calls Tryz.prog 39 #[.pointer (some ⟨b, 0, none⟩), .string (str en), .string (str nm), .slice none 0 0] w fun e w' => ∃ o', e = .returned (.tuple #[]) ∧ BwAt w' o' k b (l ++ lineT en nm []) ∧ Stp (KW k) w o w' o' :=
 cLine_c k b l en nm [] none 0 0 w o h rfl (.inl rfl) (fun h => absurd rfl h) (fun x hx => by cases hx) hP hl
def semi : List UInt8 := [59]
def beg : List UInt8 := [32, 123]
def shut : List UInt8 := lineT [] [125] []
def loT1 (l : Lo14) : List UInt8 := lineT semi [114, 111, 111, 116] [.txt l.root] ++ (if l.index = [] then [] else lineT semi [105, 110, 100, 101, 120] [.txt l.index]) ++ lineT semi [103, 122, 105, 112] [.num l.gzip] ++ lineT semi [101, 120, 112, 105, 114, 101, 115] [.num l.expires]
def loT2 (l : Lo14) : List UInt8 := lineT semi [112, 114, 111, 120, 121] [.txt l.up] ++ (if l.cache then lineT semi [99, 97, 99, 104, 101] [] else []) ++ lineT semi [103, 122, 105, 112] [.num l.gzip]
def loT3 (l : Lo14) : List UInt8 := lineT semi [114, 101, 116, 117, 114, 110] [.num l.status, .txt l.goal]
def loTk (l : Lo14) : List UInt8 := if l.kind = 1 then loT1 l else if l.kind = 2 then loT2 l else loT3 l
def loTr (l : Lo14) : List UInt8 := if 0 < l.rate then lineT semi [108, 105, 109, 105, 116] [.num l.rate, .num l.burst] else []
def loT (l : Lo14) : List UInt8 := lineT beg [108, 111, 99, 97, 116, 105, 111, 110] [.txt l.pre] ++ loTk l ++ loTr l ++ shut
structure LoN (l : Lo14) : Prop where
 gzip : ArOk (.num l.gzip)
 expires : ArOk (.num l.expires)
 rate : ArOk (.num l.rate)
 burst : ArOk (.num l.burst)
 status : ArOk (.num l.status)
 pre : ArOk (.txt l.pre)
 root : ArOk (.txt l.root)
 index : ArOk (.txt l.index)
 up : ArOk (.txt l.up)
 goal : ArOk (.txt l.goal)
theorem ok1 {x : Ar} (h : ArOk x) : ∀ y ∈ [x], ArOk y := fun y hy => by rw [List.mem_singleton] at hy; rw [hy]; exact h
theorem ok2 {x z : Ar} (h : ArOk x) (h2 : ArOk z) : ∀ y ∈ [x, z], ArOk y := fun y hy => by
 rcases List.mem_cons.1 hy with h3 | h3
 ·rw [h3]; exact h
 ·rw [List.mem_singleton] at h3; rw [h3]; exact h2
set_option maxRecDepth 100000 in
set_option maxHeartbeats 8000000 in
theorem cWLoc_c (k b : Nat) (l0 : List UInt8) (l : Lo14) (hN : LoN l) (hk : 0 < k) (w : World) (o : Ow) (h : BwAt w o k b l0) (hP : ∀ w' o', Stp (KW k) w o w' o' → Pow w') (hl : l0.length + (loT l).length ≤ 140737488355328) :
  Calls Tryz.prog 40 #[.pointer (some ⟨b, 0, none⟩), .agg #[.string (str l.pre), .int .i64 l.kind, .string (str l.root), .string (str l.index), .int .i64 l.gzip, .int .i64 l.expires, .string (str l.up), .bool l.cache, .int .i64 l.rate, .int .i64 l.burst, .int .i64 l.status, .string (str l.goal)]] w
   fun e w' => ∃ o', e = .returned (.tuple #[]) ∧ BwAt w' o' k b (l0 ++ loT l) ∧ Stp (KW k) w o w' o' := by
 have HN := Lib.hid hN
 have HP := Lib.hid hP
 have HB := Lib.hid h
 have hlt : (loT l).length = (lineT beg [108, 111, 99, 97, 116, 105, 111, 110] [.txt l.pre]).length + (loTk l).length + (loTr l).length + shut.length := by unfold loT; simp only [List.length_append]
 have HL : Hid (l0.length + ((lineT beg [108, 111, 99, 97, 116, 105, 111, 110] [.txt l.pre]).length + (loTk l).length + (loTr l).length + shut.length) ≤ 140737488355328) := Lib.hid (by rw [← hlt]; exact hl)
 clear hN hP h hlt hl
 obtain ⟨W0, hW0⟩ : ∃ W, W = w.alloc (.cells #[.string (str l.pre), .int .i64 l.kind, .string (str l.root), .string (str l.index), .int .i64 l.gzip, .int .i64 l.expires, .string (str l.up), .bool l.cache, .int .i64 l.rate, .int .i64 l.burst, .int .i64 l.status, .string (str l.goal)] 81) := ⟨_, rfl⟩
 obtain ⟨oz, hoz⟩ : ∃ oz : Ow, oz = fun x => if x < w.heap.size then o x else 0 := ⟨_, rfl⟩
 have st0 : ∀ K, Stp K w o W0 oz := fun K => by rw [hW0, hoz]; exact Stp.ext2 ((Ext.rfl' w).al _) (fun x hx => if_pos hx)
 have hrow : W0.heap[w.heap.size]? = some (.cells #[.string (str l.pre), .int .i64 l.kind, .string (str l.root), .string (str l.index), .int .i64 l.gzip, .int .i64 l.expires, .string (str l.up), .bool l.cache, .int .i64 l.rate, .int .i64 l.burst, .int .i64 l.status, .string (str l.goal)] 81 (0, 0)) := by rw [hW0]; exact heap_alloc_new w _
 have hcl : Hid (∀ w' o', Stp (KW k) W0 oz w' o' → ∀ j u, (#[.string (str l.pre), .int .i64 l.kind, .string (str l.root), .string (str l.index), .int .i64 l.gzip, .int .i64 l.expires, .string (str l.up), .bool l.cache, .int .i64 l.rate, .int .i64 l.burst, .int .i64 l.status, .string (str l.goal)] : Array Value)[j]? = some u → w'.cell? ⟨w.heap.size, j, none⟩ = some u) := Lib.hid (fun w' o' s j u hu => by
  have h1 := (s.keep w.heap.size (row_lt hrow) (by rw [hoz]; unfold KW; simp; omega)).trans hrow
  exact (row_facts h1 j u hu).1)
 have HB0 : Hid (BwAt W0 oz k b l0) := Lib.hid (HB.out.stp (st0 fun _ => False) (fun x => x) (fun x => x))
 have HP0 : Hid (∀ w' o', Stp (KW k) W0 oz w' o' → Pow w') := Lib.hid (fun w' o' s => HP.out w' o' ((st0 _).tr s))
 have HS0 := Lib.hid (st0 (KW k))
 clear hrow st0 hoz HB HP
 have HB := HB0
 have HP := HP0
 have HS : Hid (Stp (KW k) W0 oz W0 oz) := Lib.hid Stp.rfl'
 clear HB0 HP0
 go_enter Tryz.func40, Tryz.ntmps40
 go_upto_region 1 with (fail)
 rw [← hW0]
 clear hW0
 have z0 := hcl.out W0 oz Stp.rfl' 0 _ rfl
 go_upto_region 2 with (go_at_call 39; refine (lineN_c k b _ beg [108, 111, 99, 97, 116, 105, 111, 110] [.txt l.pre] _ oz HB.out hk (ok1 HN.out.pre) HP.out (by have := HL.out; omega) _ rfl).mono ?_; rintro e' w1 ⟨o1, rfl, hb, hs⟩; have HB := Lib.hid hb; have HS := Lib.hid hs; clear hb hs)
 obtain ⟨t1, ht1⟩ : ∃ t, t = lineT beg [108, 111, 99, 97, 116, 105, 111, 110] [.txt l.pre] := ⟨_, rfl⟩
 have HT1 := Lib.hid ht1
 rw [← ht1] at HB HL
 clear ht1 z0
 have z1 := hcl.out _ _ HS.out 1 _ rfl
 go_upto_block 0 with (fail)
 clear z1
 go_cut [] (fun wx => ∃ o', Hid (BwAt wx o' k b (l0 ++ t1 ++ loTk l)) ∧ Hid (Stp (KW k) W0 oz wx o'))
 case first =>
  by_cases h1 : l.kind = 1
  ·have d1 : (l.kind == 1) = true := beq_iff_eq.2 h1
   have HK : Hid (loTk l = loT1 l) := Lib.hid (if_pos h1)
   clear h1
   go_upto_region 5 with (fail)
   have z2 := hcl.out _ _ HS.out 2 _ rfl
   have HLK : Hid ((loTk l).length = (lineT semi [114, 111, 111, 116] [.txt l.root]).length + (if l.index = [] then ([] : List UInt8) else lineT semi [105, 110, 100, 101, 120] [.txt l.index]).length + (lineT semi [103, 122, 105, 112] [.num l.gzip]).length + (lineT semi [101, 120, 112, 105, 114, 101, 115] [.num l.expires]).length) := Lib.hid (by rw [HK.out]; unfold loT1; simp only [List.length_append])
   go_upto_region 6 with (go_at_call 39; refine (lineN_c k b _ semi [114, 111, 111, 116] [.txt l.root] _ _ HB.out hk (ok1 HN.out.root) (fun w' o' s => HP.out w' o' (HS.out.tr s)) (by have := HLK.out; have := HL.out; simp only [List.length_append]; omega) _ rfl).mono ?_; rintro e' w1 ⟨o1, rfl, hb, hs⟩; have HB := Lib.hid hb; have HS := Lib.hid (HS.out.tr hs); clear hb hs)
   clear z2
   have z3 := hcl.out _ _ HS.out 3 _ rfl
   by_cases hi : l.index = []
   ·have q1 : l.index.isEmpty = true := by rw [hi]; rfl
    have HI : Hid ((if l.index = [] then ([] : List UInt8) else lineT semi [105, 110, 100, 101, 120] [.txt l.index]) = []) := Lib.hid (if_pos hi)
    clear hi
    go_upto_region 8 with (fail)
    clear z3 q1
    have z4 := hcl.out _ _ HS.out 4 _ rfl
    go_upto_region 9 with (go_at_call 39; refine (lineN_c k b _ semi [103, 122, 105, 112] [.num l.gzip] _ _ HB.out hk (ok1 HN.out.gzip) (fun w' o' s => HP.out w' o' (HS.out.tr s)) (by have := HLK.out; have := HL.out; simp only [List.length_append]; omega) _ rfl).mono ?_; rintro e' w1 ⟨o1, rfl, hb, hs⟩; have HB := Lib.hid hb; have HS := Lib.hid (HS.out.tr hs); clear hb hs)
    clear z4
    have z5 := hcl.out _ _ HS.out 5 _ rfl
    go_wp2_with (go_at_call 39; refine (lineN_c k b _ semi [101, 120, 112, 105, 114, 101, 115] [.num l.expires] _ _ HB.out hk (ok1 HN.out.expires) (fun w' o' s => HP.out w' o' (HS.out.tr s)) (by have := HLK.out; have := HL.out; simp only [List.length_append]; omega) _ rfl).mono ?_; rintro e' w1 ⟨o1, rfl, hb, hs⟩; have HB := Lib.hid hb; have HS := Lib.hid (HS.out.tr hs); clear hb hs)
    go_meet
    exact ⟨_, Lib.hid (by have := HB.out; rw [HK.out]; unfold loT1; rw [HI.out]; simpa [List.append_assoc] using this), HS⟩
   ·have q1 : l.index.isEmpty = false := by cases h : l.index with | nil => exact absurd h hi | cons x r => rfl
    have HI : Hid ((if l.index = [] then ([] : List UInt8) else lineT semi [105, 110, 100, 101, 120] [.txt l.index]) = lineT semi [105, 110, 100, 101, 120] [.txt l.index]) := Lib.hid (if_neg hi)
    clear hi
    go_upto_region 7 with (fail)
    have HLK : Hid _ := Lib.hid (by have := HLK.out; rw [HI.out] at this; exact this)
    go_upto_region 8 with (go_at_call 39; refine (lineN_c k b _ semi [105, 110, 100, 101, 120] [.txt l.index] _ _ HB.out hk (ok1 HN.out.index) (fun w' o' s => HP.out w' o' (HS.out.tr s)) (by have := HLK.out; have := HL.out; simp only [List.length_append]; omega) _ rfl).mono ?_; rintro e' w1 ⟨o1, rfl, hb, hs⟩; have HB := Lib.hid hb; have HS := Lib.hid (HS.out.tr hs); clear hb hs)
    clear z3 q1
    have z4 := hcl.out _ _ HS.out 4 _ rfl
    go_upto_region 9 with (go_at_call 39; refine (lineN_c k b _ semi [103, 122, 105, 112] [.num l.gzip] _ _ HB.out hk (ok1 HN.out.gzip) (fun w' o' s => HP.out w' o' (HS.out.tr s)) (by have := HLK.out; have := HL.out; simp only [List.length_append]; omega) _ rfl).mono ?_; rintro e' w1 ⟨o1, rfl, hb, hs⟩; have HB := Lib.hid hb; have HS := Lib.hid (HS.out.tr hs); clear hb hs)
    clear z4
    have z5 := hcl.out _ _ HS.out 5 _ rfl
    go_wp2_with (go_at_call 39; refine (lineN_c k b _ semi [101, 120, 112, 105, 114, 101, 115] [.num l.expires] _ _ HB.out hk (ok1 HN.out.expires) (fun w' o' s => HP.out w' o' (HS.out.tr s)) (by have := HLK.out; have := HL.out; simp only [List.length_append]; omega) _ rfl).mono ?_; rintro e' w1 ⟨o1, rfl, hb, hs⟩; have HB := Lib.hid hb; have HS := Lib.hid (HS.out.tr hs); clear hb hs)
    go_meet
    exact ⟨_, Lib.hid (by have := HB.out; rw [HK.out]; unfold loT1; rw [HI.out]; simpa [List.append_assoc] using this), HS⟩
  ·have d1 : (l.kind == 1) = false := beq_eq_false_iff_ne.2 h1
   by_cases h2 : l.kind = 2
   ·have d2 : (l.kind == 2) = true := beq_iff_eq.2 h2
    have HK : Hid (loTk l = loT2 l) := Lib.hid (by unfold loTk; rw [if_neg h1, if_pos h2])
    have HLK : Hid ((loTk l).length = (lineT semi [112, 114, 111, 120, 121] [.txt l.up]).length + (if l.cache then lineT semi [99, 97, 99, 104, 101] [] else ([] : List UInt8)).length + (lineT semi [103, 122, 105, 112] [.num l.gzip]).length) := Lib.hid (by rw [HK.out]; unfold loT2; simp only [List.length_append])
    clear h1 h2
    go_upto_region 11 with (fail)
    have z6 := hcl.out _ _ HS.out 6 _ rfl
    go_upto_region 12 with (go_at_call 39; refine (lineN_c k b _ semi [112, 114, 111, 120, 121] [.txt l.up] _ _ HB.out hk (ok1 HN.out.up) (fun w' o' s => HP.out w' o' (HS.out.tr s)) (by have := HLK.out; have := HL.out; simp only [List.length_append]; omega) _ rfl).mono ?_; rintro e' w1 ⟨o1, rfl, hb, hs⟩; have HB := Lib.hid hb; have HS := Lib.hid (HS.out.tr hs); clear hb hs)
    clear z6
    have z7 := hcl.out _ _ HS.out 7 _ rfl
    obtain ⟨ca, hca⟩ : ∃ x, x = l.cache := ⟨_, rfl⟩
    have HK2 : Hid (loT2 l = lineT semi [112, 114, 111, 120, 121] [.txt l.up] ++ (if ca then lineT semi [99, 97, 99, 104, 101] [] else []) ++ lineT semi [103, 122, 105, 112] [.num l.gzip]) := Lib.hid (by rw [hca]; rfl)
    rw [← hca] at z7 HLK
    clear hca
    cases ca with
    | false =>
     have HLQ : Hid ((loTk l).length = (lineT semi [112, 114, 111, 120, 121] [.txt l.up]).length + 0 + (lineT semi [103, 122, 105, 112] [.num l.gzip]).length) := HLK
     clear HLK
     go_upto_region 14 with (fail)
     clear z7
     have z4 := hcl.out _ _ HS.out 4 _ rfl
     go_wp2_with (go_at_call 39; refine (lineN_c k b _ semi [103, 122, 105, 112] [.num l.gzip] _ _ HB.out hk (ok1 HN.out.gzip) (fun w' o' s => HP.out w' o' (HS.out.tr s)) (by have := HLQ.out; have := HL.out; simp only [List.length_append]; omega) _ rfl).mono ?_; rintro e' w1 ⟨o1, rfl, hb, hs⟩; have HB := Lib.hid hb; have HS := Lib.hid (HS.out.tr hs); clear hb hs)
     go_meet
     exact ⟨_, Lib.hid (by have := HB.out; rw [HK.out, HK2.out]; simpa [List.append_assoc] using this), HS⟩
    | true =>
     have HLQ : Hid ((loTk l).length = (lineT semi [112, 114, 111, 120, 121] [.txt l.up]).length + (lineT semi [99, 97, 99, 104, 101] []).length + (lineT semi [103, 122, 105, 112] [.num l.gzip]).length) := HLK
     clear HLK
     go_upto_region 14 with (go_at_call 39; refine (line0_c k b _ semi [99, 97, 99, 104, 101] _ _ HB.out (fun w' o' s => HP.out w' o' (HS.out.tr s)) (by have := HLQ.out; have := HL.out; simp only [List.length_append]; omega)).mono ?_; rintro e' w1 ⟨o1, rfl, hb, hs⟩; have HB := Lib.hid hb; have HS := Lib.hid (HS.out.tr hs); clear hb hs)
     clear z7
     have z4 := hcl.out _ _ HS.out 4 _ rfl
     go_wp2_with (go_at_call 39; refine (lineN_c k b _ semi [103, 122, 105, 112] [.num l.gzip] _ _ HB.out hk (ok1 HN.out.gzip) (fun w' o' s => HP.out w' o' (HS.out.tr s)) (by have := HLQ.out; have := HL.out; simp only [List.length_append]; omega) _ rfl).mono ?_; rintro e' w1 ⟨o1, rfl, hb, hs⟩; have HB := Lib.hid hb; have HS := Lib.hid (HS.out.tr hs); clear hb hs)
     go_meet
     exact ⟨_, Lib.hid (by have := HB.out; rw [HK.out, HK2.out]; simpa [List.append_assoc] using this), HS⟩
   ·have d2 : (l.kind == 2) = false := beq_eq_false_iff_ne.2 h2
    have HK : Hid (loTk l = loT3 l) := Lib.hid (by unfold loTk; rw [if_neg h1, if_neg h2])
    have HLK : Hid ((loTk l).length = (lineT semi [114, 101, 116, 117, 114, 110] [.num l.status, .txt l.goal]).length) := Lib.hid (by rw [HK.out]; rfl)
    clear h1 h2
    go_upto_region 3 with (fail)
    have za := hcl.out _ _ HS.out 10 _ rfl
    have zb := hcl.out _ _ HS.out 11 _ rfl
    go_wp2_with (go_at_call 39; refine (lineN_c k b _ semi [114, 101, 116, 117, 114, 110] [.num l.status, .txt l.goal] _ _ HB.out hk (ok2 HN.out.status HN.out.goal) (fun w' o' s => HP.out w' o' (HS.out.tr s)) (by have := HLK.out; have := HL.out; simp only [List.length_append]; omega) _ rfl).mono ?_; rintro e' w1 ⟨o1, rfl, hb, hs⟩; have HB := Lib.hid hb; have HS := Lib.hid (HS.out.tr hs); clear hb hs)
    go_meet
    exact ⟨_, Lib.hid (by have := HB.out; rw [HK.out]; exact this), HS⟩
 case rest =>
  obtain ⟨o2, HB, HS⟩ := hcut
  obtain ⟨W2, rfl⟩ : ∃ W, W = wc := ⟨_, rfl⟩
  have z8 := hcl.out _ _ HS.out 8 _ rfl
  have z9 := hcl.out _ _ HS.out 9 _ rfl
  by_cases hr : 0 < l.rate
  ·have d1 : decide (0 < l.rate) = true := decide_eq_true hr
   have HR : Hid (loTr l = lineT semi [108, 105, 109, 105, 116] [.num l.rate, .num l.burst]) := Lib.hid (if_pos hr)
   have HLR : Hid ((loTr l).length = (lineT semi [108, 105, 109, 105, 116] [.num l.rate, .num l.burst]).length) := Lib.hid (by rw [HR.out])
   go_upto_region 17 with (go_at_call 39; refine (lineN_c k b _ semi [108, 105, 109, 105, 116] [.num l.rate, .num l.burst] _ _ HB.out hk (ok2 HN.out.rate HN.out.burst) (fun w' o' s => HP.out w' o' (HS.out.tr s)) (by have := HLR.out; have := HL.out; simp only [List.length_append]; omega) _ rfl).mono ?_; rintro e' w1 ⟨o1, rfl, hb, hs⟩; have HB := Lib.hid hb; have HS := Lib.hid (HS.out.tr hs); clear hb hs)
   have HLS : Hid (shut.length = (lineT [] [125] []).length) := Lib.hid rfl
   go_wp2_with (go_at_call 39; refine (line0_c k b _ [] [125] _ _ HB.out (fun w' o' s => HP.out w' o' (HS.out.tr s)) (by have := HLR.out; have := HLS.out; have := HL.out; simp only [List.length_append]; omega)).mono ?_; rintro e' w1 ⟨o1, rfl, hb, hs⟩; have HB := Lib.hid hb; have HS := Lib.hid (HS.out.tr hs); clear hb hs)
   go_end0
   exact ⟨_, rfl, by have := HB.out; unfold loT shut; rw [HR.out, ← HT1.out]; simpa [List.append_assoc] using this, HS0.out.tr HS.out⟩
  ·have d1 : decide (0 < l.rate) = false := decide_eq_false hr
   have HR : Hid (loTr l = []) := Lib.hid (if_neg hr)
   have HLS : Hid (shut.length = (lineT [] [125] []).length) := Lib.hid rfl
   go_wp2_with (go_at_call 39; refine (line0_c k b _ [] [125] _ _ HB.out (fun w' o' s => HP.out w' o' (HS.out.tr s)) (by have := HLS.out; have := HL.out; simp only [List.length_append]; omega)).mono ?_; rintro e' w1 ⟨o1, rfl, hb, hs⟩; have HB := Lib.hid hb; have HS := Lib.hid (HS.out.tr hs); clear hb hs)
   go_end0
   exact ⟨_, rfl, by have := HB.out; unfold loT shut; rw [HR.out, ← HT1.out]; simpa [List.append_assoc] using this, HS0.out.tr HS.out⟩
end Go.Proofs.YtmnohicojefhfaaGreatDoor
end

section
namespace Go.Proofs.YtmnohicojefhfaaGreatDoor
open Go.RowKit

theorem Stp.freeze {K : Nat → Prop} (w : World) (o : Ow) (g n : Nat) (hk : K (o g)) : Stp K w o (w.freeze ⟨g, 0, none⟩ n) o := by
 unfold World.freeze
 split
 ·exact Stp.rfl'
 ·exact ⟨rfl, rfl, rfl, by simp, fun _ _ => rfl, fun b hb hn => by
   simp only [Array.getElem?_modify]
   rw [if_neg (fun e => hn (by rw [← e]; exact hk))]⟩
set_option maxRecDepth 100000 in
theorem bwLen_c (k b : Nat) (l : List UInt8) (w : World) (o : Ow) (h : BwAt w o k b l) :
  Calls Tryz.prog 41 #[.pointer (some ⟨b, 0, none⟩)] w fun e w' => e = .returned (.int .i64 (l.length : Int)) ∧ w' = w := by
 obtain ⟨p, A, c, hp, hr, hs, hn, hsh⟩ := h.at_
 have c1 : w.cell? ⟨b, 1, none⟩ = some (.slice A l.length c) := (row_facts hr 1 _ rfl).1
 clear hr hs hn hsh h hp
 generalize l.length = n at *
 go_enter Tryz.func41, Tryz.ntmps41
 go_wp2
 go_ret
 exact ⟨rfl, rfl⟩
set_option maxHeartbeats 1000000 in
set_option maxRecDepth 100000 in
theorem bwStr_c (k b : Nat) (l : List UInt8) (w : World) (o : Ow) (h : BwAt w o k b l) (h0 : l ≠ []) :
  Calls Tryz.prog 42 #[.pointer (some ⟨b, 0, none⟩)] w fun e w' => e = .returned (.string (str l)) ∧ Stp (KW k) w o w' o := by
 obtain ⟨p, A, c, hp, hr, hs, hn, hsh⟩ := h.at_
 have hl0 : 0 < l.length := List.length_pos_iff.2 h0
 have hmx := hs.max
 have hle := hs.le
 obtain ⟨g, f, rfl, hog, hg, hcell, _⟩ := hs.cells hl0
 obtain ⟨hf, _, sz, hshp⟩ := hsh (by omega) _ rfl
 dsimp only at hf hshp
 subst hf
 have c1 : w.drew.cell? ⟨b, 1, none⟩ = some (.slice (some ⟨g, 0, none⟩) l.length c) := (row_facts hr 1 _ rfl).1
 have hsz : l.length ≤ sz := by
  have h1 := hcell (l.length - 1) (.int .u8 (l[l.length - 1].toNat)) (by simp [bc, List.getElem?_eq_getElem (show l.length - 1 < l.length by omega)])
  rw [Nat.zero_add] at h1
  unfold World.shape? at hshp
  cases hw : w.heap[g]? with
  | none => rw [hw] at hshp; cases hshp
  | some x =>
   rw [hw] at hshp
   cases x with
   | cells cs e fz =>
    simp only [Option.some.injEq, Prod.mk.injEq] at hshp
    have h2 := h1
    rw [cell_of_row w g _ cs e fz hw] at h2
    have := (Array.getElem?_eq_some_iff.1 h2).1
    omega
   | _ => simp at hshp
 have hSD : (Builtin.unsafeSliceData_ #[102] 156 #[.slice (some ⟨g, 0, none⟩) l.length c]).run Tryz.prog w.drew = .ok (.pointer (some ⟨g, 0, none⟩)) w.drew :=
  Lib.run_unsafeSliceData_row _ _ _ _ _ _ (by omega)
 have hUS : (Builtin.unsafeString_ #[156, 3] 9 #[.pointer (some ⟨g, 0, none⟩), .int .i64 l.length]).run Tryz.prog w.drew = .ok (.string (str l)) (w.drew.freeze ⟨g, 0, none⟩ l.length) := by
  refine Lib.run_unsafeString_row w.drew 156 3 9 5 Tryz.underlying156 (by kernel_rfl) g sz hshp l h0 hsz (by unfold maxLen at hmx; omega) ?_
  intro j x hx
  have h2 := hcell j (.int .u8 x.toNat) (by simp [bc, hx])
  rw [add_mk]
  exact h2
 have HT : Hid (Stp (KW k) w o (w.drew.freeze ⟨g, 0, none⟩ l.length) o) := Lib.hid ((Stp.ext (Ext.dr (Ext.rfl' w))).tr (Stp.freeze _ o g _ (.inr hog)))
 obtain ⟨sl, hsl⟩ : ∃ s, s = str l := ⟨_, rfl⟩
 rw [← hsl] at hUS ⊢
 obtain ⟨n, hn'⟩ : ∃ n, n = l.length := ⟨_, rfl⟩
 rw [← hn'] at hSD hUS c1 HT
 clear hsl hn' hr hs hsh hshp hcell hsz h hp hn
 go_enter Tryz.func42, Tryz.ntmps42
 go_wp2
 go_region
 all_goals (go_wp2; go_ret; exact ⟨rfl, HT.out⟩)
end Go.Proofs.YtmnohicojefhfaaGreatDoor
end
