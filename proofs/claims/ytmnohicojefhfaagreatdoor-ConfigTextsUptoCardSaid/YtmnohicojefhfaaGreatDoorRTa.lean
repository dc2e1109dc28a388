/-
The reference's text: a number, a word.
-/
import Derived.Test.YtmnohicojefhfaaGreatDoorTXa
import Derived.Test.YtmnohicojefhfaaGreatDoorCh7
import Derived.Test.YtmnohicojefhfaaGreatDoorREc
import Derived.Test.YtmnohicojefhfaaGreatDoorTXb
set_option linter.unusedVariables false
set_option linter.unusedSimpArgs false
section
namespace Go.Proofs.YtmnohicojefhfaaGreatDoor
open Go.RowKit

theorem str_cat (a b : List UInt8) : str a ++ str b = str (a ++ b) := by
 apply ByteArray.ext
 apply Array.ext'
 simp [str]
theorem cat_str (a b : List UInt8) (h : a.length + b.length ≤ 9223372036854775807) : ∀ w, (Op.stringOp .add (str a) (str b)).run Tryz.prog w = .ok (.string (str (a ++ b))) w := fun w => by
 rw [cat_ok (str a) (str b) (by rw [str_size, str_size]; exact h) w, str_cat]
set_option maxRecDepth 100000 in
set_option maxHeartbeats 1000000 in
theorem rnum_c (n : Int) (h0 : -9223372036854775808 ≤ n) (h1 : n ≤ 9223372036854775807) (w : World) : Calls Tryz.prog 43 #[.int .i64 n] w (Gives (.string (str (argT (.num n)))) w) := by
 have CD := Lib.hid (fun w => rDigits_c n w h0 h1)
 rw [← decT_str] at CD
 have hl := decT_len n h0 h1
 obtain ⟨d, hd⟩ : ∃ s, s = str (decT n) := ⟨_, rfl⟩
 obtain ⟨s0, hs0⟩ : ∃ s : ByteArray, s = ⟨#[32]⟩ := ⟨_, rfl⟩
 obtain ⟨s1, hs1⟩ : ∃ s, s = str (argT (.num n)) := ⟨_, rfl⟩
 have c1 : ∀ w, (Op.stringOp .add ⟨#[32]⟩ d).run Tryz.prog w = .ok (.string s1) w := fun w => by
  rw [hd, hs1]
  exact cat_str [32] (decT n) (by simp only [List.length_cons, List.length_nil]; omega) w
 rw [← hd] at CD
 rw [← hs1]
 clear hd hs0 hs1 hl
 go_enter Tryz.func43, Tryz.ntmps43
 go_wp2_with (go_at_call 87; refine (CD.out _).mono ?_; rintro e' w1 ⟨rfl, hx1⟩)
 go_ret
 exact ⟨rfl, hx1⟩
set_option maxRecDepth 100000 in
set_option maxHeartbeats 1000000 in
theorem rquoted_c (l : List UInt8) (hs : l.length ≤ 140737488355328) (w : World) : Calls Tryz.prog 44 #[.string (str l)] w (Gives (.string (str (argT (.txt l)))) w) := by
 have kc := conv_one (P := Tryz.prog) 102 9 5 Tryz.underlying102 Tryz.underlying5 Tryz.underlying9 34 (by omega) (by omega) w
 obtain ⟨q, hq⟩ : ∃ q, q = str [34] := ⟨_, rfl⟩
 obtain ⟨s, hsl⟩ : ∃ s, s = str l := ⟨_, rfl⟩
 obtain ⟨s1, hs1⟩ : ∃ s, s = str [32, 34] := ⟨_, rfl⟩
 obtain ⟨s2, hs2⟩ : ∃ s, s = str ([32, 34] ++ l) := ⟨_, rfl⟩
 obtain ⟨s3, hs3⟩ : ∃ s, s = str (argT (.txt l)) := ⟨_, rfl⟩
 have c1 : ∀ w, (Op.stringOp .add ⟨#[32]⟩ q).run Tryz.prog w = .ok (.string s1) w := fun w => by rw [hs1, hq]; exact cat_str [32] [34] (by decide) w
 have c2 : ∀ w, (Op.stringOp .add s1 s).run Tryz.prog w = .ok (.string s2) w := fun w => by rw [hs1, hs2, hsl]; exact cat_str [32, 34] l (by simp only [List.length_cons, List.length_nil]; omega) w
 have c3 : ∀ w, (Op.stringOp .add s2 q).run Tryz.prog w = .ok (.string s3) w := fun w => by
  rw [hs2, hs3, hq]
  exact cat_str ([32, 34] ++ l) [34] (by simp only [List.length_append, List.length_cons, List.length_nil]; omega) w
 rw [← hsl, ← hs3]
 have HQ := Lib.hid hq
 clear hsl hs1 hs2 hs3 hq
 go_enter Tryz.func44, Tryz.ntmps44
 go_upto_region 2 with (fail)
 rw [← HQ.out]
 clear kc
 go_wp2
 go_ret
 exact ⟨rfl, by (repeat first | exact Ex0 | assumption | refine Ex1 ?_ | refine Ex2 ?_ | refine Ex3 ?_ | refine Ex4 ?_ | refine Ex5 ?_)⟩
end Go.Proofs.YtmnohicojefhfaaGreatDoor
end

section
namespace Go.Proofs.YtmnohicojefhfaaGreatDoor
open Go.RowKit

theorem catL1 (A nm a e : List UInt8) (h : A.length + nm.length + a.length + e.length ≤ 281474976710656) : ∃ s1 s2 s3, s3 = str (A ++ (nm ++ a ++ e)) ∧ (∀ w, (Op.stringOp .add (str A) ⟨nm.toArray⟩).run Tryz.prog w = .ok (.string s1) w) ∧ (∀ w, (Op.stringOp .add s1 (str a)).run Tryz.prog w = .ok (.string s2) w) ∧ (∀ w, (Op.stringOp .add s2 ⟨e.toArray⟩).run Tryz.prog w = .ok (.string s3) w) := by
 refine ⟨str (A ++ nm), str (A ++ nm ++ a), str (A ++ nm ++ a ++ e), by simp, fun w => ?_, fun w => ?_, fun w => ?_⟩
 ·exact catS A nm (by omega) w
 ·exact catS (A ++ nm) a (by simp only [List.length_append]; omega) w
 ·exact catS (A ++ nm ++ a) e (by simp only [List.length_append]; omega) w
theorem catL0 (A nm e : List UInt8) (h : A.length + nm.length + e.length ≤ 281474976710656) : ∃ s1 s2, s2 = str (A ++ (nm ++ e)) ∧ (∀ w, (Op.stringOp .add (str A) ⟨nm.toArray⟩).run Tryz.prog w = .ok (.string s1) w) ∧ (∀ w, (Op.stringOp .add s1 ⟨e.toArray⟩).run Tryz.prog w = .ok (.string s2) w) := by
 refine ⟨str (A ++ nm), str (A ++ nm ++ e), by simp, fun w => ?_, fun w => ?_⟩
 ·exact catS A nm (by omega) w
 ·exact catS (A ++ nm) e (by simp only [List.length_append]; omega) w
theorem catL2 (A nm a b e : List UInt8) (h : A.length + nm.length + a.length + b.length + e.length ≤ 281474976710656) : ∃ s1 s2 s3 s4, s4 = str (A ++ (nm ++ (a ++ b) ++ e)) ∧ (∀ w, (Op.stringOp .add (str A) ⟨nm.toArray⟩).run Tryz.prog w = .ok (.string s1) w) ∧ (∀ w, (Op.stringOp .add s1 (str a)).run Tryz.prog w = .ok (.string s2) w) ∧ (∀ w, (Op.stringOp .add s2 (str b)).run Tryz.prog w = .ok (.string s3) w) ∧ (∀ w, (Op.stringOp .add s3 ⟨e.toArray⟩).run Tryz.prog w = .ok (.string s4) w) := by
 refine ⟨str (A ++ nm), str (A ++ nm ++ a), str (A ++ nm ++ a ++ b), str (A ++ nm ++ a ++ b ++ e), by simp, fun w => ?_, fun w => ?_, fun w => ?_, fun w => ?_⟩
 ·exact catS A nm (by omega) w
 ·exact catS (A ++ nm) a (by simp only [List.length_append]; omega) w
 ·exact catS (A ++ nm ++ a) b (by simp only [List.length_append]; omega) w
 ·exact catS (A ++ nm ++ a ++ b) e (by simp only [List.length_append]; omega) w
structure LoW (l : Lo14) : Prop where
 pre : l.pre.length ≤ 1048576
 root : l.root.length ≤ 1048576
 index : l.index.length ≤ 1048576
 up : l.up.length ≤ 1048576
 goal : l.goal.length ≤ 1048576
theorem argT_len {x : Ar} (h : match x with | .num n => -9223372036854775808 ≤ n ∧ n ≤ 9223372036854775807 | .txt s => s.length ≤ 1048576) : (argT x).length ≤ 1048579 := by
 cases x with
 | num n =>
  have := decT_len n h.1 h.2
  show (32 :: decT n).length ≤ _
  rw [List.length_cons]; omega
 | txt s =>
  show ([32, 34] ++ s ++ [34]).length ≤ _
  have h : s.length ≤ 1048576 := h
  simp only [List.length_append, List.length_cons, List.length_nil]; omega
theorem lineT_1 (en nm : List UInt8) (x : Ar) : lineT en nm [x] = nm ++ argT x ++ (en ++ [10]) := by simp [lineT, argsT]
theorem lineT_2 (en nm : List UInt8) (x y : Ar) : lineT en nm [x, y] = nm ++ (argT x ++ argT y) ++ (en ++ [10]) := by simp [lineT, argsT]
theorem lineT_0 (en nm : List UInt8) : lineT en nm [] = nm ++ (en ++ [10]) := by simp [lineT, argsT]
theorem loTk_len (y : Lo14) (h2 : (argT (.txt y.root)).length ≤ 1048579) (h3 : (argT (.txt y.index)).length ≤ 1048579) (h4 : (argT (.txt y.up)).length ≤ 1048579) (h5 : (argT (.txt y.goal)).length ≤ 1048579) (h6 : (argT (.num y.gzip)).length ≤ 1048579) (h7 : (argT (.num y.expires)).length ≤ 1048579) (ha : (argT (.num y.status)).length ≤ 1048579) : (loTk y).length ≤ 10000000 := by
 unfold loTk loT1 loT2 loT3
 split
 ·split <;> simp only [lineT_1, semi, List.length_append, List.length_cons, List.length_nil] <;> omega
 ·split
  ·split <;> simp only [lineT_1, lineT_0, semi, List.length_append, List.length_cons, List.length_nil] <;> omega
  ·simp only [lineT_2, semi, List.length_append, List.length_cons, List.length_nil]; omega
set_option maxRecDepth 100000 in
set_option maxHeartbeats 8000000 in
theorem rltext_c (y : Lo14) (hN : LoN y) (hW : LoW y) (hr : 0 ≤ y.rate) (w : World) : Calls Tryz.prog 45 #[.agg (LoV y)] w (Gives (.string (str (loT y))) w) := by
 have CP := Lib.hid (fun w => rquoted_c y.pre hN.pre w)
 have CR := Lib.hid (fun w => rquoted_c y.root hN.root w)
 have CI := Lib.hid (fun w => rquoted_c y.index hN.index w)
 have CU := Lib.hid (fun w => rquoted_c y.up hN.up w)
 have CG := Lib.hid (fun w => rquoted_c y.goal hN.goal w)
 have NG := Lib.hid (fun w => rnum_c y.gzip hN.gzip.1 hN.gzip.2 w)
 have NE := Lib.hid (fun w => rnum_c y.expires hN.expires.1 hN.expires.2 w)
 have NR := Lib.hid (fun w => rnum_c y.rate hN.rate.1 hN.rate.2 w)
 have NB := Lib.hid (fun w => rnum_c y.burst hN.burst.1 hN.burst.2 w)
 have NS := Lib.hid (fun w => rnum_c y.status hN.status.1 hN.status.2 w)
 have l1 := argT_len (x := .txt y.pre) hW.pre
 have l2 := argT_len (x := .txt y.root) hW.root
 have l3 := argT_len (x := .txt y.index) hW.index
 have l4 := argT_len (x := .txt y.up) hW.up
 have l5 := argT_len (x := .txt y.goal) hW.goal
 have l6 := argT_len (x := .num y.gzip) hN.gzip
 have l7 := argT_len (x := .num y.expires) hN.expires
 have l8 := argT_len (x := .num y.rate) hN.rate
 have l9 := argT_len (x := .num y.burst) hN.burst
 have la := argT_len (x := .num y.status) hN.status
 clear hN hW
 obtain ⟨q1, e1⟩ : ∃ s, s = str (argT (.txt y.pre)) := ⟨_, rfl⟩
 obtain ⟨q2, e2⟩ : ∃ s, s = str (argT (.txt y.root)) := ⟨_, rfl⟩
 obtain ⟨q3, e3⟩ : ∃ s, s = str (argT (.txt y.index)) := ⟨_, rfl⟩
 obtain ⟨q4, e4⟩ : ∃ s, s = str (argT (.txt y.up)) := ⟨_, rfl⟩
 obtain ⟨q5, e5⟩ : ∃ s, s = str (argT (.txt y.goal)) := ⟨_, rfl⟩
 obtain ⟨q6, e6⟩ : ∃ s, s = str (argT (.num y.gzip)) := ⟨_, rfl⟩
 obtain ⟨q7, e7⟩ : ∃ s, s = str (argT (.num y.expires)) := ⟨_, rfl⟩
 obtain ⟨q8, e8⟩ : ∃ s, s = str (argT (.num y.rate)) := ⟨_, rfl⟩
 obtain ⟨q9, e9⟩ : ∃ s, s = str (argT (.num y.burst)) := ⟨_, rfl⟩
 obtain ⟨qa, ea⟩ : ∃ s, s = str (argT (.num y.status)) := ⟨_, rfl⟩
 rw [← e1] at CP
 rw [← e2] at CR
 rw [← e3] at CI
 rw [← e4] at CU
 rw [← e5] at CG
 rw [← e6] at NG
 rw [← e7] at NE
 rw [← e8] at NR
 rw [← e9] at NB
 rw [← ea] at NS
 have E1 := Lib.hid e1
 have E2 := Lib.hid e2
 have E3 := Lib.hid e3
 have E4 := Lib.hid e4
 have E5 := Lib.hid e5
 have E6 := Lib.hid e6
 have E7 := Lib.hid e7
 have E8 := Lib.hid e8
 have E9 := Lib.hid e9
 have EA := Lib.hid ea
 obtain ⟨T, hT⟩ : ∃ T, T = lineT beg [108, 111, 99, 97, 116, 105, 111, 110] [.txt y.pre] := ⟨_, rfl⟩
 have hTl : T.length ≤ 1048600 := by
  rw [hT, lineT_1]
  simp only [beg, List.length_append, List.length_cons, List.length_nil]; omega
 obtain ⟨t1, ht1⟩ : ∃ s, s = str ([108, 111, 99, 97, 116, 105, 111, 110] ++ argT (.txt y.pre)) := ⟨_, rfl⟩
 obtain ⟨t2, ht2⟩ : ∃ s, s = str T := ⟨_, rfl⟩
 have c1 : ∀ w, (Op.stringOp .add ⟨#[108, 111, 99, 97, 116, 105, 111, 110]⟩ q1).run Tryz.prog w = .ok (.string t1) w := fun w => by
  rw [e1, ht1]
  exact catS [108, 111, 99, 97, 116, 105, 111, 110] (argT (.txt y.pre)) (by simp only [List.length_cons, List.length_nil]; omega) w
 have c2 : ∀ w, (Op.stringOp .add t1 ⟨#[32, 123, 10]⟩).run Tryz.prog w = .ok (.string t2) w := fun w => by
  rw [ht1, ht2, hT, lineT_1]
  exact catS ([108, 111, 99, 97, 116, 105, 111, 110] ++ argT (.txt y.pre)) [32, 123, 10] (by simp only [List.length_append, List.length_cons, List.length_nil]; omega) w
 obtain ⟨sp, hsp⟩ : ∃ s, s = str y.pre := ⟨_, rfl⟩
 obtain ⟨sr, hsr⟩ : ∃ s, s = str y.root := ⟨_, rfl⟩
 obtain ⟨si, hsi⟩ : ∃ s, s = str y.index := ⟨_, rfl⟩
 obtain ⟨su, hsu⟩ : ∃ s, s = str y.up := ⟨_, rfl⟩
 obtain ⟨sg, hsg⟩ : ∃ s, s = str y.goal := ⟨_, rfl⟩
 rw [← hsp] at CP
 rw [← hsr] at CR
 rw [← hsi] at CI
 rw [← hsu] at CU
 rw [← hsg] at CG
 unfold LoV
 rw [← hsp, ← hsr, ← hsi, ← hsu, ← hsg]
 have HSI := Lib.hid hsi
 have HT := Lib.hid hT
 have HT2 := Lib.hid ht2
 clear hsp hsr hsi hsu hsg e1 e2 e3 e4 e5 e6 e7 e8 e9 ea hT ht1 ht2
 have HLT : Hid (loT y = T ++ loTk y ++ loTr y ++ shut) := Lib.hid (by rw [HT.out]; rfl)
 obtain ⟨R, hR⟩ : ∃ s, s = str (loT y) := ⟨_, rfl⟩
 rw [← hR]
 have HR := Lib.hid hR
 clear hR
 obtain ⟨W0, hW0⟩ : ∃ W, W = w.alloc (.cells #[.string sp, .int .i64 y.kind, .string sr, .string si, .int .i64 y.gzip, .int .i64 y.expires, .string su, .bool y.cache, .int .i64 y.rate, .int .i64 y.burst, .int .i64 y.status, .string sg] 90) := ⟨_, rfl⟩
 have hx0 : Ext w W0 := by rw [hW0]; exact (Ext.rfl' w).al _
 obtain ⟨g, hg⟩ : ∃ g, g = w.heap.size := ⟨_, rfl⟩
 have hcl : Hid (∀ wx, Ext W0 wx → ∀ j u, (#[.string sp, .int .i64 y.kind, .string sr, .string si, .int .i64 y.gzip, .int .i64 y.expires, .string su, .bool y.cache, .int .i64 y.rate, .int .i64 y.burst, .int .i64 y.status, .string sg] : Array Value)[j]? = some u → wx.cell? ⟨g, j, none⟩ = some u) := Lib.hid (fun wx hx => by rw [hW0] at hx; rw [hg]; exact fun j u h => hx.new j u h)
 have z0 := hcl.out W0 (Ext.rfl' _) 0 _ rfl
 go_enter Tryz.func45, Tryz.ntmps45
 go_upto_region 1 with (fail)
 rw [← hW0, ← hg]
 clear hW0 hg
 go_upto_region 3 with (go_at_call 44; refine (CP.out _).mono ?_; rintro e' w1 ⟨rfl, hx1⟩)
 clear c1 c2 z0
 have z1 := hcl.out _ hx1 1 _ rfl
 go_upto_block 0 with (fail)
 clear z1
 go_cut [4] (fun v4 wx => v4 = .string (str (T ++ loTk y)) ∧ Ext W0 wx)
 case first =>
  by_cases hk : y.kind = 1
  ·have d0 : (y.kind == 1) = true := beq_iff_eq.2 hk
   have HK : Hid (loTk y = lineT semi [114, 111, 111, 116] [.txt y.root] ++ (if y.index = [] then [] else lineT semi [105, 110, 100, 101, 120] [.txt y.index]) ++ lineT semi [103, 122, 105, 112] [.num y.gzip] ++ lineT semi [101, 120, 112, 105, 114, 101, 115] [.num y.expires]) := Lib.hid (by unfold loTk; rw [if_pos hk]; rfl)
   clear hk
   obtain ⟨a1, a2, a3, ha3, r1, r2, r3⟩ := catL1 T [114, 111, 111, 116] (argT (.txt y.root)) [59, 10] (by simp only [List.length_cons, List.length_nil]; omega)
   rw [← HT2.out] at r1
   rw [← E2.out] at r2
   have HA3 := Lib.hid ha3
   clear ha3
   have z2 := hcl.out _ hx1 2 _ rfl
   go_upto_region 7 with (go_at_call 44; refine (CR.out _).mono ?_; rintro e' w2 ⟨rfl, hx2⟩)
   clear z2 r1 r2 r3 d0
   have hx12 := hx1.tr hx2
   have z3 := hcl.out _ hx12 3 _ rfl
   by_cases hi : y.index = []
   ·have g1 : si.toList = [] := by rw [HSI.out, str_tl]; exact hi
    have HI := Lib.hid hi
    clear hi
    go_upto_region 9 with (fail)
    have HLA : (T ++ ([114, 111, 111, 116] ++ argT (.txt y.root) ++ [59, 10])).length ≤ 10000000 := by simp only [List.length_append, List.length_cons, List.length_nil]; omega
    obtain ⟨x1, x2, x3, hx3, d1, d2, d3⟩ := catL1 (T ++ ([114, 111, 111, 116] ++ argT (.txt y.root) ++ [59, 10])) [103, 122, 105, 112] (argT (.num y.gzip)) [59, 10] (by simp only [List.length_cons, List.length_nil]; omega)
    obtain ⟨x4, x5, x6, hx6, d4, d5, d6⟩ := catL1 ((T ++ ([114, 111, 111, 116] ++ argT (.txt y.root) ++ [59, 10])) ++ ([103, 122, 105, 112] ++ argT (.num y.gzip) ++ [59, 10])) [101, 120, 112, 105, 114, 101, 115] (argT (.num y.expires)) [59, 10] (by rw [List.length_append]; simp only [List.length_append, List.length_cons, List.length_nil] at *; omega)
    rw [← (HA3).out] at d1
    rw [← E6.out] at d2
    rw [← hx3] at d4
    rw [← E7.out] at d5
    have HX6 := Lib.hid hx6
    clear hx3 hx6 HLA
    have u4 := hcl.out _ hx12 4 _ rfl
    have u5 := hcl.out _ hx12 5 _ rfl
    have hks : Hid (∀ w', Ext W0 w' → w'.cell? ⟨g, 4, none⟩ = some (.int .i64 y.gzip) ∧ w'.cell? ⟨g, 5, none⟩ = some (.int .i64 y.expires)) := Lib.hid (fun w' e => ⟨hcl.out _ e 4 _ rfl, hcl.out _ e 5 _ rfl⟩)
    go_region_held3 (fun w' => w'.cell? ⟨g, 4, none⟩ = some (.int .i64 y.gzip) ∧ w'.cell? ⟨g, 5, none⟩ = some (.int .i64 y.expires)) (exact hks.out _ ((hx12).tr (by (repeat first | exact Ex0 | assumption | refine Ex1 ?_ | refine Ex2 ?_ | refine Ex3 ?_ | refine Ex4 ?_ | refine Ex5 ?_)))) (first
     | (go_at_call 43; refine (NG.out _).mono ?_; rintro e' wa ⟨rfl, hxa⟩; clear NG)
     | (go_at_call 43; refine (NE.out _).mono ?_; rintro e' wb ⟨rfl, hxb⟩))
    go_wp2_with fail
    go_meet
    exact ⟨by rw [HX6.out, HK.out, if_pos HI.out]; simp [lineT_1, semi], hx12.tr (by (repeat first | exact Ex0 | assumption | refine Ex1 ?_ | refine Ex2 ?_ | refine Ex3 ?_ | refine Ex4 ?_ | refine Ex5 ?_))⟩
   ·have g1 : ¬ si.toList = [] := by rw [HSI.out, str_tl]; exact hi
    have g2 : (si.toList == []) = false := beq_eq_false_iff_ne.2 g1
    have HI := Lib.hid hi
    clear hi
    obtain ⟨b1, b2, b3, hb3, r1, r2, r3⟩ := catL1 (T ++ ([114, 111, 111, 116] ++ argT (.txt y.root) ++ [59, 10])) [105, 110, 100, 101, 120] (argT (.txt y.index)) [59, 10] (by simp only [List.length_append, List.length_cons, List.length_nil]; omega)
    rw [← HA3.out] at r1
    rw [← E3.out] at r2
    have HB3 := Lib.hid hb3
    clear hb3
    go_upto_region 9 with (go_at_call 44; refine (CI.out _).mono ?_; rintro e' w3 ⟨rfl, hx3⟩)
    clear r1 r2 r3 z3
    have hx13 := hx12.tr hx3
    have HLA : (T ++ ([114, 111, 111, 116] ++ argT (.txt y.root) ++ [59, 10]) ++ ([105, 110, 100, 101, 120] ++ argT (.txt y.index) ++ [59, 10])).length ≤ 10000000 := by simp only [List.length_append, List.length_cons, List.length_nil]; omega
    obtain ⟨x1, x2, x3, hx3, d1, d2, d3⟩ := catL1 (T ++ ([114, 111, 111, 116] ++ argT (.txt y.root) ++ [59, 10]) ++ ([105, 110, 100, 101, 120] ++ argT (.txt y.index) ++ [59, 10])) [103, 122, 105, 112] (argT (.num y.gzip)) [59, 10] (by simp only [List.length_cons, List.length_nil]; omega)
    obtain ⟨x4, x5, x6, hx6, d4, d5, d6⟩ := catL1 ((T ++ ([114, 111, 111, 116] ++ argT (.txt y.root) ++ [59, 10]) ++ ([105, 110, 100, 101, 120] ++ argT (.txt y.index) ++ [59, 10])) ++ ([103, 122, 105, 112] ++ argT (.num y.gzip) ++ [59, 10])) [101, 120, 112, 105, 114, 101, 115] (argT (.num y.expires)) [59, 10] (by rw [List.length_append]; simp only [List.length_append, List.length_cons, List.length_nil] at *; omega)
    rw [← (HB3).out] at d1
    rw [← E6.out] at d2
    rw [← hx3] at d4
    rw [← E7.out] at d5
    have HX6 := Lib.hid hx6
    clear hx3 hx6 HLA
    have u4 := hcl.out _ hx13 4 _ rfl
    have u5 := hcl.out _ hx13 5 _ rfl
    have hks : Hid (∀ w', Ext W0 w' → w'.cell? ⟨g, 4, none⟩ = some (.int .i64 y.gzip) ∧ w'.cell? ⟨g, 5, none⟩ = some (.int .i64 y.expires)) := Lib.hid (fun w' e => ⟨hcl.out _ e 4 _ rfl, hcl.out _ e 5 _ rfl⟩)
    go_region_held3 (fun w' => w'.cell? ⟨g, 4, none⟩ = some (.int .i64 y.gzip) ∧ w'.cell? ⟨g, 5, none⟩ = some (.int .i64 y.expires)) (exact hks.out _ ((hx13).tr (by (repeat first | exact Ex0 | assumption | refine Ex1 ?_ | refine Ex2 ?_ | refine Ex3 ?_ | refine Ex4 ?_ | refine Ex5 ?_)))) (first
     | (go_at_call 43; refine (NG.out _).mono ?_; rintro e' wa ⟨rfl, hxa⟩; clear NG)
     | (go_at_call 43; refine (NE.out _).mono ?_; rintro e' wb ⟨rfl, hxb⟩))
    go_wp2_with fail
    go_meet
    exact ⟨by rw [HX6.out, HK.out, if_neg HI.out]; simp [lineT_1, semi], hx13.tr (by (repeat first | exact Ex0 | assumption | refine Ex1 ?_ | refine Ex2 ?_ | refine Ex3 ?_ | refine Ex4 ?_ | refine Ex5 ?_))⟩
  ·have d0 : (y.kind == 1) = false := beq_eq_false_iff_ne.2 hk
   by_cases hk2 : y.kind = 2
   ·have d2 : (y.kind == 2) = true := beq_iff_eq.2 hk2
    have HK : Hid (loTk y = lineT semi [112, 114, 111, 120, 121] [.txt y.up] ++ (if y.cache then lineT semi [99, 97, 99, 104, 101] [] else []) ++ lineT semi [103, 122, 105, 112] [.num y.gzip]) := Lib.hid (by unfold loTk; rw [if_neg hk, if_pos hk2]; rfl)
    clear hk hk2
    obtain ⟨a1, a2, a3, ha3, r1, r2, r3⟩ := catL1 T [112, 114, 111, 120, 121] (argT (.txt y.up)) [59, 10] (by simp only [List.length_cons, List.length_nil]; omega)
    rw [← HT2.out] at r1
    rw [← E4.out] at r2
    have HA3 := Lib.hid ha3
    clear ha3
    have z6 := hcl.out _ hx1 6 _ rfl
    go_upto_region 12 with (go_at_call 44; refine (CU.out _).mono ?_; rintro e' w2 ⟨rfl, hx2⟩)
    clear z6 r1 r2 r3 d0 d2
    have hx12 := hx1.tr hx2
    have z7 := hcl.out _ hx12 7 _ rfl
    have z4 := hcl.out _ hx12 4 _ rfl
    obtain ⟨cb, hcb⟩ : ∃ b, b = y.cache := ⟨_, rfl⟩
    rw [← hcb] at z7 HK
    cases cb with
    | false =>
     have HK : Hid (loTk y = lineT semi [112, 114, 111, 120, 121] [.txt y.up] ++ lineT semi [103, 122, 105, 112] [.num y.gzip]) := Lib.hid (by rw [HK.out]; simp)
     clear hcb
     obtain ⟨x1, x2, x3, hx3, d1, d2, d3⟩ := catL1 (T ++ ([112, 114, 111, 120, 121] ++ argT (.txt y.up) ++ [59, 10])) [103, 122, 105, 112] (argT (.num y.gzip)) [59, 10] (by simp only [List.length_append, List.length_cons, List.length_nil]; omega)
     rw [← HA3.out] at d1
     rw [← E6.out] at d2
     have HX3 := Lib.hid hx3
     clear hx3
     go_wp2_with (go_at_call 43; refine (NG.out _).mono ?_; rintro e' wa ⟨rfl, hxa⟩)
     go_meet
     exact ⟨by rw [HX3.out, HK.out]; simp [lineT_1, semi], hx12.tr (by (repeat first | exact Ex0 | assumption | refine Ex1 ?_ | refine Ex2 ?_ | refine Ex3 ?_ | refine Ex4 ?_ | refine Ex5 ?_))⟩
    | true =>
     have HK : Hid (loTk y = lineT semi [112, 114, 111, 120, 121] [.txt y.up] ++ lineT semi [99, 97, 99, 104, 101] [] ++ lineT semi [103, 122, 105, 112] [.num y.gzip]) := Lib.hid (by rw [HK.out]; simp)
     clear hcb
     obtain ⟨b1, b2, hb2, r1, r2⟩ := catL0 (T ++ ([112, 114, 111, 120, 121] ++ argT (.txt y.up) ++ [59, 10])) [99, 97, 99, 104, 101] [59, 10] (by simp only [List.length_append, List.length_cons, List.length_nil]; omega)
     obtain ⟨x1, x2, x3, hx3, d1, d2, d3⟩ := catL1 (T ++ ([112, 114, 111, 120, 121] ++ argT (.txt y.up) ++ [59, 10]) ++ ([99, 97, 99, 104, 101] ++ [59, 10])) [103, 122, 105, 112] (argT (.num y.gzip)) [59, 10] (by simp only [List.length_append, List.length_cons, List.length_nil]; omega)
     rw [← HA3.out] at r1
     rw [← hb2] at d1
     rw [← E6.out] at d2
     have HX3 := Lib.hid hx3
     clear hx3 hb2
     go_wp2_with (go_at_call 43; refine (NG.out _).mono ?_; rintro e' wa ⟨rfl, hxa⟩)
     go_meet
     exact ⟨by rw [HX3.out, HK.out]; simp [lineT_1, lineT_0, semi], hx12.tr (by (repeat first | exact Ex0 | assumption | refine Ex1 ?_ | refine Ex2 ?_ | refine Ex3 ?_ | refine Ex4 ?_ | refine Ex5 ?_))⟩
   ·have d2 : (y.kind == 2) = false := beq_eq_false_iff_ne.2 hk2
    have HK : Hid (loTk y = lineT semi [114, 101, 116, 117, 114, 110] [.num y.status, .txt y.goal]) := Lib.hid (by unfold loTk; rw [if_neg hk, if_neg hk2]; rfl)
    clear hk hk2
    obtain ⟨a1, a2, a3, a4, ha4, r1, r2, r3, r4⟩ := catL2 T [114, 101, 116, 117, 114, 110] (argT (.num y.status)) (argT (.txt y.goal)) [59, 10] (by simp only [List.length_cons, List.length_nil]; omega)
    rw [← HT2.out] at r1
    rw [← EA.out] at r2
    rw [← E5.out] at r3
    have HA4 := Lib.hid ha4
    clear ha4
    go_upto_region 4 with (fail)
    have hks : Hid (∀ w', Ext W0 w' → w'.cell? ⟨g, 10, none⟩ = some (.int .i64 y.status) ∧ w'.cell? ⟨g, 11, none⟩ = some (.string sg)) := Lib.hid (fun w' e => ⟨hcl.out _ e 10 _ rfl, hcl.out _ e 11 _ rfl⟩)
    clear d0 d2
    go_region_held3 (fun w' => w'.cell? ⟨g, 10, none⟩ = some (.int .i64 y.status) ∧ w'.cell? ⟨g, 11, none⟩ = some (.string sg)) (exact hks.out _ (hx1.tr (by (repeat first | exact Ex0 | assumption | refine Ex1 ?_ | refine Ex2 ?_ | refine Ex3 ?_ | refine Ex4 ?_ | refine Ex5 ?_)))) (first
     | (go_at_call 43; refine (NS.out _).mono ?_; rintro e' wa ⟨rfl, hxa⟩)
     | (go_at_call 44; refine (CG.out _).mono ?_; rintro e' wb ⟨rfl, hxb⟩))
    go_wp2_with fail
    go_meet
    exact ⟨by rw [HA4.out, HK.out]; simp [lineT_2, semi], hx1.tr (by (repeat first | exact Ex0 | assumption | refine Ex1 ?_ | refine Ex2 ?_ | refine Ex3 ?_ | refine Ex4 ?_ | refine Ex5 ?_))⟩
 case rest =>
  obtain ⟨rfl, hx2⟩ := hcut
  obtain ⟨W2, rfl⟩ : ∃ W, W = wc := ⟨_, rfl⟩
  have hlk := loTk_len y (by omega) (by omega) (by omega) (by omega) (by omega) (by omega) (by omega)
  have z8 := hcl.out _ hx2 8 _ rfl
  obtain ⟨B, hB⟩ : ∃ B, B = T ++ loTk y := ⟨_, rfl⟩
  have hBl : B.length ≤ 20000000 := by rw [hB, List.length_append]; omega
  have HB := Lib.hid hB
  rw [← hB] at HLT ⊢
  obtain ⟨sB, hsB⟩ : ∃ s, s = str B := ⟨_, rfl⟩
  rw [← hsB]
  have HSB := Lib.hid hsB
  clear hB hsB hlk
  by_cases h0 : y.rate = 0
  ·have d0 : (y.rate == 0) = true := beq_iff_eq.2 h0
   have HF : Hid (loT y = B ++ [125, 10]) := Lib.hid (by rw [HLT.out]; unfold loTr; rw [if_neg (by omega)]; simp [shut, lineT_0])
   have k1 : ∀ w, (Op.stringOp .add sB ⟨#[125, 10]⟩).run Tryz.prog w = .ok (.string R) w := fun w => by
    rw [HSB.out, HR.out, HF.out]
    exact catS B [125, 10] (by simp only [List.length_cons, List.length_nil]; omega) w
   have H0 := Lib.hid h0
   clear h0
   go_wp2
   go_ret
   exact ⟨rfl, hx0.tr (by (repeat first | exact Ex0 | assumption | refine Ex1 ?_ | refine Ex2 ?_ | refine Ex3 ?_ | refine Ex4 ?_ | refine Ex5 ?_))⟩
  ·have d0 : (y.rate == 0) = false := beq_eq_false_iff_ne.2 h0
   have HF : Hid (loT y = B ++ ([108, 105, 109, 105, 116] ++ (argT (.num y.rate) ++ argT (.num y.burst)) ++ [59, 10]) ++ [125, 10]) := Lib.hid (by rw [HLT.out]; unfold loTr; rw [if_pos (by omega)]; simp [shut, lineT_0, lineT_2, semi])
   obtain ⟨a1, a2, a3, a4, ha4, r1, r2, r3, r4⟩ := catL2 B [108, 105, 109, 105, 116] (argT (.num y.rate)) (argT (.num y.burst)) [59, 10] (by simp only [List.length_cons, List.length_nil]; omega)
   have k1 : ∀ w, (Op.stringOp .add a4 ⟨#[125, 10]⟩).run Tryz.prog w = .ok (.string R) w := fun w => by
    rw [ha4, HR.out, HF.out]
    exact catS (B ++ ([108, 105, 109, 105, 116] ++ (argT (.num y.rate) ++ argT (.num y.burst)) ++ [59, 10])) [125, 10] (by simp only [List.length_append, List.length_cons, List.length_nil]; omega) w
   rw [← HSB.out] at r1
   rw [← E8.out] at r2
   rw [← E9.out] at r3
   clear ha4 h0
   go_upto_region 16 with (fail)
   have hks : Hid (∀ w', Ext W0 w' → w'.cell? ⟨g, 8, none⟩ = some (.int .i64 y.rate) ∧ w'.cell? ⟨g, 9, none⟩ = some (.int .i64 y.burst)) := Lib.hid (fun w' e => ⟨hcl.out _ e 8 _ rfl, hcl.out _ e 9 _ rfl⟩)
   clear z8 d0
   go_region_held3 (fun w' => w'.cell? ⟨g, 8, none⟩ = some (.int .i64 y.rate) ∧ w'.cell? ⟨g, 9, none⟩ = some (.int .i64 y.burst)) (exact hks.out _ (hx2.tr (by (repeat first | exact Ex0 | assumption | refine Ex1 ?_ | refine Ex2 ?_ | refine Ex3 ?_ | refine Ex4 ?_ | refine Ex5 ?_)))) (first
    | (go_at_call 43; refine (NR.out _).mono ?_; rintro e' wa ⟨rfl, hxa⟩; clear NR)
    | (go_at_call 43; refine (NB.out _).mono ?_; rintro e' wb ⟨rfl, hxb⟩))
   go_wp2
   go_ret
   exact ⟨rfl, hx0.tr (hx2.tr (by (repeat first | exact Ex0 | assumption | refine Ex1 ?_ | refine Ex2 ?_ | refine Ex3 ?_ | refine Ex4 ?_ | refine Ex5 ?_)))⟩
end Go.Proofs.YtmnohicojefhfaaGreatDoor
end

section
namespace Go.Proofs.YtmnohicojefhfaaGreatDoor
open Go.RowKit

theorem cat_hd (a b c d : List UInt8) (h1 : a.length ≤ 1048579) (h2 : b.length ≤ 1048579) (h3 : c.length ≤ 1048579) (h4 : d.length ≤ 1048579) : ∃ s1 s2 s3 s4 s5 s6 s7 s8 s9 sa sb,
  sb = str (([107, 101, 101, 112] ++ a ++ [59, 10]) ++ ([98, 111, 100, 121] ++ b ++ [59, 10]) ++ ([115, 116, 111, 114, 101] ++ c ++ [59, 10]) ++ ([99, 111, 110, 110, 115] ++ d ++ [59, 10])) ∧
  (∀ w, (Op.stringOp .add ⟨#[107, 101, 101, 112]⟩ (str a)).run Tryz.prog w = .ok (.string s1) w) ∧ (∀ w, (Op.stringOp .add s1 ⟨#[59, 10]⟩).run Tryz.prog w = .ok (.string s2) w) ∧
  (∀ w, (Op.stringOp .add s2 ⟨#[98, 111, 100, 121]⟩).run Tryz.prog w = .ok (.string s3) w) ∧ (∀ w, (Op.stringOp .add s3 (str b)).run Tryz.prog w = .ok (.string s4) w) ∧ (∀ w, (Op.stringOp .add s4 ⟨#[59, 10]⟩).run Tryz.prog w = .ok (.string s5) w) ∧
  (∀ w, (Op.stringOp .add s5 ⟨#[115, 116, 111, 114, 101]⟩).run Tryz.prog w = .ok (.string s6) w) ∧ (∀ w, (Op.stringOp .add s6 (str c)).run Tryz.prog w = .ok (.string s7) w) ∧ (∀ w, (Op.stringOp .add s7 ⟨#[59, 10]⟩).run Tryz.prog w = .ok (.string s8) w) ∧
  (∀ w, (Op.stringOp .add s8 ⟨#[99, 111, 110, 110, 115]⟩).run Tryz.prog w = .ok (.string s9) w) ∧ (∀ w, (Op.stringOp .add s9 (str d)).run Tryz.prog w = .ok (.string sa) w) ∧ (∀ w, (Op.stringOp .add sa ⟨#[59, 10]⟩).run Tryz.prog w = .ok (.string sb) w) := by
 obtain ⟨L1, hL1⟩ : ∃ L, L = [107, 101, 101, 112] ++ a := ⟨_, rfl⟩
 have l1 : L1.length ≤ 1048600 := by rw [hL1]; simp only [List.length_append, List.length_cons, List.length_nil]; omega
 have l2 : (L1 ++ [59, 10]).length ≤ 1048610 := by simp only [List.length_append, List.length_cons, List.length_nil]; omega
 obtain ⟨x3, x4, x5, hx5, d3, d4, d5⟩ := catL1 (L1 ++ [59, 10]) [98, 111, 100, 121] b [59, 10] (by simp only [List.length_append, List.length_cons, List.length_nil]; omega)
 obtain ⟨x6, x7, x8, hx8, d6, d7, d8⟩ := catL1 (L1 ++ [59, 10] ++ ([98, 111, 100, 121] ++ b ++ [59, 10])) [115, 116, 111, 114, 101] c [59, 10] (by simp only [List.length_append, List.length_cons, List.length_nil]; omega)
 obtain ⟨x9, xa, xb, hxb, d9, da, db⟩ := catL1 (L1 ++ [59, 10] ++ ([98, 111, 100, 121] ++ b ++ [59, 10]) ++ ([115, 116, 111, 114, 101] ++ c ++ [59, 10])) [99, 111, 110, 110, 115] d [59, 10] (by simp only [List.length_append, List.length_cons, List.length_nil]; omega)
 rw [← hx5] at d6
 rw [← hx8] at d9
 refine ⟨str L1, str (L1 ++ [59, 10]), x3, x4, x5, x6, x7, x8, x9, xa, xb, by rw [hxb, hL1], fun w => ?_, fun w => ?_, d3, d4, d5, d6, d7, d8, d9, da, db⟩
 ·rw [hL1]
  exact catS [107, 101, 101, 112] a (by simp only [List.length_cons, List.length_nil]; omega) w
 ·exact catS L1 [59, 10] (by simp only [List.length_cons, List.length_nil]; omega) w
def upL (U : List (Up14 × Hd)) (i : Nat) : List UInt8 := (U.take i).flatMap fun x => upT x.1
theorem upL_all (c : Cf14) (U : List (Up14 × Hd)) (hU : U.map (·.1) = c.ups) : upL U U.length = c.ups.flatMap upT := by
 unfold upL
 rw [List.take_length, ← hU, List.flatMap_map]
theorem upL_le (c : Cf14) (U : List (Up14 × Hd)) (S : List (Sr14 × Hd × Hd)) (i : Nat) (hU : U.map (·.1) = c.ups) : (hdT c ++ upL U i).length ≤ (textC c).length := by
 have h1 : (upL U i).length ≤ (upL U U.length).length := by
  unfold upL
  rw [List.take_length]
  exact fmT_le (fun x : Up14 × Hd => upT x.1) U i
 rw [upL_all c U hU] at h1
 unfold textC
 simp only [List.length_append]
 omega
theorem upL_succ (U : List (Up14 × Hd)) (i : Nat) (h : i < U.length) : upL U (i + 1) = upL U i ++ upT U[i].1 := fmT_take _ U i h
def srL (S : List (Sr14 × Hd × Hd)) (i : Nat) : List UInt8 := (S.take i).flatMap fun x => srT x.1
theorem srL_all (c : Cf14) (S : List (Sr14 × Hd × Hd)) (hS : S.map (·.1) = c.srvs) : srL S S.length = c.srvs.flatMap srT := by
 unfold srL
 rw [List.take_length, ← hS, List.flatMap_map]
theorem srL_succ (S : List (Sr14 × Hd × Hd)) (i : Nat) (h : i < S.length) : srL S (i + 1) = srL S i ++ srT S[i].1 := fmT_take _ S i h
theorem srL_le (c : Cf14) (S : List (Sr14 × Hd × Hd)) (i : Nat) (hS : S.map (·.1) = c.srvs) : (hdT c ++ c.ups.flatMap upT ++ srL S i).length ≤ (textC c).length := by
 have h1 : (srL S i).length ≤ (srL S S.length).length := by
  unfold srL
  rw [List.take_length]
  exact fmT_le (fun x : Sr14 × Hd × Hd => srT x.1) S i
 rw [srL_all c S hS] at h1
 unfold textC
 simp only [List.length_append] at *
 omega
def Lk (L Q : List UInt8) : Prop := L = Q ∨ (65536 < L.length ∧ L.length ≤ Q.length)
theorem Lk.app {L Q : List UInt8} (h : Lk L Q) (x : List UInt8) : Lk (L ++ x) (Q ++ x) := by
 rcases h with h | ⟨h1, h2⟩
 ·exact .inl (by rw [h])
 ·exact .inr ⟨by rw [List.length_append]; omega, by simp only [List.length_append]; omega⟩
theorem Lk.le {L Q : List UInt8} (h : Lk L Q) : L.length ≤ Q.length := by
 rcases h with h | ⟨h1, h2⟩
 ·rw [h]; exact Nat.le_refl _
 ·exact h2
theorem Lk.skip {L Q : List UInt8} (h : Lk L Q) (hb : 65536 < L.length) (x : List UInt8) : Lk L (Q ++ x) := .inr ⟨hb, by have := h.le; rw [List.length_append]; omega⟩
theorem Lk.small {L Q : List UInt8} (h : Lk L Q) (hl : L.length ≤ 65536) : L = Q := by
 rcases h with h | ⟨h1, h2⟩
 ·exact h
 ·omega
theorem low_of (ups : List Up14) (hups : ∀ u ∈ ups, u.name.length ≤ 1048576) (l : Lo14) (h : locC ups l = true) (ht : LoM l) : LoW l ∧ 0 ≤ l.rate := by
 have hk : loc0 l = true ∧ restC l = lo0 ∧ ((l.kind = 1 ∧ loc1 l = true) ∨ (l.kind ≠ 1 ∧ l.kind = 2 ∧ loc2 ups l = true) ∨ (l.kind ≠ 1 ∧ l.kind ≠ 2 ∧ loc3 l = true)) := by
  unfold locC at h
  split at h
  ·simp only [Bool.and_eq_true, decide_eq_true_eq] at h
   exact ⟨h.1.1, h.2, .inl ⟨‹_›, h.1.2⟩⟩
  ·split at h
   ·simp only [Bool.and_eq_true, decide_eq_true_eq] at h
    exact ⟨h.1.1, h.2, .inr (.inl ⟨‹_›, ‹_›, h.1.2⟩)⟩
   ·split at h
    ·simp only [Bool.and_eq_true, decide_eq_true_eq] at h
     exact ⟨h.1.1, h.2, .inr (.inr ⟨‹_›, ‹_›, h.1.2⟩)⟩
    ·cases h
 obtain ⟨h0, hq, hk⟩ := hk
 unfold loc0 at h0
 simp only [Bool.and_eq_true, Bool.or_eq_true, decide_eq_true_eq] at h0
 obtain ⟨⟨⟨p1, p2⟩, p3⟩, p4⟩ := h0
 unfold inB at p2
 simp only [Bool.and_eq_true, decide_eq_true_eq] at p2
 obtain ⟨t1, t2, t3, t4⟩ := ht
 have hN : l.up.length ≤ 1048576 := by
  rcases hk with ⟨k1, g⟩ | ⟨k1, k2, g⟩ | ⟨k1, k2, g⟩
  ·unfold restC at hq
   rw [if_pos k1] at hq
   have e2 : l.up = [] := congrArg Lo14.up hq
   rw [e2]
   exact Nat.zero_le _
  ·unfold loc2 at g
   rw [Bool.and_eq_true] at g
   obtain ⟨u, hu, he⟩ := List.any_eq_true.1 g.1
   rw [← of_decide_eq_true he]
   exact hups u hu
  ·unfold restC at hq
   rw [if_neg k1, if_neg k2] at hq
   have e3 : l.up = [] := congrArg Lo14.up hq
   rw [e3]
   exact Nat.zero_le _
 exact ⟨⟨t1, t2, t3, hN, t4⟩, p2.1⟩
theorem low_allR (c : Cf14) (hg : goodC c = true) (hL : CfL c) : ∀ s ∈ c.srvs, ∀ l ∈ s.locs, LoW l ∧ 0 ≤ l.rate := by
 intro s hs l hl
 unfold goodC at hg
 simp only [Bool.and_eq_true] at hg
 have hc := List.all_eq_true.1 hg.1.1.2 s hs
 unfold srC at hc
 simp only [Bool.and_eq_true] at hc
 exact low_of c.ups hL.ups l (List.all_eq_true.1 hc.1.2 l hl) ((hL.srvs s hs).2 l hl)
theorem ret_tup2 {a b : ByteArray} {n m : Int} (h : a = b) (h2 : n = m) : Ending.returned (.tuple #[.string a, .int .i64 n]) = .returned (.tuple #[.string b, .int .i64 m]) := by rw [h, h2]
theorem lk_end {L Q : List UInt8} {l : List Lo14} {k : Nat} (h : Lk L (Q ++ (l.take k).flatMap loT)) (hb : 65536 < L.length) : Lk L (Q ++ l.flatMap loT) := by
 have := h.skip hb ((l.drop k).flatMap loT)
 rw [List.append_assoc, ← List.flatMap_append, List.take_append_drop] at this
 exact this
set_option maxRecDepth 100000 in
set_option maxHeartbeats 8000000 in
theorem rText_c (c : Cf14) (U : List (Up14 × Hd)) (UA : Option Addr) (uc : Nat) (S : List (Sr14 × Hd × Hd)) (SA : Option Addr) (sc : Nat) (w : World) (hR : CfR w c U UA S SA) (hZ : CfS c) (hN : goodC c = true → CfN c) (hL : CfL c) :
  Calls Tryz.prog 19 #[cfV c UA uc SA sc] w (Gives (.tuple #[.string (str (textR c).1), .int .i64 (textR c).2]) w) := by
 have CGd := Lib.hid (fun w' (hx : Ext w w') => rgood_c c U UA uc S SA sc w' (hR.ext hx) hZ)
 have HR := Lib.hid hR
 obtain ⟨G, hG⟩ : ∃ b, b = goodC c := ⟨_, rfl⟩
 rw [← hG] at CGd hN
 unfold cfV at CGd ⊢
 have HG := Lib.hid hG
 have hulz := hZ.ul
 have HUZ := Lib.hid (fun x (hx : x ∈ U) => (hZ.ups x.1 (by rw [← hR.hU]; exact List.mem_map_of_mem hx)).pl)
 have hslz := hZ.sl
 have HSZ := Lib.hid (fun x (hx : x ∈ S) => hZ.srvs x.1 (by rw [← hR.hS]; exact List.mem_map_of_mem hx))
 clear hR hZ hG
 have z0 := fun j u => new_at w #[.int .i64 c.keep, .int .i64 c.body, .int .i64 c.store, .int .i64 c.conns, .slice UA c.ups.length uc, .slice SA c.srvs.length sc] 32 j u
 obtain ⟨W1, hW1⟩ : ∃ W, W = w.alloc (.cells #[.int .i64 c.keep, .int .i64 c.body, .int .i64 c.store, .int .i64 c.conns, .slice UA c.ups.length uc, .slice SA c.srvs.length sc] 32) := ⟨_, rfl⟩
 have hx1 : Ext w W1 := by rw [hW1]; exact (Ext.rfl' _).al _
 obtain ⟨g, hg⟩ : ∃ g, g = w.heap.size := ⟨_, rfl⟩
 rw [← hW1, ← hg] at z0
 have ZX := Lib.hid (fun wx (hx : Ext W1 wx) j u h => (hx.cell (lt_of_cell (z0 j u h))).trans (z0 j u h))
 have p0 := z0 0 _ rfl
 have p1 := z0 1 _ rfl
 have p2 := z0 2 _ rfl
 have p3 := z0 3 _ rfl
 have p4 := z0 4 _ rfl
 have p5 := z0 5 _ rfl
 clear z0
 cases G with
 | false =>
  have HT : Hid (textR c = ([], 60)) := Lib.hid (by unfold textR; rw [← HG.out]; rfl)
  rw [HT.out]
  clear hN
  go_enter Tryz.func19, Tryz.ntmps19
  go_upto_region 1 with (fail)
  rw [← hW1, ← hg]
  clear hW1 hg
  go_wp2_with (go_at_call 26; refine (CGd.out _ hx1).mono ?_; rintro e' w2 ⟨rfl, hx2⟩)
  go_ret2
  exact ⟨rfl, hx1.tr hx2⟩
 | true =>
  have HN := Lib.hid (hN rfl)
  have HT : Hid (textR c = if (textC c).length ≤ 65536 then (textC c, 0) else ([], 6)) := Lib.hid (by unfold textR; rw [← HG.out]; rfl)
  have N1 := Lib.hid (fun w => rnum_c c.keep HN.out.keep.1 HN.out.keep.2 w)
  have N2 := Lib.hid (fun w => rnum_c c.body HN.out.body.1 HN.out.body.2 w)
  have N3 := Lib.hid (fun w => rnum_c c.store HN.out.store.1 HN.out.store.2 w)
  have N4 := Lib.hid (fun w => rnum_c c.conns HN.out.conns.1 HN.out.conns.2 w)
  obtain ⟨s1, s2, s3, s4, s5, s6, s7, s8, s9, sa, sb, hsb, d1, d2, d3, d4, d5, d6, d7, d8, d9, da, db⟩ := cat_hd (argT (.num c.keep)) (argT (.num c.body)) (argT (.num c.store)) (argT (.num c.conns)) (argT_len (x := .num c.keep) HN.out.keep) (argT_len (x := .num c.body) HN.out.body) (argT_len (x := .num c.store) HN.out.store) (argT_len (x := .num c.conns) HN.out.conns)
  obtain ⟨q1, e1⟩ : ∃ s, s = str (argT (.num c.keep)) := ⟨_, rfl⟩
  obtain ⟨q2, e2⟩ : ∃ s, s = str (argT (.num c.body)) := ⟨_, rfl⟩
  obtain ⟨q3, e3⟩ : ∃ s, s = str (argT (.num c.store)) := ⟨_, rfl⟩
  obtain ⟨q4, e4⟩ : ∃ s, s = str (argT (.num c.conns)) := ⟨_, rfl⟩
  rw [← e1] at N1 d1
  rw [← e2] at N2 d4
  rw [← e3] at N3 d7
  rw [← e4] at N4 da
  have hsb2 : sb = str (hdT c) := by rw [hsb]; unfold hdT; simp [lineT_1, semi]
  have HSB := Lib.hid hsb2
  clear hsb hsb2 e1 e2 e3 e4 hN
  go_enter Tryz.func19, Tryz.ntmps19
  go_upto_region 1 with (fail)
  rw [← hW1, ← hg]
  clear hW1 hg
  go_upto_region 4 with (go_at_call 26; refine (CGd.out _ hx1).mono ?_; rintro e' w2 ⟨rfl, hx2⟩)
  clear p0 p1 p2 p3 p4 p5
  have hks : Hid (∀ w', Ext W1 w' → w'.cell? ⟨g, 0, none⟩ = some (.int .i64 c.keep) ∧ w'.cell? ⟨g, 1, none⟩ = some (.int .i64 c.body) ∧ w'.cell? ⟨g, 2, none⟩ = some (.int .i64 c.store) ∧ w'.cell? ⟨g, 3, none⟩ = some (.int .i64 c.conns)) := Lib.hid (fun w' e => ⟨ZX.out _ e 0 _ rfl, ZX.out _ e 1 _ rfl, ZX.out _ e 2 _ rfl, ZX.out _ e 3 _ rfl⟩)
  go_region_held3 (fun w' => w'.cell? ⟨g, 0, none⟩ = some (.int .i64 c.keep) ∧ w'.cell? ⟨g, 1, none⟩ = some (.int .i64 c.body) ∧ w'.cell? ⟨g, 2, none⟩ = some (.int .i64 c.store) ∧ w'.cell? ⟨g, 3, none⟩ = some (.int .i64 c.conns)) (exact hks.out _ (hx2.tr (by (repeat first | exact Ex0 | assumption | refine Ex1 ?_ | refine Ex2 ?_ | refine Ex3 ?_ | refine Ex4 ?_ | refine Ex5 ?_)))) (first
   | (go_at_call 43; refine (N1.out _).mono ?_; rintro e' wa ⟨rfl, hxa⟩; clear N1)
   | (go_at_call 43; refine (N2.out _).mono ?_; rintro e' wb ⟨rfl, hxb⟩; clear N2)
   | (go_at_call 43; refine (N3.out _).mono ?_; rintro e' wc ⟨rfl, hxc⟩; clear N3)
   | (go_at_call 43; refine (N4.out _).mono ?_; rintro e' wd ⟨rfl, hxd⟩; clear N4))
  clear d1 d2 d3 d4 d5 d6 d7 d8 d9 da db hks
  have hx13 : Ext W1 W1 := Ext.rfl' _
  have hul : U.length = c.ups.length := by rw [← HR.out.hU, List.length_map]
  have hulb : U.length ≤ 1099511627776 := by omega
  have HUP := Lib.hid (fun x (hx : x ∈ U) => HN.out.ups x.1 (by rw [← HR.out.hU]; exact List.mem_map_of_mem hx))
  have HUW := Lib.hid (fun x (hx : x ∈ U) => hL.ups x.1 (by rw [← HR.out.hU]; exact List.mem_map_of_mem hx))
  have hlen := HN.out.len
  have HLU := Lib.hid (fun i => upL_le c U S i HR.out.hU)
  go_wp2
  refine (fun (h : ∀ W3, Ext W1 W3 → Code.wp _ _ _ _ W3) => h _ (hx2.tr (by (repeat first | exact Ex0 | assumption | refine Ex1 ?_ | refine Ex2 ?_ | refine Ex3 ?_ | refine Ex4 ?_ | refine Ex5 ?_)))) ?_
  intro W3 hx3
  clear hx2 hx13
  rw [HSB.out]
  go_loopw [5, 6] (fun v5 v6 wr => ∃ (i : Nat) (s : ByteArray), v5 = .string s ∧ v6 = .int .i64 (i : Int) ∧ i ≤ U.length ∧ Hid (s = str (hdT c ++ upL U i)) ∧ Ext W1 wr) (fun _ v6 _ => U.length - (intOf v6).toNat)
  case atStart => exact ⟨0, _, rfl, rfl, Nat.zero_le _, Lib.hid (by unfold upL; simp), hx3⟩
  case round =>
   clear hx3
   obtain ⟨i, s, rfl, rfl, hi, HS, hxr⟩ := hrel
   have q4 := ZX.out _ hxr 4 _ rfl
   rw [← hul] at q4
   by_cases hlt : i < U.length
   ·obtain ⟨bp, gp, hB, _, hc⟩ := (HR.out.ups.ext (hx1.tr hxr)).row (sz := 4) (fun _ => rfl) (by omega) hlt
    have hPR := HR.out.peers U[i] (List.getElem_mem hlt)
    have i0 : (0 : Int) ≤ (i : Int) := by omega
    have i1 : (i : Int) < (U.length : Int) := by omega
    have hkk : IntKind.i64.wrap ((i : Int) + 1) = ((i + 1 : Nat) : Int) := by rw [IntKind.wrap_i64]; omega
    have hun := HUP.out U[i] (List.getElem_mem hlt)
    have hpl := HUZ.out U[i] (List.getElem_mem hlt)
    have huw := HUW.out U[i] (List.getElem_mem hlt)
    have HUS := Lib.hid (upL_succ U i hlt)
    have hlen := HN.out.len
    have hAl := HLU.out i
    have hAl2 := HLU.out (i + 1)
    rw [HUS.out] at hAl2
    obtain ⟨A, hA⟩ : ∃ A, A = hdT c ++ upL U i := ⟨_, rfl⟩
    rw [← List.append_assoc, ← hA] at hAl2
    rw [← hA] at hAl HS
    obtain ⟨y, hy⟩ : ∃ y, y = U[i] := ⟨_, rfl⟩
    rw [← hy] at hc hPR hun huw hpl HUS hAl2
    have m0 : wr.cell? ⟨bp, gp + i * 4, none⟩ = some (.string (str y.1.name)) := hc 0 _ rfl
    have m1 : wr.cell? ⟨bp, gp + i * 4 + 1, none⟩ = some (.slice y.2.1 y.1.peers.length y.2.2) := hc 1 _ rfl
    have m2 : wr.cell? ⟨bp, gp + i * 4 + 2, none⟩ = some (.int .i64 y.1.timeout) := hc 2 _ rfl
    have m3 : wr.cell? ⟨bp, gp + i * 4 + 3, none⟩ = some (.int .i64 y.1.retries) := hc 3 _ rfl
    have HPR := Lib.hid hPR
    have HHA := Lib.hid hA
    have CQ := Lib.hid (fun w => rquoted_c y.1.name hun.name w)
    have hnl := argT_len (x := .txt y.1.name) huw
    obtain ⟨c1, c2, c3, hc3, d1, d2, d3⟩ := catL1 A [117, 112, 115, 116, 114, 101, 97, 109] (argT (.txt y.1.name)) [32, 123, 10] (by simp only [List.length_cons, List.length_nil]; omega)
    obtain ⟨q1, e1⟩ : ∃ s, s = str (argT (.txt y.1.name)) := ⟨_, rfl⟩
    rw [← HS.out] at d1
    rw [← e1] at d2 CQ
    have HC3 := Lib.hid hc3
    have HUN := Lib.hid hun
    rw [hB] at q4
    clear hc hy hA hPR hc3 e1 hun hB
    have hks : Hid (∀ w', Ext wr w' → w'.cell? ⟨bp, gp + i * 4, none⟩ = some (.string (str y.1.name))) := Lib.hid (fun w' e => (e.cell (lt_of_cell m0)).trans m0)
    go_upto_region 9 with (fail)
    obtain ⟨W4, hW4⟩ : ∃ W, W = wr.alloc (.cells #[.string (str y.1.name), .slice y.2.1 y.1.peers.length y.2.2, .int .i64 y.1.timeout, .int .i64 y.1.retries] 84) := ⟨_, rfl⟩
    have b4 : W4.heap[wr.heap.size]? = some (.cells #[.string (str y.1.name), .slice y.2.1 y.1.peers.length y.2.2, .int .i64 y.1.timeout, .int .i64 y.1.retries] 84 (0, 0)) := by rw [hW4]; exact heap_alloc_new wr _
    have hx4 : Ext wr W4 := by rw [hW4]; exact (Ext.rfl' _).al _
    obtain ⟨q, hq⟩ : ∃ b, b = wr.heap.size := ⟨_, rfl⟩
    rw [← hq] at b4
    rw [← hW4, ← hq]
    have HROW := Lib.hid (fun w' (e : Ext W4 w') => (e.block q (row_lt b4)).trans b4)
    clear hW4 hq m0 m1 m2 m3 q4 hks
    have n0 := (row_facts b4 0 _ rfl).1
    clear b4
    have hx14 := hxr.tr hx4
    go_upto_region 10 with (go_at_call 44; refine (CQ.out _).mono ?_; rintro e' w5 ⟨rfl, hx5⟩)
    clear n0 d1 d2 d3 CQ
    have hnn : (y.1.peers.flatMap peT).length ≤ (upT y.1).length := by unfold upT; simp only [List.length_append]; omega
    obtain ⟨B, hBd⟩ : ∃ B, B = A ++ lineT beg [117, 112, 115, 116, 114, 101, 97, 109] [.txt y.1.name] := ⟨_, rfl⟩
    have HC3' : Hid (c3 = str B) := Lib.hid (by rw [HC3.out, hBd]; simp [lineT_1, beg])
    have hBl : B.length + (y.1.peers.flatMap peT).length ≤ 140737488355328 := by
     have e : (upT y.1).length = (lineT beg [117, 112, 115, 116, 114, 101, 97, 109] [.txt y.1.name]).length + (y.1.peers.flatMap peT).length + (lineT semi [116, 105, 109, 101, 111, 117, 116] [.num y.1.timeout]).length + (lineT semi [114, 101, 116, 114, 105, 101, 115] [.num y.1.retries]).length + shut.length := by unfold upT; simp only [List.length_append]
     rw [hBd]
     simp only [List.length_append] at hAl2 ⊢
     omega
    have HBD := Lib.hid hBd
    clear HC3 hBd
    have hx15 := hx14.tr hx5
    go_wp2
    go_loopw [5, 8] (fun v5 v8 wx => ∃ (k : Nat) (s2 : ByteArray), v5 = .string s2 ∧ v8 = .int .i64 (k : Int) ∧ k ≤ y.1.peers.length ∧ Hid (s2 = str (B ++ (y.1.peers.take k).flatMap peT)) ∧ Ext W4 wx) (fun _ v8 _ => y.1.peers.length - (intOf v8).toNat)
    case atStart => exact ⟨0, _, rfl, rfl, Nat.zero_le _, Lib.hid (by rw [HC3'.out]; simp), hx5⟩
    case round =>
     clear hx5 hx15
     obtain ⟨k, s2, rfl, rfl, hk, HS2, hxk⟩ := hrel
     have hr4 := HROW.out _ hxk
     have r1 := (row_facts hr4 1 _ rfl).1
     by_cases hkt : k < y.1.peers.length
     ·obtain ⟨ba, ga, hBa, _, hc2⟩ := (HPR.out.ext (hx1.tr (hx14.tr hxk))).row (sz := 2) (fun _ => rfl) (by omega) hkt
      have k0 : (0 : Int) ≤ (k : Int) := by omega
      have k1 : (k : Int) < (y.1.peers.length : Int) := by omega
      have hkj : IntKind.i64.wrap ((k : Int) + 1) = ((k + 1 : Nat) : Int) := by rw [IntKind.wrap_i64]; omega
      have u0 : wr.cell? ⟨ba, ga + k * 2, none⟩ = some (.int .i64 y.1.peers[k].id) := hc2 0 _ rfl
      have u1 : wr.cell? ⟨ba, ga + k * 2 + 1, none⟩ = some (.int .i64 y.1.peers[k].most) := hc2 1 _ rfl
      have hid := HUN.out.id _ (List.getElem_mem hkt)
      have hmo := HUN.out.most _ (List.getElem_mem hkt)
      have hle := fmT_le peT y.1.peers k
      have HFT := Lib.hid (fmT_take peT y.1.peers k hkt)
      obtain ⟨z, hz⟩ : ∃ z, z = y.1.peers[k] := ⟨_, rfl⟩
      rw [← hz] at u0 u1 hid hmo HFT
      obtain ⟨D, hD⟩ : ∃ D, D = B ++ (y.1.peers.take k).flatMap peT := ⟨_, rfl⟩
      have hDl : D.length ≤ 140737488355328 := by rw [hD, List.length_append]; omega
      rw [← hD] at HS2
      have HDD := Lib.hid hD
      have NI := Lib.hid (fun w => rnum_c z.id hid.1 hid.2 w)
      have NM := Lib.hid (fun w => rnum_c z.most hmo.1 hmo.2 w)
      obtain ⟨f1, f2, f3, f4, hf4, d1, d2, d3, d4⟩ := catL2 D [112, 101, 101, 114] (argT (.num z.id)) (argT (.num z.most)) [59, 10] (by have := argT_len (x := .num z.id) hid; have := argT_len (x := .num z.most) hmo; simp only [List.length_cons, List.length_nil]; omega)
      obtain ⟨qi, ei⟩ : ∃ s, s = str (argT (.num z.id)) := ⟨_, rfl⟩
      obtain ⟨qm, em⟩ : ∃ s, s = str (argT (.num z.most)) := ⟨_, rfl⟩
      rw [← HS2.out] at d1
      rw [← ei] at d2 NI
      rw [← em] at d3 NM
      have HF4 := Lib.hid hf4
      rw [hBa] at r1
      clear hc2 hz hD hf4 ei em hBa hle hid hmo hr4
      have hks : Hid (∀ w', Ext wr w' → w'.cell? ⟨q, 1, none⟩ = some (.slice (some ⟨ba, ga, none⟩) y.1.peers.length y.2.2) ∧ w'.cell? ⟨ba, ga + k * 2, none⟩ = some (.int .i64 z.id) ∧ w'.cell? ⟨ba, ga + k * 2 + 1, none⟩ = some (.int .i64 z.most)) := Lib.hid (fun w' e => ⟨(e.cell (lt_of_cell r1)).trans r1, (e.cell (lt_of_cell u0)).trans u0, (e.cell (lt_of_cell u1)).trans u1⟩)
      go_upto_region 13 with (fail)
      clear r1 u0 u1
      go_region_held3 (fun w' => w'.cell? ⟨q, 1, none⟩ = some (.slice (some ⟨ba, ga, none⟩) y.1.peers.length y.2.2) ∧ w'.cell? ⟨ba, ga + k * 2, none⟩ = some (.int .i64 z.id) ∧ w'.cell? ⟨ba, ga + k * 2 + 1, none⟩ = some (.int .i64 z.most)) (exact hks.out _ (by (repeat first | exact Ex0 | assumption | refine Ex1 ?_ | refine Ex2 ?_ | refine Ex3 ?_ | refine Ex4 ?_ | refine Ex5 ?_))) (first
       | (go_at_call 43; refine (NI.out _).mono ?_; rintro e' wa ⟨rfl, hxa⟩; clear NI)
       | (go_at_call 43; refine (NM.out _).mono ?_; rintro e' wb ⟨rfl, hxb⟩))
      clear hks
      go_wp2
      go_roundw
      case rel => exact ⟨k + 1, f4, rfl, by simp, by omega, Lib.hid (by rw [HF4.out, HFT.out, HDD.out]; simp [peT, lineT_2, semi]), hxk.tr (by (repeat first | exact Ex0 | assumption | refine Ex1 ?_ | refine Ex2 ?_ | refine Ex3 ?_ | refine Ex4 ?_ | refine Ex5 ?_))⟩
      case measure => simp [intOf]; omega
     ·have k1 : ¬ (k : Int) < (y.1.peers.length : Int) := by omega
      obtain ⟨D, hD⟩ : ∃ D, D = B ++ y.1.peers.flatMap peT := ⟨_, rfl⟩
      have HS2 : Hid (s2 = str D) := Lib.hid (by rw [HS2.out, show k = y.1.peers.length from by omega, List.take_length, hD])
      have hDl : D.length ≤ 140737488355328 := by rw [hD, List.length_append]; omega
      have HDD := Lib.hid hD
      have hti := HUN.out.timeout
      have hre := HUN.out.retries
      have NT := Lib.hid (fun w => rnum_c y.1.timeout hti.1 hti.2 w)
      have NR := Lib.hid (fun w => rnum_c y.1.retries hre.1 hre.2 w)
      have lt1 := argT_len (x := .num y.1.timeout) hti
      have lt2 := argT_len (x := .num y.1.retries) hre
      obtain ⟨f1, f2, f3, hf3, d1, d2, d3⟩ := catL1 D [116, 105, 109, 101, 111, 117, 116] (argT (.num y.1.timeout)) [59, 10] (by simp only [List.length_cons, List.length_nil]; omega)
      obtain ⟨D2, hD2⟩ : ∃ D2, D2 = D ++ ([116, 105, 109, 101, 111, 117, 116] ++ argT (.num y.1.timeout) ++ [59, 10]) := ⟨_, rfl⟩
      have hD2l : D2.length ≤ 140737489500000 := by rw [hD2]; simp only [List.length_append, List.length_cons, List.length_nil]; omega
      obtain ⟨f4, f5, f6, hf6, d4, d5, d6⟩ := catL1 D2 [114, 101, 116, 114, 105, 101, 115] (argT (.num y.1.retries)) [59, 10] (by simp only [List.length_cons, List.length_nil]; omega)
      obtain ⟨D3, hD3⟩ : ∃ D3, D3 = D2 ++ ([114, 101, 116, 114, 105, 101, 115] ++ argT (.num y.1.retries) ++ [59, 10]) := ⟨_, rfl⟩
      have hD3l : D3.length ≤ 140737490600000 := by rw [hD3]; simp only [List.length_append, List.length_cons, List.length_nil]; omega
      obtain ⟨f7, hf7⟩ : ∃ s, s = str (D3 ++ [125, 10]) := ⟨_, rfl⟩
      have d7 : ∀ w, (Op.stringOp .add f6 ⟨#[125, 10]⟩).run Tryz.prog w = .ok (.string f7) w := fun w => by rw [hf6, ← hD3, hf7]; exact catS D3 [125, 10] (by simp only [List.length_cons, List.length_nil]; omega) w
      rw [← hD2] at hf3
      rw [← hf3] at d4
      rw [← HS2.out] at d1
      obtain ⟨qi, ei⟩ : ∃ s, s = str (argT (.num y.1.timeout)) := ⟨_, rfl⟩
      obtain ⟨qm, em⟩ : ∃ s, s = str (argT (.num y.1.retries)) := ⟨_, rfl⟩
      rw [← ei] at d2 NT
      rw [← em] at d5 NR
      have HF7 := Lib.hid hf7
      have HD2 := Lib.hid hD2
      have HD3 := Lib.hid hD3
      have r2 := (row_facts hr4 2 _ rfl).1
      have r3 := (row_facts hr4 3 _ rfl).1
      clear hD hD2 hD3 hf3 hf6 hf7 ei em hti hre lt1 lt2 hr4
      have hks : Hid (∀ w', Ext wr w' → w'.cell? ⟨q, 2, none⟩ = some (.int .i64 y.1.timeout) ∧ w'.cell? ⟨q, 3, none⟩ = some (.int .i64 y.1.retries)) := Lib.hid (fun w' e => ⟨(e.cell (lt_of_cell r2)).trans r2, (e.cell (lt_of_cell r3)).trans r3⟩)
      go_upto_region 14 with (fail)
      clear r1 r2 r3
      go_region_held3 (fun w' => w'.cell? ⟨q, 2, none⟩ = some (.int .i64 y.1.timeout) ∧ w'.cell? ⟨q, 3, none⟩ = some (.int .i64 y.1.retries)) (exact hks.out _ (by (repeat first | exact Ex0 | assumption | refine Ex1 ?_ | refine Ex2 ?_ | refine Ex3 ?_ | refine Ex4 ?_ | refine Ex5 ?_))) (first
       | (go_at_call 43; refine (NT.out _).mono ?_; rintro e' wa ⟨rfl, hxa⟩; clear NT)
       | (go_at_call 43; refine (NR.out _).mono ?_; rintro e' wb ⟨rfl, hxb⟩))
      clear hks
      go_wp2
      go_roundw
      case rel => exact ⟨i + 1, f7, rfl, by simp, by omega, Lib.hid (by rw [HF7.out, HUS.out, HD3.out, HD2.out, HDD.out, HBD.out, HHA.out]; simp [upT, lineT_1, lineT_0, semi, shut, beg]), hx14.tr (hxk.tr (by (repeat first | exact Ex0 | assumption | refine Ex1 ?_ | refine Ex2 ?_ | refine Ex3 ?_ | refine Ex4 ?_ | refine Ex5 ?_)))⟩
      case measure => simp [intOf]; omega
   ·have i1 : ¬ (i : Int) < (U.length : Int) := by omega
    have HS0 : Hid (s = str (hdT c ++ c.ups.flatMap upT)) := Lib.hid (by rw [HS.out, show i = U.length from by omega, upL_all c U HR.out.hU])
    have HTX := Lib.hid (fun i => srL_le c S i HR.out.hS)
    have HTA : Hid (hdT c ++ c.ups.flatMap upT ++ srL S S.length = textC c) := Lib.hid (by rw [srL_all c S HR.out.hS]; rfl)
    obtain ⟨P0, hP0⟩ : ∃ P, P = hdT c ++ c.ups.flatMap upT := ⟨_, rfl⟩
    rw [← hP0] at HS0 HTX HTA
    have hsl : S.length = c.srvs.length := by rw [← HR.out.hS, List.length_map]
    have HSN := Lib.hid (fun x (hx : x ∈ S) => HN.out.names x.1 (by rw [← HR.out.hS]; exact List.mem_map_of_mem hx))
    have HSB := Lib.hid (fun x (hx : x ∈ S) => (hL.srvs x.1 (by rw [← HR.out.hS]; exact List.mem_map_of_mem hx)).1)
    have HSL := Lib.hid (fun x (hx : x ∈ S) => HN.out.locs x.1 (by rw [← HR.out.hS]; exact List.mem_map_of_mem hx))
    have HSW := Lib.hid (fun x (hx : x ∈ S) => low_allR c HG.out.symm hL x.1 (by rw [← HR.out.hS]; exact List.mem_map_of_mem hx))
    have hslb : S.length ≤ 1099511627776 := by omega
    have hlen := HN.out.len
    have HSL0 := Lib.hid hsl
    clear hsl HS hP0 HUP HUW HUZ HLU hulb hulz hul HN hL HG
    go_upto_region 15 with (fail)
    clear q4 i1 hi
    go_wp2
    go_loopw [5, 9] (fun v5 v9 wx => ∃ (m : Nat) (s2 : ByteArray) (L : List UInt8), v5 = .string s2 ∧ v9 = .int .i64 (m : Int) ∧ m ≤ S.length ∧ Hid (s2 = str L) ∧ Hid (Lk L (P0 ++ srL S m)) ∧ Ext W1 wx) (fun _ v9 _ => S.length - (intOf v9).toNat)
    case atStart => exact ⟨0, _, _, rfl, rfl, Nat.zero_le _, HS0, Lib.hid (.inl (by unfold srL; simp)), hxr⟩
    case round =>
     clear hxr HS0
     obtain ⟨m, s2, L, rfl, rfl, hm, HS2, HLK, hxm⟩ := hrel
     have t5 := ZX.out _ hxm 5 _ rfl
     rw [← HSL0.out] at t5
     by_cases hmt : m < S.length
     ·obtain ⟨bp, gp, hB, _, hc⟩ := (HR.out.srvs.ext (hx1.tr hxm)).row (sz := 3) (fun _ => rfl) (by omega) hmt
      have HNR := Lib.hid (HR.out.names S[m] (List.getElem_mem hmt))
      have HLR := Lib.hid (HR.out.locs S[m] (List.getElem_mem hmt))
      have i0 : (0 : Int) ≤ (m : Int) := by omega
      have i1 : (m : Int) < (S.length : Int) := by omega
      have hkk : IntKind.i64.wrap ((m : Int) + 1) = ((m + 1 : Nat) : Int) := by rw [IntKind.wrap_i64]; omega
      have HNN := Lib.hid (HSN.out S[m] (List.getElem_mem hmt))
      have HNB := Lib.hid (HSB.out S[m] (List.getElem_mem hmt))
      have HLN := Lib.hid (HSL.out S[m] (List.getElem_mem hmt))
      have HLW := Lib.hid (HSW.out S[m] (List.getElem_mem hmt))
      have hnz := (HSZ.out S[m] (List.getElem_mem hmt)).nl
      have hlz := (HSZ.out S[m] (List.getElem_mem hmt)).ll
      have HSS := Lib.hid (srL_succ S m hmt)
      have hAl := HTX.out (m + 1)
      rw [HSS.out] at hAl
      obtain ⟨Q, hQ⟩ : ∃ Q, Q = P0 ++ srL S m := ⟨_, rfl⟩
      rw [← List.append_assoc, ← hQ] at hAl
      rw [← hQ] at HLK
      have HQQ := Lib.hid hQ
      obtain ⟨y, hy⟩ : ∃ y, y = S[m] := ⟨_, rfl⟩
      rw [← hy] at hc HNR HLR HNN HNB HLN HLW hnz hlz HSS hAl
      have m0 : wr.cell? ⟨bp, gp + m * 3, none⟩ = some (.slice y.2.1.1 y.1.names.length y.2.1.2) := hc 0 _ rfl
      have m1 : wr.cell? ⟨bp, gp + m * 3 + 1, none⟩ = some (.bool y.1.dflt) := hc 1 _ rfl
      have m2 : wr.cell? ⟨bp, gp + m * 3 + 2, none⟩ = some (.slice y.2.2.1 y.1.locs.length y.2.2.2) := hc 2 _ rfl
      have hLl := HLK.out.le
      have hst : (srT y.1).length = 9 + (y.1.names.flatMap nmT).length + (dfT y.1.dflt).length + (y.1.locs.flatMap loT).length + 2 := by unfold srT; simp only [lineT_0, beg, shut, List.length_append, List.length_cons, List.length_nil]
      rw [List.length_append, hst] at hAl
      obtain ⟨X1, hX1⟩ : ∃ X, X = L ++ [115, 101, 114, 118, 101, 114, 32, 123, 10] := ⟨_, rfl⟩
      obtain ⟨s3, hs3⟩ : ∃ s, s = str X1 := ⟨_, rfl⟩
      have d1 : ∀ w, (Op.stringOp .add s2 ⟨#[115, 101, 114, 118, 101, 114, 32, 123, 10]⟩).run Tryz.prog w = .ok (.string s3) w := fun w => by rw [HS2.out, hs3, hX1]; exact catS L [115, 101, 114, 118, 101, 114, 32, 123, 10] (by simp only [List.length_cons, List.length_nil]; omega) w
      have HLK1 : Hid (Lk X1 (Q ++ [115, 101, 114, 118, 101, 114, 32, 123, 10])) := Lib.hid (by rw [hX1]; exact HLK.out.app _)
      have hX1l : X1.length + ((y.1.names.flatMap nmT).length + (dfT y.1.dflt).length + (y.1.locs.flatMap loT).length + 2) ≤ 140737488355328 := by rw [hX1]; simp only [List.length_append, List.length_cons, List.length_nil]; omega
      have hQl : Q.length + (9 + (y.1.names.flatMap nmT).length + (dfT y.1.dflt).length + (y.1.locs.flatMap loT).length + 2) ≤ 140737488355328 := by omega
      have HS3 := Lib.hid hs3
      rw [hB] at t5
      clear hc hy hs3 hX1 hB hLl hst hAl hQ HS2 HLK
      go_upto_region 19 with (fail)
      obtain ⟨W4, hW4⟩ : ∃ W, W = wr.alloc (.cells #[.slice y.2.1.1 y.1.names.length y.2.1.2, .bool y.1.dflt, .slice y.2.2.1 y.1.locs.length y.2.2.2] 88) := ⟨_, rfl⟩
      have b4 : W4.heap[wr.heap.size]? = some (.cells #[.slice y.2.1.1 y.1.names.length y.2.1.2, .bool y.1.dflt, .slice y.2.2.1 y.1.locs.length y.2.2.2] 88 (0, 0)) := by rw [hW4]; exact heap_alloc_new wr _
      have hx4' : Ext wr W4 := by rw [hW4]; exact (Ext.rfl' _).al _
      have hx4 : Ext W1 W4 := hxm.tr hx4'
      obtain ⟨q, hq⟩ : ∃ b, b = wr.heap.size := ⟨_, rfl⟩
      rw [← hq] at b4
      rw [← hW4, ← hq]
      have HROW := Lib.hid (fun w' (e : Ext W4 w') => (e.block q (row_lt b4)).trans b4)
      have hx14 := hx4
      clear hW4 hq m0 m1 m2 t5 b4 hx4' hxm
      have hxk : Ext W4 W4 := Ext.rfl' _
      go_wp2
      clear d1
      go_loopw [5, 11] (fun v5 v11 wx => ∃ (k : Nat) (s4 : ByteArray), v5 = .string s4 ∧ v11 = .int .i64 (k : Int) ∧ k ≤ y.1.names.length ∧ Hid (s4 = str (X1 ++ (y.1.names.take k).flatMap nmT)) ∧ Ext W4 wx) (fun _ v11 _ => y.1.names.length - (intOf v11).toNat)
      case atStart => exact ⟨0, _, rfl, rfl, Nat.zero_le _, Lib.hid (by rw [HS3.out]; simp), hxk⟩
      case round =>
       clear hxk HS3
       obtain ⟨k, s4, rfl, rfl, hk, HS4, hxk⟩ := hrel
       have r0 := (row_facts (HROW.out _ hxk) 0 _ rfl).1
       by_cases hkt : k < y.1.names.length
       ·have hnr := HNR.out.ext (hx1.tr (hx14.tr hxk))
        rw [strC_fm] at hnr
        obtain ⟨ba, ga, hBa, _, hc2⟩ := hnr.row (sz := 1) (fun _ => rfl) (by omega) hkt
        have u0 : wr.cell? ⟨ba, ga + k, none⟩ = some (.string (str y.1.names[k])) := by have := hc2 0 _ rfl; simpa using this
        have k0 : (0 : Int) ≤ (k : Int) := by omega
        have k1 : (k : Int) < (y.1.names.length : Int) := by omega
        have hkj : IntKind.i64.wrap ((k : Int) + 1) = ((k + 1 : Nat) : Int) := by rw [IntKind.wrap_i64]; omega
        have hnn := HNN.out _ (List.getElem_mem hkt)
        have hnb := HNB.out _ (List.getElem_mem hkt)
        have hle := fmT_le nmT y.1.names k
        have HFT := Lib.hid (fmT_take nmT y.1.names k hkt)
        obtain ⟨z, hz⟩ : ∃ z, z = y.1.names[k] := ⟨_, rfl⟩
        rw [← hz] at u0 hnn hnb HFT
        obtain ⟨D, hD⟩ : ∃ D, D = X1 ++ (y.1.names.take k).flatMap nmT := ⟨_, rfl⟩
        have hDl : D.length ≤ 140737488355328 := by rw [hD, List.length_append]; omega
        rw [← hD] at HS4
        have HDD := Lib.hid hD
        have CQ := Lib.hid (fun w => rquoted_c z hnn w)
        have hal := argT_len (x := .txt z) hnb
        obtain ⟨f1, f2, f3, hf3, d1, d2, d3⟩ := catL1 D [110, 97, 109, 101] (argT (.txt z)) [59, 10] (by simp only [List.length_cons, List.length_nil]; omega)
        obtain ⟨qi, ei⟩ : ∃ s, s = str (argT (.txt z)) := ⟨_, rfl⟩
        obtain ⟨tz, htz⟩ : ∃ s, s = str z := ⟨_, rfl⟩
        rw [← HS4.out] at d1
        rw [← ei] at d2 CQ
        rw [← htz] at u0 CQ
        have HF3 := Lib.hid hf3
        rw [hBa] at r0
        clear hc2 hz hD hf3 ei hBa hle hnn hnb hnr hal htz
        go_wp2_with (go_at_call 44; refine (CQ.out _).mono ?_; rintro e' w5 ⟨rfl, hx5⟩)
        go_roundw
        case rel => exact ⟨k + 1, f3, rfl, by simp, by omega, Lib.hid (by rw [HF3.out, HFT.out, HDD.out]; simp [nmT, lineT_1, semi]), hxk.tr hx5⟩
        case measure => simp [intOf]; omega
       ·have k1 : ¬ (k : Int) < (y.1.names.length : Int) := by omega
        have r1 := (row_facts (HROW.out _ hxk) 1 _ rfl).1
        obtain ⟨D, hD⟩ : ∃ D, D = X1 ++ y.1.names.flatMap nmT := ⟨_, rfl⟩
        have HS4 : Hid (s4 = str D) := Lib.hid (by rw [HS4.out, show k = y.1.names.length from by omega, List.take_length, hD])
        obtain ⟨Q5, hQ5⟩ : ∃ Q5, Q5 = Q ++ [115, 101, 114, 118, 101, 114, 32, 123, 10] ++ y.1.names.flatMap nmT ++ dfT y.1.dflt := ⟨_, rfl⟩
        have HLKD : Hid (Lk D (Q ++ [115, 101, 114, 118, 101, 114, 32, 123, 10] ++ y.1.names.flatMap nmT)) := Lib.hid (by rw [hD]; exact HLK1.out.app _)
        have HSR : Hid (Q5 ++ y.1.locs.flatMap loT ++ [125, 10] = P0 ++ srL S (m + 1)) := Lib.hid (by rw [HSS.out, ← List.append_assoc, ← HQQ.out, hQ5]; simp [srT, lineT_0, beg, shut])
        have hDl : D.length + ((dfT y.1.dflt).length + (y.1.locs.flatMap loT).length + 2) ≤ 140737488355328 := by rw [hD]; simp only [List.length_append]; omega
        have hQ5l : Q5.length + ((y.1.locs.flatMap loT).length + 2) ≤ 140737488355328 := by rw [hQ5]; simp only [List.length_append, List.length_cons, List.length_nil]; omega
        have HQ5 := Lib.hid hQ5
        clear hD hQ5 HLK1 HSS HQQ
        cases hdf : y.1.dflt with
        | false =>
         have HLK5 : Hid (Lk D Q5) := Lib.hid (by rw [HQ5.out, hdf]; unfold dfT; simpa using HLKD.out)
         have HS5 := HS4
         clear HQ5 HLKD HS4
         rw [hdf] at r1 HROW hDl
         clear hdf
         go_upto_region 26 with (fail)
         go_wp2
         go_loopw [5, 12] (fun v5 v12 wx => ∃ (k : Nat) (s6 : ByteArray) (X6 : List UInt8), v5 = .string s6 ∧ v12 = .int .i64 (k : Int) ∧ k ≤ y.1.locs.length ∧ Hid (s6 = str X6) ∧ Hid (Lk X6 (Q5 ++ (y.1.locs.take k).flatMap loT)) ∧ Ext W4 wx) (fun _ v12 _ => y.1.locs.length - (intOf v12).toNat)
         case atStart => exact ⟨0, _, _, rfl, rfl, Nat.zero_le _, HS5, Lib.hid (by simpa using HLK5.out), hxk⟩
         case round =>
          clear hxk HS5 HLK5
          obtain ⟨k, s6, X6, rfl, rfl, hk, HS6, HLK6, hxk⟩ := hrel
          have r2 := (row_facts (HROW.out _ hxk) 2 _ rfl).1
          have hlk := HLK6.out.le
          have hfl := fmT_le loT y.1.locs k
          rw [List.length_append] at hlk
          have hX6 : X6.length ≤ 140737488355328 := by omega
          have hsz : s6.size = X6.length := by rw [HS6.out, str_size]
          by_cases hkt : k < y.1.locs.length
          ·have k0 : (0 : Int) ≤ (k : Int) := by omega
           have k1 : (k : Int) < (y.1.locs.length : Int) := by omega
           have kd : decide ((k : Int) < (y.1.locs.length : Int)) = true := by rw [decide_eq_true_eq]; omega
           by_cases hbig : X6.length ≤ 65536
           ·have hb1 : decide ((s6.size : Int) ≤ 65536) = true := by rw [decide_eq_true_eq]; omega
            have hb2 : (s6.size : Int) ≤ 65536 := by omega
            have hb3 : s6.size ≤ 9223372036854775807 := by omega
            obtain ⟨ba, ga, hBa, _, hc2⟩ := (HLR.out.ext (hx1.tr (hx14.tr hxk))).row (sz := 12) (fun _ => rfl) (by omega) hkt
            have hkj : IntKind.i64.wrap ((k : Int) + 1) = ((k + 1 : Nat) : Int) := by rw [IntKind.wrap_i64]; omega
            have hln := HLN.out _ (List.getElem_mem hkt)
            have hlw := HLW.out _ (List.getElem_mem hkt)
            have HFT := Lib.hid (fmT_take loT y.1.locs k hkt)
            have hfl2 := fmT_le1 loT y.1.locs k hkt
            obtain ⟨z, hz⟩ : ∃ z, z = y.1.locs[k] := ⟨_, rfl⟩
            rw [← hz] at hc2 hln hlw HFT hfl2
            have u0 : wr.cell? ⟨ba, ga + k * 12, none⟩ = some (.string (str z.pre)) := hc2 0 _ rfl
            have u1 : wr.cell? ⟨ba, ga + k * 12 + 1, none⟩ = some (.int .i64 z.kind) := hc2 1 _ rfl
            have u2 : wr.cell? ⟨ba, ga + k * 12 + 2, none⟩ = some (.string (str z.root)) := hc2 2 _ rfl
            have u3 : wr.cell? ⟨ba, ga + k * 12 + 3, none⟩ = some (.string (str z.index)) := hc2 3 _ rfl
            have u4 : wr.cell? ⟨ba, ga + k * 12 + 4, none⟩ = some (.int .i64 z.gzip) := hc2 4 _ rfl
            have u5 : wr.cell? ⟨ba, ga + k * 12 + 5, none⟩ = some (.int .i64 z.expires) := hc2 5 _ rfl
            have u6 : wr.cell? ⟨ba, ga + k * 12 + 6, none⟩ = some (.string (str z.up)) := hc2 6 _ rfl
            have u7 : wr.cell? ⟨ba, ga + k * 12 + 7, none⟩ = some (.bool z.cache) := hc2 7 _ rfl
            have u8 : wr.cell? ⟨ba, ga + k * 12 + 8, none⟩ = some (.int .i64 z.rate) := hc2 8 _ rfl
            have u9 : wr.cell? ⟨ba, ga + k * 12 + 9, none⟩ = some (.int .i64 z.burst) := hc2 9 _ rfl
            have ua : wr.cell? ⟨ba, ga + k * 12 + 10, none⟩ = some (.int .i64 z.status) := hc2 10 _ rfl
            have ub : wr.cell? ⟨ba, ga + k * 12 + 11, none⟩ = some (.string (str z.goal)) := hc2 11 _ rfl
            have CLT := Lib.hid (fun w => rltext_c z hln hlw.1 hlw.2 w)
            unfold LoV at CLT
            obtain ⟨t7, ht7⟩ : ∃ t, t = str (loT z) := ⟨_, rfl⟩
            rw [← ht7] at CLT
            obtain ⟨s7, hs7⟩ : ∃ s, s = str (X6 ++ loT z) := ⟨_, rfl⟩
            have d1 : ∀ w, (Op.stringOp .add s6 t7).run Tryz.prog w = .ok (.string s7) w := fun w => by rw [HS6.out, hs7, ht7]; exact catS X6 (loT z) (by omega) w
            have HS7 := Lib.hid hs7
            rw [hBa] at r2
            clear hc2 hz ht7 hs7 hBa hsz hfl hfl2 hln hlw
            go_wp2_with (go_at_call 45; refine (CLT.out _).mono ?_; rintro e' w7 ⟨rfl, hx7⟩)
            go_roundw
            case rel => exact ⟨k + 1, s7, X6 ++ loT z, rfl, by simp, by omega, HS7, Lib.hid (by rw [HFT.out, ← List.append_assoc]; exact HLK6.out.app _), hxk.tr hx7⟩
            case measure => simp [intOf]; omega
           ·have hb1 : decide ((s6.size : Int) ≤ 65536) = false := by rw [decide_eq_false_iff_not]; omega
            have hb2 : ¬ (s6.size : Int) ≤ 65536 := by omega
            have hb3 : s6.size ≤ 9223372036854775807 := by omega
            clear hsz
            have HLKE := Lib.hid (lk_end HLK6.out (by omega))
            obtain ⟨s8, hs8⟩ : ∃ s, s = str (X6 ++ [125, 10]) := ⟨_, rfl⟩
            have d1 : ∀ w, (Op.stringOp .add s6 ⟨#[125, 10]⟩).run Tryz.prog w = .ok (.string s8) w := fun w => by rw [HS6.out, hs8]; exact catS X6 [125, 10] (by simp only [List.length_cons, List.length_nil]; omega) w
            have HS8 := Lib.hid hs8
            clear hs8 HLK6 HS6
            go_wp2
            clear d1
            go_roundw
            case rel => exact ⟨m + 1, s8, X6 ++ [125, 10], rfl, by simp, by omega, HS8, Lib.hid (by rw [← HSR.out]; exact HLKE.out.app _), hx4.tr hxk⟩
            case measure => simp [intOf]; omega
          ·have k1 : ¬ (k : Int) < (y.1.locs.length : Int) := by omega
           have kd : decide ((k : Int) < (y.1.locs.length : Int)) = false := by rw [decide_eq_false_iff_not]; omega
           clear hsz
           have HLKE := Lib.hid (show Lk X6 (Q5 ++ y.1.locs.flatMap loT) by have := HLK6.out; rw [show k = y.1.locs.length from by omega, List.take_length] at this; exact this)
           obtain ⟨s8, hs8⟩ : ∃ s, s = str (X6 ++ [125, 10]) := ⟨_, rfl⟩
           have d1 : ∀ w, (Op.stringOp .add s6 ⟨#[125, 10]⟩).run Tryz.prog w = .ok (.string s8) w := fun w => by rw [HS6.out, hs8]; exact catS X6 [125, 10] (by simp only [List.length_cons, List.length_nil]; omega) w
           have HS8 := Lib.hid hs8
           clear hs8 HLK6 HS6
           go_wp2
           clear d1
           go_roundw
           case rel => exact ⟨m + 1, s8, X6 ++ [125, 10], rfl, by simp, by omega, HS8, Lib.hid (by rw [← HSR.out]; exact HLKE.out.app _), hx4.tr hxk⟩
           case measure => simp [intOf]; omega
        | true =>
         have HLK5 : Hid (Lk (D ++ [100, 101, 102, 97, 117, 108, 116, 59, 10]) Q5) := Lib.hid (by rw [HQ5.out, hdf]; have := HLKD.out.app [100, 101, 102, 97, 117, 108, 116, 59, 10]; exact this)
         obtain ⟨e1, e2, he2, d1, d2⟩ := catL0 D [100, 101, 102, 97, 117, 108, 116] [59, 10] (by simp only [List.length_cons, List.length_nil]; omega)
         have HS5 : Hid (e2 = str (D ++ [100, 101, 102, 97, 117, 108, 116, 59, 10])) := Lib.hid he2
         rw [← HS4.out] at d1
         clear HQ5 HLKD HS4 he2
         rw [hdf] at r1 HROW hDl
         clear hdf
         go_upto_region 26 with (fail)
         go_wp2
         go_loopw [5, 12] (fun v5 v12 wx => ∃ (k : Nat) (s6 : ByteArray) (X6 : List UInt8), v5 = .string s6 ∧ v12 = .int .i64 (k : Int) ∧ k ≤ y.1.locs.length ∧ Hid (s6 = str X6) ∧ Hid (Lk X6 (Q5 ++ (y.1.locs.take k).flatMap loT)) ∧ Ext W4 wx) (fun _ v12 _ => y.1.locs.length - (intOf v12).toNat)
         case atStart => exact ⟨0, _, _, rfl, rfl, Nat.zero_le _, HS5, Lib.hid (by simpa using HLK5.out), hxk⟩
         case round =>
          clear hxk HS5 HLK5
          obtain ⟨k, s6, X6, rfl, rfl, hk, HS6, HLK6, hxk⟩ := hrel
          have r2 := (row_facts (HROW.out _ hxk) 2 _ rfl).1
          have hlk := HLK6.out.le
          have hfl := fmT_le loT y.1.locs k
          rw [List.length_append] at hlk
          have hX6 : X6.length ≤ 140737488355328 := by omega
          have hsz : s6.size = X6.length := by rw [HS6.out, str_size]
          by_cases hkt : k < y.1.locs.length
          ·have k0 : (0 : Int) ≤ (k : Int) := by omega
           have k1 : (k : Int) < (y.1.locs.length : Int) := by omega
           have kd : decide ((k : Int) < (y.1.locs.length : Int)) = true := by rw [decide_eq_true_eq]; omega
           by_cases hbig : X6.length ≤ 65536
           ·have hb1 : decide ((s6.size : Int) ≤ 65536) = true := by rw [decide_eq_true_eq]; omega
            have hb2 : (s6.size : Int) ≤ 65536 := by omega
            have hb3 : s6.size ≤ 9223372036854775807 := by omega
            obtain ⟨ba, ga, hBa, _, hc2⟩ := (HLR.out.ext (hx1.tr (hx14.tr hxk))).row (sz := 12) (fun _ => rfl) (by omega) hkt
            have hkj : IntKind.i64.wrap ((k : Int) + 1) = ((k + 1 : Nat) : Int) := by rw [IntKind.wrap_i64]; omega
            have hln := HLN.out _ (List.getElem_mem hkt)
            have hlw := HLW.out _ (List.getElem_mem hkt)
            have HFT := Lib.hid (fmT_take loT y.1.locs k hkt)
            have hfl2 := fmT_le1 loT y.1.locs k hkt
            obtain ⟨z, hz⟩ : ∃ z, z = y.1.locs[k] := ⟨_, rfl⟩
            rw [← hz] at hc2 hln hlw HFT hfl2
            have u0 : wr.cell? ⟨ba, ga + k * 12, none⟩ = some (.string (str z.pre)) := hc2 0 _ rfl
            have u1 : wr.cell? ⟨ba, ga + k * 12 + 1, none⟩ = some (.int .i64 z.kind) := hc2 1 _ rfl
            have u2 : wr.cell? ⟨ba, ga + k * 12 + 2, none⟩ = some (.string (str z.root)) := hc2 2 _ rfl
            have u3 : wr.cell? ⟨ba, ga + k * 12 + 3, none⟩ = some (.string (str z.index)) := hc2 3 _ rfl
            have u4 : wr.cell? ⟨ba, ga + k * 12 + 4, none⟩ = some (.int .i64 z.gzip) := hc2 4 _ rfl
            have u5 : wr.cell? ⟨ba, ga + k * 12 + 5, none⟩ = some (.int .i64 z.expires) := hc2 5 _ rfl
            have u6 : wr.cell? ⟨ba, ga + k * 12 + 6, none⟩ = some (.string (str z.up)) := hc2 6 _ rfl
            have u7 : wr.cell? ⟨ba, ga + k * 12 + 7, none⟩ = some (.bool z.cache) := hc2 7 _ rfl
            have u8 : wr.cell? ⟨ba, ga + k * 12 + 8, none⟩ = some (.int .i64 z.rate) := hc2 8 _ rfl
            have u9 : wr.cell? ⟨ba, ga + k * 12 + 9, none⟩ = some (.int .i64 z.burst) := hc2 9 _ rfl
            have ua : wr.cell? ⟨ba, ga + k * 12 + 10, none⟩ = some (.int .i64 z.status) := hc2 10 _ rfl
            have ub : wr.cell? ⟨ba, ga + k * 12 + 11, none⟩ = some (.string (str z.goal)) := hc2 11 _ rfl
            have CLT := Lib.hid (fun w => rltext_c z hln hlw.1 hlw.2 w)
            unfold LoV at CLT
            obtain ⟨t7, ht7⟩ : ∃ t, t = str (loT z) := ⟨_, rfl⟩
            rw [← ht7] at CLT
            obtain ⟨s7, hs7⟩ : ∃ s, s = str (X6 ++ loT z) := ⟨_, rfl⟩
            have d1 : ∀ w, (Op.stringOp .add s6 t7).run Tryz.prog w = .ok (.string s7) w := fun w => by rw [HS6.out, hs7, ht7]; exact catS X6 (loT z) (by omega) w
            have HS7 := Lib.hid hs7
            rw [hBa] at r2
            clear hc2 hz ht7 hs7 hBa hsz hfl hfl2 hln hlw
            go_wp2_with (go_at_call 45; refine (CLT.out _).mono ?_; rintro e' w7 ⟨rfl, hx7⟩)
            go_roundw
            case rel => exact ⟨k + 1, s7, X6 ++ loT z, rfl, by simp, by omega, HS7, Lib.hid (by rw [HFT.out, ← List.append_assoc]; exact HLK6.out.app _), hxk.tr hx7⟩
            case measure => simp [intOf]; omega
           ·have hb1 : decide ((s6.size : Int) ≤ 65536) = false := by rw [decide_eq_false_iff_not]; omega
            have hb2 : ¬ (s6.size : Int) ≤ 65536 := by omega
            have hb3 : s6.size ≤ 9223372036854775807 := by omega
            clear hsz
            have HLKE := Lib.hid (lk_end HLK6.out (by omega))
            obtain ⟨s8, hs8⟩ : ∃ s, s = str (X6 ++ [125, 10]) := ⟨_, rfl⟩
            have d1 : ∀ w, (Op.stringOp .add s6 ⟨#[125, 10]⟩).run Tryz.prog w = .ok (.string s8) w := fun w => by rw [HS6.out, hs8]; exact catS X6 [125, 10] (by simp only [List.length_cons, List.length_nil]; omega) w
            have HS8 := Lib.hid hs8
            clear hs8 HLK6 HS6
            go_wp2
            clear d1
            go_roundw
            case rel => exact ⟨m + 1, s8, X6 ++ [125, 10], rfl, by simp, by omega, HS8, Lib.hid (by rw [← HSR.out]; exact HLKE.out.app _), hx4.tr hxk⟩
            case measure => simp [intOf]; omega
          ·have k1 : ¬ (k : Int) < (y.1.locs.length : Int) := by omega
           have kd : decide ((k : Int) < (y.1.locs.length : Int)) = false := by rw [decide_eq_false_iff_not]; omega
           clear hsz
           have HLKE := Lib.hid (show Lk X6 (Q5 ++ y.1.locs.flatMap loT) by have := HLK6.out; rw [show k = y.1.locs.length from by omega, List.take_length] at this; exact this)
           obtain ⟨s8, hs8⟩ : ∃ s, s = str (X6 ++ [125, 10]) := ⟨_, rfl⟩
           have d1 : ∀ w, (Op.stringOp .add s6 ⟨#[125, 10]⟩).run Tryz.prog w = .ok (.string s8) w := fun w => by rw [HS6.out, hs8]; exact catS X6 [125, 10] (by simp only [List.length_cons, List.length_nil]; omega) w
           have HS8 := Lib.hid hs8
           clear hs8 HLK6 HS6
           go_wp2
           clear d1
           go_roundw
           case rel => exact ⟨m + 1, s8, X6 ++ [125, 10], rfl, by simp, by omega, HS8, Lib.hid (by rw [← HSR.out]; exact HLKE.out.app _), hx4.tr hxk⟩
           case measure => simp [intOf]; omega
     ·have i1 : ¬ (m : Int) < (S.length : Int) := by omega
      have HLE : Hid (Lk L (textC c)) := Lib.hid (by have := HLK.out; rw [show m = S.length from by omega, HTA.out] at this; exact this)
      have hLl := HLE.out.le
      have hsz : s2.size = L.length := by rw [HS2.out, str_size]
      by_cases hsm : L.length ≤ 65536
      ·have hb1 : decide ((65536 : Int) < (s2.size : Int)) = false := by rw [decide_eq_false_iff_not]; omega
       have hb2 : ¬ (65536 : Int) < (s2.size : Int) := by omega
       have hb3 : s2.size ≤ 9223372036854775807 := by omega
       have HTE : Hid (textR c = (L, 0)) := Lib.hid (by rw [HT.out, ← HLE.out.small hsm, if_pos hsm])
       clear hsz
       go_wp2
       go_ret2
       exact ⟨ret_tup2 (by rw [HTE.out, ← HS2.out]) (by rw [HTE.out]), hx1.tr hxm⟩
      ·have hb1 : decide ((65536 : Int) < (s2.size : Int)) = true := by rw [decide_eq_true_eq]; omega
       have hb2 : (65536 : Int) < (s2.size : Int) := by omega
       have hb3 : s2.size ≤ 9223372036854775807 := by omega
       have HTE : Hid (textR c = ([], 6)) := Lib.hid (by rw [HT.out, if_neg (by omega)])
       clear hsz
       go_wp2
       go_ret2
       exact ⟨ret_tup2 (by rw [HTE.out]; rfl) (by rw [HTE.out]), hx1.tr hxm⟩
end Go.Proofs.YtmnohicojefhfaaGreatDoor
end
