/-
Static: the file of a path (find).
-/
import Derived.Test.YtemdgilifnhdpaaGreatDoorZau
import Derived.Test.YtemdgilifnhdpaaGreatDoorZaj
import Derived.Test.YtemdgilifnhdpaaGreatDoorZay
set_option linter.unusedVariables false
set_option linter.unusedSimpArgs false
namespace Go.Proofs.YtemdgilifnhdpaaGreatDoor
open Go.RowKit

theorem rsn_c (n : Int) (h : n = 301 ∨ n = 400 ∨ n = 404 ∨ n = 405 ∨ n = 412 ∨ n = 416) (w : World) (hM : Ev.MxE w) : Calls Tryz.prog 58 #[.int .i64 n] w (Gives (.string (str (rsnS n))) w) := by
  rcases h with rfl | rfl | rfl | rfl | rfl | rfl
  · exact reason301_c w hM
  · exact reason400_c w hM
  · exact reason404_c w hM
  · exact reason405_c w hM
  · exact reason412_c w hM
  · exact reason416_c w hM
theorem rsn_len (n : Int) : (rsnS n).length ≤ 100 := by
  unfold rsnS
  repeat' split
  all_goals simp
def plainF (n : Int) (path : List UInt8) : List Fld := if n = 301 then [locF path, ctF] else [ctF]
def locC (pre root index : List UInt8) (kd : Int) (a4 : Value) (ex : Int) (a6 a7 a8 a9 a10 a11 : Value) : Array Value := #[.string (str pre), .int .i64 kd, .string (str root), .string (str index), a4, .int .i64 ex, a6, a7, a8, a9, a10, a11]
def FoundV (k P : Nat) (path : List UInt8) (ex : Int) (v : Value) (w w' : World) (o' : Ow) : (List UInt8 × Fil) ⊕ Int → Prop
  | .inr n => v = .pointer none ∧ ∃ A c B d, AnAt w' o' k P (plainF n path) n (.slice B ((rsnS n).length + 1) d) false A c
  | .inl (nm, f) => ∃ p A c, v = .pointer (some ⟨p, 0, none⟩) ∧ w.heap.size ≤ p ∧ o' p = k + 6 ∧ w'.heap[p]? = some (.cells #[.string (str nm), .slice A f.b.length c, .int .i64 f.mt, .bool false, .string (str (tagL f.b.length f.mt (f.ve : Int))), .int .i64 ex] 85 (0, 0)) ∧ Sl w' o' (k + 3) 1 A f.b.length c (bc f.b) ∧ (A = none → c = 0) ∧ AnAt w' o' k P [] 0 (.slice none 0 0) false none 0
def FindTo (k P : Nat) (s : Wrl) (pre root index path : List UInt8) (ex : Int) (w : World) (o : Ow) (e : Ending) (w' : World) : Prop :=
  ∃ v o', e = .returned v ∧ Stp (fun i => i = k ∨ i = k + 1) w o w' o' ∧ FoundV k P path ex v w w' o' (findS s pre root index path)
set_option maxRecDepth 100000 in
set_option maxHeartbeats 4000000 in
theorem stFind_400 (k P kw pw : Nat) (s : Wrl) (hk : Wok s) (pre root index path : List UInt8) (hp1 : pre.length ≤ 140737488351232) (hp2 : root.length ≤ 140737488351232) (hp3 : index.length ≤ 140737488351232) (hp4 : path.length ≤ 140737488351232) (kd : Int) (a4 : Value) (ex : Int) (a6 a7 a8 a9 a10 a11 : Value) (w : World) (o : Ow) (h : AnAt w o k P [] 0 (.slice none 0 0) false none 0) (hw : WdAt w o kw pw s) (hM : ∀ w' o', Stp (fun i => i = k ∨ i = k + 1) w o w' o' → Ev.MxE w') (hE : ErrR w) (hr : resU path = ([], 40)) :
    Calls Tryz.prog 29 #[.pointer (some ⟨P, 0, none⟩), .pointer (some ⟨pw, 0, none⟩), .agg (locC pre root index kd a4 ex a6 a7 a8 a9 a10 a11), .string (str path)] w (FindTo k P s pre root index path ex w o) := by
  have HF := Lib.hid (show findS s pre root index path = .inr 400 from by unfold findS askS; rw [hr]; simp)
  obtain ⟨W0, hW0⟩ : ∃ W, W = w.alloc (.cells (locC pre root index kd a4 ex a6 a7 a8 a9 a10 a11) 39) := ⟨_, rfl⟩
  obtain ⟨o1, ho1⟩ : ∃ o1 : Ow, o1 = fun x => if x < w.heap.size then o x else k + 6 := ⟨_, rfl⟩
  have hx0 : Ext w W0 := by rw [hW0]; (repeat (first | exact Ext.rfl' _ | assumption | refine Ext.dr ?_ | refine Ext.drN ?_ _ | refine Ext.al ?_ _ | refine Ext.st ?_ (by simp) _ | refine Ext.tr ?_ (by assumption)))
  have hr0 : W0.heap[w.heap.size]? = some (.cells (locC pre root index kd a4 ex a6 a7 a8 a9 a10 a11) 39 (0, 0)) := by rw [hW0]; exact heap_alloc_new w _
  have HL := Lib.hid (fun w' (e : Ext W0 w') => (show w'.cell? ⟨w.heap.size, 0, none⟩ = some (.string (str pre)) ∧ w'.cell? ⟨w.heap.size, 2, none⟩ = some (.string (str root)) ∧ w'.cell? ⟨w.heap.size, 3, none⟩ = some (.string (str index)) ∧ w'.cell? ⟨w.heap.size, 5, none⟩ = some (.int .i64 ex) from by
    have r := (e.block _ (row_lt hr0)).trans hr0
    exact ⟨(row_facts r 0 _ rfl).1, (row_facts r 2 _ rfl).1, (row_facts r 3 _ rfl).1, (row_facts r 5 _ rfl).1⟩))
  have HX0 := Lib.hid hx0
  have HS0 := Lib.hid (fun w' (e : Ext w w') => (show Stp (fun _ => False) w o w' o1 from Stp.ext2 e (fun b hb => by rw [ho1]; exact if_pos hb)))
  have HAN := Lib.hid (fun w' (e : Ext w w') => h.stp (HS0.out w' e) (fun x => x) (fun x => x))
  have HWD := Lib.hid (fun w' (e : Ext w w') => hw.stp (HS0.out w' e) (fun x => x) (fun x => x) (fun x => x))
  have HMX := Lib.hid (fun w' (e : Ext w w') => hM w' o (Stp.ext e))
  have HMS := Lib.hid hM
  have HER := Lib.hid hE
  have HOK := Lib.hid hk
  have HO1 := Lib.hid (fun b (hb : w.heap.size ≤ b) => (show o1 b = k + 6 from by rw [ho1]; exact if_neg (by omega)))
  have CR := Lib.hid (fun w' (e : Ext w w') => uResolve_c path (by omega) w' (hE.ext e))
  have HW0 := Lib.hid hW0
  have hP := row_lt h.row
  rw [hr] at CR
  clear h hw hM hE hr hW0 hr0 ho1 hx0
  unfold locC at HW0 ⊢
  go_enter Tryz.func29, Tryz.ntmps29
  go_upto_region 1 with (fail)
  rw [← HW0.out]
  go_wp2_with (first
    | (go_at_call 59; refine (CR.out _ (HX0.out.tr (by (repeat (first | exact Ext.rfl' _ | assumption | refine Ext.dr ?_ | refine Ext.drN ?_ _ | refine Ext.al ?_ _ | refine Ext.st ?_ (by simp) _ | refine Ext.tr ?_ (by assumption)))))).mono ?_; rintro e w1 ⟨rfl, hx1⟩)
    | (go_at_call 28; refine (stPlain_c 400 (rsnS 400) (rsn_len _) k P [] (by simp) 0 (.slice none 0 0) false none 0 _ o1 (HAN.out _ (HX0.out.tr (by (repeat (first | exact Ext.rfl' _ | assumption | refine Ext.dr ?_ | refine Ext.drN ?_ _ | refine Ext.al ?_ _ | refine Ext.st ?_ (by simp) _ | refine Ext.tr ?_ (by assumption)))))) (fun w' e => rsn_c 400 (by decide) w' (HMX.out w' (HX0.out.tr (Ext.tr (by (repeat (first | exact Ext.rfl' _ | assumption | refine Ext.dr ?_ | refine Ext.drN ?_ _ | refine Ext.al ?_ _ | refine Ext.st ?_ (by simp) _ | refine Ext.tr ?_ (by assumption)))) e))))).mono ?_; rintro e w9 ⟨rfl, o9, A9, c9, B9, d9, hn9, st9⟩))
  go_ret
  refine ⟨_, o9, rfl, ((HS0.out _ (HX0.out.tr (by (repeat (first | exact Ext.rfl' _ | assumption | refine Ext.dr ?_ | refine Ext.drN ?_ _ | refine Ext.al ?_ _ | refine Ext.st ?_ (by simp) _ | refine Ext.tr ?_ (by assumption)))))).mono (fun _ h => h.elim)).tr st9, ?_⟩
  rw [HF.out]
  exact ⟨rfl, A9, c9, B9, d9, hn9⟩
set_option maxRecDepth 100000 in
set_option maxHeartbeats 4000000 in
theorem stFind_in (k P kw pw : Nat) (s : Wrl) (hk : Wok s) (pre root index path : List UInt8) (hp1 : pre.length ≤ 140737488351232) (hp2 : root.length ≤ 140737488351232) (hp3 : index.length ≤ 140737488351232) (hp4 : path.length ≤ 140737488351232) (kd : Int) (a4 : Value) (ex : Int) (a6 a7 a8 a9 a10 a11 : Value) (w : World) (o : Ow) (h : AnAt w o k P [] 0 (.slice none 0 0) false none 0) (hw : WdAt w o kw pw s) (hM : ∀ w' o', Stp (fun i => i = k ∨ i = k + 1) w o w' o' → Ev.MxE w') (hE : ErrR w) (r : List UInt8) (hr : resU path = (r, 0)) (hpre : Lib.hasPrefix r pre = true) (nm : List UInt8)
    (hnm : (Lib.hasSuffix (nameS pre root r) [47] = false ∧ nm = nameS pre root r) ∨ (Lib.hasSuffix (nameS pre root r) [47] = true ∧ index ≠ [] ∧ nm = nameS pre root r ++ index)) (hask : askS pre root index path = .inl (some nm)) :
    Calls Tryz.prog 29 #[.pointer (some ⟨P, 0, none⟩), .pointer (some ⟨pw, 0, none⟩), .agg (locC pre root index kd a4 ex a6 a7 a8 a9 a10 a11), .string (str path)] w (FindTo k P s pre root index path ex w o) := by
  obtain ⟨W0, hW0⟩ : ∃ W, W = w.alloc (.cells (locC pre root index kd a4 ex a6 a7 a8 a9 a10 a11) 39) := ⟨_, rfl⟩
  obtain ⟨o1, ho1⟩ : ∃ o1 : Ow, o1 = fun x => if x < w.heap.size then o x else k + 6 := ⟨_, rfl⟩
  have hx0 : Ext w W0 := by rw [hW0]; (repeat (first | exact Ext.rfl' _ | assumption | refine Ext.dr ?_ | refine Ext.drN ?_ _ | refine Ext.al ?_ _ | refine Ext.st ?_ (by simp) _ | refine Ext.tr ?_ (by assumption)))
  have hr0 : W0.heap[w.heap.size]? = some (.cells (locC pre root index kd a4 ex a6 a7 a8 a9 a10 a11) 39 (0, 0)) := by rw [hW0]; exact heap_alloc_new w _
  have HL := Lib.hid (fun w' (e : Ext W0 w') => (show w'.cell? ⟨w.heap.size, 0, none⟩ = some (.string (str pre)) ∧ w'.cell? ⟨w.heap.size, 2, none⟩ = some (.string (str root)) ∧ w'.cell? ⟨w.heap.size, 3, none⟩ = some (.string (str index)) ∧ w'.cell? ⟨w.heap.size, 5, none⟩ = some (.int .i64 ex) from by
    have r := (e.block _ (row_lt hr0)).trans hr0
    exact ⟨(row_facts r 0 _ rfl).1, (row_facts r 2 _ rfl).1, (row_facts r 3 _ rfl).1, (row_facts r 5 _ rfl).1⟩))
  have HX0 := Lib.hid hx0
  have HS0 := Lib.hid (fun w' (e : Ext w w') => (show Stp (fun _ => False) w o w' o1 from Stp.ext2 e (fun b hb => by rw [ho1]; exact if_pos hb)))
  have HAN := Lib.hid (fun w' (e : Ext w w') => h.stp (HS0.out w' e) (fun x => x) (fun x => x))
  have HWD := Lib.hid (fun w' (e : Ext w w') => hw.stp (HS0.out w' e) (fun x => x) (fun x => x) (fun x => x))
  have HMX := Lib.hid (fun w' (e : Ext w w') => hM w' o (Stp.ext e))
  have HMS := Lib.hid hM
  have HER := Lib.hid hE
  have HOK := Lib.hid hk
  have HO1 := Lib.hid (fun b (hb : w.heap.size ≤ b) => (show o1 b = k + 6 from by rw [ho1]; exact if_neg (by omega)))
  have CR := Lib.hid (fun w' (e : Ext w w') => uResolve_c path (by omega) w' (hE.ext e))
  have HW0 := Lib.hid hW0
  have hP := row_lt h.row
  obtain ⟨c, hc⟩ : ∃ c, c = cutP pre := ⟨_, rfl⟩
  have hcl : c ≤ r.length := by
    have h1 := cutP_le pre
    rw [hasPre_iff, decide_eq_true_eq] at hpre
    have := hpre.length_le
    omega
  obtain ⟨j, hj⟩ : ∃ j, j = Lib.lastIndexByte (str pre) 47 := ⟨_, rfl⟩
  have hjc : (j = -1 ∧ c = 0) ∨ j = (c : Int) := by
    rcases cutP_at pre with ⟨h1, h2⟩ | ⟨h1, h2⟩
    · exact .inl ⟨by rw [hj, h1], by rw [hc, h2]⟩
    · exact .inr (by rw [hj, h1, hc])
  have hjm : max (0 : Int) j = (c : Int) := by omega
  have hin := resU_in hr
  have SP := Lib.hid (fun w => Tryz.strings_HasPrefix (str r) (str pre) w)
  rw [str_data, str_data, hpre] at SP
  have ST := Lib.hid (fun w => Tryz.strings_TrimSuffix (str root) ⟨#[47]⟩ w (by rw [str_size]; omega))
  rw [str_data] at ST
  obtain ⟨tr, htr⟩ : ∃ tr, tr = Lib.trimSuffix root [47] := ⟨_, rfl⟩
  have htl : tr.length ≤ root.length := by rw [htr]; exact trimS_len root
  have ST := Lib.hid (fun w => (show Calls Tryz.prog 61 #[.string (str root), .string ⟨#[47]⟩] w fun e w' => e = .returned (.string (str tr)) ∧ w' = w from by rw [htr]; exact ST.out w))
  have CL := LastIB_c pre (by omega) 47
  rw [show (((47 : UInt8).toNat : Nat) : Int) = 47 from rfl, ← hj] at CL
  have CL := Lib.hid (fun w => (CL w).mono fun _ _ h => (⟨h.1, h.2.symm⟩ : _ ∧ _))
  have hsl := str_drop r c hcl
  have hz : (str r).size = r.length := str_size r
  have hn0 : nameS pre root r = tr ++ r.drop c := by unfold nameS; rw [htr, hc]
  obtain ⟨n, hn⟩ : ∃ x, x = r.length := ⟨_, rfl⟩
  have hnb : n ≤ 4096 := by omega
  have hcat : ∀ w, (Op.stringOp .add (str tr) (str (r.drop c))).run Tryz.prog w = .ok (.string (str (tr ++ r.drop c))) w := fun w => by
    rw [cat_ok _ _ (by rw [str_size, str_size, List.length_drop]; omega)]; simp
  obtain ⟨sr, hsr⟩ : ∃ x, x = str r := ⟨_, rfl⟩
  obtain ⟨st, hst⟩ : ∃ x, x = str tr := ⟨_, rfl⟩
  obtain ⟨sd, hsd⟩ : ∃ x, x = str (r.drop c) := ⟨_, rfl⟩
  obtain ⟨nm0, hnm0⟩ : ∃ x, x = tr ++ r.drop c := ⟨_, rfl⟩
  have hnl0 : nm0.length ≤ 140737488355328 := by rw [hnm0, List.length_append, List.length_drop]; omega
  obtain ⟨sn, hsn⟩ : ∃ x, x = str nm0 := ⟨_, rfl⟩
  rw [← hnm0, ← hsn, ← hst, ← hsd] at hcat
  rw [← hsd, ← hsr, ← hn] at hsl
  rw [← hsr, ← hn] at hz
  rw [← hsr] at SP
  rw [← hst] at ST
  have hcn : (c : Int) ≤ (n : Int) := by omega
  have hc0 : (0 : Int) ≤ (c : Int) := by omega
  rw [← hnm0] at hn0
  have CR := Lib.hid (fun w' (e : Ext w w') => (show Calls Tryz.prog 59 #[.string (str path)] w' (Gives (.tuple #[.string sr, .int .i64 0]) w') from by
    have := CR.out w' e
    rw [hr] at this
    rw [hsr]; exact this))
  have HSN := Lib.hid hsn
  have HN0 := Lib.hid hn0
  clear hsr hst hsd hnm0 hsn hn htr hj hc hjc hin hcl hn0 htl
  rw [HN0.out] at hnm
  have hnl : nm.length ≤ 281474976710656 := by
    rcases hnm with ⟨_, h⟩ | ⟨_, _, h⟩
    · rw [h]; omega
    · rw [h, List.length_append]; omega
  have SS := Lib.hid (fun w => Tryz.strings_HasSuffix (str nm0) ⟨#[47]⟩ w (by rw [str_size]; omega))
  rw [str_data] at SS
  obtain ⟨si, hsi⟩ : ∃ x, x = str index := ⟨_, rfl⟩
  rw [← hsi] at HL
  obtain ⟨sN, hsN⟩ : ∃ x, x = str nm := ⟨_, rfl⟩
  have HSI := Lib.hid hsi
  have HSNN := Lib.hid hsN
  have HNM := Lib.hid hnm
  have HASK := Lib.hid hask
  have CT := Lib.hid (fun (A : Option Addr) (n c : Nat) (mt ve : Int) w' (e : Ext w w') => stTag_c sN A n c mt ve w' (bruOf (HMX.out w' e)))
  have hnl2 := hnl
  clear h hw hM hE hr hW0 hr0 ho1 hx0 hnm hsN hsi hask
  unfold locC at HW0 ⊢
  go_enter Tryz.func29, Tryz.ntmps29
  go_upto_region 1 with (fail)
  rw [← HW0.out]
  go_upto_region 8 with (first
    | (go_at_call 59; refine (CR.out _ (HX0.out.tr (by (repeat (first | exact Ext.rfl' _ | assumption | refine Ext.dr ?_ | refine Ext.drN ?_ _ | refine Ext.al ?_ _ | refine Ext.st ?_ (by simp) _ | refine Ext.tr ?_ (by assumption)))))).mono ?_; rintro e w1 ⟨rfl, hx1⟩; obtain ⟨u0, u1, u2, u3⟩ := HL.out w1 (by (repeat (first | exact Ext.rfl' _ | assumption | refine Ext.dr ?_ | refine Ext.drN ?_ _ | refine Ext.al ?_ _ | refine Ext.st ?_ (by simp) _ | refine Ext.tr ?_ (by assumption)))))
    | (go_at_call 60; refine (SP.out _).mono ?_; rintro e w2 ⟨rfl, rfl⟩))
  go_cut [11] (fun v11 wx => v11 = .string sn ∧ Ext w2 wx)
  case first =>
    go_quiet (first
      | (go_at_call 61; exact Calls.quiet_of_same (ST.out _))
      | (go_at_call 38; exact Calls.quiet_of_same (CL.out _)))
    go_wp2_with fail
    go_meet
    exact ⟨rfl, by (repeat (first | exact Ext.rfl' _ | assumption | refine Ext.dr ?_ | refine Ext.drN ?_ _ | refine Ext.al ?_ _ | refine Ext.st ?_ (by simp) _ | refine Ext.tr ?_ (by assumption)))⟩
  case rest =>
    obtain ⟨rfl, hx8⟩ := hcut
    obtain ⟨W8, hW8⟩ : ∃ X, X = wc := ⟨_, rfl⟩
    subst hW8
    have hx08 : Ext W0 W8 := (show Ext W0 w2 by (repeat (first | exact Ext.rfl' _ | assumption | refine Ext.dr ?_ | refine Ext.drN ?_ _ | refine Ext.al ?_ _ | refine Ext.st ?_ (by simp) _ | refine Ext.tr ?_ (by assumption)))).tr hx8
    have HX8 := Lib.hid hx08
    obtain ⟨u0, u1, u2, u3⟩ := HL.out W8 hx08
    clear hx8 hx08
    clear hjm hcn hc0 hsl hz hcat
    go_step
    go_step
    go_cut [11] (fun v11 wx => v11 = .string sN ∧ Ext W8 wx)
    case first =>
      rcases HNM.out with ⟨h1, h2⟩ | ⟨h1, h2, h3⟩
      · rw [h1, ← HSN.out] at SS
        obtain rfl : sN = sn := by rw [HSNN.out, h2, HSN.out]
        clear h1 h2
        go_wp2_with (go_at_call 56; refine (SS.out _).mono ?_; rintro e w3 ⟨rfl, rfl⟩)
        go_meet
        exact ⟨rfl, by (repeat (first | exact Ext.rfl' _ | assumption | refine Ext.dr ?_ | refine Ext.drN ?_ _ | refine Ext.al ?_ _ | refine Ext.st ?_ (by simp) _ | refine Ext.tr ?_ (by assumption)))⟩
      · rw [h1, ← HSN.out] at SS
        have e1 : ¬ si.toList = [] := by rw [HSI.out, str_tl]; exact h2
        have e2 : (si.toList == []) = false := by rw [beq_eq_false_iff_ne]; exact e1
        have hcat : ∀ w, (Op.stringOp .add sn si).run Tryz.prog w = .ok (.string sN) w := fun w => by
          rw [HSN.out, HSI.out, cat_ok _ _ (by rw [str_size, str_size]; omega), HSNN.out, h3]; simp
        clear h1 h2 h3
        go_wp2_with (go_at_call 56; refine (SS.out _).mono ?_; rintro e w3 ⟨rfl, rfl⟩)
        go_meet
        exact ⟨rfl, by (repeat (first | exact Ext.rfl' _ | assumption | refine Ext.dr ?_ | refine Ext.drN ?_ _ | refine Ext.al ?_ _ | refine Ext.st ?_ (by simp) _ | refine Ext.tr ?_ (by assumption)))⟩
    case rest =>
      obtain ⟨rfl, hx9⟩ := hcut
      obtain ⟨W9, hW9⟩ : ∃ X, X = wc := ⟨_, rfl⟩
      subst hW9
      have hx09 : Ext W0 W9 := HX8.out.tr hx9
      have HX9 := Lib.hid hx09
      have hxw9 := Lib.hid (HX0.out.tr hx09)
      clear hx9 hx09 u0 u1 u2 u3 SS SP ST CL
      cases hf : lkM s.L nm with
      | some f =>
        have CW := Lib.hid (fun w' (e : Ext w w') => (show Calls Tryz.prog 20 #[.pointer (some ⟨pw, 0, none⟩), .string sN] w' (Turns (fun _ => False) w' o1 fun v w'' o'' => ∃ A c, v = .tuple #[.agg #[.string sN, .slice A f.b.length c, .int .i64 f.mt], .int .i64 (f.ve : Int), .int .i64 0] ∧ Sl w'' o'' (k + 3) 1 A f.b.length c (bc f.b) ∧ (A = none → c = 0)) from by
          rw [HSNN.out]
          exact wFile_some (k + 3) w' o1 kw pw s (HWD.out w' e) HOK.out nm (by omega) f hf))
        have HF := Lib.hid (show findS s pre root index path = .inl (nm, f) from by unfold findS; rw [HASK.out]; simp [hf])
        have hbl : f.b.length ≤ 1048576 := HOK.out.size _ (lk_mem hf)
        obtain ⟨bn, hbn⟩ : ∃ x, x = f.b.length := ⟨_, rfl⟩
        obtain ⟨fm, hfm⟩ : ∃ x, x = f.mt := ⟨_, rfl⟩
        obtain ⟨fv, hfv⟩ : ∃ x, x = (f.ve : Int) := ⟨_, rfl⟩
        obtain ⟨fb, hfb⟩ : ∃ x, x = bc f.b := ⟨_, rfl⟩
        rw [← hbn, ← hfm, ← hfv, ← hfb] at CW
        obtain ⟨tg, htg⟩ : ∃ x, x = str (tagL bn fm fv) := ⟨_, rfl⟩
        have CT := Lib.hid (fun A c w' (e : Ext w w') => CT.out A bn c fm fv w' e)
        rw [← htg] at CT
        have HBN := Lib.hid (And.intro hbn (And.intro hfm (And.intro hfv (And.intro hfb htg))))
        clear hbn hfm hfv hfb htg hf hbl
        go_step
        go_upto_region 17 with (first
          | (go_at_call 20; refine (CW.out _ (hxw9.out.tr (by (repeat (first | exact Ext.rfl' _ | assumption | refine Ext.dr ?_ | refine Ext.drN ?_ _ | refine Ext.al ?_ _ | refine Ext.st ?_ (by simp) _ | refine Ext.tr ?_ (by assumption)))))).mono ?_; rintro e w5 ⟨v, o5, rfl, ⟨A5, c5, rfl, hs5, hn5⟩, st5⟩; have HS5 := Lib.hid hs5; have ST5 := Lib.hid st5; have AN5 := Lib.hid ((HAN.out _ (hxw9.out.tr (by (repeat (first | exact Ext.rfl' _ | assumption | refine Ext.dr ?_ | refine Ext.drN ?_ _ | refine Ext.al ?_ _ | refine Ext.st ?_ (by simp) _ | refine Ext.tr ?_ (by assumption)))))).stp st5 (fun x => x) (fun x => x)); have T5 := Lib.hid ((HS0.out _ (hxw9.out.tr (by (repeat (first | exact Ext.rfl' _ | assumption | refine Ext.dr ?_ | refine Ext.drN ?_ _ | refine Ext.al ?_ _ | refine Ext.st ?_ (by simp) _ | refine Ext.tr ?_ (by assumption)))))).tr st5); clear hs5 st5))
        obtain ⟨W6, hW6⟩ : ∃ X, X = w5.alloc (.cells #[.string sN, .slice A5 bn c5, .int .i64 fm] 24) := ⟨_, rfl⟩
        have hr6 : W6.heap[w5.heap.size]? = some (.cells #[.string sN, .slice A5 bn c5, .int .i64 fm] 24 (0, 0)) := by rw [hW6]; exact heap_alloc_new w5 _
        have hx56 : Ext w5 W6 := by rw [hW6]; (repeat (first | exact Ext.rfl' _ | assumption | refine Ext.dr ?_ | refine Ext.drN ?_ _ | refine Ext.al ?_ _ | refine Ext.st ?_ (by simp) _ | refine Ext.tr ?_ (by assumption)))
        have hx06 := Lib.hid ((HX9.out.tr (Ext.tr (by (repeat (first | exact Ext.rfl' _ | assumption | refine Ext.dr ?_ | refine Ext.drN ?_ _ | refine Ext.al ?_ _ | refine Ext.st ?_ (by simp) _ | refine Ext.tr ?_ (by assumption)))) ST5.out.noExt)).tr hx56)
        rw [← hW6]
        have HX56 := Lib.hid hx56
        have HKS := Lib.hid (fun w' (e : Ext W6 w') => (show w'.cell? ⟨w5.heap.size, 0, none⟩ = some (.string sN) ∧ w'.cell? ⟨w5.heap.size, 1, none⟩ = some (.slice A5 bn c5) ∧ w'.cell? ⟨w5.heap.size, 2, none⟩ = some (.int .i64 fm) ∧ w'.cell? ⟨w.heap.size, 5, none⟩ = some (.int .i64 ex) from by
          have q := (e.block _ (row_lt hr6)).trans hr6
          exact ⟨(row_facts q 0 _ rfl).1, (row_facts q 1 _ rfl).1, (row_facts q 2 _ rfl).1, (HL.out w' (hx06.out.tr e)).2.2.2⟩))
        clear hW6 hr6 hx56
        go_region_held3 (fun w' => w'.cell? ⟨w5.heap.size, 0, none⟩ = some (.string sN) ∧ w'.cell? ⟨w5.heap.size, 1, none⟩ = some (.slice A5 bn c5) ∧ w'.cell? ⟨w5.heap.size, 2, none⟩ = some (.int .i64 fm) ∧ w'.cell? ⟨w.heap.size, 5, none⟩ = some (.int .i64 ex)) (exact HKS.out _ (by (repeat (first | exact Ext.rfl' _ | assumption | refine Ext.dr ?_ | refine Ext.al ?_ _ | refine Ext.st ?_ (by simp) _ | refine Ext.tr ?_ (by assumption))))) (first
          | (go_at_call 7; refine (CT.out A5 c5 _ (HX0.out.tr (hx06.out.tr (by (repeat (first | exact Ext.rfl' _ | assumption | refine Ext.dr ?_ | refine Ext.drN ?_ _ | refine Ext.al ?_ _ | refine Ext.st ?_ (by simp) _ | refine Ext.tr ?_ (by assumption))))))).mono ?_; rintro e w7 ⟨rfl, hx7⟩))
        obtain ⟨W8, hW8⟩ : ∃ X, X = w7.alloc (.cells #[.string sN, .slice A5 bn c5, .int .i64 fm, .bool false, .string tg, .int .i64 ex] 85) := ⟨_, rfl⟩
        have hr8 : W8.heap[w7.heap.size]? = some (.cells #[.string sN, .slice A5 bn c5, .int .i64 fm, .bool false, .string tg, .int .i64 ex] 85 (0, 0)) := by rw [hW8]; exact heap_alloc_new w7 _
        have hx57 : Ext w5 w7 := HX56.out.tr (by (repeat (first | exact Ext.rfl' _ | assumption | refine Ext.dr ?_ | refine Ext.drN ?_ _ | refine Ext.al ?_ _ | refine Ext.st ?_ (by simp) _ | refine Ext.tr ?_ (by assumption))))
        have hx58 : Ext w5 W8 := by rw [hW8]; (repeat (first | exact Ext.rfl' _ | assumption | refine Ext.dr ?_ | refine Ext.drN ?_ _ | refine Ext.al ?_ _ | refine Ext.st ?_ (by simp) _ | refine Ext.tr ?_ (by assumption)))
        have T9 : Stp (fun _ => False) w5 o5 W8 (fun b => if b < w5.heap.size then o5 b else k + 6) := Stp.ext2 hx58 (fun b hb => if_pos hb)
        rw [← hW8]
        have hle := hx57.size
        have hle2 := (T5.out).size
        have HR8 := Lib.hid hr8
        have HT9 := Lib.hid T9
        clear hW8 hr8 hx57 hx58 T9
        go_wp2
        go_ret
        refine ⟨.pointer (some ⟨w7.heap.size, 0, none⟩), _, rfl, (T5.out.tr HT9.out).mono (fun _ h => h.elim), ?_⟩
        rw [HF.out]
        dsimp only [FoundV]
        obtain ⟨q1, q2, q3, q4, q5⟩ := HBN.out
        rw [← q1, ← q2, ← q3, ← q4, ← HSNN.out, ← q5]
        exact ⟨w7.heap.size, A5, c5, rfl, by omega, if_neg (by omega), HR8.out, HS5.out.stp HT9.out (fun x => x), hn5, AN5.out.stp HT9.out (fun x => x) (fun x => x)⟩
      | none =>
        have CW := Lib.hid (fun w' (e : Ext w w') => (show Calls Tryz.prog 20 #[.pointer (some ⟨pw, 0, none⟩), .string sN] w' (Gives (.tuple #[.agg #[.string ⟨#[]⟩, .slice none 0 0, .int .i64 0], .int .i64 0, .int .i64 3]) w') from by
          rw [HSNN.out]
          exact wFile_none w' o1 kw pw s (HWD.out w' e) nm (by omega) hf))
        obtain ⟨sF, hsF⟩ : ∃ x, x = str (nm ++ [47]) := ⟨_, rfl⟩
        have hcat : ∀ w, (Op.stringOp .add sN ⟨#[47]⟩).run Tryz.prog w = .ok (.string sF) w := fun w => by
          rw [HSNN.out, cat_ok _ _ (by rw [str_size]; show _ + 1 ≤ _; omega), hsF]; simp
        have CF := Lib.hid (fun w' (e : Ext w w') => (show Calls Tryz.prog 62 #[.pointer (some ⟨pw, 0, none⟩), .string sF] w' (Gives (.bool (folderW s (nm ++ [47]))) w') from by
          rw [hsF]
          exact wFolder_c w' o1 kw pw s (HWD.out w' e) (nm ++ [47]) (by rw [List.length_append]; simp; omega)))
        clear hsF
        cases hfo : folderW s (nm ++ [47]) with
        | false =>
          have HF := Lib.hid (show findS s pre root index path = .inr 404 from by unfold findS; rw [HASK.out]; simp [hf, hfo])
          rw [hfo] at CF
          clear hf hfo
          go_step
          go_wp2_with (first
            | (go_at_call 20; refine (CW.out _ (hxw9.out.tr (by (repeat (first | exact Ext.rfl' _ | assumption | refine Ext.dr ?_ | refine Ext.drN ?_ _ | refine Ext.al ?_ _ | refine Ext.st ?_ (by simp) _ | refine Ext.tr ?_ (by assumption)))))).mono ?_; rintro e w5 ⟨rfl, hx5⟩)
            | (go_at_call 62; refine (CF.out _ (hxw9.out.tr (by (repeat (first | exact Ext.rfl' _ | assumption | refine Ext.dr ?_ | refine Ext.drN ?_ _ | refine Ext.al ?_ _ | refine Ext.st ?_ (by simp) _ | refine Ext.tr ?_ (by assumption)))))).mono ?_; rintro e w6 ⟨rfl, hx6⟩)
            | (go_at_call 28; refine (stPlain_c 404 (rsnS 404) (rsn_len _) k P [] (by simp) 0 (.slice none 0 0) false none 0 _ o1 (HAN.out _ (hxw9.out.tr (by (repeat (first | exact Ext.rfl' _ | assumption | refine Ext.dr ?_ | refine Ext.drN ?_ _ | refine Ext.al ?_ _ | refine Ext.st ?_ (by simp) _ | refine Ext.tr ?_ (by assumption)))))) (fun w' e => rsn_c 404 (by decide) w' (HMX.out w' (hxw9.out.tr (Ext.tr (by (repeat (first | exact Ext.rfl' _ | assumption | refine Ext.dr ?_ | refine Ext.drN ?_ _ | refine Ext.al ?_ _ | refine Ext.st ?_ (by simp) _ | refine Ext.tr ?_ (by assumption)))) e))))).mono ?_; rintro e w8 ⟨rfl, o9, A9, c9, B9, d9, hn9, st9⟩; have T8 := Lib.hid (((HS0.out _ (hxw9.out.tr (by (repeat (first | exact Ext.rfl' _ | assumption | refine Ext.dr ?_ | refine Ext.drN ?_ _ | refine Ext.al ?_ _ | refine Ext.st ?_ (by simp) _ | refine Ext.tr ?_ (by assumption)))))).mono (L := fun i => i = k ∨ i = k + 1) (fun _ h => h.elim)).tr st9)))
          go_ret
          refine ⟨_, o9, rfl, T8.out, ?_⟩
          rw [HF.out]
          exact ⟨rfl, A9, c9, B9, d9, hn9⟩
        | true =>
          have HF := Lib.hid (show findS s pre root index path = .inr 301 from by unfold findS; rw [HASK.out]; simp [hf, hfo])
          rw [hfo] at CF
          obtain ⟨sP, hsP⟩ : ∃ x, x = str path := ⟨_, rfl⟩
          obtain ⟨sQ, hsQ⟩ : ∃ x, x = str (path ++ [47]) := ⟨_, rfl⟩
          have hcat2 : ∀ w, (Op.stringOp .add sP ⟨#[47]⟩).run Tryz.prog w = .ok (.string sQ) w := fun w => by
            rw [hsP, cat_ok _ _ (by rw [str_size]; show _ + 1 ≤ _; omega), hsQ]; simp
          have CA := Lib.hid (fun w' (e : Ext w w') => (show Calls Tryz.prog 27 #[.pointer (some ⟨P, 0, none⟩), .string ⟨#[76, 111, 99, 97, 116, 105, 111, 110]⟩, .string sQ] w' (AnsTo k P ([] ++ [locF path]) 0 (.slice none 0 0) false w' o1) from by
            rw [hsQ]
            exact stAdd_c k P [] [76, 111, 99, 97, 116, 105, 111, 110] (path ++ [47]) (by simp) 0 (.slice none 0 0) false none 0 w' o1 (HAN.out w' e)))
          rw [← hsP]
          clear hf hfo hsP hsQ
          go_step
          go_wp2_with (first
            | (go_at_call 20; refine (CW.out _ (hxw9.out.tr (by (repeat (first | exact Ext.rfl' _ | assumption | refine Ext.dr ?_ | refine Ext.drN ?_ _ | refine Ext.al ?_ _ | refine Ext.st ?_ (by simp) _ | refine Ext.tr ?_ (by assumption)))))).mono ?_; rintro e w5 ⟨rfl, hx5⟩)
            | (go_at_call 62; refine (CF.out _ (hxw9.out.tr (by (repeat (first | exact Ext.rfl' _ | assumption | refine Ext.dr ?_ | refine Ext.drN ?_ _ | refine Ext.al ?_ _ | refine Ext.st ?_ (by simp) _ | refine Ext.tr ?_ (by assumption)))))).mono ?_; rintro e w6 ⟨rfl, hx6⟩)
            | (go_at_call 27; refine (CA.out _ (hxw9.out.tr (by (repeat (first | exact Ext.rfl' _ | assumption | refine Ext.dr ?_ | refine Ext.drN ?_ _ | refine Ext.al ?_ _ | refine Ext.st ?_ (by simp) _ | refine Ext.tr ?_ (by assumption)))))).mono ?_; rintro e w7 ⟨rfl, o7, A7, c7, hn7, st7⟩; have T7 := Lib.hid (((HS0.out _ (hxw9.out.tr (by (repeat (first | exact Ext.rfl' _ | assumption | refine Ext.dr ?_ | refine Ext.drN ?_ _ | refine Ext.al ?_ _ | refine Ext.st ?_ (by simp) _ | refine Ext.tr ?_ (by assumption)))))).mono (L := fun i => i = k ∨ i = k + 1) (fun _ h => h.elim)).tr st7); have HN7 := Lib.hid hn7; have HM7 := Lib.hid (HMS.out _ _ T7.out); clear hn7 st7)
            | (go_at_call 28; refine (stPlain_c 301 (rsnS 301) (rsn_len _) k P _ (by simp) 0 (.slice none 0 0) false A7 c7 _ o7 HN7.out (fun w' e => rsn_c 301 (by decide) w' (mxExt HM7.out e))).mono ?_; rintro e w8 ⟨rfl, o9, A9, c9, B9, d9, hn9, st9⟩; have T8 := Lib.hid (T7.out.tr st9)))
          go_ret
          refine ⟨_, o9, rfl, T8.out, ?_⟩
          rw [HF.out]
          exact ⟨rfl, A9, c9, B9, d9, hn9⟩
set_option maxRecDepth 100000 in
set_option maxHeartbeats 4000000 in
theorem stFind_pre (k P kw pw : Nat) (s : Wrl) (hk : Wok s) (pre root index path : List UInt8) (hp1 : pre.length ≤ 140737488351232) (hp2 : root.length ≤ 140737488351232) (hp3 : index.length ≤ 140737488351232) (hp4 : path.length ≤ 140737488351232) (kd : Int) (a4 : Value) (ex : Int) (a6 a7 a8 a9 a10 a11 : Value) (w : World) (o : Ow) (h : AnAt w o k P [] 0 (.slice none 0 0) false none 0) (hw : WdAt w o kw pw s) (hM : ∀ w' o', Stp (fun i => i = k ∨ i = k + 1) w o w' o' → Ev.MxE w') (hE : ErrR w) (r : List UInt8) (hr : resU path = (r, 0)) (hpre : Lib.hasPrefix r pre = false) :
    Calls Tryz.prog 29 #[.pointer (some ⟨P, 0, none⟩), .pointer (some ⟨pw, 0, none⟩), .agg (locC pre root index kd a4 ex a6 a7 a8 a9 a10 a11), .string (str path)] w (FindTo k P s pre root index path ex w o) := by
  have HF := Lib.hid (show findS s pre root index path = .inr 404 from by unfold findS askS; rw [hr]; simp [hpre])
  obtain ⟨W0, hW0⟩ : ∃ W, W = w.alloc (.cells (locC pre root index kd a4 ex a6 a7 a8 a9 a10 a11) 39) := ⟨_, rfl⟩
  obtain ⟨o1, ho1⟩ : ∃ o1 : Ow, o1 = fun x => if x < w.heap.size then o x else k + 6 := ⟨_, rfl⟩
  have hx0 : Ext w W0 := by rw [hW0]; (repeat (first | exact Ext.rfl' _ | assumption | refine Ext.dr ?_ | refine Ext.drN ?_ _ | refine Ext.al ?_ _ | refine Ext.st ?_ (by simp) _ | refine Ext.tr ?_ (by assumption)))
  have hr0 : W0.heap[w.heap.size]? = some (.cells (locC pre root index kd a4 ex a6 a7 a8 a9 a10 a11) 39 (0, 0)) := by rw [hW0]; exact heap_alloc_new w _
  have HL := Lib.hid (fun w' (e : Ext W0 w') => (show w'.cell? ⟨w.heap.size, 0, none⟩ = some (.string (str pre)) ∧ w'.cell? ⟨w.heap.size, 2, none⟩ = some (.string (str root)) ∧ w'.cell? ⟨w.heap.size, 3, none⟩ = some (.string (str index)) ∧ w'.cell? ⟨w.heap.size, 5, none⟩ = some (.int .i64 ex) from by
    have r := (e.block _ (row_lt hr0)).trans hr0
    exact ⟨(row_facts r 0 _ rfl).1, (row_facts r 2 _ rfl).1, (row_facts r 3 _ rfl).1, (row_facts r 5 _ rfl).1⟩))
  have HX0 := Lib.hid hx0
  have HS0 := Lib.hid (fun w' (e : Ext w w') => (show Stp (fun _ => False) w o w' o1 from Stp.ext2 e (fun b hb => by rw [ho1]; exact if_pos hb)))
  have HAN := Lib.hid (fun w' (e : Ext w w') => h.stp (HS0.out w' e) (fun x => x) (fun x => x))
  have HWD := Lib.hid (fun w' (e : Ext w w') => hw.stp (HS0.out w' e) (fun x => x) (fun x => x) (fun x => x))
  have HMX := Lib.hid (fun w' (e : Ext w w') => hM w' o (Stp.ext e))
  have HMS := Lib.hid hM
  have HER := Lib.hid hE
  have HOK := Lib.hid hk
  have HO1 := Lib.hid (fun b (hb : w.heap.size ≤ b) => (show o1 b = k + 6 from by rw [ho1]; exact if_neg (by omega)))
  have CR := Lib.hid (fun w' (e : Ext w w') => uResolve_c path (by omega) w' (hE.ext e))
  have HW0 := Lib.hid hW0
  have hP := row_lt h.row
  have SP := Lib.hid (fun w => Tryz.strings_HasPrefix (str r) (str pre) w)
  rw [str_data, str_data, hpre] at SP
  have CR := Lib.hid (fun w' (e : Ext w w') => (show Calls Tryz.prog 59 #[.string (str path)] w' (Gives (.tuple #[.string (str r), .int .i64 0]) w') from by
    have := CR.out w' e
    rw [hr] at this
    exact this))
  clear h hw hM hE hr hW0 hr0 ho1 hx0 hpre
  unfold locC at HW0 ⊢
  go_enter Tryz.func29, Tryz.ntmps29
  go_upto_region 1 with (fail)
  rw [← HW0.out]
  go_wp2_with (first
    | (go_at_call 59; refine (CR.out _ (HX0.out.tr (by (repeat (first | exact Ext.rfl' _ | assumption | refine Ext.dr ?_ | refine Ext.drN ?_ _ | refine Ext.al ?_ _ | refine Ext.st ?_ (by simp) _ | refine Ext.tr ?_ (by assumption)))))).mono ?_; rintro e w1 ⟨rfl, hx1⟩; obtain ⟨u0, u1, u2, u3⟩ := HL.out w1 (by (repeat (first | exact Ext.rfl' _ | assumption | refine Ext.dr ?_ | refine Ext.drN ?_ _ | refine Ext.al ?_ _ | refine Ext.st ?_ (by simp) _ | refine Ext.tr ?_ (by assumption)))))
    | (go_at_call 60; refine (SP.out _).mono ?_; rintro e w2 ⟨rfl, rfl⟩)
    | (go_at_call 28; refine (stPlain_c 404 (rsnS 404) (rsn_len _) k P [] (by simp) 0 (.slice none 0 0) false none 0 _ o1 (HAN.out _ (HX0.out.tr (by (repeat (first | exact Ext.rfl' _ | assumption | refine Ext.dr ?_ | refine Ext.drN ?_ _ | refine Ext.al ?_ _ | refine Ext.st ?_ (by simp) _ | refine Ext.tr ?_ (by assumption)))))) (fun w' e => rsn_c 404 (by decide) w' (HMX.out w' (HX0.out.tr (Ext.tr (by (repeat (first | exact Ext.rfl' _ | assumption | refine Ext.dr ?_ | refine Ext.drN ?_ _ | refine Ext.al ?_ _ | refine Ext.st ?_ (by simp) _ | refine Ext.tr ?_ (by assumption)))) e))))).mono ?_; rintro e w9 ⟨rfl, o9, A9, c9, B9, d9, hn9, st9⟩))
  go_ret
  refine ⟨_, o9, rfl, ((HS0.out _ (HX0.out.tr (by (repeat (first | exact Ext.rfl' _ | assumption | refine Ext.dr ?_ | refine Ext.drN ?_ _ | refine Ext.al ?_ _ | refine Ext.st ?_ (by simp) _ | refine Ext.tr ?_ (by assumption)))))).mono (fun _ h => h.elim)).tr st9, ?_⟩
  rw [HF.out]
  exact ⟨rfl, A9, c9, B9, d9, hn9⟩
set_option maxRecDepth 100000 in
set_option maxHeartbeats 4000000 in
theorem stFind_noidx (k P kw pw : Nat) (s : Wrl) (hk : Wok s) (pre root index path : List UInt8) (hp1 : pre.length ≤ 140737488351232) (hp2 : root.length ≤ 140737488351232) (hp3 : index.length ≤ 140737488351232) (hp4 : path.length ≤ 140737488351232) (kd : Int) (a4 : Value) (ex : Int) (a6 a7 a8 a9 a10 a11 : Value) (w : World) (o : Ow) (h : AnAt w o k P [] 0 (.slice none 0 0) false none 0) (hw : WdAt w o kw pw s) (hM : ∀ w' o', Stp (fun i => i = k ∨ i = k + 1) w o w' o' → Ev.MxE w') (hE : ErrR w) (r : List UInt8) (hr : resU path = (r, 0)) (hpre : Lib.hasPrefix r pre = true) (hsf : Lib.hasSuffix (nameS pre root r) [47] = true) (hi : index = []) :
    Calls Tryz.prog 29 #[.pointer (some ⟨P, 0, none⟩), .pointer (some ⟨pw, 0, none⟩), .agg (locC pre root index kd a4 ex a6 a7 a8 a9 a10 a11), .string (str path)] w (FindTo k P s pre root index path ex w o) := by
  have HF := Lib.hid (show findS s pre root index path = .inr 404 from by unfold findS askS; rw [hr]; simp [hpre, hsf, hi])
  obtain ⟨W0, hW0⟩ : ∃ W, W = w.alloc (.cells (locC pre root index kd a4 ex a6 a7 a8 a9 a10 a11) 39) := ⟨_, rfl⟩
  obtain ⟨o1, ho1⟩ : ∃ o1 : Ow, o1 = fun x => if x < w.heap.size then o x else k + 6 := ⟨_, rfl⟩
  have hx0 : Ext w W0 := by rw [hW0]; (repeat (first | exact Ext.rfl' _ | assumption | refine Ext.dr ?_ | refine Ext.drN ?_ _ | refine Ext.al ?_ _ | refine Ext.st ?_ (by simp) _ | refine Ext.tr ?_ (by assumption)))
  have hr0 : W0.heap[w.heap.size]? = some (.cells (locC pre root index kd a4 ex a6 a7 a8 a9 a10 a11) 39 (0, 0)) := by rw [hW0]; exact heap_alloc_new w _
  have HL := Lib.hid (fun w' (e : Ext W0 w') => (show w'.cell? ⟨w.heap.size, 0, none⟩ = some (.string (str pre)) ∧ w'.cell? ⟨w.heap.size, 2, none⟩ = some (.string (str root)) ∧ w'.cell? ⟨w.heap.size, 3, none⟩ = some (.string (str index)) ∧ w'.cell? ⟨w.heap.size, 5, none⟩ = some (.int .i64 ex) from by
    have r := (e.block _ (row_lt hr0)).trans hr0
    exact ⟨(row_facts r 0 _ rfl).1, (row_facts r 2 _ rfl).1, (row_facts r 3 _ rfl).1, (row_facts r 5 _ rfl).1⟩))
  have HX0 := Lib.hid hx0
  have HS0 := Lib.hid (fun w' (e : Ext w w') => (show Stp (fun _ => False) w o w' o1 from Stp.ext2 e (fun b hb => by rw [ho1]; exact if_pos hb)))
  have HAN := Lib.hid (fun w' (e : Ext w w') => h.stp (HS0.out w' e) (fun x => x) (fun x => x))
  have HWD := Lib.hid (fun w' (e : Ext w w') => hw.stp (HS0.out w' e) (fun x => x) (fun x => x) (fun x => x))
  have HMX := Lib.hid (fun w' (e : Ext w w') => hM w' o (Stp.ext e))
  have HMS := Lib.hid hM
  have HER := Lib.hid hE
  have HOK := Lib.hid hk
  have HO1 := Lib.hid (fun b (hb : w.heap.size ≤ b) => (show o1 b = k + 6 from by rw [ho1]; exact if_neg (by omega)))
  have CR := Lib.hid (fun w' (e : Ext w w') => uResolve_c path (by omega) w' (hE.ext e))
  have HW0 := Lib.hid hW0
  have hP := row_lt h.row
  obtain ⟨c, hc⟩ : ∃ c, c = cutP pre := ⟨_, rfl⟩
  have hcl : c ≤ r.length := by
    have h1 := cutP_le pre
    rw [hasPre_iff, decide_eq_true_eq] at hpre
    have := hpre.length_le
    omega
  obtain ⟨j, hj⟩ : ∃ j, j = Lib.lastIndexByte (str pre) 47 := ⟨_, rfl⟩
  have hjc : (j = -1 ∧ c = 0) ∨ j = (c : Int) := by
    rcases cutP_at pre with ⟨h1, h2⟩ | ⟨h1, h2⟩
    · exact .inl ⟨by rw [hj, h1], by rw [hc, h2]⟩
    · exact .inr (by rw [hj, h1, hc])
  have hjm : max (0 : Int) j = (c : Int) := by omega
  have hin := resU_in hr
  have SP := Lib.hid (fun w => Tryz.strings_HasPrefix (str r) (str pre) w)
  rw [str_data, str_data, hpre] at SP
  have ST := Lib.hid (fun w => Tryz.strings_TrimSuffix (str root) ⟨#[47]⟩ w (by rw [str_size]; omega))
  rw [str_data] at ST
  obtain ⟨tr, htr⟩ : ∃ tr, tr = Lib.trimSuffix root [47] := ⟨_, rfl⟩
  have htl : tr.length ≤ root.length := by rw [htr]; exact trimS_len root
  have ST := Lib.hid (fun w => (show Calls Tryz.prog 61 #[.string (str root), .string ⟨#[47]⟩] w fun e w' => e = .returned (.string (str tr)) ∧ w' = w from by rw [htr]; exact ST.out w))
  have CL := LastIB_c pre (by omega) 47
  rw [show (((47 : UInt8).toNat : Nat) : Int) = 47 from rfl, ← hj] at CL
  have CL := Lib.hid (fun w => (CL w).mono fun _ _ h => (⟨h.1, h.2.symm⟩ : _ ∧ _))
  have hsl := str_drop r c hcl
  have hz : (str r).size = r.length := str_size r
  have hn0 : nameS pre root r = tr ++ r.drop c := by unfold nameS; rw [htr, hc]
  obtain ⟨n, hn⟩ : ∃ x, x = r.length := ⟨_, rfl⟩
  have hnb : n ≤ 4096 := by omega
  have hcat : ∀ w, (Op.stringOp .add (str tr) (str (r.drop c))).run Tryz.prog w = .ok (.string (str (tr ++ r.drop c))) w := fun w => by
    rw [cat_ok _ _ (by rw [str_size, str_size, List.length_drop]; omega)]; simp
  obtain ⟨sr, hsr⟩ : ∃ x, x = str r := ⟨_, rfl⟩
  obtain ⟨st, hst⟩ : ∃ x, x = str tr := ⟨_, rfl⟩
  obtain ⟨sd, hsd⟩ : ∃ x, x = str (r.drop c) := ⟨_, rfl⟩
  obtain ⟨nm0, hnm0⟩ : ∃ x, x = tr ++ r.drop c := ⟨_, rfl⟩
  have hnl0 : nm0.length ≤ 140737488355328 := by rw [hnm0, List.length_append, List.length_drop]; omega
  obtain ⟨sn, hsn⟩ : ∃ x, x = str nm0 := ⟨_, rfl⟩
  rw [← hnm0, ← hsn, ← hst, ← hsd] at hcat
  rw [← hsd, ← hsr, ← hn] at hsl
  rw [← hsr, ← hn] at hz
  rw [← hsr] at SP
  rw [← hst] at ST
  have hcn : (c : Int) ≤ (n : Int) := by omega
  have hc0 : (0 : Int) ≤ (c : Int) := by omega
  rw [← hnm0] at hn0
  have CR := Lib.hid (fun w' (e : Ext w w') => (show Calls Tryz.prog 59 #[.string (str path)] w' (Gives (.tuple #[.string sr, .int .i64 0]) w') from by
    have := CR.out w' e
    rw [hr] at this
    rw [hsr]; exact this))
  have HSN := Lib.hid hsn
  have HN0 := Lib.hid hn0
  clear hsr hst hsd hnm0 hsn hn htr hj hc hjc hin hcl hn0 htl
  rw [HN0.out] at hsf
  have SS := Lib.hid (fun w => Tryz.strings_HasSuffix (str nm0) ⟨#[47]⟩ w (by rw [str_size]; omega))
  rw [str_data, hsf, ← HSN.out] at SS
  subst hi
  clear h hw hM hE hr hW0 hr0 ho1 hx0 hsf
  unfold locC at HW0 ⊢
  go_enter Tryz.func29, Tryz.ntmps29
  go_upto_region 1 with (fail)
  rw [← HW0.out]
  go_upto_region 8 with (first
    | (go_at_call 59; refine (CR.out _ (HX0.out.tr (by (repeat (first | exact Ext.rfl' _ | assumption | refine Ext.dr ?_ | refine Ext.drN ?_ _ | refine Ext.al ?_ _ | refine Ext.st ?_ (by simp) _ | refine Ext.tr ?_ (by assumption)))))).mono ?_; rintro e w1 ⟨rfl, hx1⟩; obtain ⟨u0, u1, u2, u3⟩ := HL.out w1 (by (repeat (first | exact Ext.rfl' _ | assumption | refine Ext.dr ?_ | refine Ext.drN ?_ _ | refine Ext.al ?_ _ | refine Ext.st ?_ (by simp) _ | refine Ext.tr ?_ (by assumption)))))
    | (go_at_call 60; refine (SP.out _).mono ?_; rintro e w2 ⟨rfl, rfl⟩))
  go_cut [11] (fun v11 wx => v11 = .string sn ∧ Ext w2 wx)
  case first =>
    go_quiet (first
      | (go_at_call 61; exact Calls.quiet_of_same (ST.out _))
      | (go_at_call 38; exact Calls.quiet_of_same (CL.out _)))
    go_wp2_with fail
    go_meet
    exact ⟨rfl, by (repeat (first | exact Ext.rfl' _ | assumption | refine Ext.dr ?_ | refine Ext.drN ?_ _ | refine Ext.al ?_ _ | refine Ext.st ?_ (by simp) _ | refine Ext.tr ?_ (by assumption)))⟩
  case rest =>
    obtain ⟨rfl, hx8⟩ := hcut
    obtain ⟨W8, hW8⟩ : ∃ X, X = wc := ⟨_, rfl⟩
    subst hW8
    have hx08 : Ext W0 W8 := (show Ext W0 w2 by (repeat (first | exact Ext.rfl' _ | assumption | refine Ext.dr ?_ | refine Ext.drN ?_ _ | refine Ext.al ?_ _ | refine Ext.st ?_ (by simp) _ | refine Ext.tr ?_ (by assumption)))).tr hx8
    have HX8 := Lib.hid hx08
    obtain ⟨u0, u1, u2, u3⟩ := HL.out W8 hx08
    clear hx8 hx08 hjm hcn hc0 hsl hz hcat
    go_step
    go_wp2_with (first
      | (go_at_call 56; refine (SS.out _).mono ?_; rintro e w3 ⟨rfl, rfl⟩)
      | (go_at_call 28; refine (stPlain_c 404 (rsnS 404) (rsn_len _) k P [] (by simp) 0 (.slice none 0 0) false none 0 _ o1 (HAN.out _ (HX0.out.tr (HX8.out.tr (by (repeat (first | exact Ext.rfl' _ | assumption | refine Ext.dr ?_ | refine Ext.drN ?_ _ | refine Ext.al ?_ _ | refine Ext.st ?_ (by simp) _ | refine Ext.tr ?_ (by assumption))))))) (fun w' e => rsn_c 404 (by decide) w' (HMX.out w' (HX0.out.tr (HX8.out.tr (Ext.tr (by (repeat (first | exact Ext.rfl' _ | assumption | refine Ext.dr ?_ | refine Ext.drN ?_ _ | refine Ext.al ?_ _ | refine Ext.st ?_ (by simp) _ | refine Ext.tr ?_ (by assumption)))) e)))))).mono ?_; rintro e w9 ⟨rfl, o9, A9, c9, B9, d9, hn9, st9⟩; have T8 := Lib.hid (((HS0.out _ (HX0.out.tr (HX8.out.tr (by (repeat (first | exact Ext.rfl' _ | assumption | refine Ext.dr ?_ | refine Ext.drN ?_ _ | refine Ext.al ?_ _ | refine Ext.st ?_ (by simp) _ | refine Ext.tr ?_ (by assumption))))))).mono (L := fun i => i = k ∨ i = k + 1) (fun _ h => h.elim)).tr st9)))
    go_ret
    refine ⟨_, o9, rfl, T8.out, ?_⟩
    rw [HF.out]
    exact ⟨rfl, A9, c9, B9, d9, hn9⟩
theorem stFind_c (k P kw pw : Nat) (s : Wrl) (hk : Wok s) (pre root index path : List UInt8) (hp1 : pre.length ≤ 140737488351232) (hp2 : root.length ≤ 140737488351232) (hp3 : index.length ≤ 140737488351232) (hp4 : path.length ≤ 140737488351232) (kd : Int) (a4 : Value) (ex : Int) (a6 a7 a8 a9 a10 a11 : Value) (w : World) (o : Ow) (h : AnAt w o k P [] 0 (.slice none 0 0) false none 0) (hw : WdAt w o kw pw s) (hM : ∀ w' o', Stp (fun i => i = k ∨ i = k + 1) w o w' o' → Ev.MxE w') (hE : ErrR w) :
    Calls Tryz.prog 29 #[.pointer (some ⟨P, 0, none⟩), .pointer (some ⟨pw, 0, none⟩), .agg (locC pre root index kd a4 ex a6 a7 a8 a9 a10 a11), .string (str path)] w (FindTo k P s pre root index path ex w o) := by
  rcases resU_two path with h0 | h0
  · obtain ⟨r, hr⟩ : ∃ r, resU path = (r, 0) := ⟨(resU path).1, by rw [← h0]⟩
    cases hpre : Lib.hasPrefix r pre with
    | false => exact stFind_pre k P kw pw s hk pre root index path hp1 hp2 hp3 hp4 kd a4 ex a6 a7 a8 a9 a10 a11 w o h hw hM hE r hr hpre
    | true =>
      cases hsf : Lib.hasSuffix (nameS pre root r) [47] with
      | false => exact stFind_in k P kw pw s hk pre root index path hp1 hp2 hp3 hp4 kd a4 ex a6 a7 a8 a9 a10 a11 w o h hw hM hE r hr hpre _ (.inl ⟨hsf, rfl⟩) (by unfold askS; rw [hr]; simp [hpre, hsf])
      | true =>
        by_cases hi : index = []
        · exact stFind_noidx k P kw pw s hk pre root index path hp1 hp2 hp3 hp4 kd a4 ex a6 a7 a8 a9 a10 a11 w o h hw hM hE r hr hpre hsf hi
        · exact stFind_in k P kw pw s hk pre root index path hp1 hp2 hp3 hp4 kd a4 ex a6 a7 a8 a9 a10 a11 w o h hw hM hE r hr hpre _ (.inr ⟨hsf, hi, rfl⟩) (by unfold askS; rw [hr]; simp [hpre, hsf, hi])
  · exact stFind_400 k P kw pw s hk pre root index path hp1 hp2 hp3 hp4 kd a4 ex a6 a7 a8 a9 a10 a11 w o h hw hM hE h0
end Go.Proofs.YtemdgilifnhdpaaGreatDoor
