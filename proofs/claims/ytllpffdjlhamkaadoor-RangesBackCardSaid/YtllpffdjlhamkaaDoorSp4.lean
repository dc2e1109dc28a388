/-
Several parts in one, read again: Split.
-/
import Derived.Test.YtllpffdjlhamkaaDoorSPa
import Derived.Deep.CutBlock
import Derived.BigRegion
import Derived.Deep.AppendLies
set_option linter.unusedVariables false
set_option linter.unusedSimpArgs false
namespace Go.Proofs.YtllpffdjlhamkaaDoor
open Go.RowKit Go.Extern.Stop Go.Stop Go.Extern

theorem new_blk (w : World) (n : Nat) (h : w.heap.size = n) (cs : Array Value) (t : TypeId) : (w.alloc (.cells cs t)).heap[n]? = some (.cells cs t (0, 0)) := by subst h; exact heap_alloc_new w _
/-- An append whose run is known, in a drawn region. -/
theorem step_run {P : Program} {ops : Array Oper} {o : Oper} {a : Act} {K : Act → World → Prop} {Q : Exit → Act → World → Prop} {E : Prop} (s x : Operand) {t tx : TypeId}
    (ho : o.op = .call { callee := .builtin .append, args := #[s, x], argTypes := #[t, tx] }) (hgd : o.guard = none) {sv xv v' : Value} {w w' : World} (hs : a.eval s = sv) (hx : a.eval x = xv)
    (hr : (Builtin.append_ #[t, tx] o.type #[sv, xv]).run P w = .ok v' w') (h : K (a.put o.dst v') w') : if Region.wanted o (yielded ops a.tmps) = true then Oper.wp P o a w K Q else E := by
  have hw : Region.wanted o (yielded ops a.tmps) = true := by simp [Region.wanted, hgd]
  rw [if_pos hw]
  unfold Oper.wp execOp
  simp only [ho, resolve, invoke, builtin, Sem.run_bind, Sem.run_pure, Result.andThen_ok, List.map_toArray, List.map_cons, List.map_nil, hs, hx, hr]
  exact h
theorem rd_newG (w : World) (g : Nat) (hg : w.heap.size = g) (xs : List Value) (t : TypeId) : Rd (w.alloc (.cells xs.toArray t)) (some ⟨g, 0, none⟩) xs := by
  subst hg
  exact .inr ⟨_, 0, rfl, fun j u hu => by have := new_cells w xs.toArray t j u (by simpa using hu); rw [add_mk] at this; rw [Nat.zero_add]; rw [Nat.zero_add] at this; exact this⟩
theorem slt_ss : SlT Tryd.prog 35 22 (.slice none 0 0) 1 24 := ⟨Tryd.underlying35, by kernel_rfl, rfl, by omega⟩
/-- One part more. -/
def SpB (W : World) (o : Ow) (g j : Nat) (b : List UInt8) (ps : List (Int × Int)) (wx : World) : Prop :=
  ∃ o' P' c' vs', Stp (fun i => i = 26 ∨ i = 21) W o wx o' ∧ BoxAt wx o' 21 g (.slice P' (j + 1) c') 35 ∧ Sl wx o' 26 1 P' (j + 1) c' vs' ∧ (P' = none → c' = 0) ∧ ValsP wx o' b (ps.take (j + 1)) vs'
def lenC : Option Value → Nat
  | some (.slice _ n _) => n
  | _ => 0
theorem restM_cnt (b bd kd : List UInt8) : ∀ (ps : List (Int × Int)), ps.length ≤ (restM b bd kd ps).length
  | [] => by simp
  | p :: ps => by
    have := restM_cnt b bd kd ps
    rw [restM_cons]
    simp only [List.length_append, List.length_cons]
    omega
theorem restM_drop (b bd kd : List UInt8) : ∀ (ps : List (Int × Int)) (j : Nat), (restM b bd kd (ps.drop j)).length ≤ (restM b bd kd ps).length
  | [], j => by simp
  | p :: ps, 0 => by simp
  | p :: ps, j + 1 => by
    have := restM_drop b bd kd ps j
    rw [List.drop_succ_cons, restM_cons]
    simp only [List.length_append]
    omega
theorem sp_more {w wc w14 : World} {oN o14 : Ow} {g g8 j : Nat} {b : List UInt8} {ps : List (Int × Int)} {P9 L L9 : Option Addr} {c9 cL d9 : Nat} {vs9 : List Value} {r0 : List UInt8}
    (st9 : Stp (fun i => 20 ≤ i) w (fun _ => 0) wc oN) (b49 : BoxAt wc oN 21 g (.slice P9 (j + 1) c9) 35) (b69 : BoxAt wc oN 23 (g + 1 + 1) (.int .i64 (b.length : Int)) 3) (b79 : BoxAt wc oN 24 (g + 1 + 1 + 1) (.int .i64 0) 26)
    (sp9 : Sl wc oN 26 1 P9 (j + 1) c9 vs9) (np9 : P9 = none → c9 = 0) (vp9 : ValsP wc oN b (ps.take (j + 1)) vs9) (st14 : Stp (fun i => i = 27) wc oN w14 o14) (B5 : BoxAt w14 o14 22 (g + 1) (.slice L j cL) 25) (RD : RdrAt w14 o14 25 g8 r0)
    (hs14 : Sl w14 o14 27 2 L9 (j + 1) d9 (pc (ps.take (j + 1)))) (hn14 : L9 = none → d9 = 0) (t : List UInt8) (s : ByteArray) (hst : s = str t) :
    SpAt w g g8 b ps (j + 1) t ((w14.setCell ⟨g + 1, 0, none⟩ (.slice L9 (j + 1) d9)).setCell ⟨g8, 0, none⟩ (.string s)) o14 P9 c9 L9 d9 vs9 := by
  subst hst
  have X1 := B5.set (.slice L9 (j + 1) d9)
  have RA := RD.stp X1.2 (by omega)
  have X2 := RA.set t
  have stA : Stp (fun i => i = 22 ∨ i = 25) w14 o14 _ o14 := (X1.2.mono fun i h => .inl h).tr (X2.2.mono fun i h => .inr h)
  have stC : Stp (fun i => i = 27 ∨ i = 22 ∨ i = 25) wc oN _ o14 := (st14.mono fun i h => .inl h).tr (stA.mono fun i h => .inr h)
  refine ⟨st9.tr (stC.mono fun i h => by omega), b49.stp stC (by omega), X1.1.stp X2.2 (by omega), ?_, b79.stp stC (by omega), X2.1, sp9.stp stC (by omega), np9, hs14.stp stA (by omega), hn14, vp9.stp stC (by omega)⟩
  rw [if_neg (by omega)]; exact b69.stp stC (by omega)
def SplitV (b : List UInt8) (ps : List (Int × Int)) (v : Value) (w : World) : Prop :=
  ∃ P cP L cL vs, v = .tuple #[.slice P ps.length cP, .slice L ps.length cL, .int .i64 (if ps.length = 0 then 0 else (b.length : Int)), .int .i64 0] ∧ Rd w P vs ∧ Rd w L (pc ps) ∧ ∃ o, ValsP w o b ps vs
set_option maxRecDepth 100000 in
set_option maxHeartbeats 8000000 in
theorem Split_c (b bd kd : List UInt8) (ps : List (Int × Int)) (hps : ∀ p ∈ ps, goodP b.length p) (hkd : valueOk kd = true) (hbd : plainL bd = true) (hno : ¬ HasW b ([45, 45] ++ bd)) (hlen : (fullM b bd kd ps).length ≤ 1048576) (hb : b.length ≤ 1048576)
    (B : Option Addr) (n c : Nat) (hn : n = (fullM b bd kd ps).length) (w : World) (hM : Mx w) (hE : ErrR w) (hP : Pow w) (hB : Rd w B (bc (fullM b bd kd ps))) :
    Calls Tryd.prog 10 #[.slice B n c, .string (str bd)] w (Ret (SplitV b ps) w) := by
  have hfr := full_rest b bd kd ps hps
  have cvb := fun w' (e : Ext w w') => conv_bs (P := Tryd.prog) 22 9 5 Tryd.underlying22 Tryd.underlying5 Tryd.underlying9 (hB.ext e) n c hn
  obtain ⟨sM, hsM⟩ : ∃ s, s = str (fullM b bd kd ps) := ⟨_, rfl⟩
  rw [← hsM] at cvb
  have hsM2 : sM = str (([45, 45] ++ bd) ++ restM b bd kd ps) := by rw [hsM, hfr]
  obtain ⟨mk, hmk⟩ : ∃ m, m = [45, 45] ++ bd := ⟨_, rfl⟩
  have hbl : bd.length ≤ 60 := by unfold plainL at hbd; simp at hbd; omega
  have hms : maxLen = 9223372036854775807 := rfl
  have CPl := fun w' => plain_c bd (by omega) w'
  rw [hbd] at CPl
  obtain ⟨sB, hsB⟩ : ∃ s, s = str bd := ⟨_, rfl⟩
  obtain ⟨sK, hsK⟩ : ∃ s, s = str mk := ⟨_, rfl⟩
  have cc1 : ∀ w, (Op.stringOp .add ⟨#[45, 45]⟩ sB).run Tryd.prog w = .ok (.string sK) w := fun w => by rw [hsB, hsK, hmk]; exact cat2 [45, 45] bd (by simp; omega) w
  rw [← hsB] at CPl ⊢
  have CPl := Lib.hid CPl
  have hnb : n ≤ 1048576 := by omega
  have hmf : ∀ (fn : Fn) (first cap : Array Value) (w : World), (Instr.makeFunc fn first cap).run Tryd.prog w = .ok (.func fn first cap) w := fun _ _ _ _ => rfl
  have HSK := Lib.hid hsK
  have HMK := Lib.hid hmk
  have HSM2 := Lib.hid hsM2
  have HCV := Lib.hid cvb
  have HN := Lib.hid hn
  clear hsM hsM2 hsB hsK hmk cvb hn hfr
  go_enter_defers Tryd.func10, Tryd.ntmps10
  go_upto_region 7 with (first
    | (go_at_call 20; refine (CPl.out _).mono ?_; rintro e w2 ⟨rfl, hx2⟩; have cv := HCV.out w2 (by (repeat (first | exact Ext.rfl' _ | assumption | refine Ext.dr ?_ | refine Ext.drN ?_ _ | refine Ext.al ?_ _ | refine Ext.st ?_ (by simp) _ | refine Ext.tr ?_ (by assumption))))))
  have S0 : SpAt w w.heap.size w2.heap.size b ps 0 (mk ++ restM b bd kd ps) (w2.alloc (.cells #[.string sM] 55)) (fun x => if x = w.heap.size then 21 else if x = w.heap.size + 1 then 22 else if x = w.heap.size + 1 + 1 then 23 else if x = w.heap.size + 1 + 1 + 1 then 24 else if x = w2.heap.size then 25 else 0) none 0 none 0 [] := by
    have e2 : Ext w2 (w2.alloc (.cells #[.string sM] 55)) := by (repeat (first | exact Ext.rfl' _ | assumption | refine Ext.dr ?_ | refine Ext.drN ?_ _ | refine Ext.al ?_ _ | refine Ext.st ?_ (by simp) _ | refine Ext.tr ?_ (by assumption)))
    have hsz : w.heap.size + 4 ≤ w2.heap.size := by have := hx2.size; simp at this; omega
    have q4 := ((hx2.tr e2).block w.heap.size (by simp; try omega)).trans (((show Ext (w.alloc (.cells #[.slice none 0 0] 35)) _ by (repeat (first | exact Ext.rfl' _ | assumption | refine Ext.dr ?_ | refine Ext.drN ?_ _ | refine Ext.al ?_ _ | refine Ext.st ?_ (by simp) _ | refine Ext.tr ?_ (by assumption)))).block w.heap.size (by simp)).trans (new_blk w _ rfl _ _))
    have q5 := ((hx2.tr e2).block (w.heap.size + 1) (by simp; try omega)).trans (((show Ext ((w.alloc (.cells #[.slice none 0 0] 35)).alloc (.cells #[.slice none 0 0] 25)) _ by (repeat (first | exact Ext.rfl' _ | assumption | refine Ext.dr ?_ | refine Ext.drN ?_ _ | refine Ext.al ?_ _ | refine Ext.st ?_ (by simp) _ | refine Ext.tr ?_ (by assumption)))).block (w.heap.size + 1) (by simp)).trans (new_blk _ _ (by simp) _ _))
    have q6 := ((hx2.tr e2).block (w.heap.size + 1 + 1) (by simp)).trans (((show Ext (((w.alloc (.cells #[.slice none 0 0] 35)).alloc (.cells #[.slice none 0 0] 25)).alloc (.cells #[.int .i64 0] 3)) _ by (repeat (first | exact Ext.rfl' _ | assumption | refine Ext.dr ?_ | refine Ext.drN ?_ _ | refine Ext.al ?_ _ | refine Ext.st ?_ (by simp) _ | refine Ext.tr ?_ (by assumption)))).block (w.heap.size + 1 + 1) (by simp)).trans (new_blk _ _ (by simp) _ _))
    have q7 := ((hx2.tr e2).block (w.heap.size + 1 + 1 + 1) (by simp)).trans (new_blk _ _ (by simp) _ _)
    refine ⟨Stp.ext2 (Ext.tr (by (repeat (first | exact Ext.rfl' _ | assumption | refine Ext.dr ?_ | refine Ext.drN ?_ _ | refine Ext.al ?_ _ | refine Ext.st ?_ (by simp) _ | refine Ext.tr ?_ (by assumption)))) (hx2.tr e2)) (fun x hx => ?_), ⟨?_, ?_⟩, ⟨?_, ?_⟩, ⟨?_, ?_⟩, ⟨?_, ?_⟩, ⟨?_, ?_⟩, Sl.nil_ _ _ _ _ _, fun _ => rfl, by simpa [pc] using Sl.nil_ _ _ 27 2 none, fun _ => rfl, ⟨rfl, fun i hi => by simp at hi⟩⟩
    · rw [if_neg (by omega), if_neg (by omega), if_neg (by omega), if_neg (by omega), if_neg (by omega)]
    · dsimp only; rw [if_pos rfl]
    · exact q4
    · dsimp only; rw [if_neg (by omega), if_pos rfl]
    · exact q5
    · dsimp only; rw [if_neg (by omega), if_neg (by omega), if_pos rfl]
    · exact q6
    · dsimp only; rw [if_neg (by omega), if_neg (by omega), if_neg (by omega), if_pos rfl]
    · exact q7
    · dsimp only
      rw [if_neg (by omega), if_neg (by omega), if_neg (by omega), if_neg (by omega), if_pos rfl]
    · rw [HMK.out, ← HSM2.out]; exact heap_alloc_new w2 _
  obtain ⟨g, hg⟩ : ∃ g, g = w.heap.size := ⟨_, rfl⟩
  obtain ⟨g8, hg8⟩ : ∃ g8, g8 = w2.heap.size := ⟨_, rfl⟩
  obtain ⟨o3, S0⟩ : ∃ o3, SpAt w w.heap.size w2.heap.size b ps 0 (mk ++ restM b bd kd ps) (w2.alloc (.cells #[.string sM] 55)) o3 none 0 none 0 [] := ⟨_, S0⟩
  obtain ⟨w3, hw3⟩ : ∃ w3, w3 = w2.alloc (.cells #[.string sM] 55) := ⟨_, rfl⟩
  rw [← hg, ← hg8, ← hw3] at S0
  rw [← hg, ← hg8, ← hw3]
  have S0 := Lib.hid S0
  clear hw3 cv hx2 hg hg8
  have HX : Hid (∀ w' o', Stp (fun i => 20 ≤ i) w (fun _ => 0) w' o' → Mx w' ∧ ErrR w' ∧ Pow w') := Lib.hid (fun w' o' e => by
    have x := e.toExt (fun _ _ => by omega)
    exact ⟨hM.ext x, hE.ext x, hP.ext x⟩)
  have HNO := Lib.hid hno
  have HKD := Lib.hid hkd
  have HPS := Lib.hid hps
  have hrl : (restM b bd kd ps).length ≤ 1048576 := by
    have := full_rest b bd kd ps hps
    rw [this, List.length_append] at hlen; omega
  have HRL := Lib.hid hrl
  have CND := Lib.hid (need_c 25 g8 mk (restM b bd kd ps) sK HSK.out w3 o3 S0.out.rd)
  clear hno hkd hps hlen hrl hM hE hP hB
  obtain ⟨N, hN⟩ : ∃ N, N = ps.length := ⟨_, rfl⟩
  have HNP := Lib.hid hN
  obtain ⟨sD, hsD⟩ : ∃ s, s = str kd := ⟨_, rfl⟩
  have HSD := Lib.hid hsD
  clear hN hsD
  go_wp2_with (first
    | (go_at_call 22; refine CND.out.mono ?_; rintro e w4 ⟨v, o4, rfl, ⟨rfl, h4⟩, st4⟩; have S4 := Lib.hid (S0.out.read st4 h4); clear st4 h4 CND))
  go_loopw [10] (fun v10 wr => ∃ (j : Nat) (o : Ow) (P : Option Addr) (cP : Nat) (L : Option Addr) (cL : Nat) (vs : List Value), j ≤ N ∧ v10 = .string (if j = 0 then ⟨#[]⟩ else sD) ∧ SpAt w g g8 b ps j (restM b bd kd (ps.drop j)) wr o P cP L cL vs) (fun _ wr => N - lenC (wr.cell? ⟨g + 1, 0, none⟩))
  case atStart => exact ⟨0, o4, none, 0, none, 0, [], Nat.zero_le _, rfl, S4.out⟩
  case round =>
    obtain ⟨j, o, P, cP, L, cL, vs, hj, rfl, hS⟩ := hrel
    obtain ⟨sF, hsF⟩ : ∃ s, s = (if j = 0 then (⟨#[]⟩ : ByteArray) else sD) := ⟨_, rfl⟩
    rw [← hsF]
    have HSF := Lib.hid hsF
    clear hsF
    by_cases hjN : j < N
    · have hjl : j < ps.length := by rw [← HNP.out]; exact hjN
      have hjb : j < 1048576 := by have := restM_cnt b bd kd ps; have := HRL.out; omega
      obtain ⟨T1, hT1⟩ : ∃ T, T = restM b bd kd (ps.drop j) := ⟨_, rfl⟩
      have hT1l : T1.length ≤ 1048576 := by rw [hT1]; exact Nat.le_trans (restM_drop b bd kd ps j) HRL.out
      rw [← hT1] at hS
      rw [List.drop_eq_getElem_cons hjl, restM_cons] at hT1
      have hgp := HPS.out _ (List.getElem_mem hjl)
      obtain ⟨p, hp⟩ : ∃ p, p = ps[j] := ⟨_, rfl⟩
      rw [← hp] at hT1 hgp
      have HPJ := Lib.hid hp
      obtain ⟨X, hX⟩ : ∃ X : Nat, p.1 = (X : Int) := ⟨p.1.toNat, by unfold goodP at hgp; omega⟩
      obtain ⟨Z, hZ⟩ : ∃ Z : Nat, p.2 = ((Z + 1 : Nat) : Int) := ⟨p.2.toNat - 1, by unfold goodP at hgp; omega⟩
      have hXZ : X ≤ Z := by unfold goodP at hgp; omega
      have hZb : Z + 1 ≤ b.length := by unfold goodP at hgp; omega
      have hbody := bodyM_len b p (by unfold goodP at hgp; unfold okPt; omega)
      have hnob : ¬ HasW (bodyM b p) mk := by rw [HMK.out]; exact no_has b _ (by simp) HNO.out _ _
      obtain ⟨body, hbd0⟩ : ∃ body, body = bodyM b p := ⟨_, rfl⟩
      rw [← hbd0] at hT1 hbody hnob
      have HBD := Lib.hid hbd0
      rw [hX, hZ] at hT1 hbody
      rw [Int.toNat_natCast, Int.toNat_natCast, Nat.add_sub_cancel, ← HMK.out] at hT1
      obtain ⟨q, hq⟩ : ∃ q, q = body.length := ⟨_, rfl⟩
      have hqe : X + q = Z + 1 := by omega
      obtain ⟨R9, hR9⟩ : ∃ R, R = restM b bd kd (ps.drop (j + 1)) := ⟨_, rfl⟩
      obtain ⟨T8, hT8⟩ : ∃ T, T = (body ++ [13, 10]) ++ (mk ++ R9) := ⟨_, rfl⟩
      rw [← hR9, ← hT8] at hT1
      obtain ⟨T7, hT7⟩ : ∃ T, T = ([13, 10] : List UInt8) ++ T8 := ⟨_, rfl⟩
      rw [← hT7] at hT1
      obtain ⟨T6, hT6⟩ : ∃ T, T = Lib.decDigits b.length ++ ((13 :: [10]) ++ T7) := ⟨_, rfl⟩
      rw [← hT6] at hT1
      obtain ⟨T5, hT5⟩ : ∃ T, T = Lib.decDigits Z ++ ((47 :: []) ++ T6) := ⟨_, rfl⟩
      rw [← hT5] at hT1
      obtain ⟨T4, hT4⟩ : ∃ T, T = Lib.decDigits X ++ ((45 :: []) ++ T5) := ⟨_, rfl⟩
      rw [← hT4] at hT1
      obtain ⟨T3, hT3⟩ : ∃ T, T = (crT ++ [98, 121, 116, 101, 115, 32]) ++ T4 := ⟨_, rfl⟩
      rw [← hT3] at hT1
      obtain ⟨T2, hT2⟩ : ∃ T, T = kd ++ ((13 :: [10]) ++ T3) := ⟨_, rfl⟩
      rw [← hT2] at hT1
      have l2 : T2.length ≤ 1048576 := by have := congrArg List.length hT1; simp only [List.length_append] at this; omega
      have l3 : T3.length ≤ 1048576 := by have := congrArg List.length hT2; simp only [List.length_append] at this; omega
      have l4 : T4.length ≤ 1048576 := by have := congrArg List.length hT3; simp only [List.length_append] at this; omega
      have l5 : T5.length ≤ 1048576 := by have := congrArg List.length hT4; simp only [List.length_append] at this; omega
      have l6 : T6.length ≤ 1048576 := by have := congrArg List.length hT5; simp only [List.length_append] at this; omega
      have l7 : T7.length ≤ 1048576 := by have := congrArg List.length hT6; simp only [List.length_append] at this; omega
      have l8 : T8.length ≤ 1048576 := by have := congrArg List.length hT7; simp only [List.length_append] at this; omega
      have hneT : ¬ (str T1).toList = [45, 45, 13, 10] := by rw [str_tl, hT1]; simp
      obtain ⟨s1, hs1⟩ : ∃ s, s = str T1 := ⟨_, rfl⟩
      have c8 := (row_facts hS.rd.2 0 _ rfl).1
      rw [← hs1] at c8 hneT
      have hneT2 : (s1.toList == [45, 45, 13, 10]) = false := by rw [beq_eq_false_iff_ne]; exact hneT
      have HS := Lib.hid hS
      rw [hT1] at hS
      have C1 := Lib.hid (need_c 25 g8 ([13, 10] ++ ctT) T2 ⟨#[13, 10, 67, 111, 110, 116, 101, 110, 116, 45, 84, 121, 112, 101, 58, 32]⟩ rfl wr o hS.rd)
      have HT2 := Lib.hid hT2
      have HT3 := Lib.hid hT3
      have HT4 := Lib.hid hT4
      have HT5 := Lib.hid hT5
      have HT6 := Lib.hid hT6
      have HT7 := Lib.hid hT7
      have HT8 := Lib.hid hT8
      have HR9 := Lib.hid hR9
      have HNB := Lib.hid hnob
      have HQ := Lib.hid hq
      have wz : IntKind.i64.wrap ((Z : Int) + 1) = (Z : Int) + 1 := by rw [IntKind.wrap_i64]; omega
      have CVL := fun w => Value_c kd (by rw [hT2] at l2; simp only [List.length_append] at l2; omega) w
      rw [show ((kd.all fun b => valB b.toNat) && endsB kd) = true from HKD.out, ← HSD.out] at CVL
      have CVL := Lib.hid CVL
      have HPX := Lib.hid hX
      have HPZ := Lib.hid hZ
      have HQE := Lib.hid hqe
      have e13 : (13 : UInt8) ∉ mk := by rw [HMK.out]; exact mark_no bd hbd 13 (by decide) (by decide)
      have e10 : (10 : UInt8) ∉ mk := by rw [HMK.out]; exact mark_no bd hbd 10 (by decide) (by decide)
      have emk : 0 < mk.length := by rw [HMK.out]; simp
      have E13 := Lib.hid e13
      have E10 := Lib.hid e10
      clear hT1 hT2 hT3 hT4 hT5 hT6 hT7 hT8 hR9 hS hs1 hgp hbody hnob hbd0 hp hX hZ hq e13 e10
      go_upto_region 18 with (first
        | (go_at_call 22; refine C1.out.mono ?_; rintro e w1 ⟨v, o1, rfl, ⟨rfl, h1⟩, st1⟩; have S1 := Lib.hid (HS.out.read st1 h1); have C2 := Lib.hid (upto_c 25 g8 kd [10] T3 13 (value_no13 HKD.out) ⟨#[13, 10]⟩ rfl w1 o1 (HX.out _ _ S1.out.st).1 (by rw [← HT2.out]; exact S1.out.rd) (by rw [← HT2.out]; omega)); clear C1 st1 h1)
        | (go_at_call 23; refine C2.out.mono ?_; rintro e w2 ⟨v, o2, rfl, ⟨rfl, h2⟩, st2⟩; have S2 := Lib.hid (S1.out.read st2 h2); have C3 := Lib.hid (need_c 25 g8 (crT ++ [98, 121, 116, 101, 115, 32]) T4 ⟨#[67, 111, 110, 116, 101, 110, 116, 45, 82, 97, 110, 103, 101, 58, 32, 98, 121, 116, 101, 115, 32]⟩ rfl w2 o2 (by rw [← HT3.out]; exact S2.out.rd)); clear C2 st2 h2; rw [← HSD.out])
        | (go_at_call 22; refine C3.out.mono ?_; rintro e w3 ⟨v, o3, rfl, ⟨rfl, h3⟩, st3⟩; have S3 := Lib.hid (S2.out.read st3 h3); have C4 := Lib.hid (number17_c 25 g8 X [] T5 45 (by decide) (by omega) ⟨#[45]⟩ rfl w3 o3 (HX.out _ _ S3.out.st).1 (HX.out _ _ S3.out.st).2.1 (HX.out _ _ S3.out.st).2.2 (by rw [← HT4.out]; exact S3.out.rd) (by rw [← HT4.out]; omega) (fun w' o' e => (HX.out _ _ (S3.out.st.tr (e.mono fun i hi => by omega))).2.1) (fun w' o' e => (HX.out _ _ (S3.out.st.tr (e.mono fun i hi => by omega))).2.2)); clear C3 st3 h3)
        | (go_at_call 24; refine C4.out.mono ?_; rintro e w5 ⟨v, o5, rfl, ⟨rfl, h5⟩, st5⟩; have S5 := Lib.hid (S3.out.read st5 h5); have ALZ := Lib.hid (fun x => (Stp.ext2 (show Ext w5 (w5.alloc x) by (repeat (first | exact Ext.rfl' _ | assumption | refine Ext.dr ?_ | refine Ext.drN ?_ _ | refine Ext.al ?_ _ | refine Ext.st ?_ (by simp) _ | refine Ext.tr ?_ (by assumption)))) (fun b hb => if_neg (Nat.ne_of_lt hb)) : Stp (fun _ => False) w5 o5 (w5.alloc x) (fun b => if b = w5.heap.size then 29 else o5 b))); have S5z := Lib.hid (fun x => S5.out.stp (ALZ.out x) (fun _ _ _ h => h) (fun _ h => h.elim)); have C5 := Lib.hid (fun x => number17_c 25 g8 Z [] T6 47 (by decide) (by omega) ⟨#[47]⟩ rfl (w5.alloc x) (fun b => if b = w5.heap.size then 29 else o5 b) (HX.out _ _ (S5z.out x).st).1 (HX.out _ _ (S5z.out x).st).2.1 (HX.out _ _ (S5z.out x).st).2.2 (by rw [← HT5.out]; exact (S5z.out x).rd) (by rw [← HT5.out]; omega) (fun w' o' e => (HX.out _ _ ((S5z.out x).st.tr (e.mono fun i hi => by omega))).2.1) (fun w' o' e => (HX.out _ _ ((S5z.out x).st.tr (e.mono fun i hi => by omega))).2.2)); clear C4 st5 h5)
        | (go_at_call 24; refine (C5.out _).mono ?_; rintro e w6 ⟨v, o6, rfl, ⟨rfl, h6⟩, st6⟩; have S6 := Lib.hid ((S5z.out _).read st6 h6); have hp6 := (st6.keep w5.heap.size (by simp) (by simp)).trans (new_blk w5 _ rfl #[.int .i64 (X : Int), .int .i64 0] 40); have op6 : o6 w5.heap.size = 29 := (by rw [st6.own _ (by simp)]; simp); have p61 := (row_facts hp6 1 _ rfl).1; have f61 := (row_facts hp6 1 _ rfl).2; have hp7 := row_set hp6 1 (.int .i64 ((Z : Int) + 1)); have stS : Stp (fun i => i = 29) w6 o6 (w6.setCell ⟨w5.heap.size, 1, none⟩ (.int .i64 ((Z : Int) + 1))) o6 := Stp.set _ 1 _ (fun _ => op6); have S7 := Lib.hid (S6.out.stp stS (fun _ _ _ => by omega) (fun _ _ => by omega)); have C6 := Lib.hid (number17_c 25 g8 b.length [10] T7 13 (by decide) (by omega) ⟨#[13, 10]⟩ rfl (w6.setCell ⟨w5.heap.size, 1, none⟩ (.int .i64 ((Z : Int) + 1))) o6 (HX.out _ _ S7.out.st).1 (HX.out _ _ S7.out.st).2.1 (HX.out _ _ S7.out.st).2.2 (by rw [← HT6.out]; exact S7.out.rd) (by rw [← HT6.out]; omega) (fun w' o' e => (HX.out _ _ (S7.out.st.tr (e.mono fun i hi => by omega))).2.1) (fun w' o' e => (HX.out _ _ (S7.out.st.tr (e.mono fun i hi => by omega))).2.2)); clear C5 st6 h6 hp6)
        | (go_at_call 24; refine C6.out.mono ?_; rintro e w7 ⟨v, o7, rfl, ⟨rfl, h7⟩, st7⟩; have S8 := Lib.hid (S7.out.read st7 h7); have hp8 := (st7.keep w5.heap.size (row_lt hp7) (by rw [op6]; omega)).trans hp7; have op7 : o7 w5.heap.size = 29 := (by rw [st7.own _ (row_lt hp7)]; exact op6); have C7 := Lib.hid (need_c 25 g8 [13, 10] T8 ⟨#[13, 10]⟩ rfl w7 o7 (by rw [← HT7.out]; exact S8.out.rd)); clear C6 st7 h7)
        | (go_at_call 22; refine C7.out.mono ?_; rintro e w8 ⟨v, o8, rfl, ⟨rfl, h8⟩, st8⟩; have S9 := Lib.hid (S8.out.read st8 h8); have hp9 := (st8.keep w5.heap.size (row_lt hp8) (by rw [op7]; omega)).trans hp8; have op8 : o8 w5.heap.size = 29 := (by rw [st8.own _ (row_lt hp8)]; exact op7); have C8 := IndexM_c body mk R9 emk HNB.out E13.out E10.out w8 (HX.out _ _ S9.out.st).1 (by rw [← HT8.out]; omega); rw [← HT8.out, ← HSK.out, ← HQ.out] at C8; have C8 := Lib.hid C8; have c9 := (row_facts S9.out.rd.2 0 _ rfl).1; have p90 := (row_facts hp9 0 _ rfl).1; have p91 := (row_facts hp9 1 _ rfl).1; clear C7 st8 h8 hp8)
        | (go_at_call 25; refine C8.out.mono ?_; rintro e w9 ⟨rfl, hx9⟩))
      obtain ⟨g12, hg12⟩ : ∃ g12, g12 = w5.heap.size := ⟨_, rfl⟩
      rw [← hg12] at hp9 op8 p90 p91
      rw [← hg12]
      have hp9' := Lib.hid ((hx9.block g12 (row_lt hp9)).trans hp9)
      have S10 := Lib.hid (S9.out.ext hx9)
      obtain ⟨sT, hsT⟩ : ∃ s, s = str T8 := ⟨_, rfl⟩
      have szT : sT.size = T8.length := by rw [hsT, str_size]
      have hT8q : q + 2 ≤ T8.length := by rw [HT8.out, HQ.out]; simp
      have c10 : w9.cell? ⟨g8, 0, none⟩ = some (.string sT) := by rw [hsT]; exact (row_facts S10.out.rd.2 0 _ rfl).1
      have exT : sT.extract q (q + 2) = ⟨#[13, 10]⟩ := by
        rw [hsT, str_extract, HT8.out, HQ.out]
        rw [show body.length + 2 = (body ++ [13, 10] : List UInt8).length from by simp, List.take_left]
        simp [str]
      have exB : sT.extract 0 q = str body := by
        rw [hsT, str_extract, HT8.out, HQ.out, List.append_assoc, List.take_left]; rfl
      obtain ⟨L8, hL8⟩ : ∃ L, L = T8.length := ⟨_, rfl⟩
      rw [← hL8] at szT hT8q
      have exM : sT.extract (q + 2) L8 = str (mk ++ R9) := by
        rw [hsT, str_extract, hL8, HT8.out, HQ.out, List.take_length]
        rw [show body.length + 2 = (body ++ [13, 10] : List UInt8).length from by simp, List.drop_left]
      have HST := Lib.hid hsT
      have EXB0 := Lib.hid exB
      have EXM0 := Lib.hid exM
      have p00 := (row_facts hp9'.out 0 _ rfl).1
      have p01 := (row_facts hp9'.out 1 _ rfl).1
      obtain ⟨K, hK⟩ : ∃ K : Int, K = ((q + 2 : Nat) : Int) := ⟨_, rfl⟩
      rw [show (q : Int) + 2 = K from by omega]
      have w1' : IntKind.i64.wrap ((Z : Int) + 1 - (X : Int)) = (q : Int) := by rw [IntKind.wrap_i64]; have := HQE.out; omega
      have w2' : IntKind.i64.wrap ((q : Int) + 2) = K := by rw [IntKind.wrap_i64]; omega
      have w3' : IntKind.i64.wrap (K - 2) = (q : Int) := by rw [IntKind.wrap_i64]; omega
      have k1 : (0 : Int) ≤ K := by omega
      have k2 : (q : Int) ≤ K := by omega
      have k3 : K ≤ (L8 : Int) := by omega
      have k4 : K.toNat = q + 2 := by omega
      have k5 : q ≤ q + 2 := by omega
      have k6 : (0 : Int) ≤ (q : Int) := by omega
      have k7 : decide ((X : Int) < (Z : Int) + 1) = true := by rw [decide_eq_true_eq]; omega
      have k8 : decide ((Z : Int) + 1 ≤ (b.length : Int)) = true := by rw [decide_eq_true_eq]; omega
      have HK := Lib.hid hK
      clear hK hsT hL8 exB exM p90 p91 c9 hp9 hg12
      go_upto_region 19 with (first
        | (go_at_call 19; refine (CVL.out _).mono ?_; rintro e w10 ⟨rfl, hx10⟩; have c11 := (hx10.cell (p := ⟨g8, 0, none⟩) (lt_of_cell c10)).trans c10; have p10 := (hx10.cell (p := ⟨g12, 0, none⟩) (lt_of_cell p00)).trans p00; have p11 := (hx10.cell (p := ⟨g12, 1, none⟩) (lt_of_cell p01)).trans p01)
        | (go_at_call 26; refine (demand17_yes _).mono ?_; rintro e w11 ⟨rfl, rfl⟩))
      have S11 := Lib.hid (S10.out.ext hx10)
      have b5c := S11.out.b5.c
      have b6c := S11.out.b6.c
      go_cut [] from 33 to 140 (fun wx => wx = w10)
      case first =>
        by_cases hj0 : j = 0
        · have z0 : ((j : Int) == 0) = true := by rw [beq_iff_eq]; omega
          rw [hj0] at b5c
          go_wp2_with (first
            | (go_at_call 26; refine (demand17_yes _).mono ?_; rintro e w11 ⟨rfl, rfl⟩))
          go_meet
          rfl
        · have z0 : ((j : Int) == 0) = false := by rw [beq_eq_false_iff_ne]; omega
          rw [if_neg hj0] at b6c
          have hF := HSF.out
          rw [if_neg hj0] at hF
          subst hF
          go_wp2_with (first
            | (go_at_call 26; refine (demand17_yes _).mono ?_; rintro e w11 ⟨rfl, rfl⟩))
          go_meet
          rfl
      case rest =>
        subst hcut
        have b6f := S11.out.b6.f
        go_wp2
        obtain ⟨W, hW⟩ : ∃ W, W = wc.setCell ⟨g + 1 + 1, 0, none⟩ (.int .i64 (b.length : Int)) := ⟨_, rfl⟩
        have B6 := S11.out.b6.set (.int .i64 (b.length : Int))
        have stB : Stp (fun i => i = 23) wc o8 W o8 := by rw [hW]; exact B6.2
        have B6 : BoxAt W o8 23 (g + 1 + 1) (.int .i64 (b.length : Int)) 3 := by rw [hW]; exact B6.1
        rw [← hW]
        have hpW := Lib.hid ((stB.keep g12 (Nat.lt_of_lt_of_le (row_lt hp9'.out) hx10.size) (by rw [op8]; omega)).trans ((hx10.block g12 (row_lt hp9'.out)).trans hp9'.out))
        have STB := Lib.hid stB
        have B6W := Lib.hid B6
        have B4 := S11.out.b4.stp stB (by omega)
        have RD := S11.out.rd.stp stB (by omega)
        have SP := S11.out.sp.stp stB (by omega)
        have b4c := B4.c
        have b4f := B4.f
        have cR : W.cell? ⟨g8, 0, none⟩ = some (.string sT) := by rw [HST.out]; exact (row_facts RD.2 0 _ rfl).1
        obtain ⟨sb, hsb⟩ : ∃ s, s = str body := ⟨_, rfl⟩
        have exB := EXB0.out
        rw [← hsb] at exB
        have CV := fun w => Lib.run_convert_string_bytes (P := Tryd.prog) w 9 22 5 sb Tryd.underlying9 Tryd.underlying22 Tryd.underlying5
        have k9 : (q : Int) ≤ (L8 : Int) := by omega
        have HSBB := Lib.hid hsb
        clear hW b6c b6f hsb
        obtain ⟨W13, hW13⟩ : ∃ W13, W13 = Lib.bytesWorld W.drew 5 sb := ⟨_, rfl⟩
        obtain ⟨cp, hcp⟩ : ∃ cp, cp = grownCap W.drew sb.size 0 5 := ⟨_, rfl⟩
        have x13 : Ext W W13 := by rw [hW13]; exact Ext.bw (by (repeat (first | exact Ext.rfl' _ | assumption | refine Ext.dr ?_ | refine Ext.drN ?_ _ | refine Ext.al ?_ _ | refine Ext.st ?_ (by simp) _ | refine Ext.tr ?_ (by assumption)))) _ _
        have sz13 : W13.heap.size = W.heap.size + 1 := by rw [hW13, Lib.bytesWorld_size]; simp
        obtain ⟨bv, hbv⟩ : ∃ bv : Value, bv = .slice (some ⟨W.heap.size, 0, none⟩) sb.size cp := ⟨_, rfl⟩
        have x14 : Ext W13 (W13.alloc (.cells #[bv] 22)) := by (repeat (first | exact Ext.rfl' _ | assumption | refine Ext.dr ?_ | refine Ext.drN ?_ _ | refine Ext.al ?_ _ | refine Ext.st ?_ (by simp) _ | refine Ext.tr ?_ (by assumption)))
        have stN : Stp (fun _ => False) W o8 (W13.alloc (.cells #[bv] 22)) (fun x => if x = W.heap.size then 28 else o8 x) := Stp.ext2 (x13.tr x14) (fun x hx => by rw [if_neg (by omega)])
        have SP14 := SP.stp stN (fun x => x)
        obtain ⟨P', c', w15, o15, hr, hs15, st15, hn15⟩ := run_put slt_ss (tx := 35) 35 (w := W13.alloc (.cells #[bv] 22)) SP14 S11.out.np (Sl.src Tryd.underlying35 (n := 1) (xs := [bv]) (rd_newG W13 W13.heap.size rfl [bv] 22) (by simp) (by omega) (by rw [hbv]; simp [Value.oneCell']) 1) (by omega) (by simp only [maxLen]; omega)
        have RB : Rd W13 (some ⟨W.heap.size, 0, none⟩) (bc body) := by
          refine .inr ⟨W.heap.size, 0, rfl, fun i u hu => ?_⟩
          have hil : i < body.length := by have := (List.getElem?_eq_some_iff.1 hu).1; simpa using this
          have hsbz : sb.size = body.length := by rw [HSBB.out, str_size]
          rw [Nat.zero_add, hW13, show W.heap.size = W.drew.heap.size from by simp, Lib.bytesWorld_cell _ _ _ _ (by omega), ← hu, bc_at _ _ hil, HSBB.out]
          simp [List.getD, hil]
        have st15' : Stp (fun i => i = 26) W o8 w15 o15 := (stN.mono fun _ h => h.elim).tr (st15.mono fun _ h => h.2)
        have B4' := B4.stp st15' (by omega)
        have b4d := B4'.c
        have b4g := B4'.f
        have bA : W13.cell? ⟨g, 0, none⟩ = some (.slice P j cP) := (x13.cell (p := ⟨g, 0, none⟩) (lt_of_cell b4c)).trans b4c
        have bB : (W13.alloc (.cells #[bv] 22)).cell? ⟨g, 0, none⟩ = some (.slice P j cP) := (x14.cell (p := ⟨g, 0, none⟩) (lt_of_cell bA)).trans bA
        have CVx : (convert 9 22 (.string sb)).run Tryd.prog W.drew = .ok bv W13 := by rw [hW13, hbv, hcp]; exact CV W.drew
        have HSB : Hid (SpB W o8 g j b ps (w15.setCell ⟨g, 0, none⟩ (.slice P' (j + 1) c'))) := Lib.hid (by
          obtain ⟨B5', st5⟩ := B4'.set (.slice P' (j + 1) c')
          refine ⟨o15, P', c', vs ++ [bv], (st15'.mono fun i h => .inl h).tr (st5.mono fun i h => .inr h), B5', hs15.stp st5 (by omega), hn15, ?_⟩
          have v1 : ValsP W o8 b (ps.take j) vs := S11.out.vp.stp stB (by omega)
          have v2 := (v1.stp st15' (by omega)).stp st5 (by omega)
          refine ⟨by rw [List.length_append, v2.1, List.length_take, List.length_take]; simp; omega, fun i hi => ?_⟩
          by_cases hij : i < j
          · have hi2 : i < (ps.take j).length := by rw [List.length_take]; omega
            obtain ⟨A, d, h1, h2, h3⟩ := v2.2 i hi2
            rw [List.getElem_take] at h1 h2
            rw [List.getElem_take]
            exact ⟨A, d, by rw [List.getElem?_append_left (by rw [v2.1]; exact hi2)]; exact h1, h2, h3⟩
          · have hie : i = j := by rw [List.length_take] at hi; omega
            subst hie
            rw [List.getElem_take]
            have hbe : bodyM b ps[i] = body := by rw [← HPJ.out, ← HBD.out]
            have o28 : o15 W.heap.size = 28 := by rw [st15.own _ (by simp; omega)]; simp
            have lt28 : W.heap.size < w15.heap.size := by have := st15.size; simp at this; omega
            rw [hbe]
            refine ⟨some ⟨W.heap.size, 0, none⟩, cp, ?_, ?_, fun a ha => ?_⟩
            · rw [List.getElem?_append_right (by rw [v2.1, List.length_take]; omega), v2.1, List.length_take, Nat.min_eq_left (by omega), Nat.sub_self, hbv, HSBB.out, str_size]; rfl
            · have r14 := RB.ext x14
              have r15 := r14.stp st15 (fun a ha _ => by cases ha; simp)
              exact r15.stp st5 (fun a ha _ => by cases ha; show ¬ o15 W.heap.size = 21; rw [o28]; omega)
            · cases ha
              exact ⟨o28, by simpa using lt28⟩)
        subst hbv
        clear hW13 hcp RB CV sz13
        go_cut [] from 33 to 140 (fun wx => SpB W o8 g j b ps wx)
        case first =>
          refine wp_region_noPanic ?_
          go_region_law (first | (refine step_run (.tmp 117) (.tmp 126) rfl rfl rfl rfl hr ?_))
          all_goals refine NoPanic.normal ?_
          all_goals (go_wp2_with fail; go_meet)
          all_goals exact HSB.out
        case rest =>
          obtain ⟨oN, P9, c9', vs9, st9, b49, sp9, np9, vp9⟩ := hcut
          have st9' : Stp (fun i => i = 26 ∨ i = 21 ∨ i = 23) _ o8 _ oN := (STB.out.mono fun i h => .inr (.inr h)).tr (st9.mono fun i h => h.elim .inl fun h => .inr (.inl h))
          have hp12 := (st9.keep g12 (row_lt hpW.out) (by rw [STB.out.own g12 (Nat.lt_of_lt_of_le (row_lt hp9'.out) hx10.size), op8]; omega)).trans hpW.out
          have q0 := (row_facts hp12 0 _ rfl).1
          have q1 := (row_facts hp12 1 _ rfl).1
          have B5 := S11.out.b5.stp st9' (by omega)
          have b5v := B5.c
          have SL9 := Lib.hid (S11.out.sl.stp st9' (by omega))
          have RD9 := Lib.hid (S11.out.rd.stp st9' (by omega))
          have B69 := Lib.hid (B6W.out.stp st9 (by omega))
          have B79 := Lib.hid (S11.out.b7.stp st9' (by omega))
          have ST9 := Lib.hid (S11.out.st.tr (st9'.mono fun i h => by omega))
          have B5H := Lib.hid B5
          have B49 := Lib.hid b49
          have SP9 := Lib.hid sp9
          have VP9 := Lib.hid vp9
          have exM := EXM0.out
          obtain ⟨sM9, hsM9⟩ : ∃ s, s = str (mk ++ R9) := ⟨_, rfl⟩
          rw [← hsM9] at exM
          have HSM9 := Lib.hid hsM9
          have PCS : Hid (pc (ps.take (j + 1)) = pc (ps.take j) ++ [.int .i64 (X : Int), .int .i64 ((Z : Int) + 1)]) := Lib.hid (by rw [pc_succ ps j hjl, ← HPJ.out, HPX.out, HPZ.out]; push_cast; rfl)
          clear hsM9 st9 st9' b49 sp9 vp9 B5 hp12
          go_wp2_with (first
            | (at_builtin; refine wpL_put slt_part (.tmp 128) (.tmp 130) rfl rfl rfl rfl (SL9.out.ext (by (repeat (first | exact Ext.rfl' _ | assumption | refine Ext.dr ?_ | refine Ext.drN ?_ _ | refine Ext.al ?_ _ | refine Ext.st ?_ (by simp) _ | refine Ext.tr ?_ (by assumption))))) S11.out.nl (Sl.src Tryd.underlying25 (n := 1) (rd_newG _ _ (by simp) [.int .i64 (X : Int), .int .i64 ((Z : Int) + 1)] 40) (by simp) (by omega) (by simp [Value.oneCell']) _) (by omega) (by simp only [maxLen]; omega) ?_; intro L9 d9 w14 o14 hs14 st14 hn14; have st14' : Stp (fun i => i = 27) wc oN w14 o14 := (Stp.ext (by (repeat (first | exact Ext.rfl' _ | assumption | refine Ext.dr ?_ | refine Ext.drN ?_ _ | refine Ext.al ?_ _ | refine Ext.st ?_ (by simp) _ | refine Ext.tr ?_ (by assumption))))).tr st14; have B5x := B5H.out.stp st14' (by omega); have b5w := B5x.c; have b5f := B5x.f; have RDx := RD9.out.stp st14' (by omega); have c14 : w14.cell? ⟨g8, 0, none⟩ = some (.string sT) := (by rw [HST.out]; exact (row_facts RDx.2 0 _ rfl).1); have f14 := (row_facts RDx.2 0 _ rfl).2; have hne1 : ¬ g8 = g + 1 := (by intro e; have h1 := RDx.1; rw [e, B5x.1] at h1; omega); have hne2 : ¬ g + 1 = g8 := (fun e => hne1 e.symm); have B5x := Lib.hid B5x; have RDx := Lib.hid RDx; have ST14 := Lib.hid st14'; rw [← PCS.out] at hs14; have SB := sp_more ST9.out B49.out B69.out B79.out SP9.out np9 VP9.out ST14.out B5x.out RDx.out hs14 hn14 (mk ++ R9) sM9 HSM9.out; have CN := Lib.hid (need_c 25 g8 mk R9 sK HSK.out _ o14 SB.rd); have SBH := Lib.hid SB; clear st14 st14' hs14 SB)
            | (go_at_call 22; refine CN.out.mono ?_; rintro e wF ⟨v, oF, rfl, ⟨rfl, hF⟩, stF⟩; have SF := SBH.out.read stF hF; have HM2 := Lib.hid SF.b5.c; have SFH := Lib.hid SF; clear SF stF hF))
          rw [HR9.out] at SFH
          have HM1 := Lib.hid HS.out.b5.c
          exact ⟨⟨j + 1, oF, P9, c9', L9, d9, vs9, by omega, by rw [if_neg (by omega)], SFH.out⟩, by rw [HM1.out, HM2.out]; simp only [lenC]; omega⟩
    · obtain rfl : j = N := by omega
      have hdr : ps.drop j = [] := List.drop_eq_nil_iff.2 (by rw [← HNP.out]; exact Nat.le_refl _)
      rw [hdr] at hS
      have c8 : wr.cell? ⟨g8, 0, none⟩ = some (.string ⟨#[45, 45, 13, 10]⟩) := (row_facts hS.rd.2 0 _ rfl).1
      have y4 := hS.b4.c
      have y5 := hS.b5.c
      have y6 := hS.b6.c
      have y7 := hS.b7.c
      have z4 := hS.b4.f
      have z5 := hS.b5.f
      have z6 := hS.b6.f
      have z7 := hS.b7.f
      obtain ⟨n6, hn6⟩ : ∃ n6 : Int, n6 = (if j = 0 then 0 else (b.length : Int)) := ⟨_, rfl⟩
      rw [← hn6] at y6
      have HN6 := Lib.hid hn6
      have HS := Lib.hid hS
      clear hdr hn6 hS
      go_wp2
      refine wp_region_noPanic ?_
      go_region
      all_goals refine NoPanic.normal ?_
      all_goals go_wp2
      all_goals (
        refine leaves_cons (f := 21) (args := #[.pointer (some ⟨g, 0, none⟩), .pointer (some ⟨g + 1, 0, none⟩), .pointer (some ⟨g + 1 + 1, 0, none⟩), .pointer (some ⟨g + 1 + 1 + 1, 0, none⟩)]) (by simp) (by simp [go_sem]) ?_
        refine (splitD_idle _ _ _ _ _).mono ?_
        rintro e u' w'' ⟨rfl, rfl, hw⟩
        have s4 := HS.out.b4.set (.slice P j cP)
        have s5 := (HS.out.b5.stp s4.2 (by omega)).set (.slice L j cL)
        have s6 := ((HS.out.b6.stp s4.2 (by omega)).stp s5.2 (by omega)).set (.int .i64 n6)
        have s7 := (((HS.out.b7.stp s4.2 (by omega)).stp s5.2 (by omega)).stp s6.2 (by omega)).set (.int .i64 0)
        have stE : Stp (fun i => 21 ≤ i ∧ i ≤ 24) wr o _ o := (s4.2.mono fun i h => by omega).tr ((s5.2.mono fun i h => by omega).tr ((s6.2.mono fun i h => by omega).tr (s7.2.mono fun i h => by omega)))
        have eX := Ext.rfl' w''
        rw [hw] at eX
        have stF : Stp (fun _ => False) ((((wr.setCell ⟨g, 0, none⟩ (.slice P j cP)).setCell ⟨g + 1, 0, none⟩ (.slice L j cL)).setCell ⟨g + 1 + 1, 0, none⟩ (.int .i64 n6)).setCell ⟨g + 1 + 1 + 1, 0, none⟩ (.int .i64 0)) o w'' o := by rw [hw]; exact Stp.ext (by (repeat (first | exact Ext.rfl' _ | assumption | refine Ext.dr ?_ | refine Ext.drN ?_ _ | refine Ext.al ?_ _ | refine Ext.st ?_ (by simp) _ | refine Ext.tr ?_ (by assumption))))
        have stX : Stp (fun i => 21 ≤ i ∧ i ≤ 24) wr o w'' o := stE.tr (stF.mono fun _ h => h.elim)
        have y4' := ((((s4.1.stp s5.2 (by omega)).stp s6.2 (by omega)).stp s7.2 (by omega)).stp stF (fun x => x)).c
        have y5' := (((s5.1.stp s6.2 (by omega)).stp s7.2 (by omega)).stp stF (fun x => x)).c
        have y6' := ((s6.1.stp s7.2 (by omega)).stp stF (fun x => x)).c
        have y7' := (s7.1.stp stF (fun x => x)).c
        clear hw eX stF stE s4 s5 s6 s7
        refine ⟨.tuple #[.slice P j cP, .slice L j cL, .int .i64 n6, .int .i64 0], by simp [results, Tryd.results10, go_sem, y4', y5', y6', y7'], ?_⟩
        refine Ret.mk ⟨P, cP, L, cL, vs, ?_, ?_, ?_, o, ?_⟩ ((HS.out.st.tr (stX.mono fun i h => by omega)).toExt (fun _ _ => by omega))
        · rw [HN6.out, HNP.out]
        · exact (HS.out.sp.stp stX (by omega)).rd
        · have := (HS.out.sl.stp stX (by omega)).rd
          rw [List.take_of_length_le (by rw [HNP.out]; exact Nat.le_refl _)] at this; exact this
        · have := HS.out.vp.stp stX (by omega)
          rw [List.take_of_length_le (by rw [HNP.out]; exact Nat.le_refl _)] at this; exact this)
end Go.Proofs.YtllpffdjlhamkaaDoor
