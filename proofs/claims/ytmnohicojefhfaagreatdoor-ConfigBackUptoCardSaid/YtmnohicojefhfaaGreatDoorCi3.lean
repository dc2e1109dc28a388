/-
Parse: the walk.
-/
import Derived.Test.YtmnohicojefhfaaGreatDoorCIa
import Derived.Test.YtmnohicojefhfaaGreatDoorCf30
import Derived.Test.YtmnohicojefhfaaGreatDoorCFh
import Derived.Deep.DeepCutAuto
set_option linter.unusedVariables false
set_option linter.unusedSimpArgs false
namespace Go.Proofs.YtmnohicojefhfaaGreatDoor
open Go.RowKit Go.Extern.Stop Go.Stop Go.Extern

theorem ext_stp {K : Nat → Prop} {w w6 w9 : World} {o o' : Ow} (h : Ext w w6) (hs : Stp K w6 o w9 o') (hk : ∀ b, b < w.heap.size → ¬ K (o b)) : Ext w w9 :=
  ⟨hs.os.trans h.os, hs.tape.trans h.tape, hs.output.trans h.output, Nat.le_trans h.size hs.size, fun b hb => (hs.keep b (Nat.lt_of_lt_of_le hb h.size) (hk b hb)).trans (h.block b hb)⟩
theorem parse_tree {l : List UInt8} (hl : l.length ≤ 65536) {n : Nat} (h : treeL l = .error n) : parseC l = (cfZ, n, 60) := by
  unfold parseC
  rw [if_neg (by omega), h]
theorem parse_err {l : List UInt8} (hl : l.length ≤ 65536) {f : Fo} (hw : f.wf) (h : treeL l = .ok (f.flat 0)) {n : Nat} (hb : buildF none [] cf0 f = .error n) : parseC l = (cfZ, n, 60) := by
  unfold parseC
  rw [if_neg (by omega), h]
  rcases run_all f hw with ⟨e, h1, h2⟩ | ⟨r, T, h1, h2⟩
  · rw [hb] at h1; cases h1
    dsimp only
    rw [h2]
  · rw [hb] at h1; cases h1
theorem parse_ok {l : List UInt8} (hl : l.length ≤ 65536) {f : Fo} (hw : f.wf) (h : treeL l = .ok (f.flat 0)) {r : List Dk × Cf14} (hb : buildF none [] cf0 f = .ok r) : parseC l = if goodC r.2 then (r.2, 0, 0) else (cfZ, 0, 60) := by
  unfold parseC
  rw [if_neg (by omega), h]
  rcases run_all f hw with ⟨e, h1, h2⟩ | ⟨r', T, h1, h2⟩
  · rw [hb] at h1; cases h1
  · rw [hb] at h1; cases h1
    dsimp only
    rw [h2]
set_option maxRecDepth 100000 in
set_option maxHeartbeats 8000000 in
theorem cParse_c (l : List UInt8) (hl : l.length ≤ 65536) (w : World) (hE : ErrR w) : Calls Tryz.prog 9 #[.string (str l)] w (Ret (IsPa (parseC l)) w) := by
  have CT := Lib.hid (fun w' => ctree_c l hl w')
  have HE := Lib.hid hE
  obtain ⟨s, hsl⟩ : ∃ s, s = str l := ⟨_, rfl⟩
  have hsz : s.size = l.length := by rw [hsl, str_size]
  have d1 : decide ((65536 : Int) < (s.size : Int)) = false := decide_eq_false (by omega)
  rw [← hsl] at CT ⊢
  clear hsl hsz hE
  have hmf : ∀ (fn : Fn) (first cap : Array Value) (w : World), (Instr.makeFunc fn first cap).run Tryz.prog w = .ok (.func fn first cap) w := fun _ _ _ _ => rfl
  go_enter_defers Tryz.func9, Tryz.ntmps9
  go_upto_region 5 with (fail)
  obtain ⟨V, hV⟩ : ∃ V, V = w.heap.size := ⟨_, rfl⟩
  obtain ⟨W4, hW4⟩ : ∃ W, W = (((w.alloc (.cells #[.int .i64 0, .int .i64 0, .int .i64 0, .int .i64 0, .slice none 0 0, .slice none 0 0] 25)).alloc (.cells #[.int .i64 0] 3)).alloc (.cells #[.int .i64 0] 26)).alloc (.cells #[.int .i64 75, .int .i64 65536, .int .i64 0, .int .i64 1000, .slice none 0 0, .slice none 0 0, .int .i64 0] 51) := ⟨_, rfl⟩
  rw [← hW4, ← hV]
  have hz1 : (w.alloc (.cells #[.int .i64 0, .int .i64 0, .int .i64 0, .int .i64 0, .slice none 0 0, .slice none 0 0] 25)).heap.size = V + 1 := by rw [hV]; simp
  have hz2 : ((w.alloc (.cells #[.int .i64 0, .int .i64 0, .int .i64 0, .int .i64 0, .slice none 0 0, .slice none 0 0] 25)).alloc (.cells #[.int .i64 0] 3)).heap.size = V + 1 + 1 := by rw [hV]; simp
  have hz3 : (((w.alloc (.cells #[.int .i64 0, .int .i64 0, .int .i64 0, .int .i64 0, .slice none 0 0, .slice none 0 0] 25)).alloc (.cells #[.int .i64 0] 3)).alloc (.cells #[.int .i64 0] 26)).heap.size = V + 1 + 1 + 1 := by rw [hV]; simp
  have hx4 : Ext w W4 := by rw [hW4]; exact ((((Ext.rfl' w).al _).al _).al _).al _
  have bV : W4.heap[V]? = some (.cells #[.int .i64 0, .int .i64 0, .int .i64 0, .int .i64 0, .slice none 0 0, .slice none 0 0] 25 (0, 0)) := by
    have h0 := heap_alloc_new w (.cells #[.int .i64 0, .int .i64 0, .int .i64 0, .int .i64 0, .slice none 0 0, .slice none 0 0] 25)
    rw [← hV] at h0
    rw [hW4]
    exact ((((Ext.rfl' (w.alloc _)).al _).al _).al _).block V (by rw [hz1]; omega) |>.trans h0
  have bQ : W4.heap[V + 1]? = some (.cells #[.int .i64 0] 3 (0, 0)) := by
    have h0 := heap_alloc_new (w.alloc (.cells #[.int .i64 0, .int .i64 0, .int .i64 0, .int .i64 0, .slice none 0 0, .slice none 0 0] 25)) (.cells #[.int .i64 0] 3)
    rw [hz1] at h0
    rw [hW4]
    exact (((Ext.rfl' ((w.alloc _).alloc _)).al _).al _).block (V + 1) (by rw [hz2]; omega) |>.trans h0
  have bR : W4.heap[V + 1 + 1]? = some (.cells #[.int .i64 0] 26 (0, 0)) := by
    have h0 := heap_alloc_new ((w.alloc (.cells #[.int .i64 0, .int .i64 0, .int .i64 0, .int .i64 0, .slice none 0 0, .slice none 0 0] 25)).alloc (.cells #[.int .i64 0] 3)) (.cells #[.int .i64 0] 26)
    rw [hz2] at h0
    rw [hW4]
    exact ((Ext.rfl' (((w.alloc _).alloc _).alloc _)).al _).block (V + 1 + 1) (by rw [hz3]; omega) |>.trans h0
  have bP : W4.heap[V + 1 + 1 + 1]? = some (.cells rowB 51 (0, 0)) := by
    have h0 := heap_alloc_new (((w.alloc (.cells #[.int .i64 0, .int .i64 0, .int .i64 0, .int .i64 0, .slice none 0 0, .slice none 0 0] 25)).alloc (.cells #[.int .i64 0] 3)).alloc (.cells #[.int .i64 0] 26)) (.cells #[.int .i64 75, .int .i64 65536, .int .i64 0, .int .i64 1000, .slice none 0 0, .slice none 0 0, .int .i64 0] 51)
    rw [hz3] at h0
    rw [hW4]
    exact h0
  have HV := Lib.hid hV
  have HBV := Lib.hid bV
  have HBQ := Lib.hid bQ
  have HBR := Lib.hid bR
  obtain ⟨P, hP⟩ : ∃ P, P = V + 1 + 1 + 1 := ⟨_, rfl⟩
  rw [← hP] at bP ⊢
  have HBP := Lib.hid bP
  have hPV : V + 1 + 1 < P := by omega
  clear hW4 hV hz1 hz2 hz3 bV bQ bR bP hP hmf
  cases hT : treeL l with
  | error n =>
    have CT2 : Hid (∀ w', Calls Tryz.prog 23 #[.string s] w' fun e w2 => e = .panicked [{ v := .iface 48 (.int .i64 (n : Int)), recovered := false }] ∧ Ext w' w2) := Lib.hid (fun w' => (CT.out w').mono (by
      rintro e w2 ⟨hx, hq⟩
      rw [hT] at hq
      exact ⟨hq, hx⟩))
    have HPA := Lib.hid (parse_tree hl hT)
    clear CT hT
    go_wp2_with (first
      | (go_at_call 22; refine (cdirs_c _).mono ?_; rintro e w5 ⟨db, rfl, hdb, hx5⟩)
      | (go_at_call 23; refine (CT2.out _).mono ?_; rintro e w6 ⟨rfl, hx6⟩))
    have hx46 := hx5.tr hx6
    have rv := (hx46.block V (row_lt HBV.out)).trans HBV.out
    have rq := (hx46.block (V + 1) (row_lt HBQ.out)).trans HBQ.out
    have rr := (hx46.block (V + 1 + 1) (row_lt HBR.out)).trans HBR.out
    refine leaves_cons (f := 20) (args := #[.pointer (some ⟨V, 0, none⟩), .pointer (some ⟨V + 1, 0, none⟩), .pointer (some ⟨V + 1 + 1, 0, none⟩)]) (by simp) (by simp [go_sem]) ?_
    refine (parseD_caught V (V + 1) (V + 1 + 1) (n : Int) w6 _ _ _ _ _ _ _ _ rv rq rr (by omega) (by omega) (by omega)).mono ?_
    rintro e u' w'' ⟨rfl, rfl, hpd⟩
    have g0 := (row_facts hpd.v 0 _ rfl).1
    have g1 := (row_facts hpd.v 1 _ rfl).1
    have g2 := (row_facts hpd.v 2 _ rfl).1
    have g3 := (row_facts hpd.v 3 _ rfl).1
    have g4 := (row_facts hpd.v 4 _ rfl).1
    have g5 := (row_facts hpd.v 5 _ rfl).1
    have g6 := (row_facts hpd.q 0 _ rfl).1
    have g7 := (row_facts hpd.r 0 _ rfl).1
    refine ⟨.tuple #[.agg zCf, .int .i64 (n : Int), .int .i64 60], by simp [results, Tryz.results9, go_sem, g0, g1, g2, g3, g4, g5, g6, g7, zCf], ?_⟩
    refine Ret.mk (IsPa.bad _ _ 60 HPA.out) ?_
    have hV := HV.out
    exact ext_stp (hx4.tr hx46) (hpd.s (fun i => i = 1) (fun b => if b < w.heap.size then 0 else 1) (if_neg (by omega)) (if_neg (by omega)) (if_neg (by omega))) (fun b hb => by simp [hb])
  | ok ns =>
    have CT2 : Hid (∀ w', Calls Tryz.prog 23 #[.string s] w' fun e w2 => ∃ v, e = .returned v ∧ IsTree ns v w2 ∧ Ext w' w2) := Lib.hid (fun w' => (CT.out w').mono (by
      rintro e w2 ⟨hx, hq⟩
      rw [hT] at hq
      obtain ⟨v, h1, h2⟩ := hq
      exact ⟨v, h1, h2, hx⟩))
    have HT := Lib.hid hT
    clear CT hT
    go_wp2_with (first
      | (go_at_call 22; refine (cdirs_c _).mono ?_; rintro e w5 ⟨db, rfl, hdb, hx5⟩; have HDB := Lib.hid hdb; clear hdb)
      | (go_at_call 23; refine (CT2.out _).mono ?_; rintro e w6 ⟨v, rfl, ⟨f, hwf, hfl, pt, pk, B, d, rfl, h3, hrd, hfo⟩, hx6⟩; have HWF := Lib.hid hwf; have HFL := Lib.hid hfl; have HRD := Lib.hid hrd; have HFO := Lib.hid hfo; clear hwf hfl hrd hfo))
    have hT := HT.out
    rw [← HFL.out] at hT
    have hx46 := hx5.tr hx6
    have rv := (hx46.block V (row_lt HBV.out)).trans HBV.out
    have rq := (hx46.block (V + 1) (row_lt HBQ.out)).trans HBQ.out
    have rr := (hx46.block (V + 1 + 1) (row_lt HBR.out)).trans HBR.out
    have rp := (hx46.block P (row_lt HBP.out)).trans HBP.out
    have hfb := tree_fo hl hT
    have CB := cbuild_c (f.size + 1) f (Nat.lt_succ_self _) w6 (oP P) P db none cf0 0 0 pk B d (cfat_of rp) (ge_of rp (HE.out.ext (hx4.tr hx46))) (dirsz_of rp (HDB.out.ext hx6)) (foz_of rp HFO.out) (rdz_of rp HRD.out (fun u hu => by obtain ⟨x, _, rfl⟩ := List.mem_map.1 hu; exact rowB_ptr _)) HWF.out hfb.1 cf0_b (by have := hfb.2; omega) trivial
    have hkV : ¬ KB (oP P V) := by rw [oP_ne (by omega)]; unfold KB; omega
    have hkQ : ¬ KB (oP P (V + 1)) := by rw [oP_ne (by omega)]; unfold KB; omega
    have hkR : ¬ KB (oP P (V + 1 + 1)) := by rw [oP_ne (by omega)]; unfold KB; omega
    have hold : ∀ b, b < w.heap.size → ¬ KB (oP P b) := fun b hb => by rw [oP_ne (by have := HV.out; omega)]; unfold KB; omega
    have HHO := Lib.hid hold
    have HGE := Lib.hid (ge_of rp (HE.out.ext (hx4.tr hx46)))
    clear hold
    cases hb : buildF none [] cf0 f with
    | error n =>
      rw [hb] at CB
      have HPA := Lib.hid (parse_err hl HWF.out hT hb)
      clear hb hT
      refine CB.mono ?_
      rintro e w7 ⟨o7, s7, hq⟩
      obtain rfl : e = .panicked [{ v := .iface 48 (.int .i64 (n : Int)), recovered := false }] := hq
      have rv7 := (s7.keep V (row_lt rv) hkV).trans rv
      have rq7 := (s7.keep (V + 1) (row_lt rq) hkQ).trans rq
      have rr7 := (s7.keep (V + 1 + 1) (row_lt rr) hkR).trans rr
      go_wp2_with fail
      refine leaves_cons (f := 20) (args := #[.pointer (some ⟨V, 0, none⟩), .pointer (some ⟨V + 1, 0, none⟩), .pointer (some ⟨V + 1 + 1, 0, none⟩)]) (by simp) (by simp [go_sem]) ?_
      refine (parseD_caught V (V + 1) (V + 1 + 1) (n : Int) w7 _ _ _ _ _ _ _ _ rv7 rq7 rr7 (by omega) (by omega) (by omega)).mono ?_
      rintro e u' w'' ⟨rfl, rfl, hpd⟩
      have g0 := (row_facts hpd.v 0 _ rfl).1
      have g1 := (row_facts hpd.v 1 _ rfl).1
      have g2 := (row_facts hpd.v 2 _ rfl).1
      have g3 := (row_facts hpd.v 3 _ rfl).1
      have g4 := (row_facts hpd.v 4 _ rfl).1
      have g5 := (row_facts hpd.v 5 _ rfl).1
      have g6 := (row_facts hpd.q 0 _ rfl).1
      have g7 := (row_facts hpd.r 0 _ rfl).1
      refine ⟨.tuple #[.agg zCf, .int .i64 (n : Int), .int .i64 60], by simp [results, Tryz.results9, go_sem, g0, g1, g2, g3, g4, g5, g6, g7, zCf], ?_⟩
      refine Ret.mk (IsPa.bad _ _ 60 HPA.out) ?_
      have hV := HV.out
      exact ext_stp (ext_stp (hx4.tr hx46) s7 HHO.out) (hpd.s (fun i => i = 1) (fun b => if b < w.heap.size then 0 else 1) (if_neg (by omega)) (if_neg (by omega)) (if_neg (by omega))) (fun b hb => by simp [hb])
    | ok r =>
      rw [hb] at CB
      have hPA := parse_ok hl HWF.out hT hb
      have hbb := build_b _ _ _ _ _ _ HWF.out hb cf0_b
      have htt := build_t _ _ _ _ _ hfb.1 hb cf0_t
      have hbb := hbb.mono (N := 65536) (by have := hfb.2; omega)
      have hcs := CfS.of hbb htt
      have HBB := Lib.hid hbb
      have HTT := Lib.hid htt
      clear hb hT hbb htt
      refine CB.mono ?_
      rintro e w7 ⟨o7, s7, hq⟩
      obtain ⟨rfl, line, U, UA, uc, S, SA, sc, hcf⟩ := hq
      have rv7 := (s7.keep V (row_lt rv) hkV).trans rv
      have rq7 := (s7.keep (V + 1) (row_lt rq) hkQ).trans rq
      have rr7 := (s7.keep (V + 1 + 1) (row_lt rr) hkR).trans rr
      have ov7 := (s7.own V (row_lt rv)).trans (oP_ne (show V ≠ P by omega))
      have oq7 := (s7.own (V + 1) (row_lt rq)).trans (oP_ne (show V + 1 ≠ P by omega))
      have or7 := (s7.own (V + 1 + 1) (row_lt rr)).trans (oP_ne (show V + 1 + 1 ≠ P by omega))
      have hx7 := ext_stp (hx4.tr hx46) s7 HHO.out
      have CC := cCheck_c r.2 U UA uc S SA sc w7 (HE.out.ext hx7) hcf.rd hcs
      have k0 : w7.cell? ⟨P, 0, none⟩ = some (.int .i64 r.2.keep) := (row_facts hcf.row 0 _ rfl).1
      have k1 : w7.cell? ⟨P, 1, none⟩ = some (.int .i64 r.2.body) := (row_facts hcf.row 1 _ rfl).1
      have k2 : w7.cell? ⟨P, 2, none⟩ = some (.int .i64 r.2.store) := (row_facts hcf.row 2 _ rfl).1
      have k3 : w7.cell? ⟨P, 3, none⟩ = some (.int .i64 r.2.conns) := (row_facts hcf.row 3 _ rfl).1
      have k4 : w7.cell? ⟨P, 4, none⟩ = some (.slice UA r.2.ups.length uc) := (row_facts hcf.row 4 _ rfl).1
      have k5 : w7.cell? ⟨P, 5, none⟩ = some (.slice SA r.2.srvs.length sc) := (row_facts hcf.row 5 _ rfl).1
      have HCF := Lib.hid hcf
      have HS7 := Lib.hid s7
      have HOV := Lib.hid (And.intro ov7 (And.intro oq7 or7))
      clear CB hcs hcf s7 rv rq rr rp ov7 oq7 or7 hfb
      have HRV := Lib.hid rv7
      have HRQ := Lib.hid rq7
      have HRR := Lib.hid rr7
      clear rv7 rq7 rr7
      cases hg : goodC r.2 with
      | false =>
        rw [hg] at CC hPA
        have HPA : Hid (parseC l = (cfZ, 0, 60)) := Lib.hid hPA
        have CC2 : Hid (Calls Tryz.prog 15 #[.agg #[.int .i64 r.2.keep, .int .i64 r.2.body, .int .i64 r.2.store, .int .i64 r.2.conns, .slice UA r.2.ups.length uc, .slice SA r.2.srvs.length sc]] w7 (Gives (.int .i64 60) w7)) := Lib.hid CC
        clear hPA hg CC
        go_wp2_with (go_at_call 15; refine CC2.out.mono ?_; rintro e w8 ⟨rfl, hx8⟩)
        have rv8 := (hx8.block V (row_lt HRV.out)).trans HRV.out
        have rq8 := (hx8.block (V + 1) (row_lt HRQ.out)).trans HRQ.out
        have rr8 := (hx8.block (V + 1 + 1) (row_lt HRR.out)).trans HRR.out
        refine leaves_cons (f := 20) (args := #[.pointer (some ⟨V, 0, none⟩), .pointer (some ⟨V + 1, 0, none⟩), .pointer (some ⟨V + 1 + 1, 0, none⟩)]) (by simp) (by simp [go_sem]) ?_
        refine (parseD_caught V (V + 1) (V + 1 + 1) 0 w8 _ _ _ _ _ _ _ _ rv8 rq8 rr8 (by omega) (by omega) (by omega)).mono ?_
        rintro e u' w'' ⟨rfl, rfl, hpd⟩
        have g0 := (row_facts hpd.v 0 _ rfl).1
        have g1 := (row_facts hpd.v 1 _ rfl).1
        have g2 := (row_facts hpd.v 2 _ rfl).1
        have g3 := (row_facts hpd.v 3 _ rfl).1
        have g4 := (row_facts hpd.v 4 _ rfl).1
        have g5 := (row_facts hpd.v 5 _ rfl).1
        have g6 := (row_facts hpd.q 0 _ rfl).1
        have g7 := (row_facts hpd.r 0 _ rfl).1
        refine ⟨.tuple #[.agg zCf, .int .i64 0, .int .i64 60], by simp [results, Tryz.results9, go_sem, g0, g1, g2, g3, g4, g5, g6, g7, zCf], ?_⟩
        refine Ret.mk (IsPa.bad _ _ 60 HPA.out) ?_
        have hV := HV.out
        exact ext_stp (hx7.tr hx8) (hpd.s (fun i => i = 1) (fun b => if b < w.heap.size then 0 else 1) (if_neg (by omega)) (if_neg (by omega)) (if_neg (by omega))) (fun b hb => by simp [hb])
      | true =>
        rw [hg] at CC hPA
        have HPA : Hid (parseC l = (r.2, 0, 0)) := Lib.hid hPA
        have CC2 : Hid (Calls Tryz.prog 15 #[.agg #[.int .i64 r.2.keep, .int .i64 r.2.body, .int .i64 r.2.store, .int .i64 r.2.conns, .slice UA r.2.ups.length uc, .slice SA r.2.srvs.length sc]] w7 (Gives (.int .i64 0) w7)) := Lib.hid CC
        clear hPA hg CC
        go_upto_region 8 with (go_at_call 15; refine CC2.out.mono ?_; rintro e w8 ⟨rfl, hx8⟩)
        have rv8 := (hx8.block V (row_lt HRV.out)).trans HRV.out
        have rq8 := (hx8.block (V + 1) (row_lt HRQ.out)).trans HRQ.out
        have rr8 := (hx8.block (V + 1 + 1) (row_lt HRR.out)).trans HRR.out
        have k0 := (hx8.cell (lt_of_cell k0)).trans k0
        have k1 := (hx8.cell (lt_of_cell k1)).trans k1
        have k2 := (hx8.cell (lt_of_cell k2)).trans k2
        have k3 := (hx8.cell (lt_of_cell k3)).trans k3
        have k4 := (hx8.cell (lt_of_cell k4)).trans k4
        have k5 := (hx8.cell (lt_of_cell k5)).trans k5
        have v0 := row_facts rv8 0 _ rfl
        have v1 := row_facts rv8 1 _ rfl
        have v2 := row_facts rv8 2 _ rfl
        have v3 := row_facts rv8 3 _ rfl
        have v4 := row_facts rv8 4 _ rfl
        have v5 := row_facts rv8 5 _ rfl
        have q0 := row_facts rq8 0 _ rfl
        have r0 := row_facts rr8 0 _ rfl
        have HRV8 := Lib.hid rv8
        have HRQ8 := Lib.hid rq8
        have HRR8 := Lib.hid rr8
        clear rv8 rq8 rr8
        have hn1 : ¬ V = V + 1 := by omega
        have hn2 : ¬ V = V + 1 + 1 := by omega
        have hn3 : ¬ V + 1 = V + 1 + 1 := by omega
        go_wp2
        refine leaves_cons (f := 20) (args := #[.pointer (some ⟨V, 0, none⟩), .pointer (some ⟨V + 1, 0, none⟩), .pointer (some ⟨V + 1 + 1, 0, none⟩)]) (by simp) (by simp [go_sem]) ?_
        refine (parseD_idle _ _ _ _).mono ?_
        rintro e u' w'' ⟨rfl, rfl, rfl⟩
        refine ⟨.tuple #[cfV r.2 UA uc SA sc, .int .i64 0, .int .i64 0], by simp [results, Tryz.results9, go_sem, v0.1, v1.1, v2.1, v3.1, v4.1, v5.1, q0.1, r0.1, hn1, hn2, hn3, cfV], ?_⟩
        have sF : ∀ (K : Nat → Prop) (o : Ow), K (o V) → K (o (V + 1)) → K (o (V + 1 + 1)) → Stp K w8 o ((((((((w8.setCell ⟨V, 0, none⟩ (.int .i64 r.2.keep)).setCell ⟨V, 1, none⟩ (.int .i64 r.2.body)).setCell ⟨V, 2, none⟩ (.int .i64 r.2.store)).setCell ⟨V, 3, none⟩ (.int .i64 r.2.conns)).setCell ⟨V, 4, none⟩ (.slice UA r.2.ups.length uc)).setCell ⟨V, 5, none⟩ (.slice SA r.2.srvs.length sc)).setCell ⟨V + 1, 0, none⟩ (.int .i64 0)).setCell ⟨V + 1 + 1, 0, none⟩ (.int .i64 0)) o := fun K o k1 k2 k3 => by
          refine Stp.tr ?_ (Stp.set (V + 1 + 1) 0 _ (fun _ => k3))
          refine Stp.tr ?_ (Stp.set (V + 1) 0 _ (fun _ => k2))
          refine Stp.tr ?_ (Stp.set V 5 _ (fun _ => k1))
          refine Stp.tr ?_ (Stp.set V 4 _ (fun _ => k1))
          refine Stp.tr ?_ (Stp.set V 3 _ (fun _ => k1))
          refine Stp.tr ?_ (Stp.set V 2 _ (fun _ => k1))
          refine Stp.tr ?_ (Stp.set V 1 _ (fun _ => k1))
          exact Stp.set V 0 _ (fun _ => k1)
        obtain ⟨ov, oq, orr⟩ := HOV.out
        have hc8 := (HCF.out.ext hx8).stp (sF (fun i => i = 0) o7 ov oq orr) (fun i hi => hi)
        have hV := HV.out
        refine Ret.mk ?_ (ext_stp (hx7.tr hx8) (sF (fun i => i = 1) (fun b => if b < w.heap.size then 0 else 1) (if_neg (by omega)) (if_neg (by omega)) (if_neg (by omega))) (fun b hb => by simp [hb]))
        rw [HPA.out]
        exact ⟨_, rfl, ⟨U, UA, uc, S, SA, sc, rfl, hc8.rd⟩, HBB.out, HTT.out⟩
end Go.Proofs.YtmnohicojefhfaaGreatDoor
