/-
A location's check: handed on to an upstream; of no kind.
-/
import Derived.Test.YtmnohicojefhfaaGreatDoorCh7
set_option linter.unusedVariables false
set_option linter.unusedSimpArgs false
namespace Go.Proofs.YtmnohicojefhfaaGreatDoor
open Go.RowKit


set_option maxRecDepth 100000 in
theorem loF1_c (nm up : List UInt8) (B : Option Addr) (n d : Nat) (t r : Int) (p : Nat) (w : World) (hc : w.cell? ⟨p, 6, none⟩ = some (.string (str up))) :
    Calls Tryz.prog 127 #[.agg #[.string (str nm), .slice B n d, .int .i64 t, .int .i64 r], .pointer (some ⟨p, 0, none⟩)] w (Gives (.bool (decide (nm = up))) w) := by
  have hx : ∀ o, (w.alloc o).cell? ⟨p, 6, none⟩ = some (.string (str up)) := fun o => (((Ext.rfl' w).al o).cell (lt_of_cell hc)).trans hc
  have hne : p ≠ w.heap.size := by have : p < w.heap.size := lt_of_cell hc; omega
  obtain ⟨s, hs⟩ : ∃ s, s = str nm := ⟨_, rfl⟩
  obtain ⟨u, hu⟩ : ∃ s, s = str up := ⟨_, rfl⟩
  rw [← hs]
  rw [← hu] at hx
  clear hc
  by_cases h : nm = up
  · obtain rfl : s = u := by rw [hs, hu, h]
    rw [decide_eq_true h]
    clear hs hu h
    go_enter Tryz.func127, Tryz.ntmps127
    go_wp2
    go_ret
    exact ⟨ret_bool (by simp), by (repeat (first | exact Ext.rfl' _ | assumption | refine Ext.dr ?_ | refine Ext.drN ?_ _ | refine Ext.al ?_ _ | refine Ext.st ?_ (by simp) _ | refine Ext.tr ?_ (by assumption)))⟩
  · have g1 : ¬ s.toList = u.toList := by rw [hs, hu, str_tl, str_tl]; exact h
    have g2 : (s.toList == u.toList) = false := beq_eq_false_iff_ne.2 g1
    rw [decide_eq_false h]
    clear hs hu h
    go_enter Tryz.func127, Tryz.ntmps127
    go_wp2
    go_ret
    exact ⟨ret_bool (by simp), by (repeat (first | exact Ext.rfl' _ | assumption | refine Ext.dr ?_ | refine Ext.drN ?_ _ | refine Ext.al ?_ _ | refine Ext.st ?_ (by simp) _ | refine Ext.tr ?_ (by assumption)))⟩
set_option maxRecDepth 100000 in
set_option maxHeartbeats 8000000 in
theorem cLoRight_2 (l : Lo14) (hS : LoS l) (U : List (Up14 × Hd)) (UA : Option Addr) (uc : Nat) (w : World) (hul : U.length ≤ 1099511627776) (hrd : Rd w UA (U.flatMap upV)) (hk : l.kind = 2) :
    Calls Tryz.prog 82 #[.agg (LoV l), .slice UA U.length uc] w (Gives (.bool (locC (U.map (·.1)) l)) w) := by
  have HL : Hid (locC (U.map (·.1)) l = (loc0 l && loc2 (U.map (·.1)) l && decide (restC l = lo0))) := Lib.hid (by unfold locC; rw [if_neg (by rw [hk]; decide), if_pos hk])
  have HL1 : Hid (loc2 (U.map (·.1)) l = (U.any (fun x => decide (x.1.name = l.up)) && inB l.gzip 0 9)) := Lib.hid (by unfold loc2; rw [List.any_map]; rfl)
  have HL2 : Hid (restC l = ⟨[], 0, l.root, l.index, 0, l.expires, [], false, 0, 0, l.status, l.goal⟩) := Lib.hid (by unfold restC; rw [if_neg (by rw [hk]; decide), if_pos hk])
  have CU : Hid (∀ w' p, Ext w w' → w'.cell? ⟨p, 6, none⟩ = some (.string (str l.up)) → Calls Tryz.prog 69 #[.slice UA U.length uc, .func (.func 127) #[] #[.pointer (some ⟨p, 0, none⟩)]] w' (Gives (.bool (U.any (fun x => decide (x.1.name = l.up)))) w')) := Lib.hid (fun w' p hx hc =>
    conU_c (fun x : Up14 × Hd => .string (str x.1.name)) (fun x => .slice x.2.1 x.1.peers.length x.2.2) (fun x => .int .i64 x.1.timeout) (fun x => .int .i64 x.1.retries) U UA uc 127 #[.pointer (some ⟨p, 0, none⟩)] (fun x => decide (x.1.name = l.up)) w' hul (fun _ _ => by kernel_rfl) (hrd.ext hx)
      (fun x _ w2 h2 => loF1_c x.1.name l.up x.2.1 x.1.peers.length x.2.2 x.1.timeout x.1.retries p w2 ((h2.cell (lt_of_cell hc)).trans hc)))
  generalize locC (U.map (·.1)) l = LL at *
  generalize restC l = RR at *
  obtain ⟨b1, hb1⟩ : ∃ b, b = loc2 (U.map (·.1)) l := ⟨_, rfl⟩
  rw [← hb1] at HL HL1
  clear hb1 hrd
  obtain ⟨q, hq⟩ : ∃ b, b = U.any (fun x => decide (x.1.name = l.up)) := ⟨_, rfl⟩
  rw [← hq] at CU HL1
  clear hq
  obtain ⟨UL, hUL⟩ : ∃ n, n = U.length := ⟨_, rfl⟩
  rw [← hUL] at CU hul ⊢
  clear hUL
  have CP := Lib.hid (fun w => cpath_c l.pre hS.pre w)
  obtain ⟨b0, hb0⟩ : ∃ b, b = loc0 l := ⟨_, rfl⟩
  rw [← hb0] at HL
  obtain ⟨pre, k, root, index, g, e, up, ca, r, bu, st, goal⟩ := l
  dsimp only at *
  subst hk
  have HB0 : Hid (b0 = (pathC pre && inB r 0 1000000 && inB bu 0 1000000 && (decide (0 < r) || decide (bu = 0)))) := Lib.hid hb0
  obtain ⟨a1, ha1⟩ : ∃ b, b = pathC pre := ⟨_, rfl⟩
  obtain ⟨sp, hsp⟩ : ∃ s, s = str pre := ⟨_, rfl⟩
  obtain ⟨sr, hsr⟩ : ∃ s, s = str root := ⟨_, rfl⟩
  obtain ⟨si, hsi⟩ : ∃ s, s = str index := ⟨_, rfl⟩
  obtain ⟨su, hsu⟩ : ∃ s, s = str up := ⟨_, rfl⟩
  obtain ⟨sg, hsg⟩ : ∃ s, s = str goal := ⟨_, rfl⟩
  have HSR := Lib.hid hsr
  have HSI := Lib.hid hsi
  have HSU := Lib.hid hsu
  have HSG := Lib.hid hsg
  rw [← ha1] at CP HB0
  rw [← hsp] at CP
  unfold LoV
  dsimp only
  rw [← hsp, ← hsr, ← hsi, ← hsu, ← hsg]
  clear ha1 hsp hsr hsi hsu hsg hb0
  have hx0 := (Ext.rfl' w).al (.cells #[.string sp, .int .i64 2, .string sr, .string si, .int .i64 g, .int .i64 e, .string su, .bool ca, .int .i64 r, .int .i64 bu, .int .i64 st, .string sg] 81)
  go_enter Tryz.func82, Tryz.ntmps82
  go_upto_region 1 with (fail)
  obtain ⟨W0, hW0⟩ : ∃ W, W = w.alloc (.cells #[.string sp, .int .i64 2, .string sr, .string si, .int .i64 g, .int .i64 e, .string su, .bool ca, .int .i64 r, .int .i64 bu, .int .i64 st, .string sg] 81) := ⟨_, rfl⟩
  rw [← hW0]
  rw [← hW0] at hx0
  have hcl : Hid (∀ wx, Ext W0 wx → ∀ j u, (#[.string sp, .int .i64 2, .string sr, .string si, .int .i64 g, .int .i64 e, .string su, .bool ca, .int .i64 r, .int .i64 bu, .int .i64 st, .string sg] : Array Value)[j]? = some u → wx.cell? ⟨w.heap.size, j, none⟩ = some u) := Lib.hid (fun wx hx => by rw [hW0] at hx; exact fun j u h => hx.new j u h)
  have hlt0 : w.heap.size < W0.heap.size := by rw [hW0]; simp
  clear hW0
  have z0 := hcl.out W0 (Ext.rfl' _) 0 _ rfl
  go_cut [5] (fun v5 wx => v5 = .bool b0 ∧ Ext W0 wx)
  case first => as_aux_lemma =>
    by_cases hr : 0 < r
    · have d1 : decide (0 < r) = true := decide_eq_true hr
      have HD : Hid ((decide (0 < r) || decide (bu = 0)) = true) := Lib.hid (by rw [d1]; rfl)
      go_wp2_with (first
        | (go_at_call 124; refine (CP.out _).mono ?_; rintro e w1 ⟨rfl, hx1⟩; have q8 := hcl.out _ hx1 8 _ rfl; have q9 := hcl.out _ hx1 9 _ rfl; cases a1)
        | (go_at_call 29; refine (cinB_c _ _ _ _).mono ?_; rintro e w2 ⟨rfl, rfl⟩))
      all_goals
        go_meet
        exact ⟨by rw [HB0.out, HD.out]; simp [*], by assumption⟩
    · have d1 : decide (0 < r) = false := decide_eq_false hr
      by_cases hb : bu = 0
      · have d2 : (bu == 0) = true := beq_iff_eq.2 hb
        have HD : Hid ((decide (0 < r) || decide (bu = 0)) = true) := Lib.hid (by rw [decide_eq_true hb]; simp)
        clear hb
        go_wp2_with (first
          | (go_at_call 124; refine (CP.out _).mono ?_; rintro e w1 ⟨rfl, hx1⟩; have q8 := hcl.out _ hx1 8 _ rfl; have q9 := hcl.out _ hx1 9 _ rfl; cases a1)
          | (go_at_call 29; refine (cinB_c _ _ _ _).mono ?_; rintro e w2 ⟨rfl, rfl⟩))
        all_goals
          go_meet
          exact ⟨by rw [HB0.out, HD.out]; simp [*], by assumption⟩
      · have d2 : (bu == 0) = false := beq_eq_false_iff_ne.2 hb
        have HD : Hid ((decide (0 < r) || decide (bu = 0)) = false) := Lib.hid (by rw [decide_eq_false hb, d1]; rfl)
        go_wp2_with (first
          | (go_at_call 124; refine (CP.out _).mono ?_; rintro e w1 ⟨rfl, hx1⟩; have q8 := hcl.out _ hx1 8 _ rfl; have q9 := hcl.out _ hx1 9 _ rfl; cases a1)
          | (go_at_call 29; refine (cinB_c _ _ _ _).mono ?_; rintro e w2 ⟨rfl, rfl⟩))
        all_goals
          go_meet
          exact ⟨by rw [HB0.out, HD.out]; simp [*], by assumption⟩
  case rest =>
    rw [← HSU.out] at CU
    obtain ⟨rfl, hw1⟩ := hcut
    obtain ⟨W1, rfl⟩ : ∃ W, W = wc := ⟨_, rfl⟩
    have e1 := hcl.out _ hw1
    have c0 := e1 0 _ rfl
    have c1 := e1 1 _ rfl
    have c2 := e1 2 _ rfl
    have c3 := e1 3 _ rfl
    have c4 := e1 4 _ rfl
    have c5 := e1 5 _ rfl
    have c6 := e1 6 _ rfl
    have c7 := e1 7 _ rfl
    have c8 := e1 8 _ rfl
    have c9 := e1 9 _ rfl
    have ca1 := e1 10 _ rfl
    have cb1 := e1 11 _ rfl
    clear e1
    have hne : w.heap.size ≠ W1.heap.size := by have := hw1.size; omega
    go_upto_region 4 with (fail)
    obtain ⟨W2, hW2⟩ : ∃ W, W = W1.alloc (.cells #[.string ⟨#[]⟩, .int .i64 0, .string sr, .string si, .int .i64 g, .int .i64 e, .string su, .bool ca, .int .i64 0, .int .i64 0, .int .i64 st, .string sg] 81) := ⟨_, rfl⟩
    have hx2 : Ext W1 W2 := by rw [hW2]; exact (Ext.rfl' W1).al _
    have hr2 : W2.heap[W1.heap.size]? = some (.cells #[.string ⟨#[]⟩, .int .i64 0, .string sr, .string si, .int .i64 g, .int .i64 e, .string su, .bool ca, .int .i64 0, .int .i64 0, .int .i64 st, .string sg] 81 (0, 0)) := by rw [hW2]; exact heap_alloc_new W1 _
    rw [← hW2]
    clear hW2 c0 c1 c2 c3 c4 c5 c6 c7 c8 c9 ca1 cb1
    obtain ⟨R, hR⟩ : ∃ R, R = W1.heap.size := ⟨_, rfl⟩
    rw [← hR] at hr2 hne ⊢
    have HRR := Lib.hid hR
    clear hR
    have hw2 := hw1.tr hx2
    have hrl := row_lt hr2
    have e1 := hcl.out _ hw2
    have c1 := e1 1 _ rfl
    go_upto_block 0 with (fail)
    clear c1
    obtain ⟨b9, hb9⟩ : ∃ b, b = decide (RR = lo0) := ⟨_, rfl⟩
    have HB9 : Hid (b9 = decide ((⟨[], 0, root, index, 0, e, [], false, 0, 0, st, goal⟩ : Lo14) = lo0)) := Lib.hid (by rw [hb9, HL2.out])
    obtain ⟨bF, hbF⟩ : ∃ b, b = (b0 && b1) := ⟨_, rfl⟩
    have HFIN : Hid (LL = (bF && b9)) := Lib.hid (by rw [HL.out, hbF, hb9])
    have HBF := Lib.hid hbF
    clear hb9 hbF
    go_cut [5] (fun v5 wx => v5 = .bool bF ∧ Ext W0 wx ∧ wx.heap[R]? = some (.cells #[.string ⟨#[]⟩, .int .i64 0, .string sr, .string si, .int .i64 0, .int .i64 e, .string ⟨#[]⟩, .bool false, .int .i64 0, .int .i64 0, .int .i64 st, .string sg] 81 (0, 0)))
    case rest =>
      obtain ⟨rfl, hwF, hrF⟩ := hcut
      obtain ⟨W9, rfl⟩ : ∃ W, W = wc := ⟨_, rfl⟩
      have f0 := (row_facts hrF 0 _ rfl).1
      have f1 := (row_facts hrF 1 _ rfl).1
      have f2 := (row_facts hrF 2 _ rfl).1
      have f3 := (row_facts hrF 3 _ rfl).1
      have f4 := (row_facts hrF 4 _ rfl).1
      have f5 := (row_facts hrF 5 _ rfl).1
      have f6 := (row_facts hrF 6 _ rfl).1
      have f7 := (row_facts hrF 7 _ rfl).1
      have f8 := (row_facts hrF 8 _ rfl).1
      have f9 := (row_facts hrF 9 _ rfl).1
      have fa := (row_facts hrF 10 _ rfl).1
      have fb := (row_facts hrF 11 _ rfl).1
      clear hrF
      cases bF with
      | false =>
        go_wp2
        go_ret
        exact ⟨ret_bool (by rw [HFIN.out]; simp), hx0.tr hwF⟩
      | true =>
        have HEQ : ∀ w', (binOp .eql 81 (.agg #[.string ⟨#[]⟩, .int .i64 0, .string sr, .string si, .int .i64 0, .int .i64 e, .string ⟨#[]⟩, .bool false, .int .i64 0, .int .i64 0, .int .i64 st, .string sg]) (.agg #[.string ⟨#[]⟩, .int .i64 0, .string ⟨#[]⟩, .string ⟨#[]⟩, .int .i64 0, .int .i64 0, .string ⟨#[]⟩, .bool false, .int .i64 0, .int .i64 0, .int .i64 0, .string ⟨#[]⟩])).run Tryz.prog w' = .ok (.bool b9) w' := fun w' => by
          have h := eq_loc (⟨[], 0, root, index, 0, e, [], false, 0, 0, st, goal⟩ : Lo14) lo0 w'
          rw [HB9.out]
          simp only [HSU.out, HSR.out, HSI.out, HSG.out]
          exact h
        go_wp2
        go_ret
        exact ⟨ret_bool (by rw [HFIN.out]; simp), hx0.tr hwF⟩
    case first =>
      go_upto_region 11 with (fail)
      have y6 := e1 6 _ rfl
      clear e1
      have hmf : ∀ (fn : Fn) (first cap : Array Value) (w : World), (Instr.makeFunc fn first cap).run Tryz.prog w = .ok (.func fn first cap) w := fun _ _ _ _ => rfl
      go_cut [5] (fun v5 wx => v5 = .bool bF ∧ Ext W2 wx)
      case first =>
        have CU2 := Lib.hid (CU.out W2 w.heap.size (hx0.tr hw2) y6)
        cases b0
        all_goals
          go_wp2_with (first
            | (go_at_call 69; refine CU2.out.mono ?_; rintro e' w3 ⟨rfl, hx3⟩; have u4 := hcl.out _ (hw2.tr hx3) 4 _ rfl; cases q)
            | (go_at_call 29; refine (cinB_c _ _ _ _).mono ?_; rintro e' w2 ⟨rfl, rfl⟩))
          all_goals
            go_meet
            exact ⟨by rw [HBF.out, HL1.out]; simp [*], by first | exact Ext.rfl' _ | exact hx3⟩
      case rest =>
        obtain ⟨rfl, hw7⟩ := hcut
        obtain ⟨W7, rfl⟩ : ∃ W, W = wc := ⟨_, rfl⟩
        have r7 := (hw7.block R hrl).trans hr2
        have s4 := row_facts r7 4 _ rfl
        have s6 := row_facts r7 6 _ rfl
        have s7 := row_facts r7 7 _ rfl
        have HR7 := Lib.hid r7
        have HWW := Lib.hid (hw2.tr hw7)
        clear r7
        have hR0 : W0.heap.size ≤ R := by rw [HRR.out]; exact hw1.size
        go_wp2
        go_meet
        refine ⟨rfl, (((HWW.out.st hR0 _).st hR0 _).st hR0 _), ?_⟩
        have := row_set (row_set (row_set HR7.out 6 (.string ⟨#[]⟩)) 7 (.bool false)) 4 (.int .i64 0)
        exact this
set_option maxRecDepth 100000 in
set_option maxHeartbeats 8000000 in
theorem cLoRight_0 (l : Lo14) (hS : LoS l) (ups : List Up14) (UV : Value) (w : World) (h1 : l.kind ≠ 1) (h2 : l.kind ≠ 2) (h3 : l.kind ≠ 3) : Calls Tryz.prog 82 #[.agg (LoV l), UV] w (Gives (.bool (locC ups l)) w) := by
  rw [show locC ups l = false from by unfold locC; rw [if_neg h1, if_neg h2, if_neg h3]]
  have HL : Hid (loc0 l = loc0 l) := Lib.hid rfl
  have k1 : (l.kind == 1) = false := beq_eq_false_iff_ne.2 h1
  have k2 : (l.kind == 2) = false := beq_eq_false_iff_ne.2 h2
  have k3 : (l.kind == 3) = false := beq_eq_false_iff_ne.2 h3
  have CP := Lib.hid (fun w => cpath_c l.pre hS.pre w)
  obtain ⟨b0, hb0⟩ : ∃ b, b = loc0 l := ⟨_, rfl⟩
  rw [← hb0] at HL
  obtain ⟨pre, k, root, index, g, e, up, ca, r, bu, st, goal⟩ := l
  dsimp only at *
  skip
  have HB0 : Hid (b0 = (pathC pre && inB r 0 1000000 && inB bu 0 1000000 && (decide (0 < r) || decide (bu = 0)))) := Lib.hid hb0
  obtain ⟨a1, ha1⟩ : ∃ b, b = pathC pre := ⟨_, rfl⟩
  obtain ⟨sp, hsp⟩ : ∃ s, s = str pre := ⟨_, rfl⟩
  obtain ⟨sr, hsr⟩ : ∃ s, s = str root := ⟨_, rfl⟩
  obtain ⟨si, hsi⟩ : ∃ s, s = str index := ⟨_, rfl⟩
  obtain ⟨su, hsu⟩ : ∃ s, s = str up := ⟨_, rfl⟩
  obtain ⟨sg, hsg⟩ : ∃ s, s = str goal := ⟨_, rfl⟩
  have HSR := Lib.hid hsr
  have HSI := Lib.hid hsi
  have HSU := Lib.hid hsu
  have HSG := Lib.hid hsg
  rw [← ha1] at CP HB0
  rw [← hsp] at CP
  unfold LoV
  dsimp only
  rw [← hsp, ← hsr, ← hsi, ← hsu, ← hsg]
  clear ha1 hsp hsr hsi hsu hsg hb0
  have hx0 := (Ext.rfl' w).al (.cells #[.string sp, .int .i64 k, .string sr, .string si, .int .i64 g, .int .i64 e, .string su, .bool ca, .int .i64 r, .int .i64 bu, .int .i64 st, .string sg] 81)
  go_enter Tryz.func82, Tryz.ntmps82
  go_upto_region 1 with (fail)
  obtain ⟨W0, hW0⟩ : ∃ W, W = w.alloc (.cells #[.string sp, .int .i64 k, .string sr, .string si, .int .i64 g, .int .i64 e, .string su, .bool ca, .int .i64 r, .int .i64 bu, .int .i64 st, .string sg] 81) := ⟨_, rfl⟩
  rw [← hW0]
  rw [← hW0] at hx0
  have hcl : Hid (∀ wx, Ext W0 wx → ∀ j u, (#[.string sp, .int .i64 k, .string sr, .string si, .int .i64 g, .int .i64 e, .string su, .bool ca, .int .i64 r, .int .i64 bu, .int .i64 st, .string sg] : Array Value)[j]? = some u → wx.cell? ⟨w.heap.size, j, none⟩ = some u) := Lib.hid (fun wx hx => by rw [hW0] at hx; exact fun j u h => hx.new j u h)
  have hlt0 : w.heap.size < W0.heap.size := by rw [hW0]; simp
  clear hW0
  have z0 := hcl.out W0 (Ext.rfl' _) 0 _ rfl
  go_cut [5] (fun v5 wx => v5 = .bool b0 ∧ Ext W0 wx)
  case first => as_aux_lemma =>
    by_cases hr : 0 < r
    · have d1 : decide (0 < r) = true := decide_eq_true hr
      have HD : Hid ((decide (0 < r) || decide (bu = 0)) = true) := Lib.hid (by rw [d1]; rfl)
      go_wp2_with (first
        | (go_at_call 124; refine (CP.out _).mono ?_; rintro e w1 ⟨rfl, hx1⟩; have q8 := hcl.out _ hx1 8 _ rfl; have q9 := hcl.out _ hx1 9 _ rfl; cases a1)
        | (go_at_call 29; refine (cinB_c _ _ _ _).mono ?_; rintro e w2 ⟨rfl, rfl⟩))
      all_goals
        go_meet
        exact ⟨by rw [HB0.out, HD.out]; simp [*], by assumption⟩
    · have d1 : decide (0 < r) = false := decide_eq_false hr
      by_cases hb : bu = 0
      · have d2 : (bu == 0) = true := beq_iff_eq.2 hb
        have HD : Hid ((decide (0 < r) || decide (bu = 0)) = true) := Lib.hid (by rw [decide_eq_true hb]; simp)
        clear hb
        go_wp2_with (first
          | (go_at_call 124; refine (CP.out _).mono ?_; rintro e w1 ⟨rfl, hx1⟩; have q8 := hcl.out _ hx1 8 _ rfl; have q9 := hcl.out _ hx1 9 _ rfl; cases a1)
          | (go_at_call 29; refine (cinB_c _ _ _ _).mono ?_; rintro e w2 ⟨rfl, rfl⟩))
        all_goals
          go_meet
          exact ⟨by rw [HB0.out, HD.out]; simp [*], by assumption⟩
      · have d2 : (bu == 0) = false := beq_eq_false_iff_ne.2 hb
        have HD : Hid ((decide (0 < r) || decide (bu = 0)) = false) := Lib.hid (by rw [decide_eq_false hb, d1]; rfl)
        go_wp2_with (first
          | (go_at_call 124; refine (CP.out _).mono ?_; rintro e w1 ⟨rfl, hx1⟩; have q8 := hcl.out _ hx1 8 _ rfl; have q9 := hcl.out _ hx1 9 _ rfl; cases a1)
          | (go_at_call 29; refine (cinB_c _ _ _ _).mono ?_; rintro e w2 ⟨rfl, rfl⟩))
        all_goals
          go_meet
          exact ⟨by rw [HB0.out, HD.out]; simp [*], by assumption⟩
  case rest =>
    obtain ⟨rfl, hw1⟩ := hcut
    obtain ⟨W1, rfl⟩ : ∃ W, W = wc := ⟨_, rfl⟩
    have e1 := hcl.out _ hw1
    have c0 := e1 0 _ rfl
    have c1 := e1 1 _ rfl
    have c2 := e1 2 _ rfl
    have c3 := e1 3 _ rfl
    have c4 := e1 4 _ rfl
    have c5 := e1 5 _ rfl
    have c6 := e1 6 _ rfl
    have c7 := e1 7 _ rfl
    have c8 := e1 8 _ rfl
    have c9 := e1 9 _ rfl
    have ca1 := e1 10 _ rfl
    have cb1 := e1 11 _ rfl
    clear e1
    have hne : w.heap.size ≠ W1.heap.size := by have := hw1.size; omega
    go_upto_region 4 with (fail)
    obtain ⟨W2, hW2⟩ : ∃ W, W = W1.alloc (.cells #[.string ⟨#[]⟩, .int .i64 0, .string sr, .string si, .int .i64 g, .int .i64 e, .string su, .bool ca, .int .i64 0, .int .i64 0, .int .i64 st, .string sg] 81) := ⟨_, rfl⟩
    have hx2 : Ext W1 W2 := by rw [hW2]; exact (Ext.rfl' W1).al _
    have hr2 : W2.heap[W1.heap.size]? = some (.cells #[.string ⟨#[]⟩, .int .i64 0, .string sr, .string si, .int .i64 g, .int .i64 e, .string su, .bool ca, .int .i64 0, .int .i64 0, .int .i64 st, .string sg] 81 (0, 0)) := by rw [hW2]; exact heap_alloc_new W1 _
    rw [← hW2]
    clear hW2 c0 c1 c2 c3 c4 c5 c6 c7 c8 c9 ca1 cb1
    obtain ⟨R, hR⟩ : ∃ R, R = W1.heap.size := ⟨_, rfl⟩
    rw [← hR] at hr2 hne ⊢
    have HRR := Lib.hid hR
    clear hR
    have hw2 := hw1.tr hx2
    have hrl := row_lt hr2
    have e1 := hcl.out _ hw2
    have c1 := e1 1 _ rfl
    go_upto_block 0 with (fail)
    clear c1
    go_wp2
    go_ret
    exact ⟨rfl, hx0.tr hw2⟩
end Go.Proofs.YtmnohicojefhfaaGreatDoor
