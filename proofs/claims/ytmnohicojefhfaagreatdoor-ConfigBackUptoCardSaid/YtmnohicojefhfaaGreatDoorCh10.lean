/-
A server's check.
-/
import Derived.Test.YtmnohicojefhfaaGreatDoorCh9
set_option linter.unusedVariables false
set_option linter.unusedSimpArgs false
namespace Go.Proofs.YtmnohicojefhfaaGreatDoor
open Go.RowKit

theorem cLoRight_c (l : Lo14) (hS : LoS l) (U : List (Up14 × Hd)) (UA : Option Addr) (uc : Nat) (w : World) (hul : U.length ≤ 1099511627776) (hrd : Rd w UA (U.flatMap upV)) :
    Calls Tryz.prog 82 #[.agg (LoV l), .slice UA U.length uc] w (Gives (.bool (locC (U.map (·.1)) l)) w) := by
  by_cases h1 : l.kind = 1
  · exact cLoRight_1 l hS _ _ w h1
  · by_cases h2 : l.kind = 2
    · exact cLoRight_2 l hS U UA uc w hul hrd h2
    · by_cases h3 : l.kind = 3
      · exact cLoRight_3 l hS _ _ w h3
      · exact cLoRight_0 l hS _ _ w h1 h2 h3
set_option maxRecDepth 100000 in
theorem srF1_c (l : Lo14) (hS : LoS l) (U : List (Up14 × Hd)) (UA : Option Addr) (uc g : Nat) (w : World) (hul : U.length ≤ 1099511627776) (hrd : Rd w UA (U.flatMap upV)) (hc : w.cell? ⟨g, 0, none⟩ = some (.slice UA U.length uc)) :
    Calls Tryz.prog 81 #[.agg (LoV l), .pointer (some ⟨g, 0, none⟩)] w (Gives (.bool (locC (U.map (·.1)) l)) w) := by
  have C := Lib.hid (fun w' (hx : Ext w w') => cLoRight_c l hS U UA uc w' hul (hrd.ext hx))
  have hne : g ≠ w.heap.size := by have : g < w.heap.size := lt_of_cell hc; omega
  have hc2 := fun o => (((Ext.rfl' w).al o).cell (lt_of_cell hc)).trans hc
  unfold LoV at *
  generalize locC (U.map (·.1)) l = b at *
  obtain ⟨pre, k, root, index, gz, e, up, ca, r, bu, st, goal⟩ := l
  dsimp only at *
  obtain ⟨sp, hsp⟩ : ∃ s, s = str pre := ⟨_, rfl⟩
  obtain ⟨sr, hsr⟩ : ∃ s, s = str root := ⟨_, rfl⟩
  obtain ⟨si, hsi⟩ : ∃ s, s = str index := ⟨_, rfl⟩
  obtain ⟨su, hsu⟩ : ∃ s, s = str up := ⟨_, rfl⟩
  obtain ⟨sg, hsg⟩ : ∃ s, s = str goal := ⟨_, rfl⟩
  rw [← hsp, ← hsr, ← hsi, ← hsu, ← hsg] at C ⊢
  clear hsp hsr hsi hsu hsg hrd hS hc
  generalize U.length = n at *
  go_enter Tryz.func81, Tryz.ntmps81
  go_wp2_with (go_at_call 82; refine (C.out _ (by (repeat (first | exact Ext.rfl' _ | assumption | refine Ext.dr ?_ | refine Ext.drN ?_ _ | refine Ext.al ?_ _ | refine Ext.st ?_ (by simp) _ | refine Ext.tr ?_ (by assumption))))).mono ?_; rintro e' w1 ⟨rfl, hx1⟩)
  go_ret
  exact ⟨rfl, by (repeat (first | exact Ext.rfl' _ | assumption | refine Ext.dr ?_ | refine Ext.drN ?_ _ | refine Ext.al ?_ _ | refine Ext.st ?_ (by simp) _ | refine Ext.tr ?_ (by assumption)))⟩
set_option maxRecDepth 100000 in
theorem srF2_c (l : Lo14) (w : World) : Calls Tryz.prog 84 #[.agg (LoV l)] w (Gives (.string (str l.pre)) w) := by
  unfold LoV
  obtain ⟨pre, k, root, index, gz, e, up, ca, r, bu, st, goal⟩ := l
  dsimp only at *
  generalize str pre = sp at *
  generalize str root = sr at *
  generalize str index = si at *
  generalize str up = su at *
  generalize str goal = sg at *
  go_enter Tryz.func84, Tryz.ntmps84
  go_wp2
  go_ret
  exact ⟨rfl, by (repeat (first | exact Ext.rfl' _ | assumption | refine Ext.dr ?_ | refine Ext.drN ?_ _ | refine Ext.al ?_ _ | refine Ext.st ?_ (by simp) _ | refine Ext.tr ?_ (by assumption)))⟩
theorem strC_fm (l : List (List UInt8)) : strC l = l.flatMap fun x => [.string (str x)] := by
  induction l with
  | nil => rfl
  | cons x l ih => rw [List.flatMap_cons, ← ih]; rfl
structure SrS (s : Sr14) : Prop where
  nl : s.names.length ≤ 1099511627776
  ll : s.locs.length ≤ 1099511627776
  names : ∀ n ∈ s.names, n.length ≤ 140737488355328
  locs : ∀ l ∈ s.locs, LoS l
theorem key_str {s : List UInt8} (h : s.length ≤ 140737488355328) : keyOf Tryz.prog 9 (.string (str s)) = some (.string s) := by
  have := WideMaps.keyOf_string_mk (P := Tryz.prog) Tryz.underlying9 (s := str s) (by rw [str_size]; simp only [maxLen]; omega)
  rw [str_data] at this
  exact this
set_option maxRecDepth 100000 in
set_option maxHeartbeats 4000000 in
theorem cSrRight_c (s : Sr14) (hS : SrS s) (NA LA : Option Addr) (nc lc : Nat) (U : List (Up14 × Hd)) (UA : Option Addr) (uc : Nat) (w : World) (hE : ErrR w) (hul : U.length ≤ 1099511627776) (hrd : Rd w UA (U.flatMap upV))
    (hN : Rd w NA (strC s.names)) (hL : Rd w LA (s.locs.flatMap loV)) :
    Calls Tryz.prog 36 #[.agg #[.slice NA s.names.length nc, .bool s.dflt, .slice LA s.locs.length lc], .slice UA U.length uc] w (Gives (.bool (srC (U.map (·.1)) s)) w) := by
  have CN := Lib.hid (fun w' (hx : Ext w w') => allT_c (fun x : List UInt8 => str x) s.names NA nc 79 #[] hostC w' hS.nl (fun _ _ => by kernel_rfl) (by rw [← strC_fm]; exact hN.ext hx) (fun x hxm w2 h2 => chost_c x (hS.names x hxm) w2 (hE.ext (hx.tr h2))))
  have CL := Lib.hid (fun w' g (hx : Ext w w') (hg : w'.cell? ⟨g, 0, none⟩ = some (.slice UA U.length uc)) => allL_c (fun l : Lo14 => str l.pre) (fun l => l.kind) (fun l => str l.root) (fun l => str l.index) (fun l => l.gzip) (fun l => l.expires) (fun l => str l.up) (fun l => l.cache) (fun l => l.rate) (fun l => l.burst) (fun l => l.status) (fun l => str l.goal)
    s.locs LA lc 81 #[.pointer (some ⟨g, 0, none⟩)] (locC (U.map fun x : Up14 × Hd => x.1)) w' hS.ll (fun _ _ => by kernel_rfl) (hL.ext hx) (fun l hl w2 h2 => srF1_c l (hS.locs l hl) U UA uc g w2 hul (hrd.ext (hx.tr h2)) ((h2.cell (lt_of_cell hg)).trans hg)))
  have CU := Lib.hid (fun w' (hx : Ext w w') => unlL_c (fun l : Lo14 => str l.pre) (fun l => l.kind) (fun l => str l.root) (fun l => str l.index) (fun l => l.gzip) (fun l => l.expires) (fun l => str l.up) (fun l => l.cache) (fun l => l.rate) (fun l => l.burst) (fun l => l.status) (fun l => str l.goal)
    s.locs LA lc 84 #[] (fun l => .string (str l.pre)) (fun l => .string l.pre) (decide ((s.locs.map (·.pre)).Nodup)) w' (Nat.le_trans hS.ll (by omega)) (fun _ _ => by kernel_rfl) (hL.ext hx) (fun l hl => key_str (hS.locs l hl).pre)
    (by rw [decide_eq_true_iff]; exact (nodup_inj (f := Lit.string) (fun a b e => by injection e) _ _).symm) (fun l _ w2 _ => srF2_c l w2))
  have HP := Lib.hid (show srC (U.map (·.1)) s = (decide (s.names.length ≤ 32) && s.names.all hostC && inB s.locs.length 1 32 && s.locs.all (locC (U.map (·.1))) && decide ((s.locs.map (·.pre)).Nodup)) from rfl)
  obtain ⟨LL, hLL⟩ : ∃ b, b = srC (U.map (·.1)) s := ⟨_, rfl⟩
  rw [← hLL] at HP ⊢
  obtain ⟨q2, h2⟩ : ∃ b, b = s.names.all hostC := ⟨_, rfl⟩
  obtain ⟨q4, h4⟩ : ∃ b, b = s.locs.all (locC (U.map (·.1))) := ⟨_, rfl⟩
  obtain ⟨q5, h5⟩ : ∃ b, b = decide ((s.locs.map (·.pre)).Nodup) := ⟨_, rfl⟩
  rw [← h2] at CN HP
  rw [← h4] at CL HP
  rw [← h5] at CU HP
  have hnl := hS.nl
  have hll := hS.ll
  clear hLL h2 h4 h5 hS hrd hN hL hE
  obtain ⟨n, hn⟩ : ∃ n, n = s.names.length := ⟨_, rfl⟩
  obtain ⟨m, hm⟩ : ∃ n, n = s.locs.length := ⟨_, rfl⟩
  obtain ⟨ul, hul2⟩ : ∃ n, n = U.length := ⟨_, rfl⟩
  rw [← hn] at CN HP hnl ⊢
  rw [← hm] at CL CU HP hll ⊢
  rw [← hul2] at CL ⊢
  clear hn hm hul2 hul
  obtain ⟨df, hdf⟩ : ∃ b, b = s.dflt := ⟨_, rfl⟩
  rw [← hdf]
  clear hdf
  have hmf : ∀ (fn : Fn) (first cap : Array Value) (w : World), (Instr.makeFunc fn first cap).run Tryz.prog w = .ok (.func fn first cap) w := fun _ _ _ _ => rfl
  obtain ⟨W0, hW0⟩ : ∃ W, W = (w.alloc (.cells #[.slice NA n nc, .bool df, .slice LA m lc] 78)).alloc (.cells #[.slice UA ul uc] 22) := ⟨_, rfl⟩
  have hx0 : Ext w W0 := by rw [hW0]; exact ((Ext.rfl' w).al _).al _
  have hxa : Ext (w.alloc (.cells #[.slice NA n nc, .bool df, .slice LA m lc] 78)) W0 := by rw [hW0]; exact (Ext.rfl' _).al _
  have hz : (w.alloc (.cells #[.slice NA n nc, .bool df, .slice LA m lc] 78)).heap.size = w.heap.size + 1 := by simp
  have hcl : Hid (∀ wx, Ext W0 wx → (wx.cell? ⟨w.heap.size, 0, none⟩ = some (.slice NA n nc) ∧ wx.cell? ⟨w.heap.size, 2, none⟩ = some (.slice LA m lc)) ∧ wx.cell? ⟨w.heap.size + 1, 0, none⟩ = some (.slice UA ul uc)) := Lib.hid (fun wx hx =>
    ⟨⟨(hxa.tr hx).new 0 _ rfl, (hxa.tr hx).new 2 _ rfl⟩, by rw [← hz]; exact Ext.new (by rw [hW0] at hx; exact hx) 0 _ rfl⟩)
  clear hxa hz
  go_enter Tryz.func36, Tryz.ntmps36
  go_upto_region 1 with (fail)
  rw [← hW0]
  clear hW0
  obtain ⟨⟨z0, z2⟩, z3⟩ := hcl.out W0 (Ext.rfl' _)
  by_cases hn32 : n ≤ 32
  · have d1 : decide ((n : Int) ≤ 32) = true := decide_eq_true (by omega)
    have D1 : Hid (decide (n ≤ 32) = true) := Lib.hid (decide_eq_true hn32)
    go_wp2_with (first
      | (go_at_call 78; refine (CN.out _ hx0).mono ?_; rintro e w1 ⟨rfl, hx1⟩; obtain ⟨⟨x0, x2⟩, x3⟩ := hcl.out w1 hx1; cases q2)
      | (go_at_call 29; refine (cinB_c _ _ _ _).mono ?_; rintro e w2 ⟨rfl, rfl⟩)
      | (go_at_call 80; refine (CL.out _ _ (hx0.tr hx1) x3).mono ?_; rintro e w5 ⟨rfl, hx5⟩; obtain ⟨⟨y0, y2⟩, y3⟩ := hcl.out w5 (hx1.tr hx5); cases q4)
      | (go_at_call 83; refine (CU.out _ ((hx0.tr hx1).tr hx5)).mono ?_; rintro e w6 ⟨rfl, hx6⟩))
    all_goals (go_ret; exact ⟨ret_bool (by rw [HP.out, D1.out]; simp [*]), by (repeat (first | exact Ext.rfl' _ | assumption | refine Ext.dr ?_ | refine Ext.drN ?_ _ | refine Ext.al ?_ _ | refine Ext.st ?_ (by simp) _ | refine Ext.tr ?_ (by assumption)))⟩)
  · have d1 : decide ((n : Int) ≤ 32) = false := decide_eq_false (by omega)
    have D1 : Hid (decide (n ≤ 32) = false) := Lib.hid (decide_eq_false hn32)
    go_wp2
    go_ret
    exact ⟨ret_bool (by rw [HP.out, D1.out]; simp), by (repeat (first | exact Ext.rfl' _ | assumption | refine Ext.dr ?_ | refine Ext.drN ?_ _ | refine Ext.al ?_ _ | refine Ext.st ?_ (by simp) _ | refine Ext.tr ?_ (by assumption)))⟩
end Go.Proofs.YtmnohicojefhfaaGreatDoor
