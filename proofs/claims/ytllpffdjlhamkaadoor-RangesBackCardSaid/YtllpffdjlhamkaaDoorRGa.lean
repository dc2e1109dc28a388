/-
Package ranges and its reference, spans of bytes: what each inner function computes, up to Resolve's helpers.
-/
import Derived.Test.YtllpffdjlhamkaaDoorProg
import Derived.Test.YtllpffdjlhamkaaDoorBase
set_option linter.unusedVariables false
set_option linter.unusedSimpArgs false
/-
Package ranges and its reference, spans of bytes: what each inner function computes, up to Resolve's helpers.
-/
section
namespace Go.Proofs.YtllpffdjlhamkaaDoor
open Go.RowKit

theorem slt_span : SlT Tryd.prog 29 43 (.agg #[.int .i64 0, .int .i64 0]) 2 16 := ⟨Tryd.underlying29, by kernel_rfl, rfl, by omega⟩
theorem slt_part : SlT Tryd.prog 25 40 (.agg #[.int .i64 0, .int .i64 0]) 2 16 := ⟨Tryd.underlying25, by kernel_rfl, rfl, by omega⟩
set_option maxRecDepth 100000 in
set_option maxHeartbeats 400000 in
theorem spans_c (w : World) (A : Option Addr) (n c : Nat) (ps : List (Int × Int)) (hn : ps.length = n) (h : Rd w A (pc ps)) (hb : n ≤ 8796093022207) :
    Calls Tryd.prog 6 #[.slice A n c] w (Ret (IsSlP ps) w) := by
  go_enter Tryd.func6, Tryd.ntmps6
  go_wp2
  go_loopw [3, 4] (fun v i wr => ∃ k : Nat, k ≤ n ∧ i = .int .i64 k ∧ wr.ownsRow w.heap.size 43 2 v k (pc (ps.take k)) ∧ Ext w wr) (fun _ i _ => n - (intOf i).toNat)
  case atStart => exact ⟨0, Nat.zero_le _, rfl, World.ownsRow_nil _ _ _ _, Ext.rfl' _⟩
  case round =>
    obtain ⟨k, hk, rfl, hown, hext⟩ := hrel
    by_cases hlt : k < n
    · obtain ⟨b, o, rfl, hbl, hS⟩ := h.pair (k := k) (by omega)
      have h01 := hS.out wr hext
      have h0 := h01.1
      have h1 := h01.2
      clear h01
      go_wp2
      go_region_held3 (fun w' => w'.cell? ⟨b, o + k * 2, none⟩ = some (.int .i64 ps[k].1) ∧ w'.cell? ⟨b, o + k * 2 + 1, none⟩ = some (.int .i64 ps[k].2)) (first | go_keep | exact hS.out _ hext')
        (first | (refine step_app slt_span (.tmp 11) (.tmp 23) rfl rfl rfl rfl (hext.al _).dr (own_dr (hown.alloc _)) (by rfl) (new_cells_dr wr #[.int .i64 ps[k].1, .int .i64 ps[k].2] 43) (by simp [Value.oneCell']) (by omega) (by simp only [maxLen]; omega) ?_; intro v' w' hown' hext' _))
      have HT := Lib.hid (pc_succ ps k (by omega))
      have HO := Lib.hid hown'
      have HX := Lib.hid hext'
      clear hown' hown h0 h1 hext hext'
      go_wp2
      go_roundw
      case rel => exact ⟨k + 1, by omega, by go_num, by rw [HT.out]; exact HO.out, HX.out⟩
      case measure => simp [intOf]; omega
    · obtain rfl : k = n := by omega
      go_wp2
      go_ret
      obtain ⟨A', c', rfl, _, hc', hr, _⟩ := Rd.of_own hown
      exact Ret.mk (IsSlP.mk hn.symm (by rw [List.take_of_length_le (by omega)] at hr; exact hr) hc') hext

/-- The kind of a span; -1: it may not be. -/
def kindOf (x y : Int) : Int :=
  if x < -1 ∨ y < -1 ∨ 1000000000000000000 < x ∨ 1000000000000000000 < y ∨ (x < 0 ∧ y < 0) ∨ (0 ≤ y ∧ y < x) then -1 else if x < 0 then 2 else if y < 0 then 1 else 0
set_option maxHeartbeats 400000 in
theorem kind_c (x y : Int) (w : World) : Calls Tryd.prog 16 #[.agg #[.int .i64 x, .int .i64 y]] w (Gives (.int .i64 (kindOf x y)) w) := by
  go_enter Tryd.func16, Tryd.ntmps16
  go_wp2
  all_goals go_ret
  all_goals exact ⟨ret_int (by unfold kindOf; (repeat' split) <;> omega), (Ext.rfl' _).al _⟩
end Go.Proofs.YtllpffdjlhamkaaDoor
end

/-
Package ranges: the three kinds of a span, and Resolve, as functions of lists of numbers.
-/
section
namespace Go.Proofs.YtllpffdjlhamkaaDoor
open Go.RowKit

theorem agg2 {a b c d : Int} (h : a = c) (h' : b = d) : Value.agg #[.int .i64 a, .int .i64 b] = .agg #[.int .i64 c, .int .i64 d] := by rw [h, h']

set_option maxHeartbeats 400000 in
theorem both_c (n x y : Int) (hy : 0 ≤ y) (hy' : y ≤ 1000000000000000000) (w : World) :
    Calls Tryd.prog 13 #[.int .i64 n, .agg #[.int .i64 x, .int .i64 y]] w (Gives (.agg #[.int .i64 x, .int .i64 (min n (y + 1))]) w) := by
  by_cases h : y + 1 < n
  · go_enter Tryd.func13, Tryd.ntmps13
    go_wp2
    exact bodyPost_ret (v := .agg #[.int .i64 x, .int .i64 (y + 1)]) (by simp [results, Tryd.results13, go_sem]) rfl ⟨ret_val (agg2 rfl (by omega)), ((Ext.rfl' _).al _).al _⟩
  · go_enter Tryd.func13, Tryd.ntmps13
    go_wp2
    exact bodyPost_ret (v := .agg #[.int .i64 x, .int .i64 n]) (by simp [results, Tryd.results13, go_sem]) rfl ⟨ret_val (agg2 rfl (by omega)), ((Ext.rfl' _).al _).al _⟩
theorem open_c (n x y : Int) (w : World) :
    Calls Tryd.prog 14 #[.int .i64 n, .agg #[.int .i64 x, .int .i64 y]] w (Gives (.agg #[.int .i64 x, .int .i64 n]) w) := by
  go_enter Tryd.func14, Tryd.ntmps14
  go_wp2
  exact bodyPost_ret (v := .agg #[.int .i64 x, .int .i64 n]) (by simp [results, Tryd.results14, go_sem]) rfl ⟨rfl, ((Ext.rfl' _).al _).al _⟩
set_option maxHeartbeats 400000 in
theorem end_c (n x y : Int) (hn : 0 ≤ n) (hn' : n ≤ 1048576) (hy : 0 ≤ y) (hy' : y ≤ 1000000000000000000) (w : World) :
    Calls Tryd.prog 15 #[.int .i64 n, .agg #[.int .i64 x, .int .i64 y]] w (Gives (.agg #[.int .i64 (n - min n y), .int .i64 n]) w) := by
  by_cases h : y < n
  · go_enter Tryd.func15, Tryd.ntmps15
    go_wp2
    exact bodyPost_ret (v := .agg #[.int .i64 (n - y), .int .i64 n]) (by simp [results, Tryd.results15, go_sem]) rfl ⟨ret_val (agg2 (by omega) rfl), ((Ext.rfl' _).al _).al _⟩
  · go_enter Tryd.func15, Tryd.ntmps15
    go_wp2
    exact bodyPost_ret (v := .agg #[.int .i64 0, .int .i64 n]) (by simp [results, Tryd.results15, go_sem]) rfl ⟨ret_val (agg2 (by omega) rfl), ((Ext.rfl' _).al _).al _⟩
end Go.Proofs.YtllpffdjlhamkaaDoor
end

/-
Package ranges: Resolve as a function of a list of spans and a size.
-/
section
namespace Go.Proofs.YtllpffdjlhamkaaDoor
open Go.RowKit

def partOf (n : Int) (p : Int × Int) : Int × Int := if p.1 < 0 then (n - min n p.2, n) else if p.2 < 0 then (p.1, n) else (p.1, min n (p.2 + 1))
def keepP (n : Int) (ps : List (Int × Int)) : List (Int × Int) := (ps.map (partOf n)).filter fun q => decide (q.1 < q.2)
def sumP (qs : List (Int × Int)) : Int := (qs.map fun q => q.2 - q.1).sum
def okS (p : Int × Int) : Bool := decide (kindOf p.1 p.2 ≠ -1)
def resolveL (ps : List (Int × Int)) (n : Int) : List (Int × Int) × Int :=
  if n < 0 ∨ 1048576 < n ∨ 16 < ps.length then ([], 1)
  else if ps.all okS = false then ([], 1)
  else if keepP n ps = [] then ([], 62) else if n < sumP (keepP n ps) then ([], 0) else (keepP n ps, 0)

theorem kind_cases (x y : Int) : kindOf x y = -1 ∨ (kindOf x y = 0 ∧ 0 ≤ x ∧ x ≤ y ∧ y ≤ 1000000000000000000) ∨ (kindOf x y = 1 ∧ 0 ≤ x ∧ y < 0) ∨ (kindOf x y = 2 ∧ x < 0 ∧ 0 ≤ y ∧ y ≤ 1000000000000000000) := by
  unfold kindOf
  repeat' split
  all_goals omega
theorem kind_cases' (x y : Int) : kindOf x y = -1 ∨ ∃ v, v = kindOf x y ∧ 0 ≤ v ∧ v ≤ 2 ∧ ((v = 0 ∧ 0 ≤ x ∧ x ≤ y ∧ y ≤ 1000000000000000000) ∨ (v = 1 ∧ 0 ≤ x ∧ y < 0) ∨ (v = 2 ∧ x < 0 ∧ 0 ≤ y ∧ y ≤ 1000000000000000000)) := by
  rcases kind_cases x y with h | h | h | h
  · exact .inl h
  · exact .inr ⟨_, rfl, by omega, by omega, .inl h⟩
  · exact .inr ⟨_, rfl, by omega, by omega, .inr (.inl h)⟩
  · exact .inr ⟨_, rfl, by omega, by omega, .inr (.inr h)⟩
theorem set2 {w : World} {g : Nat} {a b : Value} (h0 : w.cell? ⟨g, 0, none⟩ = some a) (h1 : w.cell? ⟨g, 1, none⟩ = some b) (x y : Value) :
    ((w.setCell ⟨g, 0, none⟩ x).setCell ⟨g, 1, none⟩ y).cell? ⟨g, 0, none⟩ = some x ∧ ((w.setCell ⟨g, 0, none⟩ x).setCell ⟨g, 1, none⟩ y).cell? ⟨g, 1, none⟩ = some y := by
  constructor
  · rw [World.cell?_setCell_other _ _ _ _ (by simp)]
    exact World.cell?_setCell_same _ _ _ h0
  · exact World.cell?_setCell_same _ _ _ ((World.cell?_setCell_other _ _ _ _ (by simp)).trans h1)
theorem keepP_succ (n : Int) (ps : List (Int × Int)) (k : Nat) (h : k < ps.length) :
    keepP n (ps.take (k + 1)) = keepP n (ps.take k) ++ (if (partOf n ps[k]).1 < (partOf n ps[k]).2 then [partOf n ps[k]] else []) := by
  rw [List.take_succ_eq_append_getElem h]
  unfold keepP
  rw [List.map_append, List.filter_append]
  congr 1
  by_cases hc : (partOf n ps[k]).1 < (partOf n ps[k]).2 <;> simp [List.filter, hc]
theorem sumP_app (a b : List (Int × Int)) : sumP (a ++ b) = sumP a + sumP b := by simp [sumP]
theorem all_succ (ps : List (Int × Int)) (k : Nat) (h : k < ps.length) : (ps.take (k + 1)).all okS = ((ps.take k).all okS && okS ps[k]) := by
  rw [List.take_succ_eq_append_getElem h, List.all_append]; simp only [List.all_cons, List.all_nil, Bool.and_true]
theorem part_bd (n : Int) (p : Int × Int) (hn : 0 ≤ n) (h : okS p = true) (hlt : (partOf n p).1 < (partOf n p).2) :
    0 ≤ (partOf n p).1 ∧ (partOf n p).2 ≤ n := by
  simp only [okS, decide_eq_true_eq, kindOf] at h
  unfold partOf at *
  split at h
  · simp at h
  · repeat' split at hlt
    all_goals simp only at *
    all_goals (repeat' split) <;> simp only <;> omega
theorem sum_bd (n : Int) (hn : 0 ≤ n) : ∀ (ps : List (Int × Int)), ps.all okS = true → 0 ≤ sumP (keepP n ps) ∧ sumP (keepP n ps) ≤ ps.length * n ∧ (keepP n ps).length ≤ ps.length
  | [], _ => by simp [sumP, keepP]
  | p :: ps, h => by
    simp only [List.all_cons, Bool.and_eq_true] at h
    have ih := sum_bd n hn ps h.2
    have hb := part_bd n p hn h.1
    have e : keepP n (p :: ps) = (if (partOf n p).1 < (partOf n p).2 then [partOf n p] else []) ++ keepP n ps := by
      unfold keepP; rw [List.map_cons, List.filter_cons]; split <;> simp_all
    have hm : ((ps.length + 1 : Nat) : Int) * n = ps.length * n + n := by rw [Int.natCast_add, Int.add_mul]; omega
    rw [e, sumP_app, List.length_cons, hm]
    split
    · rename_i hc
      have := hb hc
      simp only [sumP, List.map_cons, List.map_nil, List.sum_cons, List.sum_nil, List.length_append, List.length_cons, List.length_nil] at *
      omega
    · simp only [sumP, List.map_nil, List.sum_nil, List.length_append, List.length_nil] at *
      omega

set_option maxRecDepth 100000 in
set_option maxHeartbeats 1000000 in
theorem Resolve_c (w : World) (A : Option Addr) (m c : Nat) (ps : List (Int × Int)) (n : Int) (hm : ps.length = m) (hmm : m ≤ maxLen) (h : Rd w A (pc ps)) (hn0 : -9223372036854775808 ≤ n) (hn1 : n ≤ 9223372036854775807) :
    Calls Tryd.prog 5 #[.slice A m c, .int .i64 n] w (Ret (IsSlPN (resolveL ps n)) w) := by
  unfold maxLen at hmm
  by_cases hbad : n < 0 ∨ 1048576 < n ∨ 16 < m
  · have e : resolveL ps n = ([], 1) := by unfold resolveL; rw [if_pos (by omega)]
    rw [e]
    rcases hbad with hb | hb | hb
    · go_enter Tryd.func5, Tryd.ntmps5
      go_wp2
      go_ret2
      exact Ret.is rfl (IsSlPN.none_ _ _) (Ext.rfl' _)
    · go_enter Tryd.func5, Tryd.ntmps5
      go_wp2
      go_ret2
      exact Ret.is rfl (IsSlPN.none_ _ _) (Ext.rfl' _)
    · go_enter Tryd.func5, Tryd.ntmps5
      go_wp2
      all_goals go_ret2
      all_goals exact Ret.is rfl (IsSlPN.none_ _ _) (Ext.rfl' _)
  · have hb0 : 0 ≤ n := by omega
    have hb1 : n ≤ 1048576 := by omega
    have hb2 : m ≤ 16 := by omega
    clear hbad
    go_enter Tryd.func5, Tryd.ntmps5
    go_wp2
    have hx0 : Ext w (w.alloc (.cells #[.func (.func 13) #[.int .i64 n] #[], .func (.func 14) #[.int .i64 n] #[], .func (.func 15) #[.int .i64 n] #[]] 47)) := (Ext.rfl' w).al _
    have hkk := Lib.hid (show ∀ w', Ext (w.alloc (.cells #[.func (.func 13) #[.int .i64 n] #[], .func (.func 14) #[.int .i64 n] #[], .func (.func 15) #[.int .i64 n] #[]] 47)) w' →
        (w'.cell? ⟨w.heap.size, 0, none⟩ = some (.func (.func 13) #[.int .i64 n] #[]) ∧ w'.cell? ⟨w.heap.size, 1, none⟩ = some (.func (.func 14) #[.int .i64 n] #[]) ∧ w'.cell? ⟨w.heap.size, 2, none⟩ = some (.func (.func 15) #[.int .i64 n] #[])) from fun w' e => ⟨e.new 0 _ rfl, e.new 1 _ rfl, e.new 2 _ rfl⟩)
    generalize w.alloc (.cells #[.func (.func 13) #[.int .i64 n] #[], .func (.func 14) #[.int .i64 n] #[], .func (.func 15) #[.int .i64 n] #[]] 47) = W1 at *
    have h1 := h.ext hx0
    go_loopw [8, 9, 35] (fun v s i wr => ∃ k : Nat, k ≤ m ∧ i = .int .i64 k ∧ s = .int .i64 (sumP (keepP n (ps.take k))) ∧ (ps.take k).all okS = true ∧ wr.ownsRow W1.heap.size 40 2 v (keepP n (ps.take k)).length (pc (keepP n (ps.take k))) ∧ Ext W1 wr) (fun _ _ i _ => m - (intOf i).toNat)
    case atStart => exact ⟨0, Nat.zero_le _, rfl, rfl, rfl, World.ownsRow_nil _ _ _ _, Ext.rfl' _⟩
    case round =>
      obtain ⟨k, hk, rfl, rfl, hall, hown, hext⟩ := hrel
      have hsb := sum_bd n hb0 (ps.take k) hall
      by_cases hlt : k < m
      · obtain ⟨b, o, rfl, hbl, hS⟩ := h1.pair (k := k) (by omega)
        have h01 := hS.out wr hext
        have c0 := h01.1
        have c1 := h01.2
        clear h01
        have hsucc := Lib.hid (keepP_succ n ps k (by omega))
        have hasucc := Lib.hid (all_succ ps k (by omega))
        obtain ⟨p, hp⟩ : ∃ p, p = ps[k] := ⟨_, rfl⟩
        rw [← hp] at c0 c1 hS hsucc hasucc
        have HP := Lib.hid hp
        have HA := Lib.hid hall
        have HO := Lib.hid hown
        obtain ⟨x, y⟩ := p
        clear hp hall hown
        rcases kind_cases' x y with hv | hv
        · have HV := Lib.hid hv
          clear hv
          go_wp2_with (go_at_call 16; refine (kind_c _ _ _).mono ?_; rintro e w1 ⟨rfl, hx1⟩; rw [HV.out])
          go_ret2
          have e : resolveL ps n = ([], 1) := by
            unfold resolveL
            rw [if_neg (by omega), if_pos]
            rw [Bool.eq_false_iff]
            intro ha
            have := List.all_eq_true.1 ha (x, y) (by rw [HP.out]; exact List.getElem_mem _)
            simp [okS, HV.out] at this
          rw [e]
          exact Ret.is rfl (IsSlPN.none_ _ _) (hx0.tr ((hext.al _).tr hx1))
        · obtain ⟨v, hv0, hv1, hv2, hq⟩ := hv
          have HV := Lib.hid hv0
          have HQ := Lib.hid hq
          clear hv0 hq
          obtain ⟨q1, hq1⟩ : ∃ q, q = (partOf n (x, y)).1 := ⟨_, rfl⟩
          obtain ⟨q2, hq2⟩ : ∃ q, q = (partOf n (x, y)).2 := ⟨_, rfl⟩
          have HQ1 := Lib.hid hq1
          have HQ2 := Lib.hid hq2
          have HH := Lib.hid h
          have HH1 := Lib.hid h1
          clear hq1 hq2 h h1
          go_wp2_with (go_at_call 16; refine (kind_c _ _ _).mono ?_; rintro e w1 ⟨rfl, hx1⟩; rw [← HV.out])
          have hx2 := (hext.al _).tr hx1
          go_cut [12, 13] (fun _ s wx => ∃ g : Nat, w1.heap.size ≤ g ∧ s = .pointer (some ⟨g, 0, none⟩) ∧ wx.cell? ⟨g, 0, none⟩ = some (.int .i64 q1) ∧ wx.cell? ⟨g, 1, none⟩ = some (.int .i64 q2) ∧ Ext w1 wx)
          case first =>
            rcases HQ.out with ⟨rfl, ha, hb, hc⟩ | ⟨rfl, ha, hb⟩ | ⟨rfl, ha, hb, hc⟩
            · have e1 : q1 = x := by rw [HQ1.out]; unfold partOf; rw [if_neg (by omega), if_neg (by omega)]
              have e2 : q2 = min n (y + 1) := by rw [HQ2.out]; unfold partOf; rw [if_neg (by omega), if_neg (by omega)]
              have HE1 := Lib.hid e1
              have HE2 := Lib.hid e2
              clear e1 e2
              have hks := Lib.hid (show ∀ w', Ext w1 w' → (w'.cell? ⟨w.heap.size, 0, none⟩ = some (.func (.func 13) #[.int .i64 n] #[]) ∧ w'.cell? ⟨wr.heap.size, 0, none⟩ = some (.int .i64 x) ∧ w'.cell? ⟨wr.heap.size, 1, none⟩ = some (.int .i64 y)) from fun w' e => ⟨(hkk.out _ (hx2.tr e)).1, (hx1.tr e).new 0 _ rfl, (hx1.tr e).new 1 _ rfl⟩)
              have kk := hks.out _ (Ext.rfl' _)
              go_region_held3 (fun w' => w'.cell? ⟨w.heap.size, 0, none⟩ = some (.func (.func 13) #[.int .i64 n] #[]) ∧ w'.cell? ⟨wr.heap.size, 0, none⟩ = some (.int .i64 x) ∧ w'.cell? ⟨wr.heap.size, 1, none⟩ = some (.int .i64 y))
                (exact hks.out _ (by (repeat (first | exact Ext.rfl' _ | assumption | refine Ext.dr ?_ | refine Ext.al ?_ _ | refine Ext.st ?_ (by simp) _ | refine Ext.tr ?_ (by assumption)))))
                (first | (go_at_call 13; refine ((both_c _ _ _ (by omega) (by omega) _)).mono ?_; rintro e w2 ⟨rfl, hx3⟩; try (have z0 := hx3.newdr 0 _ rfl; have z1 := hx3.newdr 1 _ rfl; have z2 := hx3.newfrdr 0; have z3 := hx3.newfrdr 1)))
              all_goals (go_wp2_with fail; go_meet)
              all_goals first
                | exact ⟨w2.heap.size, hx3.size, rfl, by rw [HE1.out]; exact new_at _ _ _ _ _ rfl, by rw [HE2.out]; exact new_at _ _ _ _ _ rfl, (by (repeat (first | exact Ext.rfl' _ | assumption | refine Ext.dr ?_ | refine Ext.al ?_ _ | refine Ext.st ?_ (by simp) _ | refine Ext.tr ?_ (by assumption))))⟩
                | exact ⟨w1.heap.size, Nat.le_refl _, rfl, by rw [HE1.out]; exact (set2 z0 z1 _ _).1, by rw [HE2.out]; exact (set2 z0 z1 _ _).2, (by (repeat (first | exact Ext.rfl' _ | assumption | refine Ext.dr ?_ | refine Ext.al ?_ _ | refine Ext.st ?_ (by simp) _ | refine Ext.tr ?_ (by assumption))))⟩
            · have e1 : q1 = x := by rw [HQ1.out]; unfold partOf; rw [if_neg (by omega), if_pos (by omega)]
              have e2 : q2 = n := by rw [HQ2.out]; unfold partOf; rw [if_neg (by omega), if_pos (by omega)]
              have HE1 := Lib.hid e1
              have HE2 := Lib.hid e2
              clear e1 e2
              have hks := Lib.hid (show ∀ w', Ext w1 w' → (w'.cell? ⟨w.heap.size, 1, none⟩ = some (.func (.func 14) #[.int .i64 n] #[]) ∧ w'.cell? ⟨wr.heap.size, 0, none⟩ = some (.int .i64 x) ∧ w'.cell? ⟨wr.heap.size, 1, none⟩ = some (.int .i64 y)) from fun w' e => ⟨(hkk.out _ (hx2.tr e)).2.1, (hx1.tr e).new 0 _ rfl, (hx1.tr e).new 1 _ rfl⟩)
              have kk := hks.out _ (Ext.rfl' _)
              go_region_held3 (fun w' => w'.cell? ⟨w.heap.size, 1, none⟩ = some (.func (.func 14) #[.int .i64 n] #[]) ∧ w'.cell? ⟨wr.heap.size, 0, none⟩ = some (.int .i64 x) ∧ w'.cell? ⟨wr.heap.size, 1, none⟩ = some (.int .i64 y))
                (exact hks.out _ (by (repeat (first | exact Ext.rfl' _ | assumption | refine Ext.dr ?_ | refine Ext.al ?_ _ | refine Ext.st ?_ (by simp) _ | refine Ext.tr ?_ (by assumption)))))
                (first | (go_at_call 14; refine ((open_c _ _ _ _)).mono ?_; rintro e w2 ⟨rfl, hx3⟩; try (have z0 := hx3.newdr 0 _ rfl; have z1 := hx3.newdr 1 _ rfl; have z2 := hx3.newfrdr 0; have z3 := hx3.newfrdr 1)))
              all_goals (go_wp2_with fail; go_meet)
              all_goals first
                | exact ⟨w2.heap.size, hx3.size, rfl, by rw [HE1.out]; exact new_at _ _ _ _ _ rfl, by rw [HE2.out]; exact new_at _ _ _ _ _ rfl, (by (repeat (first | exact Ext.rfl' _ | assumption | refine Ext.dr ?_ | refine Ext.al ?_ _ | refine Ext.st ?_ (by simp) _ | refine Ext.tr ?_ (by assumption))))⟩
                | exact ⟨w1.heap.size, Nat.le_refl _, rfl, by rw [HE1.out]; exact (set2 z0 z1 _ _).1, by rw [HE2.out]; exact (set2 z0 z1 _ _).2, (by (repeat (first | exact Ext.rfl' _ | assumption | refine Ext.dr ?_ | refine Ext.al ?_ _ | refine Ext.st ?_ (by simp) _ | refine Ext.tr ?_ (by assumption))))⟩
            · have e1 : q1 = n - min n y := by rw [HQ1.out]; unfold partOf; rw [if_pos (by omega)]
              have e2 : q2 = n := by rw [HQ2.out]; unfold partOf; rw [if_pos (by omega)]
              have HE1 := Lib.hid e1
              have HE2 := Lib.hid e2
              clear e1 e2
              have hks := Lib.hid (show ∀ w', Ext w1 w' → (w'.cell? ⟨w.heap.size, 2, none⟩ = some (.func (.func 15) #[.int .i64 n] #[]) ∧ w'.cell? ⟨wr.heap.size, 0, none⟩ = some (.int .i64 x) ∧ w'.cell? ⟨wr.heap.size, 1, none⟩ = some (.int .i64 y)) from fun w' e => ⟨(hkk.out _ (hx2.tr e)).2.2, (hx1.tr e).new 0 _ rfl, (hx1.tr e).new 1 _ rfl⟩)
              have kk := hks.out _ (Ext.rfl' _)
              go_region_held3 (fun w' => w'.cell? ⟨w.heap.size, 2, none⟩ = some (.func (.func 15) #[.int .i64 n] #[]) ∧ w'.cell? ⟨wr.heap.size, 0, none⟩ = some (.int .i64 x) ∧ w'.cell? ⟨wr.heap.size, 1, none⟩ = some (.int .i64 y))
                (exact hks.out _ (by (repeat (first | exact Ext.rfl' _ | assumption | refine Ext.dr ?_ | refine Ext.al ?_ _ | refine Ext.st ?_ (by simp) _ | refine Ext.tr ?_ (by assumption)))))
                (first | (go_at_call 15; refine ((end_c _ _ _ (by omega) (by omega) (by omega) (by omega) _)).mono ?_; rintro e w2 ⟨rfl, hx3⟩; try (have z0 := hx3.newdr 0 _ rfl; have z1 := hx3.newdr 1 _ rfl; have z2 := hx3.newfrdr 0; have z3 := hx3.newfrdr 1)))
              all_goals (go_wp2_with fail; go_meet)
              all_goals first
                | exact ⟨w2.heap.size, hx3.size, rfl, by rw [HE1.out]; exact new_at _ _ _ _ _ rfl, by rw [HE2.out]; exact new_at _ _ _ _ _ rfl, (by (repeat (first | exact Ext.rfl' _ | assumption | refine Ext.dr ?_ | refine Ext.al ?_ _ | refine Ext.st ?_ (by simp) _ | refine Ext.tr ?_ (by assumption))))⟩
                | exact ⟨w1.heap.size, Nat.le_refl _, rfl, by rw [HE1.out]; exact (set2 z0 z1 _ _).1, by rw [HE2.out]; exact (set2 z0 z1 _ _).2, (by (repeat (first | exact Ext.rfl' _ | assumption | refine Ext.dr ?_ | refine Ext.al ?_ _ | refine Ext.st ?_ (by simp) _ | refine Ext.tr ?_ (by assumption))))⟩
          case rest =>
            obtain ⟨g, hgw, rfl, g0, g1, hxc⟩ := hcut
            have hgr : wr.heap.size ≤ g := by have := hx1.size; simp at this; omega
            have hx3 := hx2.tr hxc
            have hx4 := ((Ext.al (Ext.rfl' wr) _).tr hx1).tr hxc
            have ho := own_ext HO.out hx4
            have hll : (keepP n (ps.take k)).length ≤ k := by have := hsb.2.2; simp only [List.length_take] at this; omega
            have hs1 : sumP (keepP n (ps.take k)) ≤ 16 * 1048576 := by
              have h3 := hsb.2.1
              have h4 : ((ps.take k).length : Int) * n ≤ 16 * 1048576 := by
                have h5 : ((ps.take k).length : Int) ≤ 16 := by simp only [List.length_take]; omega
                exact Int.le_trans (Int.mul_le_mul_of_nonneg_right h5 hb0) (by omega)
              omega
            have hs0 := hsb.1
            have hbd : q1 < q2 → 0 ≤ q1 ∧ q2 ≤ n := by
              intro hl
              have := part_bd n (x, y) hb0 (by simp [okS, ← HV.out]; omega)
              rw [← HQ1.out, ← HQ2.out] at this
              exact this hl
            clear hsb
            by_cases hql : q1 < q2
            · obtain ⟨hbd0, hbd1⟩ := hbd hql
              clear hbd
              have hls := HO.out.lt
              have HL := Lib.hid hls
              clear hls
              go_wp2_with (at_builtin; refine wpL_app slt_part (.tmp 53) (.tmp 55) rfl rfl rfl rfl (hx3.al _) (ho.alloc _) (by rfl) (new_cells wc #[.int .i64 q1, .int .i64 q2] 40) (by simp [Value.oneCell']) (by omega) (by simp only [maxLen]; omega) ?_; intro v' w' hown' hext' hgg; have e0 := gr_cell (a := ⟨g, 0, none⟩) hgg (fun k hk => by have := (HL.out k hk).2; simp only; omega) ((World.cell?_alloc_lt _ _ _ (lt_of_cell g0)).trans g0); have e1 := gr_cell (a := ⟨g, 1, none⟩) hgg (fun k hk => by have := (HL.out k hk).2; simp only; omega) ((World.cell?_alloc_lt _ _ _ (lt_of_cell g1)).trans g1); clear hgg)
              go_roundw
              case rel =>
                have hk1 : keepP n (ps.take (k + 1)) = keepP n (ps.take k) ++ [(q1, q2)] := by
                  rw [hsucc.out, if_pos (by rw [← HQ1.out, ← HQ2.out]; exact hql)]
                  rw [show partOf n (x, y) = (q1, q2) from Prod.ext HQ1.out.symm HQ2.out.symm]
                refine ⟨k + 1, by omega, by go_num, ?_, ?_, ?_, hext'⟩
                · rw [hk1, sumP_app]; simp [sumP]
                · rw [hasucc.out, HA.out]; simp [okS, ← HV.out]; omega
                · rw [hk1, pc_app, List.length_append]; exact hown'
              case measure => simp [intOf]; omega
            · have hk1 : keepP n (ps.take (k + 1)) = keepP n (ps.take k) := by
                rw [hsucc.out, if_neg (by rw [← HQ1.out, ← HQ2.out]; exact hql), List.append_nil]
              have HK := Lib.hid hk1
              have HB := Lib.hid ho
              clear hk1 ho hbd
              go_wp2
              go_roundw
              case rel =>
                refine ⟨k + 1, by omega, by go_num, ?_, ?_, ?_, hx3⟩
                · rw [HK.out]
                · rw [hasucc.out, HA.out]; simp [okS, ← HV.out]; omega
                · rw [HK.out]; exact HB.out
              case measure => simp [intOf]; omega
      · obtain rfl : k = m := by omega
        rw [List.take_of_length_le (by omega)] at hall hown hsb ⊢
        have hres : resolveL ps n = if keepP n ps = [] then ([], 62) else if n < sumP (keepP n ps) then ([], 0) else (keepP n ps, 0) := by
          unfold resolveL
          rw [if_neg (by omega), if_neg (by rw [hall]; simp)]
        have HR := Lib.hid hres
        clear hres
        obtain ⟨A', c', rfl, hcc, hcm, hr, _⟩ := Rd.of_own hown
        clear hown hall
        have hxx := hx0.tr hext
        by_cases hemp : keepP n ps = []
        · have hl0 : (keepP n ps).length = 0 := by rw [hemp]; rfl
          rw [if_pos hemp] at HR
          clear hemp
          generalize sumP (keepP n ps) = S at *
          rw [hl0]
          go_wp2
          go_ret2
          rw [HR.out]
          exact Ret.is rfl (IsSlPN.none_ _ _) hxx
        · have hl0 : 0 < (keepP n ps).length := List.length_pos_iff.2 hemp
          rw [if_neg hemp] at HR
          have hlk : (keepP n ps).length ≤ k := by have := hsb.2.2; omega
          by_cases hbig : n < sumP (keepP n ps)
          · rw [if_pos hbig] at HR
            clear hemp hsb
            generalize sumP (keepP n ps) = S at *
            generalize (keepP n ps).length = LL at *
            have hl1 : ((LL : Int) == 0) = false := by rw [beq_eq_false_iff_ne]; omega
            have hl2 : (LL == 0) = false := by rw [beq_eq_false_iff_ne]; omega
            have hl3 : ¬ LL = 0 := by omega
            go_wp2
            go_ret2
            rw [HR.out]
            exact Ret.is rfl (IsSlPN.none_ _ _) hxx
          · rw [if_neg hbig] at HR
            clear hemp hsb
            generalize sumP (keepP n ps) = S at *
            generalize hLL : (keepP n ps).length = LL at *
            have HLL := Lib.hid hLL
            clear hLL
            have hl1 : ((LL : Int) == 0) = false := by rw [beq_eq_false_iff_ne]; omega
            have hl2 : (LL == 0) = false := by rw [beq_eq_false_iff_ne]; omega
            have hl3 : ¬ LL = 0 := by omega
            go_wp2
            go_ret2
            rw [HR.out]
            exact Ret.is rfl (IsSlPN.mk HLL.out.symm rfl hr hcm) hxx
end Go.Proofs.YtllpffdjlhamkaaDoor
end
