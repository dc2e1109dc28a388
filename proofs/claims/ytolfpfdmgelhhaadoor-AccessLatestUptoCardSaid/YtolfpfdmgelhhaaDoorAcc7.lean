/-
The program's Line.
-/
import Derived.Test.YtolfpfdmgelhhaaDoorABb
set_option linter.unusedVariables false
set_option linter.unusedSimpArgs false
namespace Go.Proofs.YtolfpfdmgelhhaaDoor
open Go.RowKit Go.Shelf

attribute [local go_sem] Oper.semAt_some

/-- An entry's text. -/
def Ent.txt (x : Ent) (i : Fin 5) : List UInt8 := if i = 0 then x.c else if i = 1 then x.m else if i = 2 then x.h else if i = 3 then x.g else x.a
theorem tx5_all {p : Fin 5 → Prop} (h : ∀ i ∈ tx5, p i) : ∀ i, p i := by
  intro i
  refine h i ?_
  revert i
  decide
theorem small_of {x : Ent} (h : ∀ i, (x.txt i).length ≤ 8192) : x.small := ⟨h 0, h 1, h 2, h 3, h 4⟩
theorem small_at {x : Ent} (h : x.small) : ∀ i, (x.txt i).length ≤ 8192
  | 0 => h.1
  | 1 => h.2.1
  | 2 => h.2.2.1
  | 3 => h.2.2.2.1
  | 4 => h.2.2.2.2
theorem txt_cell {x : Ent} : ∀ i, x.cells[txA i]? = some (.string (str (x.txt i)))
  | 0 => rfl
  | 1 => rfl
  | 2 => rfl
  | 3 => rfl
  | 4 => rfl
def LnI (x : Ent) (w0 : World) (pre : List (Fin 5)) (W : World) : Prop := (∀ i ∈ pre, (x.txt i).length ≤ 8192) ∧ Below w0.heap.size w0 W
def LnX (x : Ent) (w : World) (c : Code) (pre : List (Fin 5)) (W : World) : Prop :=
  ((c = .ret ∧ ¬ x.small) ∧ Boxed W (w.heap.size + 1) 9 (.string ⟨#[]⟩) ∧ Boxed W (w.heap.size + 1 + 1) 25 (.int .i64 6)) ∧ Below w.heap.size w W
theorem LnI_own (x : Ent) (w0 : World) : OwnFrom w0.heap.size (LnI x w0) := OwnFrom.and (_root_.Go.Own.from (pure_own _) _) (ownFrom_below (Nat.le_refl _) (Nat.le_refl _))
theorem LnX_own (x : Ent) (w : World) (B : Nat) (hB : w.heap.size ≤ B) (c : Code) : OwnFrom B (LnX x w c) :=
  OwnFrom.and (_root_.Go.Own.from (own_and (pure_own _) (own_and (boxed_own _ _ (fun _ => .string ⟨#[]⟩)) (boxed_own _ _ (fun _ => .int .i64 6)))) _) (ownFrom_below (Nat.le_refl _) hB)
theorem esc_small {l : List UInt8} (h : l.length ≤ 8192) : (escL l).length ≤ 24577 := by have := escL_len l; omega
theorem dec_natA (n : Nat) : decB (n : Int) = str (Lib.decDigits n) := by unfold decB; rw [Lib.itoa_nonneg]
theorem dig_small (n : Int) (h : inN n) : (digL n).length ≤ 20 := by
  obtain ⟨k, rfl⟩ : ∃ k : Nat, n = (k : Int) := ⟨n.toNat, by have := h.1; omega⟩
  have h2 := h.2
  unfold digL
  rw [dec_natA, str_data, Lib.decDigits_length]
  exact Lib.nDigits_le20 k (by omega)
theorem parts_tot {x : Ent} (h : x.small) (hn : x.nums) : totS x.parts ≤ 200000 := by
  have h1 := esc_small h.1
  have h2 := esc_small h.2.1
  have h3 := esc_small h.2.2.1
  have h4 := esc_small h.2.2.2.1
  have h5 := esc_small h.2.2.2.2
  have n1 := dig_small _ hn.1
  have n2 := dig_small _ hn.2.1
  have n3 := dig_small _ hn.2.2
  simp only [Ent.parts, totS, List.map_cons, List.map_nil, List.sum_cons, List.sum_nil]
  omega
set_option maxRecDepth 100000 in
set_option maxHeartbeats 8000000 in
theorem aLine_in (x : Ent) (hwf : x.wf) (hn : x.nums) (w : World) (hE : ErrR w) (hP : Pow w) :
    CallsIn Fence.wide 8 Tryd.prog 27 #[x.val] w (Gives (.tuple #[.string (str (lineL x).1), .int .i64 (lineL x).2]) w) := by
  have HN := Lib.hid hn
  have HW := Lib.hid hwf
  have HEr := Lib.hid hE
  have HPw := Lib.hid hP
  obtain ⟨RR, hRR⟩ : ∃ RR, RR = lineL x := ⟨_, rfl⟩
  rw [← hRR]
  have HRR := Lib.hid hRR
  clear hn hwf hE hP hRR
  obtain ⟨i0, hi, hz0, hz1, hz2⟩ := info_parts slt_str.2.1
  unfold Ent.val
  unfold Ent.cells
  refine callsIn_of_wp_marks Tryd.func27 rfl trivial ?_ rfl
  simp only [Tryd.ntmps27, List.size_toArray, List.length_cons, List.length_nil, Nat.reduceAdd, Nat.reduceSub, Array.replicate_succ, Array.replicate_zero, List.push_toArray, List.append_toArray, List.nil_append, List.cons_append]
  gi_wp2_with (refine ⟨trivial, ?_⟩; gi_at_call 73; refine (callsIn_wide.2 (aNumbers_c _ _)).mono ?_; rintro e W1 ⟨rfl, hx0⟩; have hx1 : Ext w W1 := (by (repeat (first | exact Ext.rfl' _ | assumption | refine Ext.dr ?_ | refine Ext.drN ?_ _ | refine Ext.al ?_ _ | refine Ext.st ?_ (by simp) _ | refine Ext.tr ?_ (by assumption)))); have HE := Lib.hid (show (W1).heap[w.heap.size]? = some (.cells x.cells 38 (0, 0)) from hp_ext hx0 (hp_al (hp_al (heap_alloc_new w _)))); have B0 : Boxed W1 (w.heap.size + 1) 9 (.string ⟨#[]⟩) := hp_ext hx0 (hp_al (hp_new (by simp) _)); have B1 : Boxed W1 (w.heap.size + 1 + 1) 25 (.int .i64 0) := hp_ext hx0 (hp_new (by simp) _); clear hx0)
  gi_loopw [13] (fun sv wr => ∃ (k : Nat) (z : Int), sv = .int .i64 z ∧ z = (k : Int) ∧ k ≤ 3 ∧ W1 = wr) (fun sv _ => 3 - (intOf sv).toNat)
  case atStart => exact ⟨0, 0, rfl, rfl, by omega, rfl⟩
  case round =>
    obtain ⟨k, z, rfl, hz, hk, rfl⟩ := hrel
    have hk4 : k = 0 ∨ k = 1 ∨ k = 2 ∨ k = 3 := by omega
    clear hk
    rcases hk4 with rfl | rfl | rfl | rfl
    · obtain rfl : z = 0 := hz
      have ix : ∀ w', (Instr.index 121 (.agg #[.pointer (some ⟨w.heap.size, 0, none⟩), .pointer (some ⟨w.heap.size, 5, none⟩), .pointer (some ⟨w.heap.size, 6, none⟩)]) (.int .i64 0)).run Tryd.prog w' = .ok (.pointer (some ⟨w.heap.size, 0, none⟩)) w' := fun w' => run_idx_arr (e := 120) (n := 3) (by kernel_rfl) (fun _ => rfl) (fun _ => rfl) (by decide) (by decide) rfl w'
      have hc : W1.cell? ⟨w.heap.size, 0, none⟩ = some (.int .i64 x.t) := cell_hp (cs := x.cells) HE.out rfl
      have hin : inN x.t := by have := HN.out; unfold Ent.nums at this; first | exact this.1 | exact this.2.1 | exact this.2.2
      have d1 : ¬ x.t < 0 := by have := hin.1; omega
      have d2 : ¬ (1000000000000000000 : Int) < x.t := by have := hin.2; omega
      clear hin
      gi_wp2
      go_roundw
      case rel => exact ⟨0 + 1, 0 + 1, rfl, by omega, by omega, by trivial⟩
      case measure => simp [intOf]
    · obtain rfl : z = 1 := hz
      have ix : ∀ w', (Instr.index 121 (.agg #[.pointer (some ⟨w.heap.size, 0, none⟩), .pointer (some ⟨w.heap.size, 5, none⟩), .pointer (some ⟨w.heap.size, 6, none⟩)]) (.int .i64 1)).run Tryd.prog w' = .ok (.pointer (some ⟨w.heap.size, 5, none⟩)) w' := fun w' => run_idx_arr (e := 120) (n := 3) (by kernel_rfl) (fun _ => rfl) (fun _ => rfl) (by decide) (by decide) rfl w'
      have hc : W1.cell? ⟨w.heap.size, 5, none⟩ = some (.int .i64 x.s) := cell_hp (cs := x.cells) HE.out rfl
      have hin : inN x.s := by have := HN.out; unfold Ent.nums at this; first | exact this.1 | exact this.2.1 | exact this.2.2
      have d1 : ¬ x.s < 0 := by have := hin.1; omega
      have d2 : ¬ (1000000000000000000 : Int) < x.s := by have := hin.2; omega
      clear hin
      gi_wp2
      go_roundw
      case rel => exact ⟨1 + 1, 1 + 1, rfl, by omega, by omega, by trivial⟩
      case measure => simp [intOf]
    · obtain rfl : z = 2 := hz
      have ix : ∀ w', (Instr.index 121 (.agg #[.pointer (some ⟨w.heap.size, 0, none⟩), .pointer (some ⟨w.heap.size, 5, none⟩), .pointer (some ⟨w.heap.size, 6, none⟩)]) (.int .i64 2)).run Tryd.prog w' = .ok (.pointer (some ⟨w.heap.size, 6, none⟩)) w' := fun w' => run_idx_arr (e := 120) (n := 3) (by kernel_rfl) (fun _ => rfl) (fun _ => rfl) (by decide) (by decide) rfl w'
      have hc : W1.cell? ⟨w.heap.size, 6, none⟩ = some (.int .i64 x.b) := cell_hp (cs := x.cells) HE.out rfl
      have hin : inN x.b := by have := HN.out; unfold Ent.nums at this; first | exact this.1 | exact this.2.1 | exact this.2.2
      have d1 : ¬ x.b < 0 := by have := hin.1; omega
      have d2 : ¬ (1000000000000000000 : Int) < x.b := by have := hin.2; omega
      clear hin
      gi_wp2
      go_roundw
      case rel => exact ⟨2 + 1, 2 + 1, rfl, by omega, by omega, by trivial⟩
      case measure => simp [intOf]
    · obtain rfl : z = 3 := hz
      gi_wp2_with (refine ⟨trivial, ?_⟩; gi_at_call 74; refine (callsIn_wide.2 (aTexts_c _ _)).mono ?_; rintro e w2 ⟨rfl, rfl⟩)
      obtain ⟨Bt, hBt⟩ : ∃ Bt, Bt = W1.heap.size := ⟨_, rfl⟩
      obtain ⟨Wn, hWn⟩ : ∃ Wn, Wn = W1.alloc (.cells #[.pointer (some ⟨w.heap.size, 0, none⟩)] 156) := ⟨_, rfl⟩
      rw [← hWn, ← hBt]
      have hBc : Wn.cell? ⟨Bt, 0, none⟩ = some (.pointer (some ⟨w.heap.size, 0, none⟩)) := by rw [hWn, hBt]; exact new_at _ _ _ 0 _ rfl
      have hBl : Bt < Wn.heap.size := by rw [hWn, hBt]; simp
      have hxn : Ext w Wn := by rw [hWn]; exact hx1.al _
      have HEn := Lib.hid (show Wn.heap[w.heap.size]? = some (.cells x.cells 38 (0, 0)) by rw [hWn]; exact hp_al HE.out)
      have B0n : Boxed Wn (w.heap.size + 1) 9 (.string ⟨#[]⟩) := by rw [hWn]; exact hp_al B0
      have B1n : Boxed Wn (w.heap.size + 1 + 1) 25 (.int .i64 0) := by rw [hWn]; exact hp_al B1
      clear hWn hBt HE B0 B1 hx1
      have hwn : w.heap.size ≤ Wn.heap.size := hxn.size
      refine' wpIn_rangeFunc_ownG rfl (by omega) (gf := 116) (lb := #[.pointer (some ⟨Bt, 0, none⟩)]) rfl trivial (enters_of Tryd.func116 (by kernel_rfl) rfl)
        (txt_stops Bt w.heap.size Wn.heap.size Wn hBl hBc) belowK_t (belowK_b (Nat.le_refl _)) (Below.refl _ _) (fun _ => rfl)
        (LnI x Wn) (LnX x w) (LnI_own x Wn) (fun c => LnX_own x w _ hwn c) ⟨fun a h => (by cases h), Below.refl _ _⟩ _ ?assign ?body ?done ?stop
      case assign =>
        intro lp y W K hK
        dsimp only [encT]
        gi_wp2
        exact hK
      case body =>
        rintro lp pre y W ⟨hall, hB⟩ hlt
        have hc : W.cell? ⟨w.heap.size, txA y, none⟩ = some (.string (str (x.txt y))) := cell_hp (hp_ext hB HEn.out) (txt_cell y)
        have b0 : Boxed W (w.heap.size + 1) 9 (.string ⟨#[]⟩) := hp_ext hB B0n
        have b1 : Boxed W (w.heap.size + 1 + 1) 25 (.int .i64 0) := hp_ext hB B1n
        have q0 := b0.cell
        have q0f := b0.frozen
        have q1 := b1.cell
        have q1f := b1.frozen
        by_cases hs : (x.txt y).length ≤ 8192
        · have d1 : ¬ (8192 : Int) < ((x.txt y).length : Int) := by omega
          gi_wp2
          exact ⟨KeepsFrom.refl _ _, Below.refl _ _, fun i hi => by
            rcases List.mem_append.1 hi with h | h
            · exact hall i h
            · rw [List.mem_singleton.1 h]; exact hs, hB⟩
        · have d1 : (8192 : Int) < ((x.txt y).length : Int) := by omega
          gi_wp2
          exact ⟨((KeepsOthers.setCell W _ _).trans (KeepsOthers.setCell _ _ _)).from _, ⟨⟨rfl, fun h => hs (small_at h y)⟩, (b0.set _).other (by omega) _, (b1.other (by omega) _).set _⟩,
            ((Below.trans hxn (hB.mono hwn)).setCell (p := ⟨w.heap.size + 1, 0, none⟩) (by show w.heap.size ≤ w.heap.size + 1; omega) _).setCell (p := ⟨w.heap.size + 1 + 1, 0, none⟩) (by show w.heap.size ≤ w.heap.size + 1 + 1; omega) _⟩
      case done =>
        rintro D ys W hD rfl ⟨hall, hB⟩ hK
        have HS := Lib.hid (small_of (tx5_all hall))
        clear hall
        gi_wp2_with (refine ⟨trivial, ?_⟩; gi_at_call 69; refine (callsIn_wide.2 (aParts_c _ _)).mono ?_; rintro e W2 ⟨rfl, hk8, hx2⟩)
        obtain ⟨g, hg⟩ : ∃ g, g = W.heap.size + 1 := ⟨_, rfl⟩
        rw [← hg] at hk8 ⊢
        obtain ⟨PV, hPV⟩ : ∃ PV, PV = partsV g := ⟨_, rfl⟩
        rw [← hPV]
        have HPV := Lib.hid hPV
        have HK := Lib.hid hk8
        have hx23 : Ext Wn W2 := Ext.tr hB hx2
        have HE2 := Lib.hid (hp_ext hx23 HEn.out)
        clear hPV hk8 hg
        gi_wp2
        gi_loopw [7, 35] (fun v sv wr => ∃ (k : Nat) (z : Int), sv = .int .i64 z ∧ z = (k : Int) ∧ k ≤ 8 ∧ wr.ownsRow W2.heap.size 9 1 v k (sc (x.parts.take k)) ∧ Ext W2 wr) (fun _ sv _ => 8 - (intOf sv).toNat)
        case atStart => exact ⟨0, 0, rfl, rfl, by omega, World.ownsRow_nil _ _ _ _, Ext.rfl' _⟩
        case round =>
          obtain ⟨k, z, rfl, hz, hk, hrow, hxr⟩ := hrel
          have HR := Lib.hid hrow
          clear hrow
          have hk9 : k = 0 ∨ k = 1 ∨ k = 2 ∨ k = 3 ∨ k = 4 ∨ k = 5 ∨ k = 6 ∨ k = 7 ∨ k = 8 := by omega
          clear hk
          rcases hk9 with rfl | rfl | rfl | rfl | rfl | rfl | rfl | rfl | rfl
          · obtain rfl : z = 0 := hz
            have ix : ∀ w', (Instr.index 114 PV (.int .i64 0)).run Tryd.prog w' = .ok (.func (.func 106) #[] #[.pointer (some ⟨g, 0, none⟩)]) w' := fun w' => by rw [HPV.out]; exact run_idx_arr (e := 113) (n := 8) (by kernel_rfl) (fun _ => rfl) (fun _ => rfl) (by decide) (by decide) rfl w'
            have hbn : wr.cell? ⟨g, 0, none⟩ = some (.pointer (some ⟨w.heap.size, 0, none⟩)) := (hxr.cell (lt_of_cell (HK.out 0 (by omega)))).trans (HK.out 0 (by omega))
            have hen := cell_hp (j := 0) (hp_ext hxr HE2.out) rfl
            have hr2 := hxr.size
            gi_wp2_with (first
              | (refine ⟨trivial, ?_⟩; gi_at_call 106; refine (callsIn_wide.2 (aPartsNF_nil _ _ _ _ _ (HEr.out.ext (hxn.tr (hx23.tr hxr))) (HPw.out.ext (hxn.tr (hx23.tr hxr))) (by have := HW.out; first | exact this.1.1 | exact this.2.1.1 | exact this.2.2.1) (by have := HW.out; first | exact this.1.2 | exact this.2.1.2 | exact this.2.2.2) hbn hen)).mono ?_; rintro e w4 ⟨rfl, hx4⟩; rw [← digL_str])
              | (gi_at_builtin; refine wpListIn_append_own _ rfl _ _ 58 rfl W2.heap.size 9 i0 (.string ⟨#[]⟩) 1 16 Tryd.underlying58 hi hz0 hz1 hz2 rfl (by decide) _ _ _ rfl ((own_ext HR.out hx4).alloc _) ⟨(w4).heap.size, 0, none⟩ 1 1 [.string (str (digL x.t))] rfl rfl (cell_one_new _ _ _) (by simp [Value.oneCell']) (by unfold maxLen; omega) (by omega) (by have := hx4.size; simp; omega) ?_; intro v' w5 hown' hgrow _))
            have hx5 : Ext W2 w5 := by
              refine ((Ext.tr hxr hx4).al _).grown hgrow (by have := hx4.size; simp; omega) (fun k hk => ?_)
              exact ((own_ext HR.out hx4).lt k hk).1
            gi_wp2
            go_roundw
            case rel => exact ⟨0 + 1, 0 + 1, rfl, by omega, by omega, hown', hx5⟩
            case measure => simp [intOf]
          · obtain rfl : z = 1 := hz
            have ix : ∀ w', (Instr.index 114 PV (.int .i64 1)).run Tryd.prog w' = .ok (.func (.func 109) #[] #[.pointer (some ⟨g + 1, 0, none⟩)]) w' := fun w' => by rw [HPV.out]; exact run_idx_arr (e := 113) (n := 8) (by kernel_rfl) (fun _ => rfl) (fun _ => rfl) (by decide) (by decide) rfl w'
            have hbn : wr.cell? ⟨g + 1, 0, none⟩ = some (.pointer (some ⟨w.heap.size, 1, none⟩)) := (hxr.cell (lt_of_cell (HK.out 1 (by omega)))).trans (HK.out 1 (by omega))
            have hen := cell_hp (j := 1) (hp_ext hxr HE2.out) rfl
            have hr2 := hxr.size
            gi_wp2_with (first
              | (refine ⟨trivial, ?_⟩; gi_at_call 109; refine (callsIn_wide.2 (aPartsTF_nil _ _ _ _ _ (by have := HS.out; unfold Ent.small at this; omega) hbn hen)).mono ?_; rintro e w4 ⟨rfl, hx4⟩)
              | (gi_at_builtin; refine wpListIn_append_own _ rfl _ _ 58 rfl W2.heap.size 9 i0 (.string ⟨#[]⟩) 1 16 Tryd.underlying58 hi hz0 hz1 hz2 rfl (by decide) _ _ _ rfl ((own_ext HR.out hx4).alloc _) ⟨(w4).heap.size, 0, none⟩ 1 1 [.string (str (escL x.c))] rfl rfl (cell_one_new _ _ _) (by simp [Value.oneCell']) (by unfold maxLen; omega) (by omega) (by have := hx4.size; simp; omega) ?_; intro v' w5 hown' hgrow _))
            have hx5 : Ext W2 w5 := by
              refine ((Ext.tr hxr hx4).al _).grown hgrow (by have := hx4.size; simp; omega) (fun k hk => ?_)
              exact ((own_ext HR.out hx4).lt k hk).1
            gi_wp2
            go_roundw
            case rel => exact ⟨1 + 1, 1 + 1, rfl, by omega, by omega, hown', hx5⟩
            case measure => simp [intOf]
          · obtain rfl : z = 2 := hz
            have ix : ∀ w', (Instr.index 114 PV (.int .i64 2)).run Tryd.prog w' = .ok (.func (.func 109) #[] #[.pointer (some ⟨g + 2, 0, none⟩)]) w' := fun w' => by rw [HPV.out]; exact run_idx_arr (e := 113) (n := 8) (by kernel_rfl) (fun _ => rfl) (fun _ => rfl) (by decide) (by decide) rfl w'
            have hbn : wr.cell? ⟨g + 2, 0, none⟩ = some (.pointer (some ⟨w.heap.size, 2, none⟩)) := (hxr.cell (lt_of_cell (HK.out 2 (by omega)))).trans (HK.out 2 (by omega))
            have hen := cell_hp (j := 2) (hp_ext hxr HE2.out) rfl
            have hr2 := hxr.size
            gi_wp2_with (first
              | (refine ⟨trivial, ?_⟩; gi_at_call 109; refine (callsIn_wide.2 (aPartsTF_nil _ _ _ _ _ (by have := HS.out; unfold Ent.small at this; omega) hbn hen)).mono ?_; rintro e w4 ⟨rfl, hx4⟩)
              | (gi_at_builtin; refine wpListIn_append_own _ rfl _ _ 58 rfl W2.heap.size 9 i0 (.string ⟨#[]⟩) 1 16 Tryd.underlying58 hi hz0 hz1 hz2 rfl (by decide) _ _ _ rfl ((own_ext HR.out hx4).alloc _) ⟨(w4).heap.size, 0, none⟩ 1 1 [.string (str (escL x.m))] rfl rfl (cell_one_new _ _ _) (by simp [Value.oneCell']) (by unfold maxLen; omega) (by omega) (by have := hx4.size; simp; omega) ?_; intro v' w5 hown' hgrow _))
            have hx5 : Ext W2 w5 := by
              refine ((Ext.tr hxr hx4).al _).grown hgrow (by have := hx4.size; simp; omega) (fun k hk => ?_)
              exact ((own_ext HR.out hx4).lt k hk).1
            gi_wp2
            go_roundw
            case rel => exact ⟨2 + 1, 2 + 1, rfl, by omega, by omega, hown', hx5⟩
            case measure => simp [intOf]
          · obtain rfl : z = 3 := hz
            have ix : ∀ w', (Instr.index 114 PV (.int .i64 3)).run Tryd.prog w' = .ok (.func (.func 109) #[] #[.pointer (some ⟨g + 3, 0, none⟩)]) w' := fun w' => by rw [HPV.out]; exact run_idx_arr (e := 113) (n := 8) (by kernel_rfl) (fun _ => rfl) (fun _ => rfl) (by decide) (by decide) rfl w'
            have hbn : wr.cell? ⟨g + 3, 0, none⟩ = some (.pointer (some ⟨w.heap.size, 3, none⟩)) := (hxr.cell (lt_of_cell (HK.out 3 (by omega)))).trans (HK.out 3 (by omega))
            have hen := cell_hp (j := 3) (hp_ext hxr HE2.out) rfl
            have hr2 := hxr.size
            gi_wp2_with (first
              | (refine ⟨trivial, ?_⟩; gi_at_call 109; refine (callsIn_wide.2 (aPartsTF_nil _ _ _ _ _ (by have := HS.out; unfold Ent.small at this; omega) hbn hen)).mono ?_; rintro e w4 ⟨rfl, hx4⟩)
              | (gi_at_builtin; refine wpListIn_append_own _ rfl _ _ 58 rfl W2.heap.size 9 i0 (.string ⟨#[]⟩) 1 16 Tryd.underlying58 hi hz0 hz1 hz2 rfl (by decide) _ _ _ rfl ((own_ext HR.out hx4).alloc _) ⟨(w4).heap.size, 0, none⟩ 1 1 [.string (str (escL x.h))] rfl rfl (cell_one_new _ _ _) (by simp [Value.oneCell']) (by unfold maxLen; omega) (by omega) (by have := hx4.size; simp; omega) ?_; intro v' w5 hown' hgrow _))
            have hx5 : Ext W2 w5 := by
              refine ((Ext.tr hxr hx4).al _).grown hgrow (by have := hx4.size; simp; omega) (fun k hk => ?_)
              exact ((own_ext HR.out hx4).lt k hk).1
            gi_wp2
            go_roundw
            case rel => exact ⟨3 + 1, 3 + 1, rfl, by omega, by omega, hown', hx5⟩
            case measure => simp [intOf]
          · obtain rfl : z = 4 := hz
            have ix : ∀ w', (Instr.index 114 PV (.int .i64 4)).run Tryd.prog w' = .ok (.func (.func 109) #[] #[.pointer (some ⟨g + 4, 0, none⟩)]) w' := fun w' => by rw [HPV.out]; exact run_idx_arr (e := 113) (n := 8) (by kernel_rfl) (fun _ => rfl) (fun _ => rfl) (by decide) (by decide) rfl w'
            have hbn : wr.cell? ⟨g + 4, 0, none⟩ = some (.pointer (some ⟨w.heap.size, 4, none⟩)) := (hxr.cell (lt_of_cell (HK.out 4 (by omega)))).trans (HK.out 4 (by omega))
            have hen := cell_hp (j := 4) (hp_ext hxr HE2.out) rfl
            have hr2 := hxr.size
            gi_wp2_with (first
              | (refine ⟨trivial, ?_⟩; gi_at_call 109; refine (callsIn_wide.2 (aPartsTF_nil _ _ _ _ _ (by have := HS.out; unfold Ent.small at this; omega) hbn hen)).mono ?_; rintro e w4 ⟨rfl, hx4⟩)
              | (gi_at_builtin; refine wpListIn_append_own _ rfl _ _ 58 rfl W2.heap.size 9 i0 (.string ⟨#[]⟩) 1 16 Tryd.underlying58 hi hz0 hz1 hz2 rfl (by decide) _ _ _ rfl ((own_ext HR.out hx4).alloc _) ⟨(w4).heap.size, 0, none⟩ 1 1 [.string (str (escL x.g))] rfl rfl (cell_one_new _ _ _) (by simp [Value.oneCell']) (by unfold maxLen; omega) (by omega) (by have := hx4.size; simp; omega) ?_; intro v' w5 hown' hgrow _))
            have hx5 : Ext W2 w5 := by
              refine ((Ext.tr hxr hx4).al _).grown hgrow (by have := hx4.size; simp; omega) (fun k hk => ?_)
              exact ((own_ext HR.out hx4).lt k hk).1
            gi_wp2
            go_roundw
            case rel => exact ⟨4 + 1, 4 + 1, rfl, by omega, by omega, hown', hx5⟩
            case measure => simp [intOf]
          · obtain rfl : z = 5 := hz
            have ix : ∀ w', (Instr.index 114 PV (.int .i64 5)).run Tryd.prog w' = .ok (.func (.func 106) #[] #[.pointer (some ⟨g + 5, 0, none⟩)]) w' := fun w' => by rw [HPV.out]; exact run_idx_arr (e := 113) (n := 8) (by kernel_rfl) (fun _ => rfl) (fun _ => rfl) (by decide) (by decide) rfl w'
            have hbn : wr.cell? ⟨g + 5, 0, none⟩ = some (.pointer (some ⟨w.heap.size, 5, none⟩)) := (hxr.cell (lt_of_cell (HK.out 5 (by omega)))).trans (HK.out 5 (by omega))
            have hen := cell_hp (j := 5) (hp_ext hxr HE2.out) rfl
            have hr2 := hxr.size
            gi_wp2_with (first
              | (refine ⟨trivial, ?_⟩; gi_at_call 106; refine (callsIn_wide.2 (aPartsNF_nil _ _ _ _ _ (HEr.out.ext (hxn.tr (hx23.tr hxr))) (HPw.out.ext (hxn.tr (hx23.tr hxr))) (by have := HW.out; first | exact this.1.1 | exact this.2.1.1 | exact this.2.2.1) (by have := HW.out; first | exact this.1.2 | exact this.2.1.2 | exact this.2.2.2) hbn hen)).mono ?_; rintro e w4 ⟨rfl, hx4⟩; rw [← digL_str])
              | (gi_at_builtin; refine wpListIn_append_own _ rfl _ _ 58 rfl W2.heap.size 9 i0 (.string ⟨#[]⟩) 1 16 Tryd.underlying58 hi hz0 hz1 hz2 rfl (by decide) _ _ _ rfl ((own_ext HR.out hx4).alloc _) ⟨(w4).heap.size, 0, none⟩ 1 1 [.string (str (digL x.s))] rfl rfl (cell_one_new _ _ _) (by simp [Value.oneCell']) (by unfold maxLen; omega) (by omega) (by have := hx4.size; simp; omega) ?_; intro v' w5 hown' hgrow _))
            have hx5 : Ext W2 w5 := by
              refine ((Ext.tr hxr hx4).al _).grown hgrow (by have := hx4.size; simp; omega) (fun k hk => ?_)
              exact ((own_ext HR.out hx4).lt k hk).1
            gi_wp2
            go_roundw
            case rel => exact ⟨5 + 1, 5 + 1, rfl, by omega, by omega, hown', hx5⟩
            case measure => simp [intOf]
          · obtain rfl : z = 6 := hz
            have ix : ∀ w', (Instr.index 114 PV (.int .i64 6)).run Tryd.prog w' = .ok (.func (.func 106) #[] #[.pointer (some ⟨g + 6, 0, none⟩)]) w' := fun w' => by rw [HPV.out]; exact run_idx_arr (e := 113) (n := 8) (by kernel_rfl) (fun _ => rfl) (fun _ => rfl) (by decide) (by decide) rfl w'
            have hbn : wr.cell? ⟨g + 6, 0, none⟩ = some (.pointer (some ⟨w.heap.size, 6, none⟩)) := (hxr.cell (lt_of_cell (HK.out 6 (by omega)))).trans (HK.out 6 (by omega))
            have hen := cell_hp (j := 6) (hp_ext hxr HE2.out) rfl
            have hr2 := hxr.size
            gi_wp2_with (first
              | (refine ⟨trivial, ?_⟩; gi_at_call 106; refine (callsIn_wide.2 (aPartsNF_nil _ _ _ _ _ (HEr.out.ext (hxn.tr (hx23.tr hxr))) (HPw.out.ext (hxn.tr (hx23.tr hxr))) (by have := HW.out; first | exact this.1.1 | exact this.2.1.1 | exact this.2.2.1) (by have := HW.out; first | exact this.1.2 | exact this.2.1.2 | exact this.2.2.2) hbn hen)).mono ?_; rintro e w4 ⟨rfl, hx4⟩; rw [← digL_str])
              | (gi_at_builtin; refine wpListIn_append_own _ rfl _ _ 58 rfl W2.heap.size 9 i0 (.string ⟨#[]⟩) 1 16 Tryd.underlying58 hi hz0 hz1 hz2 rfl (by decide) _ _ _ rfl ((own_ext HR.out hx4).alloc _) ⟨(w4).heap.size, 0, none⟩ 1 1 [.string (str (digL x.b))] rfl rfl (cell_one_new _ _ _) (by simp [Value.oneCell']) (by unfold maxLen; omega) (by omega) (by have := hx4.size; simp; omega) ?_; intro v' w5 hown' hgrow _))
            have hx5 : Ext W2 w5 := by
              refine ((Ext.tr hxr hx4).al _).grown hgrow (by have := hx4.size; simp; omega) (fun k hk => ?_)
              exact ((own_ext HR.out hx4).lt k hk).1
            gi_wp2
            go_roundw
            case rel => exact ⟨6 + 1, 6 + 1, rfl, by omega, by omega, hown', hx5⟩
            case measure => simp [intOf]
          · obtain rfl : z = 7 := hz
            have ix : ∀ w', (Instr.index 114 PV (.int .i64 7)).run Tryd.prog w' = .ok (.func (.func 109) #[] #[.pointer (some ⟨g + 7, 0, none⟩)]) w' := fun w' => by rw [HPV.out]; exact run_idx_arr (e := 113) (n := 8) (by kernel_rfl) (fun _ => rfl) (fun _ => rfl) (by decide) (by decide) rfl w'
            have hbn : wr.cell? ⟨g + 7, 0, none⟩ = some (.pointer (some ⟨w.heap.size, 7, none⟩)) := (hxr.cell (lt_of_cell (HK.out 7 (by omega)))).trans (HK.out 7 (by omega))
            have hen := cell_hp (j := 7) (hp_ext hxr HE2.out) rfl
            have hr2 := hxr.size
            gi_wp2_with (first
              | (refine ⟨trivial, ?_⟩; gi_at_call 109; refine (callsIn_wide.2 (aPartsTF_nil _ _ _ _ _ (by have := HS.out; unfold Ent.small at this; omega) hbn hen)).mono ?_; rintro e w4 ⟨rfl, hx4⟩)
              | (gi_at_builtin; refine wpListIn_append_own _ rfl _ _ 58 rfl W2.heap.size 9 i0 (.string ⟨#[]⟩) 1 16 Tryd.underlying58 hi hz0 hz1 hz2 rfl (by decide) _ _ _ rfl ((own_ext HR.out hx4).alloc _) ⟨(w4).heap.size, 0, none⟩ 1 1 [.string (str (escL x.a))] rfl rfl (cell_one_new _ _ _) (by simp [Value.oneCell']) (by unfold maxLen; omega) (by omega) (by have := hx4.size; simp; omega) ?_; intro v' w5 hown' hgrow _))
            have hx5 : Ext W2 w5 := by
              refine ((Ext.tr hxr hx4).al _).grown hgrow (by have := hx4.size; simp; omega) (fun k hk => ?_)
              exact ((own_ext HR.out hx4).lt k hk).1
            gi_wp2
            go_roundw
            case rel => exact ⟨7 + 1, 7 + 1, rfl, by omega, by omega, hown', hx5⟩
            case measure => simp [intOf]
          · obtain rfl : z = 8 := hz
            obtain ⟨A, c, rfl, hnc, hcm, hr, _⟩ := Rd.of_own HR.out
            have CJ := Lib.hid (JoinW_c x.parts A 8 c rfl hnc (by have := parts_tot HS.out HN.out; omega) wr hr)
            clear hr
            have hxw : Ext Wn wr := hx23.tr hxr
            gi_wp2_with (refine ⟨trivial, ?_⟩; gi_at_call 75; refine (callsIn_wide.2 CJ.out).mono ?_; rintro e w6 ⟨rfl, hx6⟩; have b0 : Boxed w6 (w.heap.size + 1) 9 (.string ⟨#[]⟩) := hp_ext (hxw.tr hx6) B0n; have b1 : Boxed w6 (w.heap.size + 1 + 1) 25 (.int .i64 0) := hp_ext (hxw.tr hx6) B1n; have q0 := b0.cell; have q0f := b0.frozen; have q1 := b1.cell; have q1f := b1.frozen)
            have hK1 : w6.heap[D]? = some (.deferred (some [])) := hp_ext ((Ext.tr hx2 hxr).tr hx6) hK
            have hK2 := ((KeepsOthers.setCell w6 ⟨w.heap.size + 1, 0, none⟩ (.string (str (joinW x.parts)))).trans (KeepsOthers.setCell _ ⟨w.heap.size + 1 + 1, 0, none⟩ (.int .i64 0))).same D _ hK1 rfl
            have c0 := (b0.set (.string (str (joinW x.parts)))).other (B' := w.heap.size + 1 + 1) (by omega) (.int .i64 0)
            have c1 := (b1.other (B' := w.heap.size + 1) (by omega) (.string (str (joinW x.parts)))).set (.int .i64 0)
            have hc5 := cell_kept c0.cell (grownBy_putObj' _ D (.deferred none)) (fun r e => by cases e; exact ⟨_, hK2, rfl⟩)
            have hc6 := cell_kept c1.cell (grownBy_putObj' _ D (.deferred none)) (fun r e => by cases e; exact ⟨_, hK2, rfl⟩)
            refine ⟨by simp, .inl ⟨_, _, rfl, run_takeDeferred hK2, ?_⟩⟩
            refine ⟨.tuple #[.string (str (joinW x.parts)), .int .i64 0], ?_, ret_val (by rw [HRR.out]; unfold lineL; rw [if_pos HN.out, if_pos HS.out]), ((((Below.trans hxn ((hxw.tr hx6).mono hwn)).setCell (p := ⟨w.heap.size + 1, 0, none⟩) (by show w.heap.size ≤ w.heap.size + 1; omega) _).setCell (p := ⟨w.heap.size + 1 + 1, 0, none⟩) (by show w.heap.size ≤ w.heap.size + 1 + 1; omega) _).trans (belowK_b (w := w) (Nat.le_refl _) _ D _ _ (by omega) hK2 rfl rfl))⟩
            exact line_res rfl rfl hc5 hc6
      case stop =>
        rintro D c pre W hD hpre ⟨⟨⟨rfl, hbad⟩, hR0, hR1⟩, hB⟩ hK
        gi_wp2
        refine ⟨by simp, .inl ⟨_, _, rfl, run_takeDeferred hK, ?_⟩⟩
        have hc5 := cell_kept hR0.cell (grownBy_putObj' _ D (.deferred none)) (fun r e => by cases e; exact ⟨_, hK, rfl⟩)
        have hc6 := cell_kept hR1.cell (grownBy_putObj' _ D (.deferred none)) (fun r e => by cases e; exact ⟨_, hK, rfl⟩)
        refine ⟨.tuple #[.string ⟨#[]⟩, .int .i64 6], ?_, ret_val (by rw [HRR.out]; unfold lineL; rw [if_pos HN.out, if_neg hbad]; rfl), hB.trans (belowK_b (w := w) (Nat.le_refl _) W D _ _ (by omega) hK rfl rfl)⟩
        exact line_res rfl rfl hc5 hc6
theorem aLine_c (x : Ent) (hwf : x.wf) (w : World) (hE : ErrR w) (hP : Pow w) :
    Calls Tryd.prog 27 #[x.val] w (Gives (.tuple #[.string (str (lineL x).1), .int .i64 (lineL x).2]) w) := by
  by_cases hn : x.nums
  · exact callsIn_wide.1 (aLine_in x hwf hn w hE hP)
  · rw [show lineL x = ([], 1) by unfold lineL; rw [if_neg hn]]
    exact aLine_bad x hn w
end Go.Proofs.YtolfpfdmgelhhaaDoor
