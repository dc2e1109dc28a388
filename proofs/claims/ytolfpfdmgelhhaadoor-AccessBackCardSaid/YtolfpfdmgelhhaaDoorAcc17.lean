/-
The law AccessBack as a walk.
-/
import Derived.Test.YtolfpfdmgelhhaaDoorAcc14
import Derived.Test.YtolfpfdmgelhhaaDoorAHx
set_option linter.unusedVariables false
set_option linter.unusedSimpArgs false
namespace Go.Proofs.YtolfpfdmgelhhaaDoor
open Go.RowKit

/-- Blanks among the first bytes. -/
def blk32 (l : List UInt8) (k : Nat) : Nat := (l.take k).count 32
theorem blk32_succ {l : List UInt8} {k : Nat} (h : k < l.length) : blk32 l (k + 1) = blk32 l k + (if l[k] = 32 then 1 else 0) := by
  unfold blk32
  rw [List.take_succ_eq_append_getElem h, List.count_append]
  simp [List.count_singleton]
set_option maxRecDepth 100000 in
set_option maxHeartbeats 4000000 in
theorem AccessBack_w (x : Ent) (hwf : x.wf) (w : World) (hE : ErrR w) (hP : Pow w) (hM : Mx w) :
    Calls Tryd.prog 5 #[x.val] w (Gives (.bool true) w) := by
  have C1 := fun (w : World) (hE : ErrR w) (hP : Pow w) => aLine_c x hwf w hE hP
  have C3 := fun (w : World) => aOwn_c x w
  have HE := Lib.hid hE
  have HP := Lib.hid hP
  have HM := Lib.hid hM
  clear hE hP hM hwf
  by_cases h0 : (lineL x).2 = 0
  · obtain ⟨hp1, hp2, hp3⟩ := line_prt h0
    have C2 := fun w hE hP hM => aParse_c (lineL x).1 (by omega) w hE hP hM
    rw [back_pars h0] at C2
    obtain ⟨⟨l, e⟩, hle⟩ : ∃ r, r = lineL x := ⟨_, rfl⟩
    rw [← hle] at C1 C2 hp1 hp2 hp3 h0
    clear hle
    dsimp only at C1 C2 hp1 hp2 hp3 h0
    subst h0
    unfold parsV Ent.val Ent.cells at C2
    unfold Ent.val Ent.cells at C1 C3 ⊢
    obtain ⟨t, c, m, h, g, s, b, a⟩ := x
    dsimp only at C1 C2 C3 ⊢
    have C1 := Lib.hid C1
    have C2 := Lib.hid C2
    have C3 := Lib.hid C3
    have H1 := Lib.hid hp1
    have H2 := Lib.hid hp2
    clear hp1 hp2
    go_enter Tryd.func5, Tryd.ntmps5
    go_wp2_with (first
      | (go_at_call 24; refine (C3.out _).mono ?_; rintro e w0 ⟨rfl, hx0⟩)
      | (go_at_call 27; refine (C1.out _ (HE.out.ext (by (repeat (first | exact Ext.rfl' _ | assumption | refine Ext.dr ?_ | refine Ext.drN ?_ _ | refine Ext.al ?_ _ | refine Ext.st ?_ (by simp) _ | refine Ext.tr ?_ (by assumption))))) (HP.out.ext (by (repeat (first | exact Ext.rfl' _ | assumption | refine Ext.dr ?_ | refine Ext.drN ?_ _ | refine Ext.al ?_ _ | refine Ext.st ?_ (by simp) _ | refine Ext.tr ?_ (by assumption)))))).mono ?_; rintro e w1 ⟨rfl, hx1⟩; have HB1 := Lib.hid (hp_ext (Ext.tr hx0 hx1) (heap_alloc_new w _)))
      | (go_at_call 25; refine (num21_c _ _).mono ?_; rintro e w3 ⟨rfl, rfl⟩)
      | (go_at_call 26; refine (knows21_c _ (HE.out.ext (by (repeat (first | exact Ext.rfl' _ | assumption | refine Ext.dr ?_ | refine Ext.drN ?_ _ | refine Ext.al ?_ _ | refine Ext.st ?_ (by simp) _ | refine Ext.tr ?_ (by assumption))))) (HP.out.ext (by (repeat (first | exact Ext.rfl' _ | assumption | refine Ext.dr ?_ | refine Ext.drN ?_ _ | refine Ext.al ?_ _ | refine Ext.st ?_ (by simp) _ | refine Ext.tr ?_ (by assumption))))) (HM.out.ext (by (repeat (first | exact Ext.rfl' _ | assumption | refine Ext.dr ?_ | refine Ext.drN ?_ _ | refine Ext.al ?_ _ | refine Ext.st ?_ (by simp) _ | refine Ext.tr ?_ (by assumption)))))).mono ?_; rintro e w6 ⟨rfl, hx6⟩))
    obtain ⟨W1, hW1⟩ : ∃ W, W = w6 := ⟨_, rfl⟩
    have hb1 := hp_ext hx6 HB1.out
    have hxw : Ext w w6 := by (repeat (first | exact Ext.rfl' _ | assumption | refine Ext.dr ?_ | refine Ext.drN ?_ _ | refine Ext.al ?_ _ | refine Ext.st ?_ (by simp) _ | refine Ext.tr ?_ (by assumption)))
    rw [← hW1] at hb1 hxw ⊢
    clear hx0 hx1 hx6 hW1
    go_loopw [5, 6] (fun vb vi wr => ∃ k : Nat, vb = .int .i64 (blk32 l k : Int) ∧ vi = .int .i64 (k : Int) ∧ k ≤ l.length ∧ blk32 l k ≤ k ∧ W1 = wr) (fun _ vi _ => l.length - (intOf vi).toNat)
    case atStart => exact ⟨0, rfl, rfl, Nat.zero_le _, by simp [blk32], rfl⟩
    case round =>
      obtain ⟨k, rfl, rfl, hk, hbk, rfl⟩ := hrel
      by_cases hlt : k < l.length
      · have hb := H1.out l[k] (List.getElem_mem hlt)
        have d1 : ¬ ((l[k].toNat : Int) < 32) := by omega
        have d2 : ¬ ((126 : Int) < (l[k].toNat : Int)) := by omega
        have hsu := blk32_succ hlt
        by_cases hc : l[k] = 32
        · have b1 : ((l[k].toNat : Int) == 32) = true := by rw [hc]; rfl
          rw [if_pos hc] at hsu
          have HSU := Lib.hid hsu
          clear hc hsu
          go_wp2
          go_roundw
          case rel => exact ⟨k + 1, by rw [HSU.out]; go_num, by go_num, by omega, by rw [HSU.out]; omega, by trivial⟩
          case measure => simp [intOf]; omega
        · have hb3 : l[k].toNat ≠ 32 := fun h => hc (UInt8.toNat_inj.1 (by show l[k].toNat = 32; omega))
          have b1 : ((l[k].toNat : Int) == 32) = false := by rw [beq_eq_false_iff_ne]; omega
          rw [if_neg hc] at hsu
          have HSU := Lib.hid hsu
          clear hc hsu hb3
          go_wp2
          go_roundw
          case rel => exact ⟨k + 1, by rw [HSU.out]; rfl, by go_num, by omega, by rw [HSU.out]; omega, by trivial⟩
          case measure => simp [intOf]; omega
      · obtain rfl : k = l.length := by omega
        have h7 : blk32 l l.length = 7 := by unfold blk32; rw [List.take_length]; exact H2.out
        rw [h7]
        clear h7 hbk hk
        go_wp2_with (go_at_call 22; refine (C2.out _ (HE.out.ext (by (repeat (first | exact Ext.rfl' _ | assumption | refine Ext.dr ?_ | refine Ext.drN ?_ _ | refine Ext.al ?_ _ | refine Ext.st ?_ (by simp) _ | refine Ext.tr ?_ (by assumption))))) (HP.out.ext (by (repeat (first | exact Ext.rfl' _ | assumption | refine Ext.dr ?_ | refine Ext.drN ?_ _ | refine Ext.al ?_ _ | refine Ext.st ?_ (by simp) _ | refine Ext.tr ?_ (by assumption))))) (HM.out.ext (by (repeat (first | exact Ext.rfl' _ | assumption | refine Ext.dr ?_ | refine Ext.drN ?_ _ | refine Ext.al ?_ _ | refine Ext.st ?_ (by simp) _ | refine Ext.tr ?_ (by assumption)))))).mono ?_; rintro e w2 ⟨rfl, hx2⟩; have hb2 := hp_ext hx2 hb1)
        obtain ⟨W3, hW3⟩ : ∃ W3, W3 = w2.alloc (.cells #[.int .i64 t, .string (str c), .string (str m), .string (str h), .string (str g), .int .i64 s, .int .i64 b, .string (str a)] 38) := ⟨_, rfl⟩
        rw [← hW3]
        have hb1 := hp_al (o := .cells #[.int .i64 t, .string (str c), .string (str m), .string (str h), .string (str g), .int .i64 s, .int .i64 b, .string (str a)] 38) hb2
        have hb2 := heap_alloc_new w2 (.cells #[.int .i64 t, .string (str c), .string (str m), .string (str h), .string (str g), .int .i64 s, .int .i64 b, .string (str a)] 38)
        rw [← hW3] at hb1 hb2
        have hx3 : Ext w W3 := by rw [hW3]; (repeat (first | exact Ext.rfl' _ | assumption | refine Ext.dr ?_ | refine Ext.drN ?_ _ | refine Ext.al ?_ _ | refine Ext.st ?_ (by simp) _ | refine Ext.tr ?_ (by assumption)))
        clear hW3
        obtain ⟨B1, hB1⟩ : ∃ B1, B1 = w.heap.size := ⟨_, rfl⟩
        obtain ⟨B2, hB2⟩ : ∃ B2, B2 = w2.heap.size := ⟨_, rfl⟩
        rw [← hB1] at hb1 ⊢
        rw [← hB2] at hb2 ⊢
        clear hB1 hB2 hx2 hxw HB1
        have HB1 := Lib.hid hb1
        have HB2 := Lib.hid hb2
        have hks := Lib.hid (fun w' (e : Ext W3 w') => And.intro (eight HB1.out e) (eight HB2.out e))
        obtain ⟨⟨k0, k1, k2, k3, k4, k5, k6, k7⟩, ⟨z0, z1, z2, z3, z4, z5, z6, z7⟩⟩ := hks.out W3 (Ext.rfl' _)
        clear hb1 hb2
        go_region_held3 (fun w' => (w'.cell? ⟨B1, 0, none⟩ = some (.int .i64 t) ∧ w'.cell? ⟨B1, 1, none⟩ = some (.string (str c)) ∧ w'.cell? ⟨B1, 2, none⟩ = some (.string (str m)) ∧ w'.cell? ⟨B1, 3, none⟩ = some (.string (str h)) ∧ w'.cell? ⟨B1, 4, none⟩ = some (.string (str g)) ∧ w'.cell? ⟨B1, 5, none⟩ = some (.int .i64 s) ∧ w'.cell? ⟨B1, 6, none⟩ = some (.int .i64 b) ∧ w'.cell? ⟨B1, 7, none⟩ = some (.string (str a))) ∧ (w'.cell? ⟨B2, 0, none⟩ = some (.int .i64 t) ∧ w'.cell? ⟨B2, 1, none⟩ = some (.string (str c)) ∧ w'.cell? ⟨B2, 2, none⟩ = some (.string (str m)) ∧ w'.cell? ⟨B2, 3, none⟩ = some (.string (str h)) ∧ w'.cell? ⟨B2, 4, none⟩ = some (.string (str g)) ∧ w'.cell? ⟨B2, 5, none⟩ = some (.int .i64 s) ∧ w'.cell? ⟨B2, 6, none⟩ = some (.int .i64 b) ∧ w'.cell? ⟨B2, 7, none⟩ = some (.string (str a)))) (exact hks.out _ (by (repeat (with_reducible (first | exact Ext.rfl' _ | assumption | refine Ext.dr ?_ | refine Ext.drN ?_ _ | refine Ext.al ?_ _ | refine Ext.st ?_ (by dsimp only; omega) _ | refine Ext.tr ?_ (by assumption)))))) (first | (go_at_call 24; refine (C3.out _).mono ?_; rintro e w4 ⟨rfl, hx4⟩) | (go_at_call 25; refine (num21_c _ _).mono ?_; rintro e w5 ⟨rfl, rfl⟩) | (fail))
        all_goals (
          go_wp2
          go_ret
          exact ⟨rfl, by (repeat (first | exact Ext.rfl' _ | assumption | refine Ext.dr ?_ | refine Ext.drN ?_ _ | refine Ext.al ?_ _ | refine Ext.st ?_ (by simp) _ | refine Ext.tr ?_ (by assumption)))⟩)
  · have hl0 := line_bad h0
    obtain ⟨⟨l, e⟩, hle⟩ : ∃ r, r = lineL x := ⟨_, rfl⟩
    rw [← hle] at C1 h0 hl0
    clear hle
    dsimp only at C1 h0 hl0
    subst hl0
    have d1 : (e != 0) = true := by rw [bne_iff_ne]; exact h0
    unfold Ent.val Ent.cells at C1 C3 ⊢
    obtain ⟨t, c, m, h, g, s, b, a⟩ := x
    dsimp only at C1 C3 ⊢
    have C1 := Lib.hid C1
    have C3 := Lib.hid C3
    go_enter Tryd.func5, Tryd.ntmps5
    go_wp2_with (first
      | (go_at_call 24; refine (C3.out _).mono ?_; rintro e w0 ⟨rfl, hx0⟩)
      | (go_at_call 27; refine (C1.out _ (HE.out.ext (by (repeat (first | exact Ext.rfl' _ | assumption | refine Ext.dr ?_ | refine Ext.drN ?_ _ | refine Ext.al ?_ _ | refine Ext.st ?_ (by simp) _ | refine Ext.tr ?_ (by assumption))))) (HP.out.ext (by (repeat (first | exact Ext.rfl' _ | assumption | refine Ext.dr ?_ | refine Ext.drN ?_ _ | refine Ext.al ?_ _ | refine Ext.st ?_ (by simp) _ | refine Ext.tr ?_ (by assumption)))))).mono ?_; rintro e w1 ⟨rfl, hx1⟩)
      | (go_at_call 25; refine (num21_c _ _).mono ?_; rintro e w3 ⟨rfl, rfl⟩)
      | (go_at_call 26; refine (knows21_c _ (HE.out.ext (by (repeat (first | exact Ext.rfl' _ | assumption | refine Ext.dr ?_ | refine Ext.drN ?_ _ | refine Ext.al ?_ _ | refine Ext.st ?_ (by simp) _ | refine Ext.tr ?_ (by assumption))))) (HP.out.ext (by (repeat (first | exact Ext.rfl' _ | assumption | refine Ext.dr ?_ | refine Ext.drN ?_ _ | refine Ext.al ?_ _ | refine Ext.st ?_ (by simp) _ | refine Ext.tr ?_ (by assumption))))) (HM.out.ext (by (repeat (first | exact Ext.rfl' _ | assumption | refine Ext.dr ?_ | refine Ext.drN ?_ _ | refine Ext.al ?_ _ | refine Ext.st ?_ (by simp) _ | refine Ext.tr ?_ (by assumption)))))).mono ?_; rintro e w6 ⟨rfl, hx6⟩))
    go_ret
    exact ⟨rfl, by (repeat (first | exact Ext.rfl' _ | assumption | refine Ext.dr ?_ | refine Ext.drN ?_ _ | refine Ext.al ?_ _ | refine Ext.st ?_ (by simp) _ | refine Ext.tr ?_ (by assumption)))⟩
end Go.Proofs.YtolfpfdmgelhhaaDoor
