/-
The statements' own parts: what must come is there; a text with remarks.
-/
import Derived.Test.YtmnohicojefhfaaGreatDoorCi3
import Derived.Test.YtmnohicojefhfaaGreatDoorCFa
set_option linter.unusedVariables false
set_option linter.unusedSimpArgs false
namespace Go.Proofs.YtmnohicojefhfaaGreatDoor
open Go.RowKit

set_option maxRecDepth 100000 in
theorem num14_c (x : Int) (w : World) : Calls Tryz.prog 13 #[.int .i64 x] w fun e w' => e = .returned (.int .i64 x) ∧ w = w' := by
  go_enter Tryz.func13, Tryz.ntmps13
  go_wp2
  go_ret
  exact ⟨rfl, rfl⟩
theorem cParse_A (w : World) (hE : ErrR w) : Calls Tryz.prog 9 #[.string (str knA14)] w
    fun e w' => Ext w w' ∧ ∃ UA uc sc g f, w'.cell? ⟨g, f + 1, none⟩ = some (.bool true) ∧ e = .returned (.tuple #[.agg #[.int .i64 75, .int .i64 65536, .int .i64 0, .int .i64 1000, .slice UA 0 uc, .slice (some ⟨g, f, none⟩) 1 sc], .int .i64 0, .int .i64 0]) := by
  refine (cParse_c knA14 (by decide) w hE).mono ?_
  rintro e w' ⟨v, rfl, ⟨cv, rfl, ⟨U, UA, uc, S, SA, sc, rfl, hR⟩, _, _⟩, hx⟩
  have h1 := kn_A14.1
  have h2 := kn_A14.2
  have hS := hR.hS
  have hr := hR.srvs
  rw [h1] at hS
  obtain ⟨x, rfl⟩ : ∃ x, S = [x] := by
    cases S with
    | nil => cases hS
    | cons x r => cases r with
      | nil => exact ⟨x, rfl⟩
      | cons y r => simp at hS
  have hx1 : x.1.dflt = true := by
    simp only [List.map_cons, List.map_nil, List.cons.injEq, and_true] at hS
    rw [hS]
  refine ⟨hx, ?_⟩
  rcases hr with hr | ⟨g, f, rfl, hc⟩
  · simp [srV] at hr
  · refine ⟨UA, uc, sc, g, f, ?_, ?_⟩
    · have := hc 1 (.bool x.1.dflt) (by simp [srV])
      rw [hx1] at this
      exact this
    · rw [show (parseC knA14).2.1 = 0 from by rw [h2], show (parseC knA14).2.2 = 0 from by rw [h2], h1]
      rfl
theorem cParse_B (w : World) (hE : ErrR w) : Calls Tryz.prog 9 #[.string (str knB14)] w
    fun e w' => Ext w w' ∧ ∃ (k1 k2 k3 k4 : Int) (A B : Option Addr) (n c m d : Nat), e = .returned (.tuple #[.agg #[.int .i64 k1, .int .i64 k2, .int .i64 k3, .int .i64 k4, .slice A n c, .slice B m d], .int .i64 2, .int .i64 60]) := by
  refine (cParse_c knB14 (by decide) w hE).mono ?_
  rintro e w' ⟨v, rfl, ⟨cv, rfl, ⟨U, UA, uc, S, SA, sc, rfl, hR⟩, _, _⟩, hx⟩
  have h2 := kn_B14
  refine ⟨hx, (parseC knB14).1.keep, (parseC knB14).1.body, (parseC knB14).1.store, (parseC knB14).1.conns, UA, SA, (parseC knB14).1.ups.length, uc, (parseC knB14).1.srvs.length, sc, ?_⟩
  rw [show (parseC knB14).2.1 = 2 from by rw [h2], show (parseC knB14).2.2 = 60 from by rw [h2]]
  rfl
set_option maxRecDepth 100000 in
set_option maxHeartbeats 2000000 in
theorem knows14_c (w : World) (hE : ErrR w) : Calls Tryz.prog 14 #[] w (Gives (.bool true) w) := by
  have CA := Lib.hid (cParse_A w hE)
  have CB := Lib.hid (fun w' (hx : Ext w w') => cParse_B w' (hE.ext hx))
  rw [show str knA14 = ⟨#[115, 101, 114, 118, 101, 114, 32, 123, 32, 100, 101, 102, 97, 117, 108, 116, 59, 32, 108, 111, 99, 97, 116, 105, 111, 110, 32, 47, 32, 123, 32, 114, 111, 111, 116, 32, 47, 102, 105, 108, 101, 115, 59, 32, 125, 32, 125]⟩ from rfl] at CA
  rw [show str knB14 = ⟨#[10, 102, 111, 111, 59]⟩ from rfl] at CB
  clear hE
  go_enter Tryz.func14, Tryz.ntmps14
  go_upto_region 2 with (go_at_call 9; refine CA.out.mono ?_; rintro e w1 ⟨hx1, UA, uc, sc, g, f, hc, rfl⟩)
  have b0 := new_at w1 #[.int .i64 75, .int .i64 65536, .int .i64 0, .int .i64 1000, .slice UA 0 uc, .slice (some ⟨g, f, none⟩) 1 sc] 25 0 _ rfl
  have b5 := new_at w1 #[.int .i64 75, .int .i64 65536, .int .i64 0, .int .i64 1000, .slice UA 0 uc, .slice (some ⟨g, f, none⟩) 1 sc] 25 5 _ rfl
  obtain ⟨W2, hW2⟩ : ∃ W, W = w1.alloc (.cells #[.int .i64 75, .int .i64 65536, .int .i64 0, .int .i64 1000, .slice UA 0 uc, .slice (some ⟨g, f, none⟩) 1 sc] 25) := ⟨_, rfl⟩
  have hx2 : Ext w1 W2 := by rw [hW2]; exact (Ext.rfl' _).al _
  have hc2 := (hx2.cell (lt_of_cell hc)).trans hc
  rw [← hW2] at b0 b5 ⊢
  clear hW2 hc
  go_upto_region 3 with (go_at_call 9; refine (CB.out _ (hx1.tr hx2)).mono ?_; rintro e w3 ⟨hx3, k1, k2, k3, k4, A, B, n, c, m, d, rfl⟩)
  obtain ⟨W4, hW4⟩ : ∃ W, W = w3.alloc (.cells #[.int .i64 k1, .int .i64 k2, .int .i64 k3, .int .i64 k4, .slice A n c, .slice B m d] 25) := ⟨_, rfl⟩
  have hx4 : Ext W2 W4 := by rw [hW4]; exact hx3.al _
  have c0 := (hx4.cell (lt_of_cell b0)).trans b0
  have c5 := (hx4.cell (lt_of_cell b5)).trans b5
  have cc := (hx4.cell (lt_of_cell hc2)).trans hc2
  rw [← hW4]
  clear hW4 b0 b5 hc2
  go_wp2_with (go_at_call 13; refine (num14_c _ _).mono ?_; rintro e w5 ⟨rfl, rfl⟩)
  go_ret
  exact ⟨rfl, by (repeat (first | exact Ext.rfl' _ | assumption | refine Ext.dr ?_ | refine Ext.drN ?_ _ | refine Ext.al ?_ _ | refine Ext.st ?_ (by simp) _ | refine Ext.tr ?_ (by assumption)))⟩
end Go.Proofs.YtmnohicojefhfaaGreatDoor
