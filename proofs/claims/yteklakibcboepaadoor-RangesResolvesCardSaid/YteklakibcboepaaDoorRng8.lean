/-
The statement RangesResolves: its walk.
-/
import Derived.Test.YteklakibcboepaaDoorRng7
namespace Go.Proofs.YteklakibcboepaaDoor
open Go.RowKit
set_option maxRecDepth 100000 in
set_option maxHeartbeats 1000000 in
theorem RangesResolves_w (w : World) (hp : Pow w) (A : Option Addr) (n c : Nat) (ps : List (Int × Int)) (z a b : Int) (hn : ps.length = n) (hsz : n ≤ 8796093022207) (h : Rd w A (pc ps))
    (z0 : -9223372036854775808 ≤ z) (z1 : z ≤ 9223372036854775807) (a0 : -9223372036854775808 ≤ a) (a1 : a ≤ 9223372036854775807) (b0 : -9223372036854775808 ≤ b) (b1 : b ≤ 9223372036854775807) :
    Calls Tryd.prog 3 #[.slice A n c, .int .i64 z, .agg #[.int .i64 a, .int .i64 b]] w (Gives (.bool true) w) := by
  subst hn
  have HP := Lib.hid hp
  have HR := Lib.hid h
  have hlen : (resolveL ps z).1.length ≤ maxLen := by
    unfold resolveL maxLen
    split
    · simp
    · rename_i hb
      split
      · simp
      · rename_i hall
        have := (sum_bd z (by omega) ps (by simpa using hall)).2.2
        split
        · simp
        · split
          · simp
          · simp only; omega
  have HL := Lib.hid hlen
  clear hp h hlen
  have hks := Lib.hid (show ∀ w', Ext (w.alloc (.cells #[.int .i64 a, .int .i64 b] 24)) w' → (w'.cell? ⟨w.heap.size, 0, none⟩ = some (.int .i64 a) ∧ w'.cell? ⟨w.heap.size, 1, none⟩ = some (.int .i64 b)) from fun w' e => ⟨e.new 0 _ rfl, e.new 1 _ rfl⟩)
  have hx0 := Ext.al (Ext.rfl' w) (.cells #[.int .i64 a, .int .i64 b] 24)
  go_enter Tryd.func3, Tryd.ntmps3
  go_wp2_with fail
  refine (spans_c _ _ _ _ ps rfl (HR.out.ext (by (repeat (first | exact Ext.rfl' _ | assumption | refine Ext.dr ?_ | refine Ext.al ?_ _ | refine Ext.st ?_ (by simp) _ | refine Ext.tr ?_ (by assumption))))) hsz).mono ?_
  rintro e w1 h1
  obtain ⟨v, rfl, ⟨A1, c1, rfl, hr1, hc1⟩, hx1⟩ := h1.out
  clear h1
  go_wp2_with fail
  refine (Resolve_c _ _ _ _ ps z rfl (by unfold maxLen; omega) hr1 z0 z1).mono ?_
  rintro e w2 h2
  obtain ⟨v, rfl, ⟨A2, c2, rfl, hr2, hc2⟩, hx2⟩ := h2.out
  clear h2
  go_wp2_with fail
  refine (rResolve_c _ _ _ _ ps z rfl (by unfold maxLen; omega) (HR.out.ext (by (repeat (first | exact Ext.rfl' _ | assumption | refine Ext.dr ?_ | refine Ext.al ?_ _ | refine Ext.st ?_ (by simp) _ | refine Ext.tr ?_ (by assumption))))) z0 z1).mono ?_
  rintro e w3 h3
  obtain ⟨v, rfl, ⟨A3, c3, rfl, hr3, hc3⟩, hx3⟩ := h3.out
  clear h3
  generalize (resolveL ps z).1 = L at *
  generalize (resolveL ps z).2 = E at *
  go_wp2_with fail
  go_region_held3 (fun w' => w'.cell? ⟨w.heap.size, 0, none⟩ = some (.int .i64 a) ∧ w'.cell? ⟨w.heap.size, 1, none⟩ = some (.int .i64 b))
    (exact hks.out _ (by (repeat (first | exact Ext.rfl' _ | assumption | refine Ext.dr ?_ | refine Ext.al ?_ _ | refine Ext.st ?_ (by simp) _ | refine Ext.tr ?_ (by assumption)))))
    (first
      | (go_at_call 14; refine (same17_c _ _ _ _ _ _ _ L rfl rfl HL.out (hr2.ext (by (repeat (first | exact Ext.rfl' _ | assumption | refine Ext.dr ?_ | refine Ext.al ?_ _ | refine Ext.st ?_ (by simp) _ | refine Ext.tr ?_ (by assumption))))) (hr3.ext (by (repeat (first | exact Ext.rfl' _ | assumption | refine Ext.dr ?_ | refine Ext.al ?_ _ | refine Ext.st ?_ (by simp) _ | refine Ext.tr ?_ (by assumption)))))).mono ?_; rintro e w4 ⟨rfl, hx4⟩)
      | (go_at_call 15; refine (num17_c _ _).mono ?_; rintro e w4 ⟨rfl, rfl⟩)
      | (go_at_call 16; refine (ContentRange_c _ _ _ _ (HP.out.ext (by (repeat (first | exact Ext.rfl' _ | assumption | refine Ext.dr ?_ | refine Ext.al ?_ _ | refine Ext.st ?_ (by simp) _ | refine Ext.tr ?_ (by assumption))))) a0 a1 b0 b1 z0 z1).mono ?_; rintro e w4 ⟨rfl, hx5⟩)
      | (go_at_call 17; refine (rContentRange_c _ _ _ _ (HP.out.ext (by (repeat (first | exact Ext.rfl' _ | assumption | refine Ext.dr ?_ | refine Ext.al ?_ _ | refine Ext.st ?_ (by simp) _ | refine Ext.tr ?_ (by assumption))))) a0 a1 b0 b1 z0 z1).mono ?_; rintro e w4 ⟨rfl, hx6⟩)
      | (go_at_call 18; refine (knows17_c _ (HP.out.ext (by (repeat (first | exact Ext.rfl' _ | assumption | refine Ext.dr ?_ | refine Ext.al ?_ _ | refine Ext.st ?_ (by simp) _ | refine Ext.tr ?_ (by assumption)))))).mono ?_; rintro e w4 ⟨rfl, hx7⟩))
  all_goals go_wp2
  all_goals go_ret
  all_goals exact ⟨rfl, by (repeat (first | exact Ext.rfl' _ | assumption | refine Ext.dr ?_ | refine Ext.al ?_ _ | refine Ext.st ?_ (by simp) _ | refine Ext.tr ?_ (by assumption)))⟩
end Go.Proofs.YteklakibcboepaaDoor
