/-
No queue, and one that nobody made: all its calls.
-/
import Derived.Test.YteklakibcboepabDoorQue2
set_option linter.unusedVariables false
set_option linter.unusedSimpArgs false
namespace Go.Proofs.YteklakibcboepabDoor
open Go.RowKit

/-- No queue, or one that nobody made. -/
def NoneQ (v : Value) (w : World) : Prop := v = .pointer none ∨ ∃ p, v = .pointer (some ⟨p, 0, none⟩) ∧ w.cell? ⟨p, 1, none⟩ = some (.int .i64 0)
theorem NoneQ.ext {v : Value} {w w' : World} (h : NoneQ v w) (e : Ext w w') : NoneQ v w' := by
  rcases h with h | ⟨p, h, hc⟩
  · exact .inl h
  · exact .inr ⟨p, h, by rw [← hc]; exact e.cell (lt_of_cell hc)⟩
/-- A contract that leaves the world as it was. -/
def Same (v : Value) (w : World) (e : Ending) (w' : World) : Prop := e = .returned v ∧ w = w'
theorem nnone_c (v : Value) (w : World) (h : NoneQ v w) : Calls Tryd.prog 24 #[v] w (Same (.bool true) w) := by
  rcases h with rfl | ⟨p, rfl, hc⟩
  · go_enter Tryd.func24, Tryd.ntmps24
    go_wp2
    go_ret
    exact ⟨rfl, rfl⟩
  · go_enter Tryd.func24, Tryd.ntmps24
    go_wp2
    go_ret
    exact ⟨rfl, rfl⟩
theorem nPut_c (v x : Value) (w : World) (h : NoneQ v w) : Calls Tryd.prog 8 #[v, x] w (Same (.int .i64 1) w) := by
  rcases h with rfl | ⟨p, rfl, hc⟩
  · go_enter Tryd.func8, Tryd.ntmps8
    go_wp2_with (go_at_call 24; refine (nnone_c _ _ (by first | exact .inl rfl | exact .inr ⟨_, rfl, hc⟩)).mono ?_; rintro e w1 ⟨rfl, rfl⟩)
    go_ret
    exact ⟨rfl, rfl⟩
  · go_enter Tryd.func8, Tryd.ntmps8
    go_wp2_with (go_at_call 24; refine (nnone_c _ _ (by first | exact .inl rfl | exact .inr ⟨_, rfl, hc⟩)).mono ?_; rintro e w1 ⟨rfl, rfl⟩)
    go_ret
    exact ⟨rfl, rfl⟩
theorem nLen_c (v : Value) (w : World) (h : NoneQ v w) : Calls Tryd.prog 11 #[v] w (Same (.int .i64 0) w) := by
  rcases h with rfl | ⟨p, rfl, hc⟩
  · go_enter Tryd.func11, Tryd.ntmps11
    go_wp2_with (go_at_call 24; refine (nnone_c _ _ (by first | exact .inl rfl | exact .inr ⟨_, rfl, hc⟩)).mono ?_; rintro e w1 ⟨rfl, rfl⟩)
    go_ret
    exact ⟨rfl, rfl⟩
  · go_enter Tryd.func11, Tryd.ntmps11
    go_wp2_with (go_at_call 24; refine (nnone_c _ _ (by first | exact .inl rfl | exact .inr ⟨_, rfl, hc⟩)).mono ?_; rintro e w1 ⟨rfl, rfl⟩)
    go_ret
    exact ⟨rfl, rfl⟩
theorem nPeek_c (v : Value) (n : Int) (w : World) (h : NoneQ v w) : Calls Tryd.prog 10 #[v, .int .i64 n] w (Same (.slice none 0 0) w) := by
  rcases h with rfl | ⟨p, rfl, hc⟩
  · go_enter Tryd.func10, Tryd.ntmps10
    go_wp2_with (go_at_call 24; refine (nnone_c _ _ (by first | exact .inl rfl | exact .inr ⟨_, rfl, hc⟩)).mono ?_; rintro e w1 ⟨rfl, rfl⟩)
    go_ret
    exact ⟨rfl, rfl⟩
  · go_enter Tryd.func10, Tryd.ntmps10
    go_wp2_with (go_at_call 24; refine (nnone_c _ _ (by first | exact .inl rfl | exact .inr ⟨_, rfl, hc⟩)).mono ?_; rintro e w1 ⟨rfl, rfl⟩)
    go_ret
    exact ⟨rfl, rfl⟩
theorem nTake_c (v : Value) (n : Int) (w : World) (h : NoneQ v w) : Calls Tryd.prog 9 #[v, .int .i64 n] w (Same (.slice none 0 0) w) := by
  rcases h with rfl | ⟨p, rfl, hc⟩
  · go_enter Tryd.func9, Tryd.ntmps9
    go_wp2_with (go_at_call 10; refine (nPeek_c _ _ _ (.inl rfl)).mono ?_; rintro e w1 ⟨rfl, rfl⟩)
    go_ret
    exact ⟨rfl, rfl⟩
  · go_enter Tryd.func9, Tryd.ntmps9
    go_wp2_with (go_at_call 10; refine (nPeek_c _ _ _ (.inr ⟨p, rfl, hc⟩)).mono ?_; rintro e w1 ⟨rfl, rfl⟩)
    go_ret
    exact ⟨rfl, rfl⟩
theorem nLine_c (v : Value) (w : World) (h : NoneQ v w) : Calls Tryd.prog 6 #[v] w (Same (.tuple #[.slice none 0 0, .bool false]) w) := by
  rcases h with rfl | ⟨p, rfl, hc⟩
  · go_enter Tryd.func6, Tryd.ntmps6
    go_wp2_with (go_at_call 24; refine (nnone_c _ _ (by first | exact .inl rfl | exact .inr ⟨_, rfl, hc⟩)).mono ?_; rintro e w1 ⟨rfl, rfl⟩)
    go_ret2
    exact ⟨rfl, rfl⟩
  · go_enter Tryd.func6, Tryd.ntmps6
    go_wp2_with (go_at_call 24; refine (nnone_c _ _ (by first | exact .inl rfl | exact .inr ⟨_, rfl, hc⟩)).mono ?_; rintro e w1 ⟨rfl, rfl⟩)
    go_ret2
    exact ⟨rfl, rfl⟩
end Go.Proofs.YteklakibcboepabDoor
