/-
No log, and one that nobody made: the law AccessNil as a walk.
-/
import Derived.Test.YtjapkhhdpppmdaaDoorAcc9
set_option linter.unusedVariables false
set_option linter.unusedSimpArgs false
namespace Go.Proofs.YtjapkhhdpppmdaaDoor
open Go.RowKit

/-- No log, or one that nobody made. -/
def NilL (p : Option Addr) (w : World) : Prop := p = none ∨ ∃ g, p = some ⟨g, 0, none⟩ ∧ w.cell? ⟨g, 2, none⟩ = some (.int .i64 0)
theorem NilL.ext {p : Option Addr} {w w' : World} (h : NilL p w) (x : Ext w w') : NilL p w' := by
  rcases h with h | ⟨g, h1, h2⟩
  · exact .inl h
  · exact .inr ⟨g, h1, (x.cell (lt_of_cell h2)).trans h2⟩
set_option maxRecDepth 100000 in
theorem aNone_yes (p : Option Addr) (w : World) (h : NilL p w) : Calls Tryd.prog 54 #[.pointer p] w fun e w' => e = .returned (.bool true) ∧ w = w' := by
  rcases h with rfl | ⟨g, rfl, hc⟩
  · go_enter Tryd.func54, Tryd.ntmps54
    go_wp2
    go_ret
    exact ⟨rfl, rfl⟩
  · go_enter Tryd.func54, Tryd.ntmps54
    go_wp2
    go_ret
    exact ⟨rfl, rfl⟩
set_option maxRecDepth 100000 in
theorem aDropped_none (p : Option Addr) (w : World) (h : NilL p w) : Calls Tryd.prog 25 #[.pointer p] w (Gives (.int .i64 0) w) := by
  have HN := Lib.hid h
  clear h
  go_enter Tryd.func25, Tryd.ntmps25
  go_wp2_with (go_at_call 54; refine (aNone_yes _ _ (HN.out.ext (by (repeat (first | exact Ext.rfl' _ | assumption | refine Ext.dr ?_ | refine Ext.drN ?_ _ | refine Ext.al ?_ _ | refine Ext.st ?_ (by simp) _ | refine Ext.tr ?_ (by assumption)))))).mono ?_; rintro e w1 ⟨rfl, rfl⟩)
  go_ret
  exact ⟨rfl, by (repeat (first | exact Ext.rfl' _ | assumption | refine Ext.dr ?_ | refine Ext.drN ?_ _ | refine Ext.al ?_ _ | refine Ext.st ?_ (by simp) _ | refine Ext.tr ?_ (by assumption)))⟩
set_option maxRecDepth 100000 in
theorem aLines_none (p : Option Addr) (w : World) (h : NilL p w) : Calls Tryd.prog 24 #[.pointer p] w (Gives (.slice none 0 0) w) := by
  have HN := Lib.hid h
  clear h
  go_enter Tryd.func24, Tryd.ntmps24
  go_wp2_with (go_at_call 54; refine (aNone_yes _ _ (HN.out.ext (by (repeat (first | exact Ext.rfl' _ | assumption | refine Ext.dr ?_ | refine Ext.drN ?_ _ | refine Ext.al ?_ _ | refine Ext.st ?_ (by simp) _ | refine Ext.tr ?_ (by assumption)))))).mono ?_; rintro e w1 ⟨rfl, rfl⟩)
  go_ret
  exact ⟨rfl, by (repeat (first | exact Ext.rfl' _ | assumption | refine Ext.dr ?_ | refine Ext.drN ?_ _ | refine Ext.al ?_ _ | refine Ext.st ?_ (by simp) _ | refine Ext.tr ?_ (by assumption)))⟩
set_option maxRecDepth 100000 in
set_option maxHeartbeats 2000000 in
theorem aAppend_none (p : Option Addr) (x : Ent) (w : World) (h : NilL p w) : Calls Tryd.prog 23 #[.pointer p, x.val] w (Gives (.int .i64 1) w) := by
  have HN := Lib.hid h
  clear h
  unfold Ent.val
  unfold Ent.cells
  go_enter Tryd.func23, Tryd.ntmps23
  go_wp2_with (go_at_call 54; refine (aNone_yes _ _ (HN.out.ext (by (repeat (first | exact Ext.rfl' _ | assumption | refine Ext.dr ?_ | refine Ext.drN ?_ _ | refine Ext.al ?_ _ | refine Ext.st ?_ (by simp) _ | refine Ext.tr ?_ (by assumption)))))).mono ?_; rintro e w1 ⟨rfl, rfl⟩)
  go_ret
  exact ⟨rfl, by (repeat (first | exact Ext.rfl' _ | assumption | refine Ext.dr ?_ | refine Ext.drN ?_ _ | refine Ext.al ?_ _ | refine Ext.st ?_ (by simp) _ | refine Ext.tr ?_ (by assumption)))⟩
set_option maxRecDepth 100000 in
set_option maxHeartbeats 4000000 in
theorem AccessNil_w (x : Ent) (w : World) (hE : ErrR w) (hP : Pow w) (hM : Mx w) :
    Calls Tryd.prog 6 #[x.val] w (Gives (.bool true) w) := by
  have C1 := Lib.hid (fun (p : Option Addr) (w : World) (h : NilL p w) => aAppend_none p x w h)
  have C3 := Lib.hid (fun (w : World) => aOwn_c x w)
  have HE := Lib.hid hE
  have HP := Lib.hid hP
  have HM := Lib.hid hM
  clear hE hP hM
  unfold Ent.val Ent.cells at C1 C3 ⊢
  obtain ⟨t, c, m, h, g, s, b, a⟩ := x
  dsimp only at C1 C3 ⊢
  go_enter Tryd.func6, Tryd.ntmps6
  go_wp2
  have HB := Lib.hid (heap_alloc_new w (.cells #[.int .i64 t, .string (str c), .string (str m), .string (str h), .string (str g), .int .i64 s, .int .i64 b, .string (str a)] 23))
  obtain ⟨W1, hW1⟩ : ∃ W1, W1 = w.alloc (.cells #[.int .i64 t, .string (str c), .string (str m), .string (str h), .string (str g), .int .i64 s, .int .i64 b, .string (str a)] 23) := ⟨_, rfl⟩
  rw [← hW1] at HB ⊢
  have hx0 : Ext w W1 := by rw [hW1]; (repeat (first | exact Ext.rfl' _ | assumption | refine Ext.dr ?_ | refine Ext.drN ?_ _ | refine Ext.al ?_ _ | refine Ext.st ?_ (by simp) _ | refine Ext.tr ?_ (by assumption)))
  clear hW1
  go_loopw [3, 4] (fun s3 s4 wr => ∃ (p : Option Addr) (k : Nat) (z : Int), s3 = .pointer p ∧ s4 = .int .i64 z ∧ z = (k : Int) ∧ k ≤ 2 ∧ NilL p wr ∧ Ext W1 wr) (fun _ s4 _ => 2 - (intOf s4).toNat)
  case atStart => exact ⟨none, 0, 0, rfl, rfl, rfl, by omega, .inl rfl, Ext.rfl' _⟩
  case round =>
    obtain ⟨p, k, z, rfl, rfl, hz, hk, hn, hxr⟩ := hrel
    have HN := Lib.hid hn
    clear hn
    have hxw : Ext w wr := hx0.tr hxr
    have hk3 : k = 0 ∨ k = 1 ∨ k = 2 := by omega
    clear hk
    rcases hk3 with rfl | rfl | rfl
    · obtain rfl : z = 0 := hz
      obtain ⟨r0, r1, r2, r3, r4, r5, r6, r7⟩ := eight HB.out hxr
      go_wp2_with (first
        | (go_at_call 17; refine (C3.out _).mono ?_; rintro e w0 ⟨rfl, hx0⟩)
        | (go_at_call 23; refine (C1.out _ _ (HN.out.ext (by (repeat (first | exact Ext.rfl' _ | assumption | refine Ext.dr ?_ | refine Ext.drN ?_ _ | refine Ext.al ?_ _ | refine Ext.st ?_ (by simp) _ | refine Ext.tr ?_ (by assumption)))))).mono ?_; rintro e w1 ⟨rfl, hx1⟩)
        | (go_at_call 24; refine (aLines_none _ _ (HN.out.ext (by (repeat (first | exact Ext.rfl' _ | assumption | refine Ext.dr ?_ | refine Ext.drN ?_ _ | refine Ext.al ?_ _ | refine Ext.st ?_ (by simp) _ | refine Ext.tr ?_ (by assumption)))))).mono ?_; rintro e w2 ⟨rfl, hx2⟩)
        | (go_at_call 25; refine (aDropped_none _ _ (HN.out.ext (by (repeat (first | exact Ext.rfl' _ | assumption | refine Ext.dr ?_ | refine Ext.drN ?_ _ | refine Ext.al ?_ _ | refine Ext.st ?_ (by simp) _ | refine Ext.tr ?_ (by assumption)))))).mono ?_; rintro e w3 ⟨rfl, hx3⟩)
        | (go_at_call 19; refine (num21_c _ _).mono ?_; rintro e w4 ⟨rfl, rfl⟩))
      go_roundw
      case rel => exact ⟨_, 0 + 1, 0 + 1, rfl, rfl, by omega, by omega, .inr ⟨w3.heap.size, rfl, new_at _ _ _ 2 _ rfl⟩, by (repeat (first | exact Ext.rfl' _ | assumption | refine Ext.dr ?_ | refine Ext.drN ?_ _ | refine Ext.al ?_ _ | refine Ext.st ?_ (by simp) _ | refine Ext.tr ?_ (by assumption)))⟩
      case measure => simp [intOf]
    · obtain rfl : z = 1 := hz
      obtain ⟨r0, r1, r2, r3, r4, r5, r6, r7⟩ := eight HB.out hxr
      go_wp2_with (first
        | (go_at_call 17; refine (C3.out _).mono ?_; rintro e w0 ⟨rfl, hx0⟩)
        | (go_at_call 23; refine (C1.out _ _ (HN.out.ext (by (repeat (first | exact Ext.rfl' _ | assumption | refine Ext.dr ?_ | refine Ext.drN ?_ _ | refine Ext.al ?_ _ | refine Ext.st ?_ (by simp) _ | refine Ext.tr ?_ (by assumption)))))).mono ?_; rintro e w1 ⟨rfl, hx1⟩)
        | (go_at_call 24; refine (aLines_none _ _ (HN.out.ext (by (repeat (first | exact Ext.rfl' _ | assumption | refine Ext.dr ?_ | refine Ext.drN ?_ _ | refine Ext.al ?_ _ | refine Ext.st ?_ (by simp) _ | refine Ext.tr ?_ (by assumption)))))).mono ?_; rintro e w2 ⟨rfl, hx2⟩)
        | (go_at_call 25; refine (aDropped_none _ _ (HN.out.ext (by (repeat (first | exact Ext.rfl' _ | assumption | refine Ext.dr ?_ | refine Ext.drN ?_ _ | refine Ext.al ?_ _ | refine Ext.st ?_ (by simp) _ | refine Ext.tr ?_ (by assumption)))))).mono ?_; rintro e w3 ⟨rfl, hx3⟩)
        | (go_at_call 19; refine (num21_c _ _).mono ?_; rintro e w4 ⟨rfl, rfl⟩))
      go_roundw
      case rel => exact ⟨_, 1 + 1, 1 + 1, rfl, rfl, by omega, by omega, .inr ⟨w3.heap.size, rfl, new_at _ _ _ 2 _ rfl⟩, by (repeat (first | exact Ext.rfl' _ | assumption | refine Ext.dr ?_ | refine Ext.drN ?_ _ | refine Ext.al ?_ _ | refine Ext.st ?_ (by simp) _ | refine Ext.tr ?_ (by assumption)))⟩
      case measure => simp [intOf]
    · obtain rfl : z = 2 := hz
      go_wp2_with (go_at_call 20; refine (knows21_c _ (HE.out.ext (by (repeat (first | exact Ext.rfl' _ | assumption | refine Ext.dr ?_ | refine Ext.drN ?_ _ | refine Ext.al ?_ _ | refine Ext.st ?_ (by simp) _ | refine Ext.tr ?_ (by assumption))))) (HP.out.ext (by (repeat (first | exact Ext.rfl' _ | assumption | refine Ext.dr ?_ | refine Ext.drN ?_ _ | refine Ext.al ?_ _ | refine Ext.st ?_ (by simp) _ | refine Ext.tr ?_ (by assumption))))) (HM.out.ext (by (repeat (first | exact Ext.rfl' _ | assumption | refine Ext.dr ?_ | refine Ext.drN ?_ _ | refine Ext.al ?_ _ | refine Ext.st ?_ (by simp) _ | refine Ext.tr ?_ (by assumption)))))).mono ?_; rintro e w6 ⟨rfl, hx6⟩)
      go_ret
      exact ⟨rfl, by (repeat (first | exact Ext.rfl' _ | assumption | refine Ext.dr ?_ | refine Ext.drN ?_ _ | refine Ext.al ?_ _ | refine Ext.st ?_ (by simp) _ | refine Ext.tr ?_ (by assumption)))⟩
end Go.Proofs.YtjapkhhdpppmdaaDoor
