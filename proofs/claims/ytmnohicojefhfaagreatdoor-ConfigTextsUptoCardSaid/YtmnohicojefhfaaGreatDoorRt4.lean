/-
Any configuration as text: as the document says.
-/
import Derived.Test.YtmnohicojefhfaaGreatDoorRTa
import Derived.Test.YtmnohicojefhfaaGreatDoorTx5
import Derived.Test.YtmnohicojefhfaaGreatDoorOPc
import Derived.Test.YtmnohicojefhfaaGreatDoorONa
set_option linter.unusedVariables false
set_option linter.unusedSimpArgs false
namespace Go.Proofs.YtmnohicojefhfaaGreatDoor
open Go.RowKit

theorem cfl_ofT {c : Cf14} (h : CfM c 1048576) : CfL c :=
 ⟨fun u hu => h.name u hu, fun s hs => ⟨fun n hn => h.names s hs n hn, fun l hl => by have := h.locs s hs l hl; exact ⟨this.pre, this.root, this.index, this.goal⟩⟩⟩
set_option maxRecDepth 100000 in
set_option maxHeartbeats 4000000 in
theorem ConfigTexts_w (c : Cf14) (U : List (Up14 × Hd)) (UA : Option Addr) (uc : Nat) (S : List (Sr14 × Hd × Hd)) (SA : Option Addr) (sc : Nat) (w : World) (hR : CfR w c U UA S SA) (hZ : OwS c) (hS : CfS c) (hN : goodC c = true → CfN c) (hL : CfL c) (hE : ErrR w) (hP : Pow w) :
  Calls Tryz.prog 6 #[cfV c UA uc SA sc] w (Gives (.bool true) w) := by
 have HR := Lib.hid hR
 have HE := Lib.hid hE
 have HP := Lib.hid hP
 have CO := Lib.hid (fun w' (hx : Ext w w') => cOwn_c c U UA uc S SA sc w' (HR.out.ext hx) hZ)
 have CT := Lib.hid (fun U1 UA1 uc1 S1 SA1 sc1 w' (hx : Ext w w') (hr : CfR w' c U1 UA1 S1 SA1) => cText_c c U1 UA1 uc1 S1 SA1 sc1 w' (HE.out.ext hx) (HP.out.ext hx) hr hS hN)
 have CR := Lib.hid (fun w' (hx : Ext w w') => rText_c c U UA uc S SA sc w' (HR.out.ext hx) hS hN hL)
 have CK := Lib.hid (fun w' (hx : Ext w w') => knows14_c w' (HE.out.ext hx))
 obtain ⟨st, hst⟩ : ∃ s, s = str (textR c).1 := ⟨_, rfl⟩
 obtain ⟨z, hz⟩ : ∃ z, z = (textR c).2 := ⟨_, rfl⟩
 rw [← hst, ← hz] at CT CR
 unfold cfV at CO CR ⊢
 clear hR hE hP hZ hS hN hL hst hz
 have z0 := fun j u => new_at w #[.int .i64 c.keep, .int .i64 c.body, .int .i64 c.store, .int .i64 c.conns, .slice UA c.ups.length uc, .slice SA c.srvs.length sc] 32 j u
 obtain ⟨W1, hW1⟩ : ∃ W, W = w.alloc (.cells #[.int .i64 c.keep, .int .i64 c.body, .int .i64 c.store, .int .i64 c.conns, .slice UA c.ups.length uc, .slice SA c.srvs.length sc] 32) := ⟨_, rfl⟩
 have hx1 : Ext w W1 := by rw [hW1]; exact (Ext.rfl' _).al _
 obtain ⟨g, hg⟩ : ∃ g, g = w.heap.size := ⟨_, rfl⟩
 rw [← hW1, ← hg] at z0
 have ZX := Lib.hid (fun wx (hx : Ext W1 wx) j u h => (hx.cell (lt_of_cell (z0 j u h))).trans (z0 j u h))
 have p0 := z0 0 _ rfl
 have p1 := z0 1 _ rfl
 have p2 := z0 2 _ rfl
 have p3 := z0 3 _ rfl
 have p4 := z0 4 _ rfl
 have p5 := z0 5 _ rfl
 clear z0
 go_enter Tryz.func6, Tryz.ntmps6
 go_upto_region 1 with (fail)
 rw [← hW1, ← hg]
 clear hW1 hg
 go_upto_region 2 with (first
  | (go_at_call 12; refine (CO.out _ hx1).mono ?_; rintro e' w2 ⟨v, rfl, ⟨U1, UA1, uc1, S1, SA1, sc1, rfl, hR1⟩, hx2⟩; have HR1 := Lib.hid hR1; clear hR1; dsimp only [cfV])
  | (go_at_call 18; refine (CT.out U1 UA1 uc1 S1 SA1 sc1 _ (hx1.tr hx2) HR1.out).mono ?_; rintro e' w3 ⟨rfl, hx3⟩))
 clear p0 p1 p2 p3 p4 p5 CO CT
 have hx13 := hx2.tr hx3
 have hxw3 := hx1.tr hx13
 have q0 := ZX.out _ hx13 0 _ rfl
 have q1 := ZX.out _ hx13 1 _ rfl
 have q2 := ZX.out _ hx13 2 _ rfl
 have q3 := ZX.out _ hx13 3 _ rfl
 have q4 := ZX.out _ hx13 4 _ rfl
 have q5 := ZX.out _ hx13 5 _ rfl
 clear hx13
 go_upto_region 3 with (go_at_call 19; refine (CR.out _ hxw3).mono ?_; rintro e' w4 ⟨rfl, hx4⟩)
 clear q0 q1 q2 q3 q4 q5 CR
 have hxw4 := hxw3.tr hx4
 go_wp2_with (first
  | (go_at_call 13; refine (num14_c _ _).mono ?_; rintro e' w7 ⟨rfl, rfl⟩)
  | (go_at_call 14; refine (CK.out _ hxw4).mono ?_; rintro e' w5 ⟨rfl, hx5⟩))
 go_ret
 exact ⟨rfl, hxw4.tr hx5⟩
theorem ConfigTexts_u (c : Cf14) (U : List (Up14 × Hd)) (UA : Option Addr) (uc : Nat) (S : List (Sr14 × Hd × Hd)) (SA : Option Addr) (sc n : Nat) (w : World) (hR : CfR w c U UA S SA) (hM : CfM c n) (hn : n ≤ 1048576) (hE : ErrR w) (hP : Pow w) :
  Calls Tryz.prog 6 #[cfV c UA uc SA sc] w (Gives (.bool true) w) :=
 ConfigTexts_w c U UA uc S SA sc w hR (ows_of (hM.up hn)) (cfs_of (hM.up hn)) (fun h => cfn_ofL c h (cfl_ofT (hM.up hn))) (cfl_ofT (hM.up hn)) hE hP
end Go.Proofs.YtmnohicojefhfaaGreatDoor
