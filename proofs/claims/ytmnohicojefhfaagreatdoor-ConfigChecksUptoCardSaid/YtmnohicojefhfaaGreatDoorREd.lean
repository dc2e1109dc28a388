/-
Which configurations may be: as the document says.
-/
import Derived.Test.YtmnohicojefhfaaGreatDoorREc
import Derived.Test.YtmnohicojefhfaaGreatDoorCi4
import Derived.Test.YtmnohicojefhfaaGreatDoorOPc
import Derived.Test.YtmnohicojefhfaaGreatDoorONa
set_option linter.unusedVariables false
set_option linter.unusedSimpArgs false
section
namespace Go.Proofs.YtmnohicojefhfaaGreatDoor
open Go.RowKit

set_option maxRecDepth 100000 in
set_option maxHeartbeats 2000000 in
theorem rCheck_c (c : Cf14) (U : List (Up14 × Hd)) (UA : Option Addr) (uc : Nat) (S : List (Sr14 × Hd × Hd)) (SA : Option Addr) (sc : Nat) (w : World) (hR : CfR w c U UA S SA) (hZ : CfS c) :
  Calls Tryz.prog 16 #[cfV c UA uc SA sc] w (Gives (.int .i64 (okE (goodC c))) w) := by
 have CG := Lib.hid (fun w' (hx : Ext w w') => rgood_c c U UA uc S SA sc w' (hR.ext hx) hZ)
 obtain ⟨G, hG⟩ : ∃ b, b = goodC c := ⟨_, rfl⟩
 rw [← hG] at CG ⊢
 unfold cfV at CG ⊢
 clear hR hZ hG
 have z0 := fun j u => new_at w #[.int .i64 c.keep, .int .i64 c.body, .int .i64 c.store, .int .i64 c.conns, .slice UA c.ups.length uc, .slice SA c.srvs.length sc] 32 j u
 obtain ⟨W1, hW1⟩ : ∃ W, W = w.alloc (.cells #[.int .i64 c.keep, .int .i64 c.body, .int .i64 c.store, .int .i64 c.conns, .slice UA c.ups.length uc, .slice SA c.srvs.length sc] 32) := ⟨_, rfl⟩
 have hx1 : Ext w W1 := by rw [hW1]; exact (Ext.rfl' _).al _
 obtain ⟨g, hg⟩ : ∃ g, g = w.heap.size := ⟨_, rfl⟩
 rw [← hW1, ← hg] at z0
 have p0 := z0 0 _ rfl
 have p1 := z0 1 _ rfl
 have p2 := z0 2 _ rfl
 have p3 := z0 3 _ rfl
 have p4 := z0 4 _ rfl
 have p5 := z0 5 _ rfl
 clear z0
 go_enter Tryz.func16, Tryz.ntmps16
 go_upto_region 1 with (fail)
 rw [← hW1, ← hg]
 clear hW1 hg
 cases G
 all_goals
  go_wp2_with (go_at_call 26; refine (CG.out _ hx1).mono ?_; rintro e' w2 ⟨rfl, hx2⟩)
  go_ret
  exact ⟨rfl, hx1.tr hx2⟩
set_option maxRecDepth 100000 in
set_option maxHeartbeats 4000000 in
theorem ConfigChecks_w (c : Cf14) (U : List (Up14 × Hd)) (UA : Option Addr) (uc : Nat) (S : List (Sr14 × Hd × Hd)) (SA : Option Addr) (sc : Nat) (w : World) (hR : CfR w c U UA S SA) (hZ : OwS c) (hS : CfS c) (hE : ErrR w) :
  Calls Tryz.prog 4 #[cfV c UA uc SA sc] w (Gives (.bool true) w) := by
 have HR := Lib.hid hR
 have HE := Lib.hid hE
 have CO := Lib.hid (fun w' (hx : Ext w w') => cOwn_c c U UA uc S SA sc w' (HR.out.ext hx) hZ)
 have CC := Lib.hid (fun U1 UA1 uc1 S1 SA1 sc1 w' (hx : Ext w w') (hr : CfR w' c U1 UA1 S1 SA1) => cCheck_c c U1 UA1 uc1 S1 SA1 sc1 w' (HE.out.ext hx) hr hS)
 have CR := Lib.hid (fun w' (hx : Ext w w') => rCheck_c c U UA uc S SA sc w' (HR.out.ext hx) hS)
 have CK := Lib.hid (fun w' (hx : Ext w w') => knows14_c w' (HE.out.ext hx))
 have CS := Lib.hid (fun U1 U2 UA1 UA2 uc1 uc2 S1 S2 SA1 SA2 sc1 sc2 w' (h1 : CfR w' c U1 UA1 S1 SA1) (h2 : CfR w' c U2 UA2 S2 SA2) => cSame_c c U1 U2 UA1 UA2 uc1 uc2 S1 S2 SA1 SA2 sc1 sc2 w' h1 h2 (by have := hZ.ups; omega) (by have := hZ.srvs; omega) (fun u hu => by have := hZ.peers u hu; omega) (fun u hu => by have := hZ.names u hu; omega) (fun u hu => by have := hZ.locs u hu; omega))
 obtain ⟨z, hz⟩ : ∃ z, z = okE (goodC c) := ⟨_, rfl⟩
 rw [← hz] at CC CR
 unfold cfV at CO CS CR ⊢
 clear hR hE hZ hS hz
 have z0 := fun j u => new_at w #[.int .i64 c.keep, .int .i64 c.body, .int .i64 c.store, .int .i64 c.conns, .slice UA c.ups.length uc, .slice SA c.srvs.length sc] 32 j u
 obtain ⟨W1, hW1⟩ : ∃ W, W = w.alloc (.cells #[.int .i64 c.keep, .int .i64 c.body, .int .i64 c.store, .int .i64 c.conns, .slice UA c.ups.length uc, .slice SA c.srvs.length sc] 32) := ⟨_, rfl⟩
 have hx1 : Ext w W1 := by rw [hW1]; exact (Ext.rfl' _).al _
 obtain ⟨g, hg⟩ : ∃ g, g = w.heap.size := ⟨_, rfl⟩
 rw [← hW1, ← hg] at z0
 have ZX := Lib.hid (fun wx (hx : Ext W1 wx) j u h => (hx.cell (lt_of_cell (z0 j u h))).trans (z0 j u h))
 have p0 := z0 0 _ rfl
 have p1 := z0 1 _ rfl
 have p2 := z0 2 _ rfl
 have p3 := z0 3 _ rfl
 have p4 := z0 4 _ rfl
 have p5 := z0 5 _ rfl
 clear z0
 go_enter Tryz.func4, Tryz.ntmps4
 go_upto_region 1 with (fail)
 rw [← hW1, ← hg]
 clear hW1 hg
 go_upto_region 2 with (go_at_call 12; refine (CO.out _ hx1).mono ?_; rintro e' w5 ⟨v, rfl, ⟨U2, UA2, uc2, S2, SA2, sc2, rfl, hR2⟩, hx5⟩; have HR2 := Lib.hid hR2; clear hR2; dsimp only [cfV])
 clear p0 p1 p2 p3 p4 p5
 have b0 := fun j u => new_at w5 #[.int .i64 c.keep, .int .i64 c.body, .int .i64 c.store, .int .i64 c.conns, .slice UA2 c.ups.length uc2, .slice SA2 c.srvs.length sc2] 25 j u
 obtain ⟨W6, hW6⟩ : ∃ W, W = w5.alloc (.cells #[.int .i64 c.keep, .int .i64 c.body, .int .i64 c.store, .int .i64 c.conns, .slice UA2 c.ups.length uc2, .slice SA2 c.srvs.length sc2] 25) := ⟨_, rfl⟩
 have hx6 : Ext w5 W6 := by rw [hW6]; exact (Ext.rfl' _).al _
 rw [← hW6] at b0 ⊢
 clear hW6
 have hx16 : Ext W1 W6 := hx5.tr hx6
 have hxw6 : Ext w W6 := hx1.tr hx16
 have HR6 := Lib.hid (HR2.out.ext hx6)
 obtain ⟨g2, hg2⟩ : ∃ g, g = w5.heap.size := ⟨_, rfl⟩
 rw [← hg2] at b0 ⊢
 have HB0 := Lib.hid (fun wx (hx : Ext W6 wx) j u h => (hx.cell (lt_of_cell (b0 j u h))).trans (b0 j u h))
 have hks : Hid (∀ w', Ext W6 w' → (w'.cell? ⟨g2, 0, none⟩ = some (.int .i64 c.keep) ∧ w'.cell? ⟨g2, 1, none⟩ = some (.int .i64 c.body) ∧ w'.cell? ⟨g2, 2, none⟩ = some (.int .i64 c.store) ∧ w'.cell? ⟨g2, 3, none⟩ = some (.int .i64 c.conns) ∧ w'.cell? ⟨g2, 4, none⟩ = some (.slice UA2 c.ups.length uc2) ∧ w'.cell? ⟨g2, 5, none⟩ = some (.slice SA2 c.srvs.length sc2) ∧
   w'.cell? ⟨g, 0, none⟩ = some (.int .i64 c.keep) ∧ w'.cell? ⟨g, 1, none⟩ = some (.int .i64 c.body) ∧ w'.cell? ⟨g, 2, none⟩ = some (.int .i64 c.store) ∧ w'.cell? ⟨g, 3, none⟩ = some (.int .i64 c.conns) ∧ w'.cell? ⟨g, 4, none⟩ = some (.slice UA c.ups.length uc) ∧ w'.cell? ⟨g, 5, none⟩ = some (.slice SA c.srvs.length sc))) := Lib.hid (fun w' e =>
  ⟨HB0.out _ e 0 _ rfl, HB0.out _ e 1 _ rfl, HB0.out _ e 2 _ rfl, HB0.out _ e 3 _ rfl, HB0.out _ e 4 _ rfl, HB0.out _ e 5 _ rfl, ZX.out _ (hx16.tr e) 0 _ rfl, ZX.out _ (hx16.tr e) 1 _ rfl, ZX.out _ (hx16.tr e) 2 _ rfl, ZX.out _ (hx16.tr e) 3 _ rfl, ZX.out _ (hx16.tr e) 4 _ rfl, ZX.out _ (hx16.tr e) 5 _ rfl⟩)
 clear b0 hg2 hx6 hx16 hx5 hx1
 go_region_held3 (fun w' => w'.cell? ⟨g2, 0, none⟩ = some (.int .i64 c.keep) ∧ w'.cell? ⟨g2, 1, none⟩ = some (.int .i64 c.body) ∧ w'.cell? ⟨g2, 2, none⟩ = some (.int .i64 c.store) ∧ w'.cell? ⟨g2, 3, none⟩ = some (.int .i64 c.conns) ∧ w'.cell? ⟨g2, 4, none⟩ = some (.slice UA2 c.ups.length uc2) ∧ w'.cell? ⟨g2, 5, none⟩ = some (.slice SA2 c.srvs.length sc2) ∧
   w'.cell? ⟨g, 0, none⟩ = some (.int .i64 c.keep) ∧ w'.cell? ⟨g, 1, none⟩ = some (.int .i64 c.body) ∧ w'.cell? ⟨g, 2, none⟩ = some (.int .i64 c.store) ∧ w'.cell? ⟨g, 3, none⟩ = some (.int .i64 c.conns) ∧ w'.cell? ⟨g, 4, none⟩ = some (.slice UA c.ups.length uc) ∧ w'.cell? ⟨g, 5, none⟩ = some (.slice SA c.srvs.length sc)) (exact hks.out _ (by (repeat first | exact Ex0 | assumption | refine Ex1 ?_ | refine Ex2 ?_ | refine Ex3 ?_ | refine Ex4 ?_ | refine Ex5 ?_))) (first
  | (go_at_call 13; refine (num14_c _ _).mono ?_; rintro e' w7 ⟨rfl, rfl⟩)
  | (go_at_call 15; refine (CC.out U2 UA2 uc2 S2 SA2 sc2 _ (hxw6.tr (by (repeat first | exact Ex0 | assumption | refine Ex1 ?_ | refine Ex2 ?_ | refine Ex3 ?_ | refine Ex4 ?_ | refine Ex5 ?_))) (HR6.out.ext (by (repeat first | exact Ex0 | assumption | refine Ex1 ?_ | refine Ex2 ?_ | refine Ex3 ?_ | refine Ex4 ?_ | refine Ex5 ?_)))).mono ?_; rintro e' wa ⟨rfl, hxa⟩)
  | (go_at_call 16; refine (CR.out _ (hxw6.tr (by (repeat first | exact Ex0 | assumption | refine Ex1 ?_ | refine Ex2 ?_ | refine Ex3 ?_ | refine Ex4 ?_ | refine Ex5 ?_)))).mono ?_; rintro e' wb ⟨rfl, hxb⟩)
  | (go_at_call 12; refine (CO.out _ (hxw6.tr (by (repeat first | exact Ex0 | assumption | refine Ex1 ?_ | refine Ex2 ?_ | refine Ex3 ?_ | refine Ex4 ?_ | refine Ex5 ?_)))).mono ?_; rintro e' w8 ⟨v, rfl, ⟨U3, UA3, uc3, S3, SA3, sc3, rfl, hR3⟩, hx8⟩; have HR3 := Lib.hid hR3; clear hR3; dsimp only [cfV])
  | (go_at_call 11; refine (CS.out U2 U3 UA2 UA3 uc2 uc3 S2 S3 SA2 SA3 sc2 sc3 _ (HR6.out.ext (by (repeat first | exact Ex0 | assumption | refine Ex1 ?_ | refine Ex2 ?_ | refine Ex3 ?_ | refine Ex4 ?_ | refine Ex5 ?_))) (HR3.out.ext (by (repeat first | exact Ex0 | assumption | refine Ex1 ?_ | refine Ex2 ?_ | refine Ex3 ?_ | refine Ex4 ?_ | refine Ex5 ?_)))).mono ?_; rintro e' w9 ⟨rfl, hx9⟩)
  | (go_at_call 14; refine (CK.out _ (hxw6.tr (by (repeat first | exact Ex0 | assumption | refine Ex1 ?_ | refine Ex2 ?_ | refine Ex3 ?_ | refine Ex4 ?_ | refine Ex5 ?_)))).mono ?_; rintro e' wc ⟨rfl, hxc⟩))
 go_wp2
 go_ret
 exact ⟨rfl, hxw6.tr (by (repeat first | exact Ex0 | assumption | refine Ex1 ?_ | refine Ex2 ?_ | refine Ex3 ?_ | refine Ex4 ?_ | refine Ex5 ?_))⟩
end Go.Proofs.YtmnohicojefhfaaGreatDoor
end

section
namespace Go.Proofs.YtmnohicojefhfaaGreatDoor
open Go.RowKit

theorem ConfigChecks_u (c : Cf14) (U : List (Up14 × Hd)) (UA : Option Addr) (uc : Nat) (S : List (Sr14 × Hd × Hd)) (SA : Option Addr) (sc n : Nat) (w : World) (hR : CfR w c U UA S SA) (hM : CfM c n) (hn : n ≤ 1048576) (hE : ErrR w) :
  Calls Tryz.prog 4 #[cfV c UA uc SA sc] w (Gives (.bool true) w) :=
 ConfigChecks_w c U UA uc S SA sc w hR (ows_of (hM.up hn)) (cfs_of (hM.up hn)) hE
end Go.Proofs.YtmnohicojefhfaaGreatDoor
end
