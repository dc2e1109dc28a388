/-
Same: a configuration is the same as itself, wherever it stands.
-/
import Derived.Test.YtmnohicojefhfaaGreatDoorCIa
import Derived.Test.YtmnohicojefhfaaGreatDoorASb
import Derived.Laws.StructEq
import Derived.BigQuiet
import Derived.Deep.QuietTactic
import Derived.Test.YtmnohicojefhfaaGreatDoorCFj
import Derived.Test.YtmnohicojefhfaaGreatDoorCFa
set_option maxRecDepth 100000
set_option maxHeartbeats 8000000
set_option linter.unusedVariables false
set_option linter.unusedSimpArgs false
section
namespace Go.Proofs.YtmnohicojefhfaaGreatDoor
open Go.RowKit
theorem map_at {α β:Type} {f:α → β} {l:List α} {m:List β} (h:l.map f=m) {i:Nat} (hi:i < m.length):∃ hl:i < l.length,f l[i]=m[i]:=by
 subst h
 rw [List.length_map] at hi
 exact ⟨hi,by simp⟩
theorem cSame_c (c:Cf14) (U1 U2:List (Up14 × Hd)) (UA1 UA2:Option Addr) (uc1 uc2:Nat) (S1 S2:List (Sr14 × Hd × Hd)) (SA1 SA2:Option Addr) (sc1 sc2:Nat) (w:World) (h1:CfR w c U1 UA1 S1 SA1) (h2:CfR w c U2 UA2 S2 SA2)
  (hul:c.ups.length ≤ 4611686018427387904) (hsl:c.srvs.length ≤ 4611686018427387904) (hpl:∀ u ∈ c.ups,u.peers.length ≤ 4611686018427387904) (hnl:∀ s ∈ c.srvs,s.names.length ≤ 4611686018427387904) (hll:∀ s ∈ c.srvs,s.locs.length ≤ 4611686018427387904) :
  Calls Tryz.prog 11 #[cfV c UA1 uc1 SA1 sc1,cfV c UA2 uc2 SA2 sc2] w (Gives (.bool true) w):=by
 have H1:=Lib.hid h1
 have H2:=Lib.hid h2
 have HPL:=Lib.hid hpl
 have HNL:=Lib.hid hnl
 have HLL:=Lib.hid hll
 clear h1 h2 hpl hnl hll
 unfold cfV
 obtain ⟨W0,hW0⟩:∃ W,W=(w.alloc (.cells #[.int .i64 c.keep,.int .i64 c.body,.int .i64 c.store,.int .i64 c.conns,.slice UA1 c.ups.length uc1,.slice SA1 c.srvs.length sc1] 25)).alloc (.cells #[.int .i64 c.keep,.int .i64 c.body,.int .i64 c.store,.int .i64 c.conns,.slice UA2 c.ups.length uc2,.slice SA2 c.srvs.length sc2] 25):=⟨_,rfl⟩
 have hx0:Ext w W0:=by rw [hW0]; exact ((Ext.rfl' w).al _).al _
 have hcl:Hid (∀ wx,Ext W0 wx → (∀ j u,(#[.int .i64 c.keep,.int .i64 c.body,.int .i64 c.store,.int .i64 c.conns,.slice UA1 c.ups.length uc1,.slice SA1 c.srvs.length sc1]:Array Value)[j]?=some u → wx.cell? ⟨w.heap.size,j,none⟩=some u) ∧
   (∀ j u,(#[.int .i64 c.keep,.int .i64 c.body,.int .i64 c.store,.int .i64 c.conns,.slice UA2 c.ups.length uc2,.slice SA2 c.srvs.length sc2]:Array Value)[j]?=some u → wx.cell? ⟨w.heap.size + 1,j,none⟩=some u)):=Lib.hid (fun wx hx=>by
  have hz:(w.alloc (.cells #[.int .i64 c.keep,.int .i64 c.body,.int .i64 c.store,.int .i64 c.conns,.slice UA1 c.ups.length uc1,.slice SA1 c.srvs.length sc1] 25)).heap.size=w.heap.size + 1:=by simp
  have ha:Ext (w.alloc (.cells #[.int .i64 c.keep,.int .i64 c.body,.int .i64 c.store,.int .i64 c.conns,.slice UA1 c.ups.length uc1,.slice SA1 c.srvs.length sc1] 25)) wx:=Ext.tr (by rw [hW0]; exact (Ext.rfl' _).al _) hx
  refine ⟨fun j u h=>ha.new j u h,fun j u h=>?_⟩
  rw [← hz]
  rw [hW0] at hx
  exact hx.new j u h)
 go_enter Tryz.func11,Tryz.ntmps11
 go_upto_region 1 with (fail)
 rw [← hW0]
 clear hW0
 obtain ⟨e1,e2⟩:=hcl.out W0 (Ext.rfl' _)
 have a0:=e1 0 _ rfl
 have a1:=e1 1 _ rfl
 have a2:=e1 2 _ rfl
 have a3:=e1 3 _ rfl
 have a4:=e1 4 _ rfl
 have a5:=e1 5 _ rfl
 have b0:=e2 0 _ rfl
 have b1:=e2 1 _ rfl
 have b2:=e2 2 _ rfl
 have b3:=e2 3 _ rfl
 have b4:=e2 4 _ rfl
 have b5:=e2 5 _ rfl
 clear e1 e2
 go_wp2
 clear a0 a1 a2 a3 a4 a5 b0 b1 b2 b3 b4 b5
 go_loopw [5] (fun v5 wr=>∃ i:Nat,v5=.int .i64 (i:Int)∧i ≤ c.ups.length∧Ext W0 wr) (fun v5 _=>c.ups.length - (intOf v5).toNat)
 case atStart=>exact ⟨0,rfl,Nat.zero_le _,Ext.rfl' _⟩
 case round =>
  obtain ⟨i,rfl,hi,hx⟩:=hrel
  obtain ⟨e1,e2⟩:=hcl.out wr hx
  have a4:=e1 4 _ rfl
  by_cases hlt:i < c.ups.length
  ·obtain ⟨hl1,hu1⟩:=map_at H1.out.hU hlt
   obtain ⟨hl2,hu2⟩:=map_at H2.out.hU hlt
   obtain ⟨bA,gA,rfl,hbA,hcA⟩:=(H1.out.ups.ext (hx0.tr hx)).row (sz:=4) upV_len (by omega) hl1
   obtain ⟨bB,gB,rfl,hbB,hcB⟩:=(H2.out.ups.ext (hx0.tr hx)).row (sz:=4) upV_len (by omega) hl2
   have hp1:=(H1.out.peers U1[i] (List.getElem_mem hl1)).ext (hx0.tr hx)
   have hp2:=(H2.out.peers U2[i] (List.getElem_mem hl2)).ext (hx0.tr hx)
   have hpn:=HPL.out c.ups[i] (List.getElem_mem hlt)
   obtain ⟨x,hxk⟩:∃ x,x=U1[i]:=⟨_,rfl⟩
   obtain ⟨y,hyk⟩:∃ x,x=U2[i]:=⟨_,rfl⟩
   obtain ⟨u,huk⟩:∃ x,x=c.ups[i]:=⟨_,rfl⟩
   rw [← hxk,← huk] at hu1
   rw [← hyk,← huk] at hu2
   rw [← hxk] at hcA hp1
   rw [← hyk] at hcB hp2
   rw [← huk] at hpn
   clear hxk hyk huk
   obtain ⟨x1,xA,xc⟩:=x
   obtain ⟨y1,yA,yc⟩:=y
   dsimp only at hu1 hu2 hcA hcB hp1 hp2
   subst hu1
   subst hu2
   obtain ⟨nm,peers,tm,re⟩:=y1
   dsimp only at hcA hcB hp1 hp2 hpn
   have k0:wr.cell? ⟨bA,gA + i * 4,none⟩=some (.string (str nm)):=hcA 0 _ rfl
   have k1:wr.cell? ⟨bA,gA + i * 4 + 1,none⟩=some (.slice xA peers.length xc):=hcA 1 _ rfl
   have k2:wr.cell? ⟨bA,gA + i * 4 + 2,none⟩=some (.int .i64 tm):=hcA 2 _ rfl
   have k3:wr.cell? ⟨bA,gA + i * 4 + 3,none⟩=some (.int .i64 re):=hcA 3 _ rfl
   have m0:wr.cell? ⟨bB,gB + i * 4,none⟩=some (.string (str nm)):=hcB 0 _ rfl
   have m1:wr.cell? ⟨bB,gB + i * 4 + 1,none⟩=some (.slice yA peers.length yc):=hcB 1 _ rfl
   have m2:wr.cell? ⟨bB,gB + i * 4 + 2,none⟩=some (.int .i64 tm):=hcB 2 _ rfl
   have m3:wr.cell? ⟨bB,gB + i * 4 + 3,none⟩=some (.int .i64 re):=hcB 3 _ rfl
   have HP1:=Lib.hid hp1
   have HP2:=Lib.hid hp2
   have j0:(0:Int) ≤ (i:Int):=by omega
   have j1:(i:Int) < (c.ups.length:Int):=by omega
   have hkk:IntKind.i64.wrap ((i:Int) + 1)=((i + 1:Nat):Int):=by rw [IntKind.wrap_i64]; omega
   obtain ⟨sn,hsn⟩:∃ s,s=str nm:=⟨_,rfl⟩
   rw [← hsn] at k0 m0
   obtain ⟨W2,hW2⟩:∃ W,W=(wr.alloc (.cells #[.string sn,.slice xA peers.length xc,.int .i64 tm,.int .i64 re] 73)).alloc (.cells #[.string sn,.slice yA peers.length yc,.int .i64 tm,.int .i64 re] 73):=⟨_,rfl⟩
   have hx2:Ext wr W2:=by rw [hW2]; exact ((Ext.rfl' wr).al _).al _
   have hz:(wr.alloc (.cells #[.string sn,.slice xA peers.length xc,.int .i64 tm,.int .i64 re] 73)).heap.size=wr.heap.size + 1:=by simp
   have ha:Ext (wr.alloc (.cells #[.string sn,.slice xA peers.length xc,.int .i64 tm,.int .i64 re] 73)) W2:=by rw [hW2]; exact (Ext.rfl' _).al _
   have hbx:Hid (∀ wx,Ext W2 wx → (∀ j u,(#[.string sn,.slice xA peers.length xc,.int .i64 tm,.int .i64 re]:Array Value)[j]?=some u → wx.cell? ⟨wr.heap.size,j,none⟩=some u)∧(∀ j u,(#[.string sn,.slice yA peers.length yc,.int .i64 tm,.int .i64 re]:Array Value)[j]?=some u → wx.cell? ⟨wr.heap.size + 1,j,none⟩=some u)):=Lib.hid (fun wx hw =>
    ⟨fun j u h=>(ha.tr hw).new j u h,fun j u h=>by rw [← hz]; rw [hW2] at hw; exact hw.new j u h⟩)
   have b4:∀ o,(wr.alloc o).cell? ⟨w.heap.size + 1,4,none⟩=some (.slice (some ⟨bB,gB,none⟩) c.ups.length uc2):=fun o=>(hcl.out _ (hx.tr ((Ext.rfl' wr).al o))).2 4 _ rfl
   have m0:=fun o=>(((Ext.rfl' wr).al o).cell (lt_of_cell m0)).trans m0
   have m1:=fun o=>(((Ext.rfl' wr).al o).cell (lt_of_cell m1)).trans m1
   have m2:=fun o=>(((Ext.rfl' wr).al o).cell (lt_of_cell m2)).trans m2
   have m3:=fun o=>(((Ext.rfl' wr).al o).cell (lt_of_cell m3)).trans m3
   clear e1 e2 hcA hcB hp1 hp2 hsn ha hz
   go_upto_region 8 with (fail)
   rw [← hW2]
   clear hW2 k0 k1 k2 k3 m0 m1 m2 m3 a4 b4
   obtain ⟨f1,f2⟩:=hbx.out W2 (Ext.rfl' _)
   have p0:=f1 0 _ rfl
   have p1:=f1 1 _ rfl
   have p2:=f1 2 _ rfl
   have p3:=f1 3 _ rfl
   have q0:=f2 0 _ rfl
   have q1:=f2 1 _ rfl
   have q2:=f2 2 _ rfl
   have q3:=f2 3 _ rfl
   clear f1 f2
   go_wp2
   clear p0 p1 p2 p3 q0 q1 q2 q3
   have HX2:=Lib.hid (hx.tr hx2)
   obtain ⟨wo,hwo⟩:∃ g,g=wr.heap.size:=⟨_,rfl⟩
   rw [← hwo] at hbx ⊢
   clear hwo
   go_loopw [8] (fun v8 wi=>∃ j:Nat,v8=.int .i64 (j:Int)∧j ≤ peers.length∧Ext W2 wi) (fun v8 _=>peers.length - (intOf v8).toNat)
   case atStart=>exact ⟨0,rfl,Nat.zero_le _,Ext.rfl' _⟩
   case round =>
    obtain ⟨j,rfl,hj,hxi⟩:=hrel
    obtain ⟨f1,f2⟩:=hbx.out _ hxi
    have p1:=f1 1 _ rfl
    have q1:=f2 1 _ rfl
    clear f1 f2
    by_cases hjl:j < peers.length
    ·obtain ⟨bP,gP,rfl,_,hcP⟩:=(HP1.out.ext (hx2.tr hxi)).row (sz:=2) peV_len (by omega) hjl
     obtain ⟨bR,gR,rfl,_,hcR⟩:=(HP2.out.ext (hx2.tr hxi)).row (sz:=2) peV_len (by omega) hjl
     obtain ⟨pe,hpe⟩:∃ p,p=peers[j]:=⟨_,rfl⟩
     rw [← hpe] at hcP hcR
     obtain ⟨pid,pmo⟩:=pe
     have k0:wr.cell? ⟨bP,gP + j * 2,none⟩=some (.int .i64 pid):=hcP 0 _ rfl
     have k1:wr.cell? ⟨bP,gP + j * 2 + 1,none⟩=some (.int .i64 pmo):=hcP 1 _ rfl
     have m0:wr.cell? ⟨bR,gR + j * 2,none⟩=some (.int .i64 pid):=hcR 0 _ rfl
     have m1:wr.cell? ⟨bR,gR + j * 2 + 1,none⟩=some (.int .i64 pmo):=hcR 1 _ rfl
     have l0:(0:Int) ≤ (j:Int):=by omega
     have l1:(j:Int) < (peers.length:Int):=by omega
     have hjj:IntKind.i64.wrap ((j:Int) + 1)=((j + 1:Nat):Int):=by rw [IntKind.wrap_i64]; omega
     clear hcP hcR hpe
     go_wp2
     go_quiet (fail)
     go_wp2
     go_roundw
     case rel=>exact ⟨j + 1,rfl,by omega,by (repeat first | exact Ex0 | assumption | refine Ex1 ?_ | refine Ex2 ?_ | refine Ex3 ?_ | refine Ex4 ?_ | refine Ex5 ?_)⟩
     case measure=>simp [intOf]; omega
    ·go_wp2
     go_roundw
     case rel=>exact ⟨i + 1,rfl,by omega,HX2.out.tr hxi⟩
     case measure=>simp [intOf]; omega
  ·clear e1 e2
   go_wp2
   clear a4
   have HXL:=Lib.hid hx
   clear hlt hi
   obtain ⟨wr1,rfl⟩:∃ W,W=wr:=⟨_,rfl⟩
   go_loopw [9] (fun v9 wr=>∃ i:Nat,v9=.int .i64 (i:Int)∧i ≤ c.srvs.length∧Ext W0 wr) (fun v9 _=>c.srvs.length - (intOf v9).toNat)
   case atStart=>exact ⟨0,rfl,Nat.zero_le _,HXL.out⟩
   case round =>
    obtain ⟨n,rfl,hn,hy⟩:=hrel
    obtain ⟨e1,e2⟩:=hcl.out wr hy
    have a5:=e1 5 _ rfl
    by_cases hlt:n < c.srvs.length
    ·obtain ⟨hl1,hu1⟩:=map_at H1.out.hS hlt
     obtain ⟨hl2,hu2⟩:=map_at H2.out.hS hlt
     obtain ⟨bA,gA,rfl,hbA,hcA⟩:=(H1.out.srvs.ext (hx0.tr hy)).row (sz:=3) srV_len (by omega) hl1
     obtain ⟨bB,gB,rfl,hbB,hcB⟩:=(H2.out.srvs.ext (hx0.tr hy)).row (sz:=3) srV_len (by omega) hl2
     have hp1:=(H1.out.locs S1[n] (List.getElem_mem hl1)).ext (hx0.tr hy)
     have hp2:=(H2.out.locs S2[n] (List.getElem_mem hl2)).ext (hx0.tr hy)
     have hq1:=(H1.out.names S1[n] (List.getElem_mem hl1)).ext (hx0.tr hy)
     have hq2:=(H2.out.names S2[n] (List.getElem_mem hl2)).ext (hx0.tr hy)
     have hpn:=HLL.out c.srvs[n] (List.getElem_mem hlt)
     have hqn:=HNL.out c.srvs[n] (List.getElem_mem hlt)
     obtain ⟨x,hxk⟩:∃ x,x=S1[n]:=⟨_,rfl⟩
     obtain ⟨y,hyk⟩:∃ x,x=S2[n]:=⟨_,rfl⟩
     obtain ⟨u,huk⟩:∃ x,x=c.srvs[n]:=⟨_,rfl⟩
     rw [← hxk,← huk] at hu1
     rw [← hyk,← huk] at hu2
     rw [← hxk] at hcA hp1 hq1
     rw [← hyk] at hcB hp2 hq2
     rw [← huk] at hpn hqn
     clear hxk hyk huk
     obtain ⟨x1,⟨xN,xn⟩,xA,xc⟩:=x
     obtain ⟨y1,⟨yN,yn⟩,yA,yc⟩:=y
     dsimp only at hu1 hu2 hcA hcB hp1 hp2 hq1 hq2
     subst hu1
     subst hu2
     obtain ⟨names,df,locs⟩:=y1
     dsimp only at hcA hcB hp1 hp2 hpn hq1 hq2 hqn
     have k0:wr.cell? ⟨bA,gA + n * 3,none⟩=some (.slice xN names.length xn):=hcA 0 _ rfl
     have k1:wr.cell? ⟨bA,gA + n * 3 + 1,none⟩=some (.bool df):=hcA 1 _ rfl
     have k2:wr.cell? ⟨bA,gA + n * 3 + 2,none⟩=some (.slice xA locs.length xc):=hcA 2 _ rfl
     have m0:wr.cell? ⟨bB,gB + n * 3,none⟩=some (.slice yN names.length yn):=hcB 0 _ rfl
     have m1:wr.cell? ⟨bB,gB + n * 3 + 1,none⟩=some (.bool df):=hcB 1 _ rfl
     have m2:wr.cell? ⟨bB,gB + n * 3 + 2,none⟩=some (.slice yA locs.length yc):=hcB 2 _ rfl
     have HP1:=Lib.hid hp1
     have HP2:=Lib.hid hp2
     have HQ1:=Lib.hid hq1
     have HQ2:=Lib.hid hq2
     have j0:(0:Int) ≤ (n:Int):=by omega
     have j1:(n:Int) < (c.srvs.length:Int):=by omega
     have hkk:IntKind.i64.wrap ((n:Int) + 1)=((n + 1:Nat):Int):=by rw [IntKind.wrap_i64]; omega
     obtain ⟨W2,hW2⟩:∃ W,W=(wr.alloc (.cells #[.slice xN names.length xn,.bool df,.slice xA locs.length xc] 78)).alloc (.cells #[.slice yN names.length yn,.bool df,.slice yA locs.length yc] 78):=⟨_,rfl⟩
     have hx2:Ext wr W2:=by rw [hW2]; exact ((Ext.rfl' wr).al _).al _
     have hz:(wr.alloc (.cells #[.slice xN names.length xn,.bool df,.slice xA locs.length xc] 78)).heap.size=wr.heap.size + 1:=by simp
     have ha:Ext (wr.alloc (.cells #[.slice xN names.length xn,.bool df,.slice xA locs.length xc] 78)) W2:=by rw [hW2]; exact (Ext.rfl' _).al _
     have hbx:Hid (∀ wx,Ext W2 wx → (∀ j u,(#[.slice xN names.length xn,.bool df,.slice xA locs.length xc]:Array Value)[j]?=some u → wx.cell? ⟨wr.heap.size,j,none⟩=some u)∧(∀ j u,(#[.slice yN names.length yn,.bool df,.slice yA locs.length yc]:Array Value)[j]?=some u → wx.cell? ⟨wr.heap.size + 1,j,none⟩=some u)):=Lib.hid (fun wx hw =>
      ⟨fun j u h=>(ha.tr hw).new j u h,fun j u h=>by rw [← hz]; rw [hW2] at hw; exact hw.new j u h⟩)
     have b5:∀ o,(wr.alloc o).cell? ⟨w.heap.size + 1,5,none⟩=some (.slice (some ⟨bB,gB,none⟩) c.srvs.length sc2):=fun o=>(hcl.out _ (hy.tr ((Ext.rfl' wr).al o))).2 5 _ rfl
     have m0:=fun o=>(((Ext.rfl' wr).al o).cell (lt_of_cell m0)).trans m0
     have m1:=fun o=>(((Ext.rfl' wr).al o).cell (lt_of_cell m1)).trans m1
     have m2:=fun o=>(((Ext.rfl' wr).al o).cell (lt_of_cell m2)).trans m2
     clear e1 e2 hcA hcB hp1 hp2 hq1 hq2 ha hz
     go_upto_region 20 with (fail)
     rw [← hW2]
     clear hW2 k0 k1 k2 m0 m1 m2 a5 b5
     obtain ⟨f1,f2⟩:=hbx.out W2 (Ext.rfl' _)
     have p0:=f1 0 _ rfl
     have p1:=f1 1 _ rfl
     have p2:=f1 2 _ rfl
     have q0:=f2 0 _ rfl
     have q1:=f2 1 _ rfl
     have q2:=f2 2 _ rfl
     clear f1 f2
     have CS:=Lib.hid (SameStrings_c W2 xN yN names.length names.length xn yn names rfl rfl (by simp only [maxLen]; omega) (HQ1.out.ext hx2) (HQ2.out.ext hx2))
     go_wp2_with (go_at_call 27; refine CS.out.mono ?_; rintro e w5 ⟨rfl,hx5⟩; obtain ⟨f1,f2⟩:=hbx.out w5 hx5; have r2:=f1 2 _ rfl; have s2:=f2 2 _ rfl; clear f1 f2)
     clear p0 p1 p2 q0 q1 q2 r2 s2
     have HX2:=Lib.hid (hy.tr hx2)
     obtain ⟨wo,hwo⟩:∃ g,g=wr.heap.size:=⟨_,rfl⟩
     rw [← hwo] at hbx ⊢
     clear hwo
     go_loopw [12] (fun v12 wi=>∃ j:Nat,v12=.int .i64 (j:Int)∧j ≤ locs.length∧Ext W2 wi) (fun v12 _=>locs.length - (intOf v12).toNat)
     case atStart=>exact ⟨0,rfl,Nat.zero_le _,hx5⟩
     case round =>
      obtain ⟨j,rfl,hj,hxi⟩:=hrel
      obtain ⟨f1,f2⟩:=hbx.out _ hxi
      have p2:=f1 2 _ rfl
      have q2:=f2 2 _ rfl
      clear f1 f2
      by_cases hjl:j < locs.length
      ·obtain ⟨bP,gP,rfl,_,hcP⟩:=(HP1.out.ext (hx2.tr hxi)).row (sz:=12) loV_len (by omega) hjl
       obtain ⟨bR,gR,rfl,_,hcR⟩:=(HP2.out.ext (hx2.tr hxi)).row (sz:=12) loV_len (by omega) hjl
       obtain ⟨lo,hlo⟩:∃ p,p=locs[j]:=⟨_,rfl⟩
       rw [← hlo] at hcP hcR
       have k0:wr.cell? ⟨bP,gP + j * 12,none⟩=some (.string (str lo.pre)):=hcP 0 _ rfl
       have k1:=hcP 1 _ rfl
       have k2:=hcP 2 _ rfl
       have k3:=hcP 3 _ rfl
       have k4:=hcP 4 _ rfl
       have k5:=hcP 5 _ rfl
       have k6:=hcP 6 _ rfl
       have k7:=hcP 7 _ rfl
       have k8:=hcP 8 _ rfl
       have k9:=hcP 9 _ rfl
       have ka:=hcP 10 _ rfl
       have kb:=hcP 11 _ rfl
       have m0:wr.cell? ⟨bR,gR + j * 12,none⟩=some (.string (str lo.pre)):=hcR 0 _ rfl
       have m1:=hcR 1 _ rfl
       have m2:=hcR 2 _ rfl
       have m3:=hcR 3 _ rfl
       have m4:=hcR 4 _ rfl
       have m5:=hcR 5 _ rfl
       have m6:=hcR 6 _ rfl
       have m7:=hcR 7 _ rfl
       have m8:=hcR 8 _ rfl
       have m9:=hcR 9 _ rfl
       have ma:=hcR 10 _ rfl
       have mb:=hcR 11 _ rfl
       obtain ⟨v0,hv0⟩:∃ s,s=str lo.pre:=⟨_,rfl⟩
       obtain ⟨v2,hv2⟩:∃ s,s=str lo.root:=⟨_,rfl⟩
       obtain ⟨v3,hv3⟩:∃ s,s=str lo.index:=⟨_,rfl⟩
       obtain ⟨v6,hv6⟩:∃ s,s=str lo.up:=⟨_,rfl⟩
       obtain ⟨vb,hvb⟩:∃ s,s=str lo.goal:=⟨_,rfl⟩
       rw [← hv0] at k0 m0
       rw [← hv2] at k2 m2
       rw [← hv3] at k3 m3
       rw [← hv6] at k6 m6
       rw [← hvb] at kb mb
       have l0:(0:Int) ≤ (j:Int):=by omega
       have l1:(j:Int) < (locs.length:Int):=by omega
       have hjj:IntKind.i64.wrap ((j:Int) + 1)=((j + 1:Nat):Int):=by rw [IntKind.wrap_i64]; omega
       clear hcP hcR hlo hv0 hv2 hv3 hv6 hvb
       go_wp2
       go_quiet (fail)
       go_wp2
       go_roundw
       case rel=>exact ⟨j + 1,rfl,by omega,by (repeat first | exact Ex0 | assumption | refine Ex1 ?_ | refine Ex2 ?_ | refine Ex3 ?_ | refine Ex4 ?_ | refine Ex5 ?_)⟩
       case measure=>simp [intOf]; omega
      ·go_wp2
       go_roundw
       case rel=>exact ⟨n + 1,rfl,by omega,HX2.out.tr hxi⟩
       case measure=>simp [intOf]; omega
    ·clear e1 e2
     go_wp2
     go_ret
     exact ⟨rfl,hx0.tr hy⟩
end Go.Proofs.YtmnohicojefhfaaGreatDoor
end
section
namespace Go.Proofs.YtmnohicojefhfaaGreatDoor
open Go.RowKit
theorem num14_c (x:Int) (w:World):Calls Tryz.prog 13 #[.int .i64 x] w fun e w'=>e=.returned (.int .i64 x)∧w=w':=by
 go_enter Tryz.func13,Tryz.ntmps13
 go_wp2
 go_ret
 exact ⟨rfl,rfl⟩
theorem cParse_A (w:World) (hE:ErrR w):Calls Tryz.prog 9 #[.string (str knA14)] w
  fun e w'=>Ext w w'∧∃ UA uc sc g f,w'.cell? ⟨g,f + 1,none⟩=some (.bool true)∧e=.returned (.tuple #[.agg #[.int .i64 75,.int .i64 65536,.int .i64 0,.int .i64 1000,.slice UA 0 uc,.slice (some ⟨g,f,none⟩) 1 sc],.int .i64 0,.int .i64 0]):=by
 refine (cParse_c knA14 (by decide) w hE).mono ?_
 rintro e w' ⟨v,rfl,⟨cv,rfl,⟨U,UA,uc,S,SA,sc,rfl,hR⟩,_,_⟩,hx⟩
 have h1:=kn_A14.1
 have h2:=kn_A14.2
 have hS:=hR.hS
 have hr:=hR.srvs
 rw [h1] at hS
 obtain ⟨x,rfl⟩:∃ x,S=[x]:=by
  cases S with
  | nil=>cases hS
  | cons x r=>cases r with
   | nil=>exact ⟨x,rfl⟩
   | cons y r=>simp at hS
 have hx1:x.1.dflt=true:=by
  simp only [List.map_cons,List.map_nil,List.cons.injEq,and_true] at hS
  rw [hS]
 refine ⟨hx,?_⟩
 rcases hr with hr | ⟨g,f,rfl,hc⟩
 ·simp [srV] at hr
 ·refine ⟨UA,uc,sc,g,f,?_,?_⟩
  ·have:=hc 1 (.bool x.1.dflt) (by simp [srV])
   rw [hx1] at this
   exact this
  ·rw [show (parseC knA14).2.1=0 from by rw [h2],show (parseC knA14).2.2=0 from by rw [h2],h1]
   rfl
theorem cParse_B (w:World) (hE:ErrR w):Calls Tryz.prog 9 #[.string (str knB14)] w
  fun e w'=>Ext w w'∧∃ (k1 k2 k3 k4:Int) (A B:Option Addr) (n c m d:Nat),e=.returned (.tuple #[.agg #[.int .i64 k1,.int .i64 k2,.int .i64 k3,.int .i64 k4,.slice A n c,.slice B m d],.int .i64 2,.int .i64 60]):=by
 refine (cParse_c knB14 (by decide) w hE).mono ?_
 rintro e w' ⟨v,rfl,⟨cv,rfl,⟨U,UA,uc,S,SA,sc,rfl,hR⟩,_,_⟩,hx⟩
 have h2:=kn_B14
 refine ⟨hx,(parseC knB14).1.keep,(parseC knB14).1.body,(parseC knB14).1.store,(parseC knB14).1.conns,UA,SA,(parseC knB14).1.ups.length,uc,(parseC knB14).1.srvs.length,sc,?_⟩
 rw [show (parseC knB14).2.1=2 from by rw [h2],show (parseC knB14).2.2=60 from by rw [h2]]
 rfl
theorem knows14_c (w:World) (hE:ErrR w):Calls Tryz.prog 14 #[] w (Gives (.bool true) w):=by
 have CA:=Lib.hid (cParse_A w hE)
 have CB:=Lib.hid (fun w' (hx:Ext w w')=>cParse_B w' (hE.ext hx))
 rw [show str knA14=⟨#[115,101,114,118,101,114,32,123,32,100,101,102,97,117,108,116,59,32,108,111,99,97,116,105,111,110,32,47,32,123,32,114,111,111,116,32,47,102,105,108,101,115,59,32,125,32,125]⟩ from rfl] at CA
 rw [show str knB14=⟨#[10,102,111,111,59]⟩ from rfl] at CB
 clear hE
 go_enter Tryz.func14,Tryz.ntmps14
 go_upto_region 2 with (go_at_call 9; refine CA.out.mono ?_; rintro e w1 ⟨hx1,UA,uc,sc,g,f,hc,rfl⟩)
 have b0:=new_at w1 #[.int .i64 75,.int .i64 65536,.int .i64 0,.int .i64 1000,.slice UA 0 uc,.slice (some ⟨g,f,none⟩) 1 sc] 25 0 _ rfl
 have b5:=new_at w1 #[.int .i64 75,.int .i64 65536,.int .i64 0,.int .i64 1000,.slice UA 0 uc,.slice (some ⟨g,f,none⟩) 1 sc] 25 5 _ rfl
 obtain ⟨W2,hW2⟩:∃ W,W=w1.alloc (.cells #[.int .i64 75,.int .i64 65536,.int .i64 0,.int .i64 1000,.slice UA 0 uc,.slice (some ⟨g,f,none⟩) 1 sc] 25):=⟨_,rfl⟩
 have hx2:Ext w1 W2:=by rw [hW2]; exact (Ext.rfl' _).al _
 have hc2:=(hx2.cell (lt_of_cell hc)).trans hc
 rw [← hW2] at b0 b5 ⊢
 clear hW2 hc
 go_upto_region 3 with (go_at_call 9; refine (CB.out _ (hx1.tr hx2)).mono ?_; rintro e w3 ⟨hx3,k1,k2,k3,k4,A,B,n,c,m,d,rfl⟩)
 obtain ⟨W4,hW4⟩:∃ W,W=w3.alloc (.cells #[.int .i64 k1,.int .i64 k2,.int .i64 k3,.int .i64 k4,.slice A n c,.slice B m d] 25):=⟨_,rfl⟩
 have hx4:Ext W2 W4:=by rw [hW4]; exact hx3.al _
 have c0:=(hx4.cell (lt_of_cell b0)).trans b0
 have c5:=(hx4.cell (lt_of_cell b5)).trans b5
 have cc:=(hx4.cell (lt_of_cell hc2)).trans hc2
 rw [← hW4]
 clear hW4 b0 b5 hc2
 go_wp2_with (go_at_call 13; refine (num14_c _ _).mono ?_; rintro e w5 ⟨rfl,rfl⟩)
 go_ret
 exact ⟨rfl,by (repeat first | exact Ex0 | assumption | refine Ex1 ?_ | refine Ex2 ?_ | refine Ex3 ?_ | refine Ex4 ?_ | refine Ex5 ?_)⟩
end Go.Proofs.YtmnohicojefhfaaGreatDoor
end
