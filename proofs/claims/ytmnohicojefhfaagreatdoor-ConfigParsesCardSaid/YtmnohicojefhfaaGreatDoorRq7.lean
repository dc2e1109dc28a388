/-
The reference's directives peer, name, default, location.
-/
import Derived.Test.YtmnohicojefhfaaGreatDoorRQb
import Derived.BigRegion
set_option maxRecDepth 100000
set_option maxHeartbeats 8000000
set_option linter.unusedVariables false
set_option linter.unusedSimpArgs false
namespace Go.Proofs.YtmnohicojefhfaaGreatDoor
open Go.RowKit
theorem Stp.setNew {K:Nat → Prop} {w W:World} {o o3:Ow} {gb:Nat} (h:Stp K w o W o3) (hg:w.heap.size ≤ gb) (j:Nat) (u:Value):Stp K w o (W.setCell ⟨gb,j,none⟩ u) o3 :=
 ⟨h.os,h.tape,h.output,by simp only [World.size_setCell]; exact h.size,h.own,fun b hb hk=>(Below.heap_setCell W ⟨gb,j,none⟩ u b (by show b ≠ gb; omega)).trans (h.keep b hb hk)⟩
theorem ro_dflt (w:World) (o:Ow) (p:Nat) (c:Cf14) (x6 x7:Value) (b:Bool) (h:RfB w o p c x6 x7 b) (hne:c.srvs ≠ []) (hM:CfB 1048576 c) (B:Value) :
  Calls Tryz.prog 65 #[.pointer (some ⟨p,0,none⟩),.string ⟨#[100,101,102,97,117,108,116]⟩,B] w (RoQ w o p (doT .dflt [] c).1 x6 x7 b):=by
 obtain ⟨K,x,hh,HE,hm,_,_,h5⟩:=SrA.open_ h hne hM
 rw [show (doT .dflt [] c).1=K.cfg ({ x.1 with dflt:=true },x.2) from HE _ x.2]
 have H0:=Lib.hid hh
 clear h hh HE hne hM
 have e1:IntKind.i64.wrap (K.a.length:Int)=(K.a.length:Int):=by rw [IntKind.wrap_i64]; omega
 have e2:(K.a.length:Int) < (K.a.length:Int) + 1:=by omega
 go_enter Tryz.func65,Tryz.ntmps65
 go_upto_region 1 with (fail)
 go_quiet (fail)
 go_upto_region 2 with (fail)
 clear h5 e1 e2 hm
 refine (fun (h:∀ W9,Ext w W9 → Code.wp _ _ _ _ W9)=>h _ (by (repeat first | exact Ex0 | assumption | refine Ex1 ?_ | refine Ex2 ?_ | refine Ex3 ?_ | refine Ex4 ?_ | refine Ex5 ?_))) ?_
 intro W1 hx1
 rw [← H0.out.hF]
 have H1:=Lib.hid (H0.out.ext hx1)
 have ST1:Hid (Stp KCr w o W1 o):=Lib.hid (Stp.ext hx1)
 clear hx1
 obtain ⟨q,r⟩:=H1.out.fact 1 _ rfl
 go_wp2
 go_end0
 exact H1.out.dflt.1.done (ST1.out.tr H1.out.dflt.2)
theorem ro_name (w:World) (o:Ow) (p:Nat) (c:Cf14) (x6 x7:Value) (b:Bool) (h:RfB w o p c x6 x7 b) (hne:c.srvs ≠ []) (hM:CfB 1048576 c) (a:List (List UInt8)) (m:Nat) (ha:m=a.length) (hml:m ≤ 65536) (A:Option Addr) (ac:Nat) (hr:RdZ w o A (strC a)) :
  Calls Tryz.prog 65 #[.pointer (some ⟨p,0,none⟩),.string ⟨#[110,97,109,101]⟩,.slice A m ac] w (RoQ w o p (doT .name a c).1 x6 x7 b):=by
 obtain ⟨K,x,hh,HE,hm,hnb,_,h5⟩:=SrA.open_ h hne hM
 have HEE:=Lib.hid HE
 have H0:=Lib.hid hh
 have HA:=Lib.hid ha
 have HR:=Lib.hid hr
 have hone:∀ u ∈ strC a,u.oneCell'=true:=by
  intro u hu
  obtain ⟨y,_,rfl⟩:=List.mem_map.1 hu
  rfl
 have HONE:=Lib.hid hone
 clear h hh HE hne hM ha hr hone
 have e1:IntKind.i64.wrap (K.a.length:Int)=(K.a.length:Int):=by rw [IntKind.wrap_i64]; omega
 have e2:(K.a.length:Int) < (K.a.length:Int) + 1:=by omega
 go_enter Tryz.func65,Tryz.ntmps65
 go_upto_region 1 with (fail)
 go_quiet (fail)
 go_upto_region 2 with (fail)
 clear h5 e1 e2 hm
 refine (fun (h:∀ W9,Ext w W9 → Code.wp _ _ _ _ W9)=>h _ (by (repeat first | exact Ex0 | assumption | refine Ex1 ?_ | refine Ex2 ?_ | refine Ex3 ?_ | refine Ex4 ?_ | refine Ex5 ?_))) ?_
 intro W1 hx1
 rw [← H0.out.hF]
 have H1:=Lib.hid (H0.out.ext hx1)
 have ST1:Hid (Stp KCr w o W1 o):=Lib.hid (Stp.ext hx1)
 clear hx1
 obtain ⟨q,r⟩:=H1.out.fact 0 _ rfl
 rw [Nat.add_zero] at q r
 go_wp2_with (first
  | (at_builtin; refine wpL_put slt_str14 (.tmp 44) (.tmp 45) rfl rfl rfl rfl (H1.out.names.1.ext (by (repeat first | exact Ex0 | assumption | refine Ex1 ?_ | refine Ex2 ?_ | refine Ex3 ?_ | refine Ex4 ?_ | refine Ex5 ?_))) H1.out.names.2 (Sl.src Tryz.underlying55 ((HR.out.stp ST1.out kc0).1.ext (by (repeat first | exact Ex0 | assumption | refine Ex1 ?_ | refine Ex2 ?_ | refine Ex3 ?_ | refine Ex4 ?_ | refine Ex5 ?_))) (by rw [HA.out]; simp [strC]) (by omega) HONE.out ac) (by omega) (by simp only [maxLen]; omega) ?_; intro A5 c5 w5 o5 hs5 st5 hn5; have st5':Stp (fun i=>i=11 + 3 * K.a.length) W1 o w5 o5:=(Stp.ext (by (repeat first | exact Ex0 | assumption | refine Ex1 ?_ | refine Ex2 ?_ | refine Ex3 ?_ | refine Ex4 ?_ | refine Ex5 ?_))).tr st5; have q5:=st5'.cell (a:=⟨K.g,K.F,none⟩) (by show ¬ (o K.g=_); rw [H1.out.og.1]; omega) q; have f5:=(st5'.frozen (a:=⟨K.g,K.F,none⟩) H1.out.og.2 (by show ¬ (o K.g=_); rw [H1.out.og.1]; omega)).trans r; have HS5:=Lib.hid hs5; have ST5:=Lib.hid st5'; have HN5:=Lib.hid hn5; clear hs5 st5 st5' hn5 q r))
 go_end0
 have hT:=H1.out.putN a (by rw [← HA.out]; exact HS5.out) ST5.out HN5.out
 rw [← HA.out] at hT
 rw [show (doT .name a c).1=K.cfg ({ x.1 with names:=x.1.names ++ a },((A5,c5),x.2.2)) from HEE.out _ _]
 exact hT.1.done (ST1.out.tr hT.2)
theorem ro_location (w:World) (o:Ow) (p:Nat) (c:Cf14) (x6 x7:Value) (b:Bool) (h:RfB w o p c x6 x7 b) (hne:c.srvs ≠ []) (hM:CfB 1048576 c) (s:List UInt8) (A:Option Addr) (ac:Nat) (hr:RdZ w o A (strC [s])) :
  Calls Tryz.prog 65 #[.pointer (some ⟨p,0,none⟩),.string ⟨#[108,111,99,97,116,105,111,110]⟩,.slice A 1 ac] w (RoQ w o p (doT .location [s] c).1 x6 x7 b):=by
 obtain ⟨K,x,hh,HE,hm,_,hlb,h5⟩:=SrA.open_ h hne hM
 have HEE:=Lib.hid HE
 have H0:=Lib.hid hh
 obtain ⟨bA,gA,rfl,hak⟩:=arg0 hr
 have FA:=Lib.hid hak
 clear h hh HE hne hM hr hak
 have e1:IntKind.i64.wrap (K.a.length:Int)=(K.a.length:Int):=by rw [IntKind.wrap_i64]; omega
 have e2:(K.a.length:Int) < (K.a.length:Int) + 1:=by omega
 go_enter Tryz.func65,Tryz.ntmps65
 go_upto_region 1 with (fail)
 go_quiet (fail)
 go_upto_region 2 with (fail)
 clear h5 e1 e2 hm
 refine (fun (h:∀ W9,Ext w W9 → Code.wp _ _ _ _ W9)=>h _ (by (repeat first | exact Ex0 | assumption | refine Ex1 ?_ | refine Ex2 ?_ | refine Ex3 ?_ | refine Ex4 ?_ | refine Ex5 ?_))) ?_
 intro W1 hx1
 rw [← H0.out.hF]
 have H1:=Lib.hid (H0.out.ext hx1)
 have ST1:Hid (Stp KCr w o W1 o):=Lib.hid (Stp.ext hx1)
 clear hx1
 obtain ⟨q,r⟩:=H1.out.fact 2 _ rfl
 have k0:W1.cell? ⟨bA,gA,none⟩=some (.string (str s)):=FA.out KCr W1 o ST1.out kc0 0 _ rfl
 obtain ⟨sv,hsv⟩:∃ v,v=str s:=⟨_,rfl⟩
 have HSV:=Lib.hid hsv
 rw [← hsv] at k0
 have hxa:Ext W1 (W1.alloc (.cells #[.string sv,.int .i64 0,.string ⟨#[]⟩,.string ⟨#[]⟩,.int .i64 0,.int .i64 0,.string ⟨#[]⟩,.bool false,.int .i64 0,.int .i64 0,.int .i64 0,.string ⟨#[]⟩] 90)):=(Ext.rfl' _).al _
 have q2:=(hxa.cell (lt_of_cell q)).trans q
 have k2:=(hxa.cell (lt_of_cell k0)).trans k0
 have Q:=Lib.hid q
 have RR:=Lib.hid r
 clear hsv hxa r
 go_upto_region 3 with (fail)
 go_region_law (first
  | (refine step_put slt_loR (.tmp 29) (.tmp 34) rfl rfl rfl rfl (H1.out.locs.1.ext (by (repeat first | exact Ex0 | assumption | refine Ex1 ?_ | refine Ex2 ?_ | refine Ex3 ?_ | refine Ex4 ?_ | refine Ex5 ?_))) H1.out.locs.2 (Sl.src Tryz.underlying86 (n:=1) ((rd_newV W1 _ rfl #[.string sv,.int .i64 0,.string ⟨#[]⟩,.string ⟨#[]⟩,.int .i64 0,.int .i64 0,.string ⟨#[]⟩,.bool false,.int .i64 0,.int .i64 0,.int .i64 0,.string ⟨#[]⟩] 90).ext (by (repeat first | exact Ex0 | assumption | refine Ex1 ?_ | refine Ex2 ?_ | refine Ex3 ?_ | refine Ex4 ?_ | refine Ex5 ?_))) (by simp) (by omega) (by simp [Value.oneCell']) 1) (by omega) (by simp only [maxLen]; omega) ?_; intro A5 c5 w5 o5 hs5 st5 hn5; have st5':Stp (fun i=>i=12 + 3 * K.a.length) W1 o w5 o5:=(Stp.ext (by (repeat first | exact Ex0 | assumption | refine Ex1 ?_ | refine Ex2 ?_ | refine Ex3 ?_ | refine Ex4 ?_ | refine Ex5 ?_))).tr st5; have hT:=H1.out.putL { lo0 with pre:=s } (by rw [HSV.out] at hs5; exact hs5) st5' hn5; have HT:Hid (RoQ w o p (doT .location [s] c).1 x6 x7 b (.returned (.tuple #[])) (w5.setCell ⟨K.g,K.F + 2,none⟩ (.slice A5 (x.1.locs.length + 1) c5))):=Lib.hid (by rw [show (doT .location [s] c).1=K.cfg ({ x.1 with locs:=x.1.locs ++ [{ lo0 with pre:=s }] },(x.2.1,(A5,c5))) from HEE.out _ _]; exact hT.1.done (ST1.out.tr hT.2)); have q5:=st5'.cell (a:=⟨K.g,K.F + 2,none⟩) (by show ¬ (o K.g=_); rw [H1.out.og.1]; omega) Q.out; have f5:=(st5'.frozen (a:=⟨K.g,K.F + 2,none⟩) H1.out.og.2 (by show ¬ (o K.g=_); rw [H1.out.og.1]; omega)).trans RR.out; clear hT st5' hs5 st5))
 all_goals go_wp2
 all_goals go_end0
 all_goals exact HT.out
theorem ro_peer1 (w:World) (o:Ow) (p:Nat) (c:Cf14) (x6 x7:Value) (b:Bool) (h:RfB w o p c x6 x7 b) (hne:c.ups ≠ []) (hM:CfB 1048576 c) (s:List UInt8) (hs:s.length ≤ 65536) (A:Option Addr) (ac:Nat) (hr:RdZ w o A (strC [s])) :
  Calls Tryz.prog 65 #[.pointer (some ⟨p,0,none⟩),.string ⟨#[112,101,101,114]⟩,.slice A 1 ac] w (RoQ w o p (doT .peer [s] c).1 x6 x7 (b || numE s)):=by
 obtain ⟨K,x,hh,HE,hm,hnb,h4⟩:=UpA.open_ h hne hM
 have HEE:=Lib.hid HE
 have H0:=Lib.hid hh
 obtain ⟨bA,gA,rfl,hak⟩:=arg0 hr
 have FA:=Lib.hid hak
 have e1:IntKind.i64.wrap (K.a.length:Int)=(K.a.length:Int):=by rw [IntKind.wrap_i64]; omega
 have e2:(K.a.length:Int) < (K.a.length:Int) + 1:=by omega
 clear hr hak h hh HE hne hM
 go_enter Tryz.func65,Tryz.ntmps65
 go_upto_region 23 with (fail)
 go_quiet (fail)
 go_upto_region 24 with (fail)
 clear h4 e1 e2 hm
 refine (fun (h:∀ W9,Ext w W9 → Code.wp _ _ _ _ W9)=>h _ (by (repeat first | exact Ex0 | assumption | refine Ex1 ?_ | refine Ex2 ?_ | refine Ex3 ?_ | refine Ex4 ?_ | refine Ex5 ?_))) ?_
 intro W1 hx1
 rw [← H0.out.hF]
 have H1:=Lib.hid (H0.out.ext hx1)
 have k0:W1.cell? ⟨bA,gA,none⟩=some (.string (str s)):=FA.out KCr W1 o (Stp.ext hx1) kc0 0 _ rfl
 go_upto_region 27 with (go_at_call 109; refine (H1.out.num s hs).mono ?_; rintro e' W2 ⟨rfl,st2,hq2⟩; have H2:=Lib.hid hq2; have ST2:=Lib.hid ((Stp.ext hx1).tr (KCr1 st2)); clear hq2 st2)
 obtain ⟨z,hz⟩:∃ z,z=numV s:=⟨_,rfl⟩
 rw [← hz]
 have HZ:=Lib.hid hz
 clear hz k0
 obtain ⟨gb,hgb⟩:∃ g,g=W2.heap.size:=⟨_,rfl⟩
 obtain ⟨W3,hW3⟩:∃ W,W=W2.alloc (.cells #[.int .i64 z,.int .i64 8] 85):=⟨_,rfl⟩
 have hx3:Ext W2 W3:=by rw [hW3]; exact (Ext.rfl' _).al _
 have b3:W3.heap[gb]?=some (.cells #[.int .i64 z,.int .i64 8] 85 (0,0)):=by rw [hW3,hgb]; exact heap_alloc_new W2 _
 rw [← hW3,← hgb]
 have H3:=Lib.hid (H2.out.ext hx3)
 have ST3:=Lib.hid (ST2.out.tr (Stp.ext hx3))
 clear hW3
 clear hgb hx3
 go_upto_region 29 with (fail)
 obtain ⟨c0,d0⟩:=row_facts b3 0 _ rfl
 obtain ⟨c1,d1⟩:=row_facts b3 1 _ rfl
 obtain ⟨q,r⟩:=(H3).out.fact 1 _ rfl
 have hxa:Ext W3 ((W3).alloc (.cells #[.int .i64 z,.int .i64 8] 85)):=(Ext.rfl' _).al _
 have q2:=(hxa.cell (lt_of_cell q)).trans q
 have Q:=Lib.hid q
 have RR:=Lib.hid r
 clear hxa r d0 d1 b3
 go_region_law (first
  | (refine step_put slt_peR (.tmp 167) (.tmp 169) rfl rfl rfl rfl ((H3).out.peers.1.ext (by (repeat first | exact Ex0 | assumption | refine Ex1 ?_ | refine Ex2 ?_ | refine Ex3 ?_ | refine Ex4 ?_ | refine Ex5 ?_))) (H3).out.peers.2 (Sl.src Tryz.underlying82 (n:=1) ((rd_newV W3 _ rfl #[.int .i64 z,.int .i64 8] 85).ext (by (repeat first | exact Ex0 | assumption | refine Ex1 ?_ | refine Ex2 ?_ | refine Ex3 ?_ | refine Ex4 ?_ | refine Ex5 ?_))) (by simp) (by omega) (by simp [Value.oneCell']) 1) (by omega) (by simp only [maxLen]; omega) ?_; intro A5 c5 w5 o5 hs5 st5 hn5; have st5':Stp (fun i=>i=10 + 3 * K.a.length) W3 o w5 o5:=(Stp.ext (by (repeat first | exact Ex0 | assumption | refine Ex1 ?_ | refine Ex2 ?_ | refine Ex3 ?_ | refine Ex4 ?_ | refine Ex5 ?_))).tr st5; have hT:=(H3).out.put { id:=z,most:=8 } hs5 st5' hn5; have HT:Hid (RoQ w o p (K.cfg ({ x.1 with peers:=x.1.peers ++ [{ id:=z,most:=8 }] },(A5,c5))) x6 x7 _ (.returned (.tuple #[])) (w5.setCell ⟨K.g,K.F + 1,none⟩ (.slice A5 (x.1.peers.length + 1) c5))):=Lib.hid (hT.1.done ((ST3).out.tr hT.2)); have q5:=st5'.cell (a:=⟨K.g,K.F + 1,none⟩) (by show ¬ (o K.g=_); rw [(H3).out.og.1]; omega) Q.out; have f5:=(st5'.frozen (a:=⟨K.g,K.F + 1,none⟩) (H3).out.og.2 (by show ¬ (o K.g=_); rw [(H3).out.og.1]; omega)).trans RR.out; clear hT st5' hs5 st5))
 all_goals go_wp2
 all_goals go_end0
 all_goals (rw [show (doT .peer [s] c).1=K.cfg ({ x.1 with peers:=x.1.peers ++ [{ id:=z,most:=8 }] },(A5,c5)) from by rw [HZ.out]; exact HEE.out _ (A5,c5)]; exact HT.out)
theorem ro_peer2 (w:World) (o:Ow) (p:Nat) (c:Cf14) (x6 x7:Value) (b:Bool) (h:RfB w o p c x6 x7 b) (hne:c.ups ≠ []) (hM:CfB 1048576 c) (s t:List UInt8) (hs:s.length ≤ 65536) (ht:t.length ≤ 65536) (A:Option Addr) (ac:Nat) (hr:RdZ w o A (strC [s,t])) :
  Calls Tryz.prog 65 #[.pointer (some ⟨p,0,none⟩),.string ⟨#[112,101,101,114]⟩,.slice A 2 ac] w (RoQ w o p (doT .peer [s,t] c).1 x6 x7 (b || numE s || numE t)):=by
 obtain ⟨K,x,hh,HE,hm,hnb,h4⟩:=UpA.open_ h hne hM
 have HEE:=Lib.hid HE
 have H0:=Lib.hid hh
 obtain ⟨bA,gA,rfl,hak⟩:=arg0 hr
 have FA:=Lib.hid hak
 have e1:IntKind.i64.wrap (K.a.length:Int)=(K.a.length:Int):=by rw [IntKind.wrap_i64]; omega
 have e2:(K.a.length:Int) < (K.a.length:Int) + 1:=by omega
 clear hr hak h hh HE hne hM
 go_enter Tryz.func65,Tryz.ntmps65
 go_upto_region 23 with (fail)
 go_quiet (fail)
 go_upto_region 24 with (fail)
 clear h4 e1 e2 hm
 refine (fun (h:∀ W9,Ext w W9 → Code.wp _ _ _ _ W9)=>h _ (by (repeat first | exact Ex0 | assumption | refine Ex1 ?_ | refine Ex2 ?_ | refine Ex3 ?_ | refine Ex4 ?_ | refine Ex5 ?_))) ?_
 intro W1 hx1
 rw [← H0.out.hF]
 have H1:=Lib.hid (H0.out.ext hx1)
 have k0:W1.cell? ⟨bA,gA,none⟩=some (.string (str s)):=FA.out KCr W1 o (Stp.ext hx1) kc0 0 _ rfl
 go_upto_region 27 with (go_at_call 109; refine (H1.out.num s hs).mono ?_; rintro e' W2 ⟨rfl,st2,hq2⟩; have H2:=Lib.hid hq2; have ST2:=Lib.hid ((Stp.ext hx1).tr (KCr1 st2)); clear hq2 st2)
 obtain ⟨z,hz⟩:∃ z,z=numV s:=⟨_,rfl⟩
 rw [← hz]
 have HZ:=Lib.hid hz
 clear hz k0
 obtain ⟨gb,hgb⟩:∃ g,g=W2.heap.size:=⟨_,rfl⟩
 obtain ⟨W3,hW3⟩:∃ W,W=W2.alloc (.cells #[.int .i64 z,.int .i64 8] 85):=⟨_,rfl⟩
 have hx3:Ext W2 W3:=by rw [hW3]; exact (Ext.rfl' _).al _
 have b3:W3.heap[gb]?=some (.cells #[.int .i64 z,.int .i64 8] 85 (0,0)):=by rw [hW3,hgb]; exact heap_alloc_new W2 _
 rw [← hW3,← hgb]
 have H3:=Lib.hid (H2.out.ext hx3)
 have ST3:=Lib.hid (ST2.out.tr (Stp.ext hx3))
 clear hW3
 have k1:W3.cell? ⟨bA,gA + 1,none⟩=some (.string (str t)):=FA.out KCr W3 o ST3.out kc0 1 _ rfl
 obtain ⟨o3,ho3⟩:∃ o3:Ow,o3=fun b=>if b < W2.heap.size then o b else 0:=⟨_,rfl⟩
 have st23:Stp (fun _=>False) W2 o W3 o3:=Stp.ext2 hx3 (fun b hb=>by rw [ho3]; exact if_pos hb)
 have H3':=Lib.hid (⟨H2.out.r.stpC st23 (fun _ _ x=>x),H2.out.hF⟩:UpA K W3 o3 p _ x)
 have ST3':Hid (Stp KCr w o W3 o3):=Lib.hid (ST2.out.tr (st23.mono fun _ h=>h.elim))
 have og3:o3 gb=0:=by rw [ho3,hgb]; exact if_neg (Nat.lt_irrefl _)
 have HGB:Hid (w.heap.size ≤ gb):=Lib.hid (by rw [hgb]; exact ST2.out.size)
 clear ho3 st23 hgb hx3 H3 ST3 H2 ST2
 have HB3:=Lib.hid b3
 go_upto_region 29 with (go_at_call 109; refine (H3'.out.num t ht).mono ?_; rintro e' W4 ⟨rfl,st4,hq4⟩; have H4:=Lib.hid hq4; have ST4:=Lib.hid (ST3'.out.tr (KCr1 st4)); have b4:=(st4.keep gb (row_lt HB3.out) (by rw [og3]; omega)).trans HB3.out; have og4:=(st4.own gb (row_lt HB3.out)).trans og3; obtain ⟨z1,z2⟩:=row_facts b4 1 _ rfl; clear hq4 st4)
 have hst5:Stp (fun i=>i=0) W4 o3 (W4.setCell ⟨gb,1,none⟩ (.int .i64 (numV t))) o3:=Stp.set gb 1 _ (fun _=>og4)
 have b5:=row_set b4 1 (.int .i64 (numV t))
 obtain ⟨z',hz'⟩:∃ z,z=numV t:=⟨_,rfl⟩
 rw [← hz'] at hst5 b5 ⊢
 obtain ⟨W5,hW5⟩:∃ W,W=W4.setCell ⟨gb,1,none⟩ (.int .i64 z'):=⟨_,rfl⟩
 rw [← hW5] at hst5 b5 ⊢
 have HZ2:=Lib.hid hz'
 have H5:=Lib.hid (⟨H4.out.r.stpC hst5 (fun i h=>by unfold KCr at h; omega),H4.out.hF⟩:UpA K W5 o3 p _ x)
 have ST5:Hid (Stp KCr w o W5 o3):=Lib.hid (by rw [hW5]; exact ST4.out.setNew HGB.out 1 _)
 clear hz' hW5 z1 z2 b4 hst5 og4 k1
 have b5:W5.heap[gb]?=some (.cells #[.int .i64 z,.int .i64 z'] 85 (0,0)):=by rw [b5]; simp
 obtain ⟨c0,d0⟩:=row_facts b5 0 _ rfl
 obtain ⟨c1,d1⟩:=row_facts b5 1 _ rfl
 obtain ⟨q,r⟩:=(H5).out.fact 1 _ rfl
 have hxa:Ext W5 ((W5).alloc (.cells #[.int .i64 z,.int .i64 z'] 85)):=(Ext.rfl' _).al _
 have q2:=(hxa.cell (lt_of_cell q)).trans q
 have Q:=Lib.hid q
 have RR:=Lib.hid r
 clear hxa r d0 d1 b5
 go_region_law (first
  | (refine step_put slt_peR (.tmp 167) (.tmp 169) rfl rfl rfl rfl ((H5).out.peers.1.ext (by (repeat first | exact Ex0 | assumption | refine Ex1 ?_ | refine Ex2 ?_ | refine Ex3 ?_ | refine Ex4 ?_ | refine Ex5 ?_))) (H5).out.peers.2 (Sl.src Tryz.underlying82 (n:=1) ((rd_newV W5 _ rfl #[.int .i64 z,.int .i64 z'] 85).ext (by (repeat first | exact Ex0 | assumption | refine Ex1 ?_ | refine Ex2 ?_ | refine Ex3 ?_ | refine Ex4 ?_ | refine Ex5 ?_))) (by simp) (by omega) (by simp [Value.oneCell']) 1) (by omega) (by simp only [maxLen]; omega) ?_; intro A5 c5 w5 o5 hs5 st5 hn5; have st5':Stp (fun i=>i=10 + 3 * K.a.length) W5 o3 w5 o5:=(Stp.ext (by (repeat first | exact Ex0 | assumption | refine Ex1 ?_ | refine Ex2 ?_ | refine Ex3 ?_ | refine Ex4 ?_ | refine Ex5 ?_))).tr st5; have hT:=(H5).out.put { id:=z,most:=z' } hs5 st5' hn5; have HT:Hid (RoQ w o p (K.cfg ({ x.1 with peers:=x.1.peers ++ [{ id:=z,most:=z' }] },(A5,c5))) x6 x7 _ (.returned (.tuple #[])) (w5.setCell ⟨K.g,K.F + 1,none⟩ (.slice A5 (x.1.peers.length + 1) c5))):=Lib.hid (hT.1.done ((ST5).out.tr hT.2)); have q5:=st5'.cell (a:=⟨K.g,K.F + 1,none⟩) (by show ¬ (o3 K.g=_); rw [(H5).out.og.1]; omega) Q.out; have f5:=(st5'.frozen (a:=⟨K.g,K.F + 1,none⟩) (H5).out.og.2 (by show ¬ (o3 K.g=_); rw [(H5).out.og.1]; omega)).trans RR.out; clear hT st5' hs5 st5))
 all_goals go_wp2
 all_goals go_end0
 all_goals (rw [show (doT .peer [s,t] c).1=K.cfg ({ x.1 with peers:=x.1.peers ++ [{ id:=z,most:=z' }] },(A5,c5)) from by rw [HZ.out,HZ2.out]; exact HEE.out _ (A5,c5)]; exact HT.out)
end Go.Proofs.YtmnohicojefhfaaGreatDoor
