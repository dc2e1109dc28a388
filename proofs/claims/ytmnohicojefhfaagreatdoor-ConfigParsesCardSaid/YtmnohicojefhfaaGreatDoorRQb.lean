/-
The reference's directives of a location: the walks.
-/
import Derived.Test.YtmnohicojefhfaaGreatDoorRQa
import Derived.Test.YtmnohicojefhfaaGreatDoorCFg
set_option maxRecDepth 100000
set_option maxHeartbeats 8000000
set_option linter.unusedVariables false
set_option linter.unusedSimpArgs false
section
namespace Go.Proofs.YtmnohicojefhfaaGreatDoor
open Go.RowKit
theorem rl_root (w:World) (o:Ow) (p:Nat) (c:Cf14) (x6 x7:Value) (b:Bool) (h:RfB w o p c x6 x7 b) (hL:LocOk c) (hM:CfB 1099511627776 c) (s:List UInt8) (hs:s.length ≤ 65536) (A:Option Addr) (ac:Nat) (hr:RdZ w o A (strC [s])) :
  Calls Tryz.prog 64 #[.pointer (some ⟨p,0,none⟩),.string ⟨#[114,111,111,116]⟩,.slice A 1 ac] w (RoQ w o p (doT .root [s] c).1 x6 x7 b):=by
 obtain ⟨K,l,hh,HE,hm,hm2,h5,h2⟩:=LcA.open_ h hL hM
 rw [show (doT .root [s] c).1=K.cfg { l with kind:=1,root:=s } from HE _]
 have H0:=Lib.hid hh
 obtain ⟨bA,gA,rfl,hak⟩:=arg0 hr
 have FA:=Lib.hid hak
 clear hr hak
 clear h hL hM hh HE
 have e1:IntKind.i64.wrap (K.a.length:Int)=(K.a.length:Int):=by rw [IntKind.wrap_i64]; omega
 have e2:(K.a.length:Int) < (K.a.length:Int) + 1:=by omega
 have e3:IntKind.i64.wrap (K.lo.length:Int)=(K.lo.length:Int):=by rw [IntKind.wrap_i64]; omega
 have e4:(K.lo.length:Int) < (K.lo.length:Int) + 1:=by omega
 go_enter Tryz.func64,Tryz.ntmps64
 go_wp2
 go_quiet (fail)
 go_upto_region 1 with (fail)
 go_quiet (fail)
 go_upto_region 2 with (fail)
 clear h5 h2 e1 e2 e3 e4 hm hm2
 refine (fun (h:∀ W9,Ext w W9 → Code.wp _ _ _ _ W9)=>h _ (by (repeat first | exact Ex0 | assumption | refine Ex1 ?_ | refine Ex2 ?_ | refine Ex3 ?_ | refine Ex4 ?_ | refine Ex5 ?_))) ?_
 intro W1 hx1
 rw [← H0.out.hF]
 have H1:=Lib.hid (H0.out.ext hx1)
 have ST1:Hid (Stp KCr w o W1 o):=Lib.hid (Stp.ext hx1)
 clear hx1
 obtain ⟨q1,r1⟩:=H1.out.fact 1 _ rfl
 go_upto_region 5 with (fail)
 obtain ⟨W2,hW2⟩:∃ W,W=W1.setCell ⟨K.g2,K.F + 1,none⟩ (.int .i64 1):=⟨_,rfl⟩
 have hs2:=H1.out.set 1 (by omega) (.int .i64 1) { l with kind:=1 } rfl
 rw [← hW2] at hs2
 try rw [← hW2]
 have H2:=Lib.hid hs2.1
 have ST2:=Lib.hid (ST1.out.tr hs2.2)
 clear hs2 hW2
 clear q1 r1
 obtain ⟨q2,r2⟩:=H2.out.fact 2 _ rfl
 have k0:W2.cell? ⟨bA,gA,none⟩=some (.string (str s)):=FA.out KCr W2 o (ST2).out kc0 0 _ rfl
 go_wp2
 obtain ⟨W3,hW3⟩:∃ W,W=W2.setCell ⟨K.g2,K.F + 2,none⟩ (.string (str s)):=⟨_,rfl⟩
 have hs3:=H2.out.set 2 (by omega) (.string (str s)) { l with kind:=1,root:=s } rfl
 rw [← hW3] at hs3
 try rw [← hW3]
 have H3:=Lib.hid hs3.1
 have ST3:=Lib.hid (ST2.out.tr hs3.2)
 clear hs3 hW3
 go_end0
 exact (H3).out.done (ST3).out
theorem rl_proxy (w:World) (o:Ow) (p:Nat) (c:Cf14) (x6 x7:Value) (b:Bool) (h:RfB w o p c x6 x7 b) (hL:LocOk c) (hM:CfB 1099511627776 c) (s:List UInt8) (hs:s.length ≤ 65536) (A:Option Addr) (ac:Nat) (hr:RdZ w o A (strC [s])) :
  Calls Tryz.prog 64 #[.pointer (some ⟨p,0,none⟩),.string ⟨#[112,114,111,120,121]⟩,.slice A 1 ac] w (RoQ w o p (doT .proxy [s] c).1 x6 x7 b):=by
 obtain ⟨K,l,hh,HE,hm,hm2,h5,h2⟩:=LcA.open_ h hL hM
 rw [show (doT .proxy [s] c).1=K.cfg { l with kind:=2,up:=s } from HE _]
 have H0:=Lib.hid hh
 obtain ⟨bA,gA,rfl,hak⟩:=arg0 hr
 have FA:=Lib.hid hak
 clear hr hak
 clear h hL hM hh HE
 have e1:IntKind.i64.wrap (K.a.length:Int)=(K.a.length:Int):=by rw [IntKind.wrap_i64]; omega
 have e2:(K.a.length:Int) < (K.a.length:Int) + 1:=by omega
 have e3:IntKind.i64.wrap (K.lo.length:Int)=(K.lo.length:Int):=by rw [IntKind.wrap_i64]; omega
 have e4:(K.lo.length:Int) < (K.lo.length:Int) + 1:=by omega
 go_enter Tryz.func64,Tryz.ntmps64
 go_wp2
 go_quiet (fail)
 go_upto_region 1 with (fail)
 go_quiet (fail)
 go_upto_region 2 with (fail)
 clear h5 h2 e1 e2 e3 e4 hm hm2
 refine (fun (h:∀ W9,Ext w W9 → Code.wp _ _ _ _ W9)=>h _ (by (repeat first | exact Ex0 | assumption | refine Ex1 ?_ | refine Ex2 ?_ | refine Ex3 ?_ | refine Ex4 ?_ | refine Ex5 ?_))) ?_
 intro W1 hx1
 rw [← H0.out.hF]
 have H1:=Lib.hid (H0.out.ext hx1)
 have ST1:Hid (Stp KCr w o W1 o):=Lib.hid (Stp.ext hx1)
 clear hx1
 obtain ⟨q1,r1⟩:=H1.out.fact 1 _ rfl
 go_upto_region 14 with (fail)
 obtain ⟨W2,hW2⟩:∃ W,W=W1.setCell ⟨K.g2,K.F + 1,none⟩ (.int .i64 2):=⟨_,rfl⟩
 have hs2:=H1.out.set 1 (by omega) (.int .i64 2) { l with kind:=2 } rfl
 rw [← hW2] at hs2
 try rw [← hW2]
 have H2:=Lib.hid hs2.1
 have ST2:=Lib.hid (ST1.out.tr hs2.2)
 clear hs2 hW2
 clear q1 r1
 obtain ⟨q6,r6⟩:=H2.out.fact 6 _ rfl
 have k0:W2.cell? ⟨bA,gA,none⟩=some (.string (str s)):=FA.out KCr W2 o (ST2).out kc0 0 _ rfl
 go_wp2
 obtain ⟨W3,hW3⟩:∃ W,W=W2.setCell ⟨K.g2,K.F + 6,none⟩ (.string (str s)):=⟨_,rfl⟩
 have hs3:=H2.out.set 6 (by omega) (.string (str s)) { l with kind:=2,up:=s } rfl
 rw [← hW3] at hs3
 try rw [← hW3]
 have H3:=Lib.hid hs3.1
 have ST3:=Lib.hid (ST2.out.tr hs3.2)
 clear hs3 hW3
 go_end0
 exact (H3).out.done (ST3).out
theorem rl_index (w:World) (o:Ow) (p:Nat) (c:Cf14) (x6 x7:Value) (b:Bool) (h:RfB w o p c x6 x7 b) (hL:LocOk c) (hM:CfB 1099511627776 c) (s:List UInt8) (hs:s.length ≤ 65536) (A:Option Addr) (ac:Nat) (hr:RdZ w o A (strC [s])) :
  Calls Tryz.prog 64 #[.pointer (some ⟨p,0,none⟩),.string ⟨#[105,110,100,101,120]⟩,.slice A 1 ac] w (RoQ w o p (doT .index [s] c).1 x6 x7 b):=by
 obtain ⟨K,l,hh,HE,hm,hm2,h5,h2⟩:=LcA.open_ h hL hM
 rw [show (doT .index [s] c).1=K.cfg { l with index:=s } from HE _]
 have H0:=Lib.hid hh
 obtain ⟨bA,gA,rfl,hak⟩:=arg0 hr
 have FA:=Lib.hid hak
 clear hr hak
 clear h hL hM hh HE
 have e1:IntKind.i64.wrap (K.a.length:Int)=(K.a.length:Int):=by rw [IntKind.wrap_i64]; omega
 have e2:(K.a.length:Int) < (K.a.length:Int) + 1:=by omega
 have e3:IntKind.i64.wrap (K.lo.length:Int)=(K.lo.length:Int):=by rw [IntKind.wrap_i64]; omega
 have e4:(K.lo.length:Int) < (K.lo.length:Int) + 1:=by omega
 go_enter Tryz.func64,Tryz.ntmps64
 go_wp2
 go_quiet (fail)
 go_upto_region 1 with (fail)
 go_quiet (fail)
 go_upto_region 2 with (fail)
 clear h5 h2 e1 e2 e3 e4 hm hm2
 refine (fun (h:∀ W9,Ext w W9 → Code.wp _ _ _ _ W9)=>h _ (by (repeat first | exact Ex0 | assumption | refine Ex1 ?_ | refine Ex2 ?_ | refine Ex3 ?_ | refine Ex4 ?_ | refine Ex5 ?_))) ?_
 intro W1 hx1
 rw [← H0.out.hF]
 have H1:=Lib.hid (H0.out.ext hx1)
 have ST1:Hid (Stp KCr w o W1 o):=Lib.hid (Stp.ext hx1)
 clear hx1
 obtain ⟨q3,r3⟩:=H1.out.fact 3 _ rfl
 have k0:W1.cell? ⟨bA,gA,none⟩=some (.string (str s)):=FA.out KCr W1 o (ST1).out kc0 0 _ rfl
 go_wp2
 obtain ⟨W2,hW2⟩:∃ W,W=W1.setCell ⟨K.g2,K.F + 3,none⟩ (.string (str s)):=⟨_,rfl⟩
 have hs2:=H1.out.set 3 (by omega) (.string (str s)) { l with index:=s } rfl
 rw [← hW2] at hs2
 try rw [← hW2]
 have H2:=Lib.hid hs2.1
 have ST2:=Lib.hid (ST1.out.tr hs2.2)
 clear hs2 hW2
 go_end0
 exact (H2).out.done (ST2).out
theorem rl_cache (w:World) (o:Ow) (p:Nat) (c:Cf14) (x6 x7:Value) (b:Bool) (h:RfB w o p c x6 x7 b) (hL:LocOk c) (hM:CfB 1099511627776 c) (A:Option Addr) (ac:Nat) :
  Calls Tryz.prog 64 #[.pointer (some ⟨p,0,none⟩),.string ⟨#[99,97,99,104,101]⟩,.slice A 0 ac] w (RoQ w o p (doT .cache [] c).1 x6 x7 b):=by
 obtain ⟨K,l,hh,HE,hm,hm2,h5,h2⟩:=LcA.open_ h hL hM
 rw [show (doT .cache [] c).1=K.cfg { l with cache:=true } from HE _]
 have H0:=Lib.hid hh
 clear h hL hM hh HE
 have e1:IntKind.i64.wrap (K.a.length:Int)=(K.a.length:Int):=by rw [IntKind.wrap_i64]; omega
 have e2:(K.a.length:Int) < (K.a.length:Int) + 1:=by omega
 have e3:IntKind.i64.wrap (K.lo.length:Int)=(K.lo.length:Int):=by rw [IntKind.wrap_i64]; omega
 have e4:(K.lo.length:Int) < (K.lo.length:Int) + 1:=by omega
 go_enter Tryz.func64,Tryz.ntmps64
 go_wp2
 go_quiet (fail)
 go_upto_region 1 with (fail)
 go_quiet (fail)
 go_upto_region 2 with (fail)
 clear h5 h2 e1 e2 e3 e4 hm hm2
 refine (fun (h:∀ W9,Ext w W9 → Code.wp _ _ _ _ W9)=>h _ (by (repeat first | exact Ex0 | assumption | refine Ex1 ?_ | refine Ex2 ?_ | refine Ex3 ?_ | refine Ex4 ?_ | refine Ex5 ?_))) ?_
 intro W1 hx1
 rw [← H0.out.hF]
 have H1:=Lib.hid (H0.out.ext hx1)
 have ST1:Hid (Stp KCr w o W1 o):=Lib.hid (Stp.ext hx1)
 clear hx1
 obtain ⟨q7,r7⟩:=H1.out.fact 7 _ rfl
 go_wp2
 obtain ⟨W2,hW2⟩:∃ W,W=W1.setCell ⟨K.g2,K.F + 7,none⟩ (.bool true):=⟨_,rfl⟩
 have hs2:=H1.out.set 7 (by omega) (.bool true) { l with cache:=true } rfl
 rw [← hW2] at hs2
 try rw [← hW2]
 have H2:=Lib.hid hs2.1
 have ST2:=Lib.hid (ST1.out.tr hs2.2)
 clear hs2 hW2
 go_end0
 exact (H2).out.done (ST2).out
theorem rl_gzip (w:World) (o:Ow) (p:Nat) (c:Cf14) (x6 x7:Value) (b:Bool) (h:RfB w o p c x6 x7 b) (hL:LocOk c) (hM:CfB 1099511627776 c) (s:List UInt8) (hs:s.length ≤ 65536) (A:Option Addr) (ac:Nat) (hr:RdZ w o A (strC [s])) :
  Calls Tryz.prog 64 #[.pointer (some ⟨p,0,none⟩),.string ⟨#[103,122,105,112]⟩,.slice A 1 ac] w (RoQ w o p (doT .gzip [s] c).1 x6 x7 (b || numE s)):=by
 obtain ⟨K,l,hh,HE,hm,hm2,h5,h2⟩:=LcA.open_ h hL hM
 rw [show (doT .gzip [s] c).1=K.cfg { l with gzip:=numV s } from HE _]
 have H0:=Lib.hid hh
 obtain ⟨bA,gA,rfl,hak⟩:=arg0 hr
 have FA:=Lib.hid hak
 clear hr hak
 clear h hL hM hh HE
 have e1:IntKind.i64.wrap (K.a.length:Int)=(K.a.length:Int):=by rw [IntKind.wrap_i64]; omega
 have e2:(K.a.length:Int) < (K.a.length:Int) + 1:=by omega
 have e3:IntKind.i64.wrap (K.lo.length:Int)=(K.lo.length:Int):=by rw [IntKind.wrap_i64]; omega
 have e4:(K.lo.length:Int) < (K.lo.length:Int) + 1:=by omega
 go_enter Tryz.func64,Tryz.ntmps64
 go_wp2
 go_quiet (fail)
 go_upto_region 1 with (fail)
 go_quiet (fail)
 go_upto_region 2 with (fail)
 clear h5 h2 e1 e2 e3 e4 hm hm2
 refine (fun (h:∀ W9,Ext w W9 → Code.wp _ _ _ _ W9)=>h _ (by (repeat first | exact Ex0 | assumption | refine Ex1 ?_ | refine Ex2 ?_ | refine Ex3 ?_ | refine Ex4 ?_ | refine Ex5 ?_))) ?_
 intro W1 hx1
 rw [← H0.out.hF]
 have H1:=Lib.hid (H0.out.ext hx1)
 have ST1:Hid (Stp KCr w o W1 o):=Lib.hid (Stp.ext hx1)
 clear hx1
 have k0:W1.cell? ⟨bA,gA,none⟩=some (.string (str s)):=FA.out KCr W1 o (ST1).out kc0 0 _ rfl
 go_wp2_with (go_at_call 109; refine (H1.out.num s hs).mono ?_; rintro e' W2 ⟨rfl,st2,hq2⟩; have H2:=Lib.hid hq2; have ST2:=Lib.hid (ST1.out.tr (KCr1 st2)); clear hq2 st2; obtain ⟨q4,r4⟩:=H2.out.fact 4 _ rfl)
 obtain ⟨W3,hW3⟩:∃ W,W=W2.setCell ⟨K.g2,K.F + 4,none⟩ (.int .i64 (numV s)):=⟨_,rfl⟩
 have hs3:=H2.out.set 4 (by omega) (.int .i64 (numV s)) { l with gzip:=numV s } rfl
 rw [← hW3] at hs3
 try rw [← hW3]
 have H3:=Lib.hid hs3.1
 have ST3:=Lib.hid (ST2.out.tr hs3.2)
 clear hs3 hW3
 go_end0
 exact (H3).out.done (ST3).out
theorem rl_expires (w:World) (o:Ow) (p:Nat) (c:Cf14) (x6 x7:Value) (b:Bool) (h:RfB w o p c x6 x7 b) (hL:LocOk c) (hM:CfB 1099511627776 c) (s:List UInt8) (hs:s.length ≤ 65536) (A:Option Addr) (ac:Nat) (hr:RdZ w o A (strC [s])) :
  Calls Tryz.prog 64 #[.pointer (some ⟨p,0,none⟩),.string ⟨#[101,120,112,105,114,101,115]⟩,.slice A 1 ac] w (RoQ w o p (doT .expires [s] c).1 x6 x7 (b || numE s)):=by
 obtain ⟨K,l,hh,HE,hm,hm2,h5,h2⟩:=LcA.open_ h hL hM
 rw [show (doT .expires [s] c).1=K.cfg { l with expires:=numV s } from HE _]
 have H0:=Lib.hid hh
 obtain ⟨bA,gA,rfl,hak⟩:=arg0 hr
 have FA:=Lib.hid hak
 clear hr hak
 clear h hL hM hh HE
 have e1:IntKind.i64.wrap (K.a.length:Int)=(K.a.length:Int):=by rw [IntKind.wrap_i64]; omega
 have e2:(K.a.length:Int) < (K.a.length:Int) + 1:=by omega
 have e3:IntKind.i64.wrap (K.lo.length:Int)=(K.lo.length:Int):=by rw [IntKind.wrap_i64]; omega
 have e4:(K.lo.length:Int) < (K.lo.length:Int) + 1:=by omega
 go_enter Tryz.func64,Tryz.ntmps64
 go_wp2
 go_quiet (fail)
 go_upto_region 1 with (fail)
 go_quiet (fail)
 go_upto_region 2 with (fail)
 clear h5 h2 e1 e2 e3 e4 hm hm2
 refine (fun (h:∀ W9,Ext w W9 → Code.wp _ _ _ _ W9)=>h _ (by (repeat first | exact Ex0 | assumption | refine Ex1 ?_ | refine Ex2 ?_ | refine Ex3 ?_ | refine Ex4 ?_ | refine Ex5 ?_))) ?_
 intro W1 hx1
 rw [← H0.out.hF]
 have H1:=Lib.hid (H0.out.ext hx1)
 have ST1:Hid (Stp KCr w o W1 o):=Lib.hid (Stp.ext hx1)
 clear hx1
 have k0:W1.cell? ⟨bA,gA,none⟩=some (.string (str s)):=FA.out KCr W1 o (ST1).out kc0 0 _ rfl
 go_wp2_with (go_at_call 109; refine (H1.out.num s hs).mono ?_; rintro e' W2 ⟨rfl,st2,hq2⟩; have H2:=Lib.hid hq2; have ST2:=Lib.hid (ST1.out.tr (KCr1 st2)); clear hq2 st2; obtain ⟨q5,r5⟩:=H2.out.fact 5 _ rfl)
 obtain ⟨W3,hW3⟩:∃ W,W=W2.setCell ⟨K.g2,K.F + 5,none⟩ (.int .i64 (numV s)):=⟨_,rfl⟩
 have hs3:=H2.out.set 5 (by omega) (.int .i64 (numV s)) { l with expires:=numV s } rfl
 rw [← hW3] at hs3
 try rw [← hW3]
 have H3:=Lib.hid hs3.1
 have ST3:=Lib.hid (ST2.out.tr hs3.2)
 clear hs3 hW3
 go_end0
 exact (H3).out.done (ST3).out
theorem rl_limit (w:World) (o:Ow) (p:Nat) (c:Cf14) (x6 x7:Value) (b:Bool) (h:RfB w o p c x6 x7 b) (hL:LocOk c) (hM:CfB 1099511627776 c) (s t:List UInt8) (hs:s.length ≤ 65536) (ht:t.length ≤ 65536) (A:Option Addr) (ac:Nat) (hr:RdZ w o A (strC [s,t])) :
  Calls Tryz.prog 64 #[.pointer (some ⟨p,0,none⟩),.string ⟨#[108,105,109,105,116]⟩,.slice A 2 ac] w (RoQ w o p (doT .limit [s,t] c).1 x6 x7 (b || numE s || numE t)):=by
 obtain ⟨K,l,hh,HE,hm,hm2,h5,h2⟩:=LcA.open_ h hL hM
 rw [show (doT .limit [s,t] c).1=K.cfg { l with rate:=numV s,burst:=numV t } from HE _]
 have H0:=Lib.hid hh
 obtain ⟨bA,gA,rfl,hak⟩:=arg0 hr
 have FA:=Lib.hid hak
 clear hr hak
 clear h hL hM hh HE
 have e1:IntKind.i64.wrap (K.a.length:Int)=(K.a.length:Int):=by rw [IntKind.wrap_i64]; omega
 have e2:(K.a.length:Int) < (K.a.length:Int) + 1:=by omega
 have e3:IntKind.i64.wrap (K.lo.length:Int)=(K.lo.length:Int):=by rw [IntKind.wrap_i64]; omega
 have e4:(K.lo.length:Int) < (K.lo.length:Int) + 1:=by omega
 go_enter Tryz.func64,Tryz.ntmps64
 go_wp2
 go_quiet (fail)
 go_upto_region 1 with (fail)
 go_quiet (fail)
 go_upto_region 2 with (fail)
 clear h5 h2 e1 e2 e3 e4 hm hm2
 refine (fun (h:∀ W9,Ext w W9 → Code.wp _ _ _ _ W9)=>h _ (by (repeat first | exact Ex0 | assumption | refine Ex1 ?_ | refine Ex2 ?_ | refine Ex3 ?_ | refine Ex4 ?_ | refine Ex5 ?_))) ?_
 intro W1 hx1
 rw [← H0.out.hF]
 have H1:=Lib.hid (H0.out.ext hx1)
 have ST1:Hid (Stp KCr w o W1 o):=Lib.hid (Stp.ext hx1)
 clear hx1
 have k0:W1.cell? ⟨bA,gA,none⟩=some (.string (str s)):=FA.out KCr W1 o (ST1).out kc0 0 _ rfl
 go_upto_region 19 with (go_at_call 109; refine (H1.out.num s hs).mono ?_; rintro e' W2 ⟨rfl,st2,hq2⟩; have H2:=Lib.hid hq2; have ST2:=Lib.hid (ST1.out.tr (KCr1 st2)); clear hq2 st2; obtain ⟨q8,r8⟩:=H2.out.fact 8 _ rfl)
 obtain ⟨W3,hW3⟩:∃ W,W=W2.setCell ⟨K.g2,K.F + 8,none⟩ (.int .i64 (numV s)):=⟨_,rfl⟩
 have hs3:=H2.out.set 8 (by omega) (.int .i64 (numV s)) { l with rate:=numV s } rfl
 rw [← hW3] at hs3
 try rw [← hW3]
 have H3:=Lib.hid hs3.1
 have ST3:=Lib.hid (ST2.out.tr hs3.2)
 clear hs3 hW3
 clear q8 r8 k0
 have k1:W3.cell? ⟨bA,gA + 1,none⟩=some (.string (str t)):=FA.out KCr W3 o (ST3).out kc0 1 _ rfl
 go_wp2_with (go_at_call 109; refine (H3.out.num t ht).mono ?_; rintro e' W4 ⟨rfl,st4,hq4⟩; have H4:=Lib.hid hq4; have ST4:=Lib.hid (ST3.out.tr (KCr1 st4)); clear hq4 st4; obtain ⟨q9,r9⟩:=H4.out.fact 9 _ rfl)
 obtain ⟨W5,hW5⟩:∃ W,W=W4.setCell ⟨K.g2,K.F + 9,none⟩ (.int .i64 (numV t)):=⟨_,rfl⟩
 have hs5:=H4.out.set 9 (by omega) (.int .i64 (numV t)) { l with rate:=numV s,burst:=numV t } rfl
 rw [← hW5] at hs5
 try rw [← hW5]
 have H5:=Lib.hid hs5.1
 have ST5:=Lib.hid (ST4.out.tr hs5.2)
 clear hs5 hW5
 go_end0
 exact (H5).out.done (ST5).out
theorem rl_ret1 (w:World) (o:Ow) (p:Nat) (c:Cf14) (x6 x7:Value) (b:Bool) (h:RfB w o p c x6 x7 b) (hL:LocOk c) (hM:CfB 1099511627776 c) (s:List UInt8) (hs:s.length ≤ 65536) (A:Option Addr) (ac:Nat) (hr:RdZ w o A (strC [s])) :
  Calls Tryz.prog 64 #[.pointer (some ⟨p,0,none⟩),.string ⟨#[114,101,116,117,114,110]⟩,.slice A 1 ac] w (RoQ w o p (doT .ret [s] c).1 x6 x7 (b || numE s)):=by
 obtain ⟨K,l,hh,HE,hm,hm2,h5,h2⟩:=LcA.open_ h hL hM
 rw [show (doT .ret [s] c).1=K.cfg { l with kind:=3,status:=numV s } from HE _]
 have H0:=Lib.hid hh
 obtain ⟨bA,gA,rfl,hak⟩:=arg0 hr
 have FA:=Lib.hid hak
 clear hr hak
 clear h hL hM hh HE
 have e1:IntKind.i64.wrap (K.a.length:Int)=(K.a.length:Int):=by rw [IntKind.wrap_i64]; omega
 have e2:(K.a.length:Int) < (K.a.length:Int) + 1:=by omega
 have e3:IntKind.i64.wrap (K.lo.length:Int)=(K.lo.length:Int):=by rw [IntKind.wrap_i64]; omega
 have e4:(K.lo.length:Int) < (K.lo.length:Int) + 1:=by omega
 go_enter Tryz.func64,Tryz.ntmps64
 go_wp2
 go_quiet (fail)
 go_upto_region 1 with (fail)
 go_quiet (fail)
 go_upto_region 2 with (fail)
 clear h5 h2 e1 e2 e3 e4 hm hm2
 refine (fun (h:∀ W9,Ext w W9 → Code.wp _ _ _ _ W9)=>h _ (by (repeat first | exact Ex0 | assumption | refine Ex1 ?_ | refine Ex2 ?_ | refine Ex3 ?_ | refine Ex4 ?_ | refine Ex5 ?_))) ?_
 intro W1 hx1
 rw [← H0.out.hF]
 have H1:=Lib.hid (H0.out.ext hx1)
 have ST1:Hid (Stp KCr w o W1 o):=Lib.hid (Stp.ext hx1)
 clear hx1
 obtain ⟨q1,r1⟩:=H1.out.fact 1 _ rfl
 go_upto_region 22 with (fail)
 obtain ⟨W2,hW2⟩:∃ W,W=W1.setCell ⟨K.g2,K.F + 1,none⟩ (.int .i64 3):=⟨_,rfl⟩
 have hs2:=H1.out.set 1 (by omega) (.int .i64 3) { l with kind:=3 } rfl
 rw [← hW2] at hs2
 try rw [← hW2]
 have H2:=Lib.hid hs2.1
 have ST2:=Lib.hid (ST1.out.tr hs2.2)
 clear hs2 hW2
 clear q1 r1
 have k0:W2.cell? ⟨bA,gA,none⟩=some (.string (str s)):=FA.out KCr W2 o (ST2).out kc0 0 _ rfl
 go_upto_region 23 with (go_at_call 109; refine (H2.out.num s hs).mono ?_; rintro e' W3 ⟨rfl,st3,hq3⟩; have H3:=Lib.hid hq3; have ST3:=Lib.hid (ST2.out.tr (KCr1 st3)); clear hq3 st3; obtain ⟨q10,r10⟩:=H3.out.fact 10 _ rfl)
 obtain ⟨W4,hW4⟩:∃ W,W=W3.setCell ⟨K.g2,K.F + 10,none⟩ (.int .i64 (numV s)):=⟨_,rfl⟩
 have hs4:=H3.out.set 10 (by omega) (.int .i64 (numV s)) { l with kind:=3,status:=numV s } rfl
 rw [← hW4] at hs4
 try rw [← hW4]
 have H4:=Lib.hid hs4.1
 have ST4:=Lib.hid (ST3.out.tr hs4.2)
 clear hs4 hW4
 clear q10 r10 k0
 go_wp2
 go_end0
 exact (H4).out.done (ST4).out
theorem rl_ret2 (w:World) (o:Ow) (p:Nat) (c:Cf14) (x6 x7:Value) (b:Bool) (h:RfB w o p c x6 x7 b) (hL:LocOk c) (hM:CfB 1099511627776 c) (s t:List UInt8) (hs:s.length ≤ 65536) (ht:t.length ≤ 65536) (A:Option Addr) (ac:Nat) (hr:RdZ w o A (strC [s,t])) :
  Calls Tryz.prog 64 #[.pointer (some ⟨p,0,none⟩),.string ⟨#[114,101,116,117,114,110]⟩,.slice A 2 ac] w (RoQ w o p (doT .ret [s,t] c).1 x6 x7 (b || numE s)):=by
 obtain ⟨K,l,hh,HE,hm,hm2,h5,h2⟩:=LcA.open_ h hL hM
 rw [show (doT .ret [s,t] c).1=K.cfg { l with kind:=3,status:=numV s,goal:=t } from HE _]
 have H0:=Lib.hid hh
 obtain ⟨bA,gA,rfl,hak⟩:=arg0 hr
 have FA:=Lib.hid hak
 clear hr hak
 clear h hL hM hh HE
 have e1:IntKind.i64.wrap (K.a.length:Int)=(K.a.length:Int):=by rw [IntKind.wrap_i64]; omega
 have e2:(K.a.length:Int) < (K.a.length:Int) + 1:=by omega
 have e3:IntKind.i64.wrap (K.lo.length:Int)=(K.lo.length:Int):=by rw [IntKind.wrap_i64]; omega
 have e4:(K.lo.length:Int) < (K.lo.length:Int) + 1:=by omega
 go_enter Tryz.func64,Tryz.ntmps64
 go_wp2
 go_quiet (fail)
 go_upto_region 1 with (fail)
 go_quiet (fail)
 go_upto_region 2 with (fail)
 clear h5 h2 e1 e2 e3 e4 hm hm2
 refine (fun (h:∀ W9,Ext w W9 → Code.wp _ _ _ _ W9)=>h _ (by (repeat first | exact Ex0 | assumption | refine Ex1 ?_ | refine Ex2 ?_ | refine Ex3 ?_ | refine Ex4 ?_ | refine Ex5 ?_))) ?_
 intro W1 hx1
 rw [← H0.out.hF]
 have H1:=Lib.hid (H0.out.ext hx1)
 have ST1:Hid (Stp KCr w o W1 o):=Lib.hid (Stp.ext hx1)
 clear hx1
 obtain ⟨q1,r1⟩:=H1.out.fact 1 _ rfl
 go_upto_region 22 with (fail)
 obtain ⟨W2,hW2⟩:∃ W,W=W1.setCell ⟨K.g2,K.F + 1,none⟩ (.int .i64 3):=⟨_,rfl⟩
 have hs2:=H1.out.set 1 (by omega) (.int .i64 3) { l with kind:=3 } rfl
 rw [← hW2] at hs2
 try rw [← hW2]
 have H2:=Lib.hid hs2.1
 have ST2:=Lib.hid (ST1.out.tr hs2.2)
 clear hs2 hW2
 clear q1 r1
 have k0:W2.cell? ⟨bA,gA,none⟩=some (.string (str s)):=FA.out KCr W2 o (ST2).out kc0 0 _ rfl
 go_upto_region 23 with (go_at_call 109; refine (H2.out.num s hs).mono ?_; rintro e' W3 ⟨rfl,st3,hq3⟩; have H3:=Lib.hid hq3; have ST3:=Lib.hid (ST2.out.tr (KCr1 st3)); clear hq3 st3; obtain ⟨q10,r10⟩:=H3.out.fact 10 _ rfl)
 obtain ⟨W4,hW4⟩:∃ W,W=W3.setCell ⟨K.g2,K.F + 10,none⟩ (.int .i64 (numV s)):=⟨_,rfl⟩
 have hs4:=H3.out.set 10 (by omega) (.int .i64 (numV s)) { l with kind:=3,status:=numV s } rfl
 rw [← hW4] at hs4
 try rw [← hW4]
 have H4:=Lib.hid hs4.1
 have ST4:=Lib.hid (ST3.out.tr hs4.2)
 clear hs4 hW4
 clear q10 r10 k0
 obtain ⟨q11,r11⟩:=H4.out.fact 11 _ rfl
 have k1:W4.cell? ⟨bA,gA + 1,none⟩=some (.string (str t)):=FA.out KCr W4 o (ST4).out kc0 1 _ rfl
 go_wp2
 obtain ⟨W5,hW5⟩:∃ W,W=W4.setCell ⟨K.g2,K.F + 11,none⟩ (.string (str t)):=⟨_,rfl⟩
 have hs5:=H4.out.set 11 (by omega) (.string (str t)) { l with kind:=3,status:=numV s,goal:=t } rfl
 rw [← hW5] at hs5
 try rw [← hW5]
 have H5:=Lib.hid hs5.1
 have ST5:=Lib.hid (ST4.out.tr hs5.2)
 clear hs5 hW5
 go_end0
 exact (H5).out.done (ST5).out
end Go.Proofs.YtmnohicojefhfaaGreatDoor
end
section
namespace Go.Proofs.YtmnohicojefhfaaGreatDoor
open Go.RowKit
structure UpCx where
 c:Cf14
 a:List (Up14 × Hd)
 g:Nat
 f:Nat
 uc:Nat
 S:List (Sr14 × Hd × Hd)
 SA:Option Addr
 sc:Nat
 F:Nat
def UpCx.cfg (K:UpCx) (x:Up14 × Hd):Cf14:={ K.c with ups:=(K.a ++ [x]).map (·.1) }
structure UpA (K:UpCx) (w:World) (o:Ow) (p:Nat) (X:Xt) (x:Up14 × Hd):Prop where
 r:Rf0 w o p (K.cfg x) X (K.a ++ [x]) (some ⟨K.g,K.f,none⟩) K.uc K.S K.SA K.sc
 hF:K.F=K.f + K.a.length * 4
structure SrCx where
 c:Cf14
 U:List (Up14 × Hd)
 UA:Option Addr
 uc:Nat
 a:List (Sr14 × Hd × Hd)
 g:Nat
 f:Nat
 sc:Nat
 F:Nat
def SrCx.cfg (K:SrCx) (x:Sr14 × Hd × Hd):Cf14:={ K.c with srvs:=(K.a ++ [x]).map (·.1) }
structure SrA (K:SrCx) (w:World) (o:Ow) (p:Nat) (X:Xt) (x:Sr14 × Hd × Hd):Prop where
 r:Rf0 w o p (K.cfg x) X K.U K.UA K.uc (K.a ++ [x]) (some ⟨K.g,K.f,none⟩) K.sc
 hF:K.F=K.f + K.a.length * 3
section
variable {K:UpCx} {w w':World} {o o':Ow} {p:Nat} {X:Xt} {x:Up14 × Hd}
theorem UpA.ext (h:UpA K w o p X x) (e:Ext w w'):UpA K w' o p X x:=⟨h.r.ext e,h.hF⟩
theorem UpA.fact (h:UpA K w o p X x) (j:Nat) (u:Value) (hu:(upV x)[j]?=some u):w.cell? ⟨K.g,K.F + j,none⟩=some u∧w.frozen? ⟨K.g,K.F + j,none⟩=false:=by
 obtain ⟨a2,x2,g2,f2,e1,e2,_,_,_,hc⟩:=h.r.upX (by unfold UpCx.cfg; simp)
 obtain ⟨e3,e4⟩:=List.append_inj' e1 rfl
 cases e2
 cases e4
 rw [h.hF,e3]
 exact hc j u hu
theorem UpA.og (h:UpA K w o p X x):o K.g=2∧K.g < w.heap.size:=by
 obtain ⟨g',f',hA',ho,hl,_⟩:=h.r.ups.cells (by unfold UpCx.cfg; simp)
 cases hA'; exact ⟨ho,hl⟩
theorem UpA.set (h:UpA K w o p X x) (j:Nat) (hj:j < 4) (u:Value) (y:Up14) (hp:y.peers=x.1.peers) (hv:upV (y,x.2)=(upV x).set j u):UpA K (w.setCell ⟨K.g,K.F + j,none⟩ u) o p X (y,x.2)∧Stp KCr w o (w.setCell ⟨K.g,K.F + j,none⟩ u) o:=by
 have hpe:=(list_one h.r.peers).2
 have:=h.r.up5 (w5:=w) (o5:=o) Stp.rfl' (y,x.2) (by dsimp only; rw [hp]; exact hpe) j hj u hv
 rw [← Nat.add_assoc,← h.hF] at this
 exact ⟨⟨this.1,h.hF⟩,this.2⟩
theorem UpA.peers (h:UpA K w o p X x):Sl w o (10 + 3 * K.a.length) 2 x.2.1 x.1.peers.length x.2.2 (x.1.peers.flatMap peV)∧(x.2.1=none → x.2.2=0):=(list_one h.r.peers).2
theorem UpA.put (h:UpA K w o p X x) {w5:World} {o5:Ow} {A5:Option Addr} {c5:Nat} (z:Pe14) (hs:Sl w5 o5 (10 + 3 * K.a.length) 2 A5 (x.1.peers.length + 1) c5 (x.1.peers.flatMap peV ++ peV z)) (st:Stp (fun i=>i=10 + 3 * K.a.length) w o w5 o5) (hn:A5=none → c5=0) :
  UpA K (w5.setCell ⟨K.g,K.F + 1,none⟩ (.slice A5 (x.1.peers.length + 1) c5)) o5 p X ({ x.1 with peers:=x.1.peers ++ [z] },(A5,c5))∧Stp KCr w o (w5.setCell ⟨K.g,K.F + 1,none⟩ (.slice A5 (x.1.peers.length + 1) c5)) o5:=by
 have:=h.r.up5 st ({ x.1 with peers:=x.1.peers ++ [z] },(A5,c5)) ⟨by rw [List.length_append,List.length_singleton,List.flatMap_append]; simpa using hs,hn⟩ 1 (by omega) (.slice A5 (x.1.peers.length + 1) c5) (by simp [upV])
 rw [← Nat.add_assoc,← h.hF] at this
 exact ⟨⟨this.1,h.hF⟩,this.2⟩
theorem UpA.num {x6 x7:Value} {b:Bool} (h:UpA K w o p (x6,x7,.bool b) x) (s:List UInt8) (hs:s.length ≤ 65536) :
  Calls Tryz.prog 109 #[.pointer (some ⟨p,0,none⟩),.string (str s)] w fun e w'=>e=.returned (.int .i64 (numV s))∧Stp (fun i=>i=1) w o w' o∧UpA K w' o p (x6,x7,.bool (b || numE s)) x :=
 (rnumber_r w o p _ _ _ x6 x7 b _ _ _ _ h.r s hs).mono fun _ _ ⟨h1,h2,h3⟩=>⟨h1,h2,h3,h.hF⟩
theorem UpA.open_ {c:Cf14} {x6 x7:Value} {b:Bool} (h:RfB w o p c x6 x7 b) (hne:c.ups ≠ []) (hM:CfB 1048576 c):∃ K x,UpA K w o p (x6,x7,.bool b) x∧(∀ G d,cfUp c G=K.cfg (G x.1,d))∧K.a.length < 1099511627776∧x.1.peers.length ≤ 1048576 ∧
  w.cell? ⟨p,4,none⟩=some (.slice (some ⟨K.g,K.f,none⟩) (K.a.length + 1) K.uc):=by
 obtain ⟨U,UA,uc,S,SA,sc,h⟩:=h
 obtain ⟨a,x,g,f,rfl,rfl,hl,hcs,hg,hce⟩:=h.upX hne
 have h4:=h.c4
 rw [hl] at h4
 refine ⟨⟨c,a,g,f,uc,S,SA,sc,f + a.length * 4⟩,x,⟨?_,rfl⟩,fun G d=>cfUp_eq hcs G d,by have:=hM.ups; show a.length < _; omega,hM.peers x.1 (by rw [hcs]; simp),h4⟩
 have e:(⟨c,a,g,f,uc,S,SA,sc,f + a.length * 4⟩:UpCx).cfg x=c:=by
  unfold UpCx.cfg
  dsimp only
  rw [List.map_append]
  show { c with ups:=a.map (·.1) ++ [x.1] }=c
  rw [← hcs]
 rw [e]
 exact h
theorem UpA.done {x6 x7:Value} {b:Bool} (h:UpA K w' o' p (x6,x7,.bool b) x) (st:Stp KCr w o w' o'):RoQ w o p (K.cfg x) x6 x7 b (.returned (.tuple #[])) w':=⟨rfl,o',st,_,_,_,_,_,_,h.r⟩
end
section
variable {K:SrCx} {w w':World} {o o':Ow} {p:Nat} {X:Xt} {x:Sr14 × Hd × Hd}
theorem SrA.ext (h:SrA K w o p X x) (e:Ext w w'):SrA K w' o p X x:=⟨h.r.ext e,h.hF⟩
theorem SrA.fact (h:SrA K w o p X x) (j:Nat) (u:Value) (hu:(srV x)[j]?=some u):w.cell? ⟨K.g,K.F + j,none⟩=some u∧w.frozen? ⟨K.g,K.F + j,none⟩=false:=by
 obtain ⟨a2,x2,g2,f2,e1,e2,_,_,_,hc⟩:=h.r.srX (by unfold SrCx.cfg; simp)
 obtain ⟨e3,e4⟩:=List.append_inj' e1 rfl
 cases e2
 cases e4
 rw [h.hF,e3]
 exact hc j u hu
theorem SrA.og (h:SrA K w o p X x):o K.g=3∧K.g < w.heap.size:=by
 obtain ⟨g',f',hA',ho,hl,_⟩:=h.r.srvs.cells (by unfold SrCx.cfg; simp)
 cases hA'; exact ⟨ho,hl⟩
theorem SrA.names (h:SrA K w o p X x):Sl w o (11 + 3 * K.a.length) 1 x.2.1.1 x.1.names.length x.2.1.2 (strC x.1.names)∧(x.2.1.1=none → x.2.1.2=0):=(list_one h.r.names).2
theorem SrA.locs (h:SrA K w o p X x):Sl w o (12 + 3 * K.a.length) 12 x.2.2.1 x.1.locs.length x.2.2.2 (x.1.locs.flatMap loV)∧(x.2.2.1=none → x.2.2.2=0):=(list_one h.r.locs).2
theorem SrA.dflt (h:SrA K w o p X x):SrA K (w.setCell ⟨K.g,K.F + 1,none⟩ (.bool true)) o p X ({ x.1 with dflt:=true },x.2)∧Stp KCr w o (w.setCell ⟨K.g,K.F + 1,none⟩ (.bool true)) o:=by
 have:=h.r.sr5 (w5:=w) (o5:=o) Stp.rfl' ({ x.1 with dflt:=true },x.2) h.names h.locs 1 (by omega) (.bool true) rfl
 rw [← Nat.add_assoc,← h.hF] at this
 exact ⟨⟨this.1,h.hF⟩,this.2⟩
theorem SrA.putN (h:SrA K w o p X x) {w5:World} {o5:Ow} {A5:Option Addr} {c5:Nat} (a:List (List UInt8)) (hs:Sl w5 o5 (11 + 3 * K.a.length) 1 A5 (x.1.names.length + a.length) c5 (strC x.1.names ++ strC a)) (st:Stp (fun i=>i=11 + 3 * K.a.length) w o w5 o5) (hn:A5=none → c5=0) :
  SrA K (w5.setCell ⟨K.g,K.F,none⟩ (.slice A5 (x.1.names.length + a.length) c5)) o5 p X ({ x.1 with names:=x.1.names ++ a },((A5,c5),x.2.2))∧Stp KCr w o (w5.setCell ⟨K.g,K.F,none⟩ (.slice A5 (x.1.names.length + a.length) c5)) o5:=by
 have:=h.r.sr5 (st.mono fun i hi=>.inl hi) ({ x.1 with names:=x.1.names ++ a },((A5,c5),x.2.2)) ⟨by rw [List.length_append]; simpa [strC] using hs,hn⟩ ⟨h.locs.1.stp st (by omega),h.locs.2⟩ 0 (by omega) (.slice A5 (x.1.names.length + a.length) c5) (by simp [srV])
 rw [← Nat.add_assoc,← h.hF,Nat.add_zero] at this
 exact ⟨⟨this.1,h.hF⟩,this.2⟩
theorem SrA.putL (h:SrA K w o p X x) {w5:World} {o5:Ow} {A5:Option Addr} {c5:Nat} (l:Lo14) (hs:Sl w5 o5 (12 + 3 * K.a.length) 12 A5 (x.1.locs.length + 1) c5 (x.1.locs.flatMap loV ++ loV l)) (st:Stp (fun i=>i=12 + 3 * K.a.length) w o w5 o5) (hn:A5=none → c5=0) :
  SrA K (w5.setCell ⟨K.g,K.F + 2,none⟩ (.slice A5 (x.1.locs.length + 1) c5)) o5 p X ({ x.1 with locs:=x.1.locs ++ [l] },(x.2.1,(A5,c5)))∧Stp KCr w o (w5.setCell ⟨K.g,K.F + 2,none⟩ (.slice A5 (x.1.locs.length + 1) c5)) o5:=by
 have:=h.r.sr5 (st.mono fun i hi=>.inr hi) ({ x.1 with locs:=x.1.locs ++ [l] },(x.2.1,(A5,c5))) ⟨h.names.1.stp st (by omega),h.names.2⟩ ⟨by rw [List.length_append,List.length_singleton,List.flatMap_append]; simpa using hs,hn⟩ 2 (by omega) (.slice A5 (x.1.locs.length + 1) c5) (by simp [srV])
 rw [← Nat.add_assoc,← h.hF] at this
 exact ⟨⟨this.1,h.hF⟩,this.2⟩
theorem SrA.open_ {c:Cf14} {x6 x7:Value} {b:Bool} (h:RfB w o p c x6 x7 b) (hne:c.srvs ≠ []) (hM:CfB 1048576 c):∃ K x,SrA K w o p (x6,x7,.bool b) x∧(∀ G d,cfSr c G=K.cfg (G x.1,d))∧K.a.length < 1099511627776∧x.1.names.length ≤ 1048576∧x.1.locs.length ≤ 1048576 ∧
  w.cell? ⟨p,5,none⟩=some (.slice (some ⟨K.g,K.f,none⟩) (K.a.length + 1) K.sc):=by
 obtain ⟨U,UA,uc,S,SA,sc,h⟩:=h
 obtain ⟨a,x,g,f,rfl,rfl,hl,hcs,hg,hce⟩:=h.srX hne
 have h5:=h.c5
 rw [hl] at h5
 refine ⟨⟨c,U,UA,uc,a,g,f,sc,f + a.length * 3⟩,x,⟨?_,rfl⟩,fun G d=>cfSr_eq hcs G d,by have:=hM.srvs; show a.length < _; omega,hM.names x.1 (by rw [hcs]; simp),hM.locs x.1 (by rw [hcs]; simp),h5⟩
 have e:(⟨c,U,UA,uc,a,g,f,sc,f + a.length * 3⟩:SrCx).cfg x=c:=by
  unfold SrCx.cfg
  dsimp only
  rw [List.map_append]
  show { c with srvs:=a.map (·.1) ++ [x.1] }=c
  rw [← hcs]
 rw [e]
 exact h
theorem SrA.done {x6 x7:Value} {b:Bool} (h:SrA K w' o' p (x6,x7,.bool b) x) (st:Stp KCr w o w' o'):RoQ w o p (K.cfg x) x6 x7 b (.returned (.tuple #[])) w':=⟨rfl,o',st,_,_,_,_,_,_,h.r⟩
end
theorem slt_upR:SlT Tryz.prog 29 84 (.agg #[.string ⟨#[]⟩,.slice none 0 0,.int .i64 0,.int .i64 0]) 4 56:=⟨Tryz.underlying29,by kernel_rfl,rfl,by omega⟩
theorem slt_srR:SlT Tryz.prog 30 88 (.agg #[.slice none 0 0,.bool false,.slice none 0 0]) 3 56:=⟨Tryz.underlying30,by kernel_rfl,rfl,by omega⟩
theorem slt_peR:SlT Tryz.prog 82 85 (.agg #[.int .i64 0,.int .i64 0]) 2 16:=⟨Tryz.underlying82,by kernel_rfl,rfl,by omega⟩
theorem slt_loR:SlT Tryz.prog 86 90 (.agg #[.string ⟨#[]⟩,.int .i64 0,.string ⟨#[]⟩,.string ⟨#[]⟩,.int .i64 0,.int .i64 0,.string ⟨#[]⟩,.bool false,.int .i64 0,.int .i64 0,.int .i64 0,.string ⟨#[]⟩]) 12 136:=⟨Tryz.underlying86,by kernel_rfl,rfl,by omega⟩
theorem ro_keep (w:World) (o:Ow) (p:Nat) (c:Cf14) (x6 x7:Value) (b:Bool) (h:RfB w o p c x6 x7 b) (s:List UInt8) (hs:s.length ≤ 65536) (A:Option Addr) (ac:Nat) (hr:RdZ w o A (strC [s])) :
  Calls Tryz.prog 65 #[.pointer (some ⟨p,0,none⟩),.string ⟨#[107,101,101,112]⟩,.slice A 1 ac] w (RoQ w o p (doT .keep [s] c).1 x6 x7 (b || numE s)):=by
 obtain ⟨U,UA,uc,S,SA,sc,h⟩:=h
 have H0:=Lib.hid h
 obtain ⟨bA,gA,rfl,hak⟩:=arg0 hr
 have k0:w.cell? ⟨bA,gA,none⟩=some (.string (str s)):=hak KCr w o Stp.rfl' kc0 0 _ rfl
 clear hr hak h
 go_enter Tryz.func65,Tryz.ntmps65
 go_wp2_with (go_at_call 109; refine (rnumber_r _ o p _ _ _ x6 x7 b _ _ _ _ (H0.out.ext (by (repeat first | exact Ex0 | assumption | refine Ex1 ?_ | refine Ex2 ?_ | refine Ex3 ?_ | refine Ex4 ?_ | refine Ex5 ?_))) s hs).mono ?_; rintro e' w2 ⟨rfl,st2,hq2⟩; have H2:=Lib.hid hq2; clear hq2; obtain ⟨q,r⟩:=row_facts H2.out.row 0 (.int .i64 c.keep) rfl)
 go_end0
 have hT:=H2.out.cell 0 (.int .i64 (numV s)) (c':={ c with keep:=numV s }) (X':=(x6,x7,.bool (b || numE s))) rfl rfl rfl
 exact ⟨rfl,o,(KCr1 st2).tr hT.2,_,_,_,_,_,_,hT.1⟩
theorem ro_body (w:World) (o:Ow) (p:Nat) (c:Cf14) (x6 x7:Value) (b:Bool) (h:RfB w o p c x6 x7 b) (s:List UInt8) (hs:s.length ≤ 65536) (A:Option Addr) (ac:Nat) (hr:RdZ w o A (strC [s])) :
  Calls Tryz.prog 65 #[.pointer (some ⟨p,0,none⟩),.string ⟨#[98,111,100,121]⟩,.slice A 1 ac] w (RoQ w o p (doT .body [s] c).1 x6 x7 (b || numE s)):=by
 obtain ⟨U,UA,uc,S,SA,sc,h⟩:=h
 have H0:=Lib.hid h
 obtain ⟨bA,gA,rfl,hak⟩:=arg0 hr
 have k0:w.cell? ⟨bA,gA,none⟩=some (.string (str s)):=hak KCr w o Stp.rfl' kc0 0 _ rfl
 clear hr hak h
 go_enter Tryz.func65,Tryz.ntmps65
 go_wp2_with (go_at_call 109; refine (rnumber_r _ o p _ _ _ x6 x7 b _ _ _ _ (H0.out.ext (by (repeat first | exact Ex0 | assumption | refine Ex1 ?_ | refine Ex2 ?_ | refine Ex3 ?_ | refine Ex4 ?_ | refine Ex5 ?_))) s hs).mono ?_; rintro e' w2 ⟨rfl,st2,hq2⟩; have H2:=Lib.hid hq2; clear hq2; obtain ⟨q,r⟩:=row_facts H2.out.row 1 (.int .i64 c.body) rfl)
 go_end0
 have hT:=H2.out.cell 1 (.int .i64 (numV s)) (c':={ c with body:=numV s }) (X':=(x6,x7,.bool (b || numE s))) rfl rfl rfl
 exact ⟨rfl,o,(KCr1 st2).tr hT.2,_,_,_,_,_,_,hT.1⟩
theorem ro_store (w:World) (o:Ow) (p:Nat) (c:Cf14) (x6 x7:Value) (b:Bool) (h:RfB w o p c x6 x7 b) (s:List UInt8) (hs:s.length ≤ 65536) (A:Option Addr) (ac:Nat) (hr:RdZ w o A (strC [s])) :
  Calls Tryz.prog 65 #[.pointer (some ⟨p,0,none⟩),.string ⟨#[115,116,111,114,101]⟩,.slice A 1 ac] w (RoQ w o p (doT .store [s] c).1 x6 x7 (b || numE s)):=by
 obtain ⟨U,UA,uc,S,SA,sc,h⟩:=h
 have H0:=Lib.hid h
 obtain ⟨bA,gA,rfl,hak⟩:=arg0 hr
 have k0:w.cell? ⟨bA,gA,none⟩=some (.string (str s)):=hak KCr w o Stp.rfl' kc0 0 _ rfl
 clear hr hak h
 go_enter Tryz.func65,Tryz.ntmps65
 go_wp2_with (go_at_call 109; refine (rnumber_r _ o p _ _ _ x6 x7 b _ _ _ _ (H0.out.ext (by (repeat first | exact Ex0 | assumption | refine Ex1 ?_ | refine Ex2 ?_ | refine Ex3 ?_ | refine Ex4 ?_ | refine Ex5 ?_))) s hs).mono ?_; rintro e' w2 ⟨rfl,st2,hq2⟩; have H2:=Lib.hid hq2; clear hq2; obtain ⟨q,r⟩:=row_facts H2.out.row 2 (.int .i64 c.store) rfl)
 go_end0
 have hT:=H2.out.cell 2 (.int .i64 (numV s)) (c':={ c with store:=numV s }) (X':=(x6,x7,.bool (b || numE s))) rfl rfl rfl
 exact ⟨rfl,o,(KCr1 st2).tr hT.2,_,_,_,_,_,_,hT.1⟩
theorem ro_conns (w:World) (o:Ow) (p:Nat) (c:Cf14) (x6 x7:Value) (b:Bool) (h:RfB w o p c x6 x7 b) (s:List UInt8) (hs:s.length ≤ 65536) (A:Option Addr) (ac:Nat) (hr:RdZ w o A (strC [s])) :
  Calls Tryz.prog 65 #[.pointer (some ⟨p,0,none⟩),.string ⟨#[99,111,110,110,115]⟩,.slice A 1 ac] w (RoQ w o p (doT .conns [s] c).1 x6 x7 (b || numE s)):=by
 obtain ⟨U,UA,uc,S,SA,sc,h⟩:=h
 have H0:=Lib.hid h
 obtain ⟨bA,gA,rfl,hak⟩:=arg0 hr
 have k0:w.cell? ⟨bA,gA,none⟩=some (.string (str s)):=hak KCr w o Stp.rfl' kc0 0 _ rfl
 clear hr hak h
 go_enter Tryz.func65,Tryz.ntmps65
 go_wp2_with (go_at_call 109; refine (rnumber_r _ o p _ _ _ x6 x7 b _ _ _ _ (H0.out.ext (by (repeat first | exact Ex0 | assumption | refine Ex1 ?_ | refine Ex2 ?_ | refine Ex3 ?_ | refine Ex4 ?_ | refine Ex5 ?_))) s hs).mono ?_; rintro e' w2 ⟨rfl,st2,hq2⟩; have H2:=Lib.hid hq2; clear hq2; obtain ⟨q,r⟩:=row_facts H2.out.row 3 (.int .i64 c.conns) rfl)
 go_end0
 have hT:=H2.out.cell 3 (.int .i64 (numV s)) (c':={ c with conns:=numV s }) (X':=(x6,x7,.bool (b || numE s))) rfl rfl rfl
 exact ⟨rfl,o,(KCr1 st2).tr hT.2,_,_,_,_,_,_,hT.1⟩
theorem ro_timeout (w:World) (o:Ow) (p:Nat) (c:Cf14) (x6 x7:Value) (b:Bool) (h:RfB w o p c x6 x7 b) (hne:c.ups ≠ []) (hM:CfB 1048576 c) (s:List UInt8) (hs:s.length ≤ 65536) (A:Option Addr) (ac:Nat) (hr:RdZ w o A (strC [s])) :
  Calls Tryz.prog 65 #[.pointer (some ⟨p,0,none⟩),.string ⟨#[116,105,109,101,111,117,116]⟩,.slice A 1 ac] w (RoQ w o p (doT .timeout [s] c).1 x6 x7 (b || numE s)):=by
 obtain ⟨K,x,hh,HE,hm,_,h4⟩:=UpA.open_ h hne hM
 rw [show (doT .timeout [s] c).1=K.cfg ({ x.1 with timeout:=numV s },x.2) from HE _ x.2]
 have H0:=Lib.hid hh
 obtain ⟨bA,gA,rfl,hak⟩:=arg0 hr
 have FA:=Lib.hid hak
 have e1:IntKind.i64.wrap (K.a.length:Int)=(K.a.length:Int):=by rw [IntKind.wrap_i64]; omega
 have e2:(K.a.length:Int) < (K.a.length:Int) + 1:=by omega
 clear hr hak h hh HE hne hM
 go_enter Tryz.func65,Tryz.ntmps65
 go_upto_region 23 with (fail)
 go_quiet (fail)
 go_upto_region 24 with (fail)
 clear h4 e1 e2 hm
 refine (fun (h:∀ W9,Ext w W9 → Code.wp _ _ _ _ W9)=>h _ (by (repeat first | exact Ex0 | assumption | refine Ex1 ?_ | refine Ex2 ?_ | refine Ex3 ?_ | refine Ex4 ?_ | refine Ex5 ?_))) ?_
 intro W1 hx1
 rw [← H0.out.hF]
 have H1:=Lib.hid (H0.out.ext hx1)
 have k0:W1.cell? ⟨bA,gA,none⟩=some (.string (str s)):=FA.out KCr W1 o (Stp.ext hx1) kc0 0 _ rfl
 go_wp2_with (go_at_call 109; refine (H1.out.num s hs).mono ?_; rintro e' W2 ⟨rfl,st2,hq2⟩; have H2:=Lib.hid hq2; have ST2:=Lib.hid ((Stp.ext hx1).tr (KCr1 st2)); clear hq2 st2; obtain ⟨q,r⟩:=H2.out.fact 2 _ rfl)
 go_end0
 have hT:=H2.out.set 2 (by omega) (.int .i64 (numV s)) { x.1 with timeout:=numV s } rfl rfl
 exact hT.1.done (ST2.out.tr hT.2)
theorem ro_retries (w:World) (o:Ow) (p:Nat) (c:Cf14) (x6 x7:Value) (b:Bool) (h:RfB w o p c x6 x7 b) (hne:c.ups ≠ []) (hM:CfB 1048576 c) (s:List UInt8) (hs:s.length ≤ 65536) (A:Option Addr) (ac:Nat) (hr:RdZ w o A (strC [s])) :
  Calls Tryz.prog 65 #[.pointer (some ⟨p,0,none⟩),.string ⟨#[114,101,116,114,105,101,115]⟩,.slice A 1 ac] w (RoQ w o p (doT .retries [s] c).1 x6 x7 (b || numE s)):=by
 obtain ⟨K,x,hh,HE,hm,_,h4⟩:=UpA.open_ h hne hM
 rw [show (doT .retries [s] c).1=K.cfg ({ x.1 with retries:=numV s },x.2) from HE _ x.2]
 have H0:=Lib.hid hh
 obtain ⟨bA,gA,rfl,hak⟩:=arg0 hr
 have FA:=Lib.hid hak
 have e1:IntKind.i64.wrap (K.a.length:Int)=(K.a.length:Int):=by rw [IntKind.wrap_i64]; omega
 have e2:(K.a.length:Int) < (K.a.length:Int) + 1:=by omega
 clear hr hak h hh HE hne hM
 go_enter Tryz.func65,Tryz.ntmps65
 go_upto_region 23 with (fail)
 go_quiet (fail)
 go_upto_region 24 with (fail)
 clear h4 e1 e2 hm
 refine (fun (h:∀ W9,Ext w W9 → Code.wp _ _ _ _ W9)=>h _ (by (repeat first | exact Ex0 | assumption | refine Ex1 ?_ | refine Ex2 ?_ | refine Ex3 ?_ | refine Ex4 ?_ | refine Ex5 ?_))) ?_
 intro W1 hx1
 rw [← H0.out.hF]
 have H1:=Lib.hid (H0.out.ext hx1)
 have k0:W1.cell? ⟨bA,gA,none⟩=some (.string (str s)):=FA.out KCr W1 o (Stp.ext hx1) kc0 0 _ rfl
 go_wp2_with (go_at_call 109; refine (H1.out.num s hs).mono ?_; rintro e' W2 ⟨rfl,st2,hq2⟩; have H2:=Lib.hid hq2; have ST2:=Lib.hid ((Stp.ext hx1).tr (KCr1 st2)); clear hq2 st2; obtain ⟨q,r⟩:=H2.out.fact 3 _ rfl)
 go_end0
 have hT:=H2.out.set 3 (by omega) (.int .i64 (numV s)) { x.1 with retries:=numV s } rfl rfl
 exact hT.1.done (ST2.out.tr hT.2)
theorem ro_upstream (w:World) (o:Ow) (p:Nat) (c:Cf14) (x6 x7:Value) (b:Bool) (h:RfB w o p c x6 x7 b) (hM:CfB 1048576 c) (s:List UInt8) (A:Option Addr) (ac:Nat) (hr:RdZ w o A (strC [s])) :
  Calls Tryz.prog 65 #[.pointer (some ⟨p,0,none⟩),.string ⟨#[117,112,115,116,114,101,97,109]⟩,.slice A 1 ac] w (RoQ w o p (doT .upstream [s] c).1 x6 x7 b):=by
 obtain ⟨U,UA,uc,S,SA,sc,h⟩:=h
 obtain ⟨bA,gA,rfl,hak⟩:=arg0 hr
 have FA:=Lib.hid hak
 have hub:=hM.ups
 obtain ⟨A5,c5,w5,o5,hr5,hs5,st5,hn5⟩:=run_put slt_upR (tx:=29) 29 (w:=(w.alloc (.cells #[.string (str s),.slice none 0 0,.int .i64 10,.int .i64 1] 84)).drew) (o:=o) (h.ups.ext (by (repeat first | exact Ex0 | assumption | refine Ex1 ?_ | refine Ex2 ?_ | refine Ex3 ?_ | refine Ex4 ?_ | refine Ex5 ?_))) h.una (Sl.src Tryz.underlying29 (n:=1) ((rd_newV w _ rfl #[.string (str s),.slice none 0 0,.int .i64 10,.int .i64 1] 84).ext (by (repeat first | exact Ex0 | assumption | refine Ex1 ?_ | refine Ex2 ?_ | refine Ex3 ?_ | refine Ex4 ?_ | refine Ex5 ?_))) (by simp) (by omega) (by simp [Value.oneCell']) 1) (by omega) (by simp only [maxLen]; omega)
 have st5':Stp (fun i=>i=2) w o w5 o5:=(Stp.ext (by (repeat first | exact Ex0 | assumption | refine Ex1 ?_ | refine Ex2 ?_ | refine Ex3 ?_ | refine Ex4 ?_ | refine Ex5 ?_))).tr (st5.mono fun i hi=>hi.2)
 have hN:=h.upN st5' ⟨s,[],10,1⟩ rfl hs5 hn5
 have HT:Hid (RoQ w o p (doT .upstream [s] c).1 x6 x7 b (.returned (.tuple #[])) (w5.setCell ⟨p,4,none⟩ (.slice A5 (c.ups.length + 1) c5))):=Lib.hid ⟨rfl,o5,hN.2,_,_,_,_,_,_,hN.1⟩
 have r5:=Lib.hid ((st5'.keep p h.lt (by rw [h.own]; omega)).trans h.row)
 have q5:w5.cell? ⟨p,4,none⟩=some (.slice UA c.ups.length uc):=(row_facts r5.out 4 _ rfl).1
 have f5:=(row_facts r5.out 4 (.slice UA c.ups.length uc) rfl).2
 have q0:=h.c4
 have qA:(w.alloc (.cells #[.string (str s),.slice none 0 0,.int .i64 10,.int .i64 1] 84)).cell? ⟨p,4,none⟩=some (.slice UA c.ups.length uc):=(h.ext (by (repeat first | exact Ex0 | assumption | refine Ex1 ?_ | refine Ex2 ?_ | refine Ex3 ?_ | refine Ex4 ?_ | refine Ex5 ?_))).c4
 have k0:w.cell? ⟨bA,gA,none⟩=some (.string (str s)):=hak KCr w o Stp.rfl' kc0 0 _ rfl
 have kA:(w.alloc (.cells #[.string (str s),.slice none 0 0,.int .i64 10,.int .i64 1] 84)).cell? ⟨bA,gA,none⟩=some (.string (str s)):=hak KCr _ o (Stp.ext (by (repeat first | exact Ex0 | assumption | refine Ex1 ?_ | refine Ex2 ?_ | refine Ex3 ?_ | refine Ex4 ?_ | refine Ex5 ?_))) kc0 0 _ rfl
 obtain ⟨n,hn⟩:∃ n,n=c.ups.length:=⟨_,rfl⟩
 obtain ⟨sv,hsv⟩:∃ v,v=str s:=⟨_,rfl⟩
 rw [← hn] at hr5 HT q5 q0 qA
 rw [← hsv] at hr5 k0 qA kA
 clear hn hsv hN st5' hs5 st5 hub FA h hr hak
 go_enter Tryz.func65,Tryz.ntmps65
 go_upto_region 17 with (fail)
 go_region_law (first
  | (refine step_run (.tmp 105) (.tmp 110) rfl rfl rfl rfl hr5 ?_))
 all_goals go_wp2
 all_goals go_end0
 all_goals exact HT.out
theorem ro_server (w:World) (o:Ow) (p:Nat) (c:Cf14) (x6 x7:Value) (b:Bool) (h:RfB w o p c x6 x7 b) (hM:CfB 1048576 c) (B:Value) :
  Calls Tryz.prog 65 #[.pointer (some ⟨p,0,none⟩),.string ⟨#[115,101,114,118,101,114]⟩,B] w (RoQ w o p (doT .server [] c).1 x6 x7 b):=by
 obtain ⟨U,UA,uc,S,SA,sc,h⟩:=h
 have hub:=hM.srvs
 have HC:=Lib.hid h
 have q0:=h.c5
 obtain ⟨n,hn⟩:∃ n,n=c.srvs.length:=⟨_,rfl⟩
 rw [← hn] at q0 hub
 have HN:=Lib.hid hn
 clear hn h
 go_enter Tryz.func65,Tryz.ntmps65
 go_wp2_with (first
  | (at_builtin; refine wpL_put slt_srR (.tmp 122) (.tmp 124) rfl rfl rfl rfl (by rw [HN.out]; exact HC.out.srvs.ext (by (repeat first | exact Ex0 | assumption | refine Ex1 ?_ | refine Ex2 ?_ | refine Ex3 ?_ | refine Ex4 ?_ | refine Ex5 ?_))) HC.out.sna (Sl.src Tryz.underlying30 (n:=1) (rd_newV w _ rfl #[.slice none 0 0,.bool false,.slice none 0 0] 88) (by simp) (by omega) (by simp [Value.oneCell']) _) (by omega) (by simp only [maxLen]; omega) ?_; intro A5 c5 w5 o5 hs5 st5 hn5; have st5':Stp (fun i=>i=3) w o w5 o5:=(Stp.ext (by (repeat first | exact Ex0 | assumption | refine Ex1 ?_ | refine Ex2 ?_ | refine Ex3 ?_ | refine Ex4 ?_ | refine Ex5 ?_))).tr st5; have hT:=HC.out.srN st5' (by rw [← HN.out]; exact hs5) hn5; have HT:Hid (RoQ w o p (doT .server [] c).1 x6 x7 b (.returned (.tuple #[])) (w5.setCell ⟨p,5,none⟩ (.slice A5 (c.srvs.length + 1) c5))):=Lib.hid ⟨rfl,o5,hT.2,_,_,_,_,_,_,hT.1⟩; rw [← HN.out] at HT; have r5:=Lib.hid ((st5'.keep p HC.out.lt (by rw [HC.out.own]; omega)).trans HC.out.row); have q5:w5.cell? ⟨p,5,none⟩=some (.slice SA c.srvs.length sc):=(row_facts r5.out 5 _ rfl).1; have f5:=(row_facts r5.out 5 (.slice SA c.srvs.length sc) rfl).2; clear hT st5' hs5 st5))
 go_end0
 exact HT.out
end Go.Proofs.YtmnohicojefhfaaGreatDoor
end
