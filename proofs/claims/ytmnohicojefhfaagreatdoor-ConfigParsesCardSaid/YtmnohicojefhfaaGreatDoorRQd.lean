/-
The reference's reader: did a directive come in this block, and may it not?
-/
import Derived.Test.YtmnohicojefhfaaGreatDoorRq7
import Derived.Test.YtmnohicojefhfaaGreatDoorCFi
set_option maxRecDepth 100000
set_option maxHeartbeats 8000000
set_option linter.unusedVariables false
set_option linter.unusedSimpArgs false
section
namespace Go.Proofs.YtmnohicojefhfaaGreatDoor
open Go.RowKit
def hdV (x:Hd × List (List UInt8)):List Value:=[.slice x.1.1 x.2.length x.1.2]
theorem hdV_len (x:Hd × List (List UInt8)):(hdV x).length=1:=rfl
def AgQ (w:World) (o:Ow) (C0:List (Hd × List (List UInt8))) (L:List (List UInt8)) (CA:Option Addr) (cc:Nat) (kd:List UInt8) (m:Bool) (e:Ending) (w':World):Prop :=
 e=.returned (.bool m)∧∃ o' A5 c5,Stp (fun i=>i=5 ∨ i=6 + C0.length) w o w' o'∧Sl w' o' (6 + C0.length) 1 A5 (L.length + 1) c5 (strC (L ++ [kd]))∧(A5=none → c5=0)∧Sl w' o' 5 1 CA (C0.length + 1) cc ((C0 ++ [((A5,c5),L ++ [kd])]).flatMap hdV)
theorem ct_take (L:List (List UInt8)) (kd:List UInt8) (i:Nat) (h:i < L.length):(L.take (i + 1)).contains kd=((L.take i).contains kd || (kd == L[i])):=by
 rw [List.take_succ_eq_append_getElem h,List.contains_eq_any_beq,List.contains_eq_any_beq,List.any_append]
 simp
theorem rag_A (w:World) (o:Ow) (p:Nat) (c:Cf14) (x6:Value) (b:Bool) (U:List (Up14 × Hd)) (UA:Option Addr) (uc:Nat) (S:List (Sr14 × Hd × Hd)) (SA:Option Addr) (sc:Nat) (C0:List (Hd × List (List UInt8))) (x:Hd × List (List UInt8)) (CA:Option Addr) (cc:Nat) (h:Rf0 w o p c (x6,.slice CA (C0.length + 1) cc,.bool b) U UA uc S SA sc) (hc:Sl w o 5 1 CA (C0.length + 1) cc ((C0 ++ [x]).flatMap hdV)) (hcn:CA=none → cc=0) (hx:Sl w o (6 + C0.length) 1 x.1.1 x.2.length x.1.2 (strC x.2)) (hxn:x.1.1=none → x.1.2=0) (hl:C0.length ≤ 2) (hL:x.2.length ≤ 65536) (kd:List UInt8) (kv:ByteArray) (hkv:kv=str kd) (M:Bool) (nproxy:¬ kv.toList=[112,114,111,120,121]) (nret:¬ kv.toList=[114,101,116,117,114,110]) (hs:(¬ kv.toList=[112,101,101,114]∧¬ kv.toList=[117,112,115,116,114,101,97,109]∧¬ kv.toList=[115,101,114,118,101,114]∧¬ kv.toList=[110,97,109,101]∧¬ kv.toList=[108,111,99,97,116,105,111,110]∧x.2.contains kd=M) ∨ (kd=[112,101,101,114]∧M=false) ∨ (kd=[117,112,115,116,114,101,97,109]∧M=false) ∨ (kd=[115,101,114,118,101,114]∧M=false) ∨ (kd=[110,97,109,101]∧M=false) ∨ (kd=[108,111,99,97,116,105,111,110]∧M=false)) :
  Calls Tryz.prog 63 #[.pointer (some ⟨p,0,none⟩),.string kv] w (AgQ w o C0 x.2 CA cc kd M):=by
 have bproxy:(kv.toList == [112,114,111,120,121])=false:=beq_eq_false_iff_ne.2 nproxy
 have bret:(kv.toList == [114,101,116,117,114,110])=false:=beq_eq_false_iff_ne.2 nret
 obtain ⟨gc,fc,rfl,og,hgl,hcc,hcf⟩:=hc.cells (by omega)
 have q7:w.cell? ⟨p,7,none⟩=some (.slice (some ⟨gc,fc,none⟩) (C0.length + 1) cc):=(row_facts h.row 7 _ rfl).1
 have qk:w.cell? ⟨gc,fc + C0.length,none⟩=some (.slice x.1.1 x.2.length x.1.2):=hcc C0.length _ (by have:=flat_last hdV 1 hdV_len C0 x 0; rw [Nat.mul_one,Nat.add_zero] at this; exact this)
 have fk:=hcf C0.length (by omega)
 have op:=h.own
 have hpl:=h.lt
 have hxa:Ext w (w.alloc (.cells #[.string kv] 9)):=(Ext.rfl' _).al _
 have q7a:=(hxa.cell (lt_of_cell q7)).trans q7
 have qka:=(hxa.cell (lt_of_cell qk)).trans qk
 have Q7:=Lib.hid q7
 have QK:=Lib.hid qk
 have FK:=Lib.hid fk
 have HX:=Lib.hid hx
 have HXN:=Lib.hid hxn
 have HC:=Lib.hid hc
 have OG:=Lib.hid og
 have OP:=Lib.hid op
 have HKV:=Lib.hid hkv
 obtain ⟨mm,hmm⟩:∃ m,m=x.2.contains kd:=⟨_,rfl⟩
 have HMN:=Lib.hid hmm
 have e1:IntKind.i64.wrap (C0.length:Int)=(C0.length:Int):=by rw [IntKind.wrap_i64]; omega
 have e2:(C0.length:Int) < (C0.length:Int) + 1:=by omega
 have e3:(0:Int) ≤ (C0.length:Int):=by omega
 clear hmm h hc hcn hx hxn hcc hcf og op hkv fk hxa q7a qka
 rw [← HMN.out] at hs
 have HS:=Lib.hid hs
 clear hs
 go_enter Tryz.func63,Tryz.ntmps63
 go_wp2
 go_loopw [7,8] (fun v7 v8 wr=>∃ (i:Nat) (m:Bool),v7=.bool m∧v8=.int .i64 (i:Int)∧i ≤ x.2.length∧Hid (m=(x.2.take i).contains kd)∧w=wr) (fun _ v8 _=>x.2.length - (intOf v8).toNat)
 case atStart=>exact ⟨0,false,rfl,rfl,Nat.zero_le _,Lib.hid (by simp),rfl⟩
 case round =>
  obtain ⟨i,m,rfl,rfl,hi,HM,rfl⟩:=hrel
  by_cases hlt:i < x.2.length
  ·obtain ⟨bb,gg,hA,hce⟩:∃ b g,x.1.1=some ⟨b,g,none⟩∧w.cell? ⟨b,g + i,none⟩=some (.string (str x.2[i])):=by
    rcases HX.out.rd with h | ⟨b,g,hA,hc⟩
    ·have:=congrArg List.length h
     simp [strC] at this
     rw [this] at hlt
     exact absurd hlt (Nat.not_lt_zero _)
    ·exact ⟨b,g,hA,hc i _ (by simp [strC,hlt])⟩
   have HCT:=Lib.hid (ct_take x.2 kd i hlt)
   obtain ⟨y,hy⟩:∃ y,y=x.2[i]:=⟨_,rfl⟩
   rw [← hy] at hce HCT
   obtain ⟨sq,hsq⟩:∃ s,s=str y:=⟨_,rfl⟩
   rw [← hsq] at hce
   have i0:(0:Int) ≤ (i:Int):=by omega
   have i1:(i:Int) < (x.2.length:Int):=by omega
   have hkk:IntKind.i64.wrap ((i:Int) + 1)=((i + 1:Nat):Int):=by rw [IntKind.wrap_i64]; omega
   rw [hA] at qk
   clear hy hA
   cases m with
   | true =>
    clear hsq hce
    go_wp2
    go_roundw
    case rel=>exact ⟨i + 1,true,rfl,by simp,by omega,Lib.hid (by rw [HCT.out,← HM.out]; rfl),by trivial⟩
    case measure=>simp [intOf]; omega
   | false =>
    by_cases he:kd=y
    ·have hsk:sq=kv:=by rw [hsq,HKV.out,he]
     subst hsk
     have HE:=Lib.hid he
     clear hsq he
     go_wp2
     go_roundw
     case rel=>exact ⟨i + 1,true,rfl,by simp,by omega,Lib.hid (by rw [HCT.out,← HM.out,HE.out]; simp),by trivial⟩
     case measure=>simp [intOf]; omega
    ·have HE:=Lib.hid (show (kd == y)=false from beq_eq_false_iff_ne.2 he)
     have g1:¬ sq.toList=kv.toList:=by rw [hsq,HKV.out,str_tl,str_tl]; exact fun e=>he e.symm
     have g2:(sq.toList == kv.toList)=false:=beq_eq_false_iff_ne.2 g1
     clear hsq he
     go_wp2
     go_roundw
     case rel=>exact ⟨i + 1,false,rfl,by simp,by omega,Lib.hid (by rw [HCT.out,← HM.out,HE.out]; rfl),by trivial⟩
     case measure=>simp [intOf]; omega
  ·have i1:¬ (i:Int) < (x.2.length:Int):=by omega
   have HMM:Hid (m=x.2.contains kd):=Lib.hid (by rw [HM.out,List.take_of_length_le (by omega)])
   clear HM
   go_upto_region 10 with (fail)
   have hxa:Ext w (w.alloc (.cells #[.string kv] 9)):=(Ext.rfl' _).al _
   have q7a:=(hxa.cell (lt_of_cell q7)).trans q7
   have qka:=(hxa.cell (lt_of_cell qk)).trans qk
   clear hxa
   go_cut [] (fun wx=>∀ m',AgQ w o C0 x.2 (some ⟨gc,fc,none⟩) cc kd m' (.returned (.bool m')) wx)
   case first =>
    go_region_law (first
     | (refine step_put slt_str14 (.tmp 60) (.tmp 62) rfl rfl rfl rfl (HX.out.ext (by (repeat first | exact Ex0 | assumption | refine Ex1 ?_ | refine Ex2 ?_ | refine Ex3 ?_ | refine Ex4 ?_ | refine Ex5 ?_))) HXN.out (Sl.src Tryz.underlying55 (n:=1) ((rd_newS w _ rfl kv).ext (by (repeat first | exact Ex0 | assumption | refine Ex1 ?_ | refine Ex2 ?_ | refine Ex3 ?_ | refine Ex4 ?_ | refine Ex5 ?_))) rfl (by omega) (by simp [Value.oneCell']) 1) (by omega) (by simp only [maxLen]; omega) ?_; intro A5 c5 w5 o5 hs5 st5 hn5; have st5':Stp (fun i=>i=6 + C0.length) w o w5 o5:=(Stp.ext (by (repeat first | exact Ex0 | assumption | refine Ex1 ?_ | refine Ex2 ?_ | refine Ex3 ?_ | refine Ex4 ?_ | refine Ex5 ?_))).tr st5; have hc5:=(HC.out.stp st5' (by omega)).set (by omega) C0.length (by omega) (.slice A5 (x.2.length + 1) c5); have HT:Hid (∀ m',AgQ w o C0 x.2 (some ⟨gc,fc,none⟩) cc kd m' (.returned (.bool m')) (w5.setCell ⟨gc,fc + C0.length,none⟩ (.slice A5 (x.2.length + 1) c5))):=Lib.hid (fun m'=>⟨rfl,o5,A5,c5,(st5'.mono fun i hi=>.inr hi).tr (hc5.2.mono fun i hi=>.inl hi),by have:=hs5.stp hc5.2 (by omega); rw [HKV.out] at this; simpa [strC] using this,hn5,by have e:=flat_set hdV 1 hdV_len C0 x ((A5,c5),x.2 ++ [kd]) 0 (.slice A5 (x.2.length + 1) c5) (by simp [hdV]); rw [Nat.mul_one,Nat.add_zero] at e; rw [e]; exact hc5.1⟩); have q7b:=st5'.cell (a:=⟨p,7,none⟩) (by show ¬ (o p=_); rw [OP.out]; omega) Q7.out; have qkb:=st5'.cell (a:=⟨gc,fc + C0.length,none⟩) (by show ¬ (o gc=_); rw [OG.out]; omega) QK.out; have fkb:=(st5'.frozen (a:=⟨gc,fc + C0.length,none⟩) hgl (by show ¬ (o gc=_); rw [OG.out]; omega)).trans FK.out; clear hs5 st5 st5' hc5))
    all_goals (go_wp2_with fail; go_meet)
    all_goals exact HT.out
   case rest =>
    have HT:=Lib.hid hcut
    clear hcut q7a qka q7 qk HX HXN HC
    have HMQ:Hid (m=mm):=Lib.hid (by rw [HMM.out,HMN.out])
    clear HMM
    rcases HS.out with ⟨n0,n1,n2,n3,n4,hM⟩ | ⟨hk,hM⟩ | ⟨hk,hM⟩ | ⟨hk,hM⟩ | ⟨hk,hM⟩ | ⟨hk,hM⟩
    ·have b0:=beq_eq_false_iff_ne.2 n0
     have b1:=beq_eq_false_iff_ne.2 n1
     have b2:=beq_eq_false_iff_ne.2 n2
     have b3:=beq_eq_false_iff_ne.2 n3
     have b4:=beq_eq_false_iff_ne.2 n4
     have HQ:Hid (m=M):=Lib.hid (by rw [HMQ.out,hM])
     clear hM
     go_wp2
     go_ret
     rw [← HQ.out]
     exact HT.out _
    ·subst hM
     have tpeer:(kv.toList == [112,101,101,114])=true:=by rw [HKV.out,str_tl,hk]; rfl
     have u:kv.toList=[112,101,101,114]:=by rw [HKV.out,str_tl,hk]
     clear hk
     go_wp2
     go_ret
     exact HT.out _
    ·subst hM
     have npeer:¬ kv.toList=[112,101,101,114]:=by rw [HKV.out,str_tl,hk]; decide
     have bpeer:(kv.toList == [112,101,101,114])=false:=beq_eq_false_iff_ne.2 npeer
     have tupstream:(kv.toList == [117,112,115,116,114,101,97,109])=true:=by rw [HKV.out,str_tl,hk]; rfl
     have u:kv.toList=[117,112,115,116,114,101,97,109]:=by rw [HKV.out,str_tl,hk]
     clear hk
     go_wp2
     go_ret
     exact HT.out _
    ·subst hM
     have npeer:¬ kv.toList=[112,101,101,114]:=by rw [HKV.out,str_tl,hk]; decide
     have bpeer:(kv.toList == [112,101,101,114])=false:=beq_eq_false_iff_ne.2 npeer
     have nupstream:¬ kv.toList=[117,112,115,116,114,101,97,109]:=by rw [HKV.out,str_tl,hk]; decide
     have bupstream:(kv.toList == [117,112,115,116,114,101,97,109])=false:=beq_eq_false_iff_ne.2 nupstream
     have tserver:(kv.toList == [115,101,114,118,101,114])=true:=by rw [HKV.out,str_tl,hk]; rfl
     have u:kv.toList=[115,101,114,118,101,114]:=by rw [HKV.out,str_tl,hk]
     clear hk
     go_wp2
     go_ret
     exact HT.out _
    ·subst hM
     have npeer:¬ kv.toList=[112,101,101,114]:=by rw [HKV.out,str_tl,hk]; decide
     have bpeer:(kv.toList == [112,101,101,114])=false:=beq_eq_false_iff_ne.2 npeer
     have nupstream:¬ kv.toList=[117,112,115,116,114,101,97,109]:=by rw [HKV.out,str_tl,hk]; decide
     have bupstream:(kv.toList == [117,112,115,116,114,101,97,109])=false:=beq_eq_false_iff_ne.2 nupstream
     have nserver:¬ kv.toList=[115,101,114,118,101,114]:=by rw [HKV.out,str_tl,hk]; decide
     have bserver:(kv.toList == [115,101,114,118,101,114])=false:=beq_eq_false_iff_ne.2 nserver
     have tname:(kv.toList == [110,97,109,101])=true:=by rw [HKV.out,str_tl,hk]; rfl
     have u:kv.toList=[110,97,109,101]:=by rw [HKV.out,str_tl,hk]
     clear hk
     go_wp2
     go_ret
     exact HT.out _
    ·subst hM
     have npeer:¬ kv.toList=[112,101,101,114]:=by rw [HKV.out,str_tl,hk]; decide
     have bpeer:(kv.toList == [112,101,101,114])=false:=beq_eq_false_iff_ne.2 npeer
     have nupstream:¬ kv.toList=[117,112,115,116,114,101,97,109]:=by rw [HKV.out,str_tl,hk]; decide
     have bupstream:(kv.toList == [117,112,115,116,114,101,97,109])=false:=beq_eq_false_iff_ne.2 nupstream
     have nserver:¬ kv.toList=[115,101,114,118,101,114]:=by rw [HKV.out,str_tl,hk]; decide
     have bserver:(kv.toList == [115,101,114,118,101,114])=false:=beq_eq_false_iff_ne.2 nserver
     have nname:¬ kv.toList=[110,97,109,101]:=by rw [HKV.out,str_tl,hk]; decide
     have bname:(kv.toList == [110,97,109,101])=false:=beq_eq_false_iff_ne.2 nname
     have tlocation:(kv.toList == [108,111,99,97,116,105,111,110])=true:=by rw [HKV.out,str_tl,hk]; rfl
     have u:kv.toList=[108,111,99,97,116,105,111,110]:=by rw [HKV.out,str_tl,hk]
     clear hk
     go_wp2
     go_ret
     exact HT.out _
theorem rag_C0 (w:World) (o:Ow) (p:Nat) (c:Cf14) (x6:Value) (b:Bool) (U:List (Up14 × Hd)) (UA:Option Addr) (uc:Nat) (S:List (Sr14 × Hd × Hd)) (SA:Option Addr) (sc:Nat) (C0:List (Hd × List (List UInt8))) (x:Hd × List (List UInt8)) (CA:Option Addr) (cc:Nat) (h:Rf0 w o p c (x6,.slice CA (C0.length + 1) cc,.bool b) U UA uc S SA sc) (hc:Sl w o 5 1 CA (C0.length + 1) cc ((C0 ++ [x]).flatMap hdV)) (hcn:CA=none → cc=0) (hx:Sl w o (6 + C0.length) 1 x.1.1 x.2.length x.1.2 (strC x.2)) (hxn:x.1.1=none → x.1.2=0) (hl:C0.length ≤ 2) (hL:x.2.length ≤ 65536) (M:Bool) (hM:x.2.contains [114,111,111,116]=M) :
  Calls Tryz.prog 63 #[.pointer (some ⟨p,0,none⟩),.string ⟨#[112,114,111,120,121]⟩] w (AgQ w o C0 x.2 CA cc [114,111,111,116] M):=by
 subst hM
 have hkv:(⟨#[114,111,111,116]⟩:ByteArray)=str [114,111,111,116]:=rfl
 obtain ⟨gc,fc,rfl,og,hgl,hcc,hcf⟩:=hc.cells (by omega)
 have q7:w.cell? ⟨p,7,none⟩=some (.slice (some ⟨gc,fc,none⟩) (C0.length + 1) cc):=(row_facts h.row 7 _ rfl).1
 have qk:w.cell? ⟨gc,fc + C0.length,none⟩=some (.slice x.1.1 x.2.length x.1.2):=hcc C0.length _ (by have:=flat_last hdV 1 hdV_len C0 x 0; rw [Nat.mul_one,Nat.add_zero] at this; exact this)
 have fk:=hcf C0.length (by omega)
 have op:=h.own
 have hpl:=h.lt
 have hxa:Ext w (w.alloc (.cells #[.string (⟨#[114,111,111,116]⟩:ByteArray)] 9)):=(Ext.rfl' _).al _
 have q7a:=(hxa.cell (lt_of_cell q7)).trans q7
 have qka:=(hxa.cell (lt_of_cell qk)).trans qk
 have Q7:=Lib.hid q7
 have QK:=Lib.hid qk
 have FK:=Lib.hid fk
 have HX:=Lib.hid hx
 have HXN:=Lib.hid hxn
 have HC:=Lib.hid hc
 have OG:=Lib.hid og
 have OP:=Lib.hid op
 have HKV:=Lib.hid hkv
 obtain ⟨mm,hmm⟩:∃ m,m=x.2.contains [114,111,111,116]:=⟨_,rfl⟩
 have HMN:=Lib.hid hmm
 have e1:IntKind.i64.wrap (C0.length:Int)=(C0.length:Int):=by rw [IntKind.wrap_i64]; omega
 have e2:(C0.length:Int) < (C0.length:Int) + 1:=by omega
 have e3:(0:Int) ≤ (C0.length:Int):=by omega
 clear hmm h hc hcn hx hxn hcc hcf og op hkv fk hxa q7a qka
 rw [← HMN.out]
 go_enter Tryz.func63,Tryz.ntmps63
 go_wp2
 go_loopw [7,8] (fun v7 v8 wr=>∃ (i:Nat) (m:Bool),v7=.bool m∧v8=.int .i64 (i:Int)∧i ≤ x.2.length∧Hid (m=(x.2.take i).contains [114,111,111,116])∧w=wr) (fun _ v8 _=>x.2.length - (intOf v8).toNat)
 case atStart=>exact ⟨0,false,rfl,rfl,Nat.zero_le _,Lib.hid (by simp),rfl⟩
 case round =>
  obtain ⟨i,m,rfl,rfl,hi,HM,rfl⟩:=hrel
  by_cases hlt:i < x.2.length
  ·obtain ⟨bb,gg,hA,hce⟩:∃ b g,x.1.1=some ⟨b,g,none⟩∧w.cell? ⟨b,g + i,none⟩=some (.string (str x.2[i])):=by
    rcases HX.out.rd with h | ⟨b,g,hA,hc⟩
    ·have:=congrArg List.length h
     simp [strC] at this
     rw [this] at hlt
     exact absurd hlt (Nat.not_lt_zero _)
    ·exact ⟨b,g,hA,hc i _ (by simp [strC,hlt])⟩
   have HCT:=Lib.hid (ct_take x.2 [114,111,111,116] i hlt)
   obtain ⟨y,hy⟩:∃ y,y=x.2[i]:=⟨_,rfl⟩
   rw [← hy] at hce HCT
   obtain ⟨sq,hsq⟩:∃ s,s=str y:=⟨_,rfl⟩
   rw [← hsq] at hce
   have i0:(0:Int) ≤ (i:Int):=by omega
   have i1:(i:Int) < (x.2.length:Int):=by omega
   have hkk:IntKind.i64.wrap ((i:Int) + 1)=((i + 1:Nat):Int):=by rw [IntKind.wrap_i64]; omega
   rw [hA] at qk
   clear hy hA
   cases m with
   | true =>
    clear hsq hce
    go_wp2
    go_roundw
    case rel=>exact ⟨i + 1,true,rfl,by simp,by omega,Lib.hid (by rw [HCT.out,← HM.out]; rfl),by trivial⟩
    case measure=>simp [intOf]; omega
   | false =>
    by_cases he:[114,111,111,116]=y
    ·have hsk:sq=(⟨#[114,111,111,116]⟩:ByteArray):=by rw [hsq,← he]; rfl
     subst hsk
     have HE:=Lib.hid he
     clear hsq he
     go_wp2
     go_roundw
     case rel=>exact ⟨i + 1,true,rfl,by simp,by omega,Lib.hid (by rw [HCT.out,← HM.out,HE.out]; simp),by trivial⟩
     case measure=>simp [intOf]; omega
    ·have HE:=Lib.hid (show ([114,111,111,116] == y)=false from beq_eq_false_iff_ne.2 he)
     have g1:¬ sq.toList=[114,111,111,116]:=by rw [hsq,str_tl]; exact fun e=>he e.symm
     have g2:(sq.toList == [114,111,111,116])=false:=beq_eq_false_iff_ne.2 g1
     clear hsq he
     go_wp2
     go_roundw
     case rel=>exact ⟨i + 1,false,rfl,by simp,by omega,Lib.hid (by rw [HCT.out,← HM.out,HE.out]; rfl),by trivial⟩
     case measure=>simp [intOf]; omega
  ·have i1:¬ (i:Int) < (x.2.length:Int):=by omega
   have HMM:Hid (m=x.2.contains [114,111,111,116]):=Lib.hid (by rw [HM.out,List.take_of_length_le (by omega)])
   clear HM
   go_upto_region 10 with (fail)
   have hxa:Ext w (w.alloc (.cells #[.string (⟨#[114,111,111,116]⟩:ByteArray)] 9)):=(Ext.rfl' _).al _
   have q7a:=(hxa.cell (lt_of_cell q7)).trans q7
   have qka:=(hxa.cell (lt_of_cell qk)).trans qk
   clear hxa
   go_cut [] (fun wx=>∀ m',AgQ w o C0 x.2 (some ⟨gc,fc,none⟩) cc [114,111,111,116] m' (.returned (.bool m')) wx)
   case first =>
    go_region_law (first
     | (refine step_put slt_str14 (.tmp 60) (.tmp 62) rfl rfl rfl rfl (HX.out.ext (by (repeat first | exact Ex0 | assumption | refine Ex1 ?_ | refine Ex2 ?_ | refine Ex3 ?_ | refine Ex4 ?_ | refine Ex5 ?_))) HXN.out (Sl.src Tryz.underlying55 (n:=1) ((rd_newS w _ rfl (⟨#[114,111,111,116]⟩:ByteArray)).ext (by (repeat first | exact Ex0 | assumption | refine Ex1 ?_ | refine Ex2 ?_ | refine Ex3 ?_ | refine Ex4 ?_ | refine Ex5 ?_))) rfl (by omega) (by simp [Value.oneCell']) 1) (by omega) (by simp only [maxLen]; omega) ?_; intro A5 c5 w5 o5 hs5 st5 hn5; have st5':Stp (fun i=>i=6 + C0.length) w o w5 o5:=(Stp.ext (by (repeat first | exact Ex0 | assumption | refine Ex1 ?_ | refine Ex2 ?_ | refine Ex3 ?_ | refine Ex4 ?_ | refine Ex5 ?_))).tr st5; have hc5:=(HC.out.stp st5' (by omega)).set (by omega) C0.length (by omega) (.slice A5 (x.2.length + 1) c5); have HT:Hid (∀ m',AgQ w o C0 x.2 (some ⟨gc,fc,none⟩) cc [114,111,111,116] m' (.returned (.bool m')) (w5.setCell ⟨gc,fc + C0.length,none⟩ (.slice A5 (x.2.length + 1) c5))):=Lib.hid (fun m'=>⟨rfl,o5,A5,c5,(st5'.mono fun i hi=>.inr hi).tr (hc5.2.mono fun i hi=>.inl hi),by have:=hs5.stp hc5.2 (by omega); rw [HKV.out] at this; simpa [strC] using this,hn5,by have e:=flat_set hdV 1 hdV_len C0 x ((A5,c5),x.2 ++ [[114,111,111,116]]) 0 (.slice A5 (x.2.length + 1) c5) (by simp [hdV]); rw [Nat.mul_one,Nat.add_zero] at e; rw [e]; exact hc5.1⟩); have q7b:=st5'.cell (a:=⟨p,7,none⟩) (by show ¬ (o p=_); rw [OP.out]; omega) Q7.out; have qkb:=st5'.cell (a:=⟨gc,fc + C0.length,none⟩) (by show ¬ (o gc=_); rw [OG.out]; omega) QK.out; have fkb:=(st5'.frozen (a:=⟨gc,fc + C0.length,none⟩) hgl (by show ¬ (o gc=_); rw [OG.out]; omega)).trans FK.out; clear hs5 st5 st5' hc5))
    all_goals (go_wp2_with fail; go_meet)
    all_goals exact HT.out
   case rest =>
    have HT:=Lib.hid hcut
    clear hcut q7a qka q7 qk HX HXN HC
    have HMQ:Hid (m=mm):=Lib.hid (by rw [HMM.out,HMN.out])
    clear HMM
    go_wp2
    go_ret
    rw [HMQ.out]
    exact HT.out _
theorem rag_C1 (w:World) (o:Ow) (p:Nat) (c:Cf14) (x6:Value) (b:Bool) (U:List (Up14 × Hd)) (UA:Option Addr) (uc:Nat) (S:List (Sr14 × Hd × Hd)) (SA:Option Addr) (sc:Nat) (C0:List (Hd × List (List UInt8))) (x:Hd × List (List UInt8)) (CA:Option Addr) (cc:Nat) (h:Rf0 w o p c (x6,.slice CA (C0.length + 1) cc,.bool b) U UA uc S SA sc) (hc:Sl w o 5 1 CA (C0.length + 1) cc ((C0 ++ [x]).flatMap hdV)) (hcn:CA=none → cc=0) (hx:Sl w o (6 + C0.length) 1 x.1.1 x.2.length x.1.2 (strC x.2)) (hxn:x.1.1=none → x.1.2=0) (hl:C0.length ≤ 2) (hL:x.2.length ≤ 65536) (M:Bool) (hM:x.2.contains [114,111,111,116]=M) :
  Calls Tryz.prog 63 #[.pointer (some ⟨p,0,none⟩),.string ⟨#[114,101,116,117,114,110]⟩] w (AgQ w o C0 x.2 CA cc [114,111,111,116] M):=by
 subst hM
 have hkv:(⟨#[114,111,111,116]⟩:ByteArray)=str [114,111,111,116]:=rfl
 obtain ⟨gc,fc,rfl,og,hgl,hcc,hcf⟩:=hc.cells (by omega)
 have q7:w.cell? ⟨p,7,none⟩=some (.slice (some ⟨gc,fc,none⟩) (C0.length + 1) cc):=(row_facts h.row 7 _ rfl).1
 have qk:w.cell? ⟨gc,fc + C0.length,none⟩=some (.slice x.1.1 x.2.length x.1.2):=hcc C0.length _ (by have:=flat_last hdV 1 hdV_len C0 x 0; rw [Nat.mul_one,Nat.add_zero] at this; exact this)
 have fk:=hcf C0.length (by omega)
 have op:=h.own
 have hpl:=h.lt
 have hxa:Ext w (w.alloc (.cells #[.string (⟨#[114,111,111,116]⟩:ByteArray)] 9)):=(Ext.rfl' _).al _
 have q7a:=(hxa.cell (lt_of_cell q7)).trans q7
 have qka:=(hxa.cell (lt_of_cell qk)).trans qk
 have Q7:=Lib.hid q7
 have QK:=Lib.hid qk
 have FK:=Lib.hid fk
 have HX:=Lib.hid hx
 have HXN:=Lib.hid hxn
 have HC:=Lib.hid hc
 have OG:=Lib.hid og
 have OP:=Lib.hid op
 have HKV:=Lib.hid hkv
 obtain ⟨mm,hmm⟩:∃ m,m=x.2.contains [114,111,111,116]:=⟨_,rfl⟩
 have HMN:=Lib.hid hmm
 have e1:IntKind.i64.wrap (C0.length:Int)=(C0.length:Int):=by rw [IntKind.wrap_i64]; omega
 have e2:(C0.length:Int) < (C0.length:Int) + 1:=by omega
 have e3:(0:Int) ≤ (C0.length:Int):=by omega
 clear hmm h hc hcn hx hxn hcc hcf og op hkv fk hxa q7a qka
 rw [← HMN.out]
 go_enter Tryz.func63,Tryz.ntmps63
 go_wp2
 go_loopw [7,8] (fun v7 v8 wr=>∃ (i:Nat) (m:Bool),v7=.bool m∧v8=.int .i64 (i:Int)∧i ≤ x.2.length∧Hid (m=(x.2.take i).contains [114,111,111,116])∧w=wr) (fun _ v8 _=>x.2.length - (intOf v8).toNat)
 case atStart=>exact ⟨0,false,rfl,rfl,Nat.zero_le _,Lib.hid (by simp),rfl⟩
 case round =>
  obtain ⟨i,m,rfl,rfl,hi,HM,rfl⟩:=hrel
  by_cases hlt:i < x.2.length
  ·obtain ⟨bb,gg,hA,hce⟩:∃ b g,x.1.1=some ⟨b,g,none⟩∧w.cell? ⟨b,g + i,none⟩=some (.string (str x.2[i])):=by
    rcases HX.out.rd with h | ⟨b,g,hA,hc⟩
    ·have:=congrArg List.length h
     simp [strC] at this
     rw [this] at hlt
     exact absurd hlt (Nat.not_lt_zero _)
    ·exact ⟨b,g,hA,hc i _ (by simp [strC,hlt])⟩
   have HCT:=Lib.hid (ct_take x.2 [114,111,111,116] i hlt)
   obtain ⟨y,hy⟩:∃ y,y=x.2[i]:=⟨_,rfl⟩
   rw [← hy] at hce HCT
   obtain ⟨sq,hsq⟩:∃ s,s=str y:=⟨_,rfl⟩
   rw [← hsq] at hce
   have i0:(0:Int) ≤ (i:Int):=by omega
   have i1:(i:Int) < (x.2.length:Int):=by omega
   have hkk:IntKind.i64.wrap ((i:Int) + 1)=((i + 1:Nat):Int):=by rw [IntKind.wrap_i64]; omega
   rw [hA] at qk
   clear hy hA
   cases m with
   | true =>
    clear hsq hce
    go_wp2
    go_roundw
    case rel=>exact ⟨i + 1,true,rfl,by simp,by omega,Lib.hid (by rw [HCT.out,← HM.out]; rfl),by trivial⟩
    case measure=>simp [intOf]; omega
   | false =>
    by_cases he:[114,111,111,116]=y
    ·have hsk:sq=(⟨#[114,111,111,116]⟩:ByteArray):=by rw [hsq,← he]; rfl
     subst hsk
     have HE:=Lib.hid he
     clear hsq he
     go_wp2
     go_roundw
     case rel=>exact ⟨i + 1,true,rfl,by simp,by omega,Lib.hid (by rw [HCT.out,← HM.out,HE.out]; simp),by trivial⟩
     case measure=>simp [intOf]; omega
    ·have HE:=Lib.hid (show ([114,111,111,116] == y)=false from beq_eq_false_iff_ne.2 he)
     have g1:¬ sq.toList=[114,111,111,116]:=by rw [hsq,str_tl]; exact fun e=>he e.symm
     have g2:(sq.toList == [114,111,111,116])=false:=beq_eq_false_iff_ne.2 g1
     clear hsq he
     go_wp2
     go_roundw
     case rel=>exact ⟨i + 1,false,rfl,by simp,by omega,Lib.hid (by rw [HCT.out,← HM.out,HE.out]; rfl),by trivial⟩
     case measure=>simp [intOf]; omega
  ·have i1:¬ (i:Int) < (x.2.length:Int):=by omega
   have HMM:Hid (m=x.2.contains [114,111,111,116]):=Lib.hid (by rw [HM.out,List.take_of_length_le (by omega)])
   clear HM
   go_upto_region 10 with (fail)
   have hxa:Ext w (w.alloc (.cells #[.string (⟨#[114,111,111,116]⟩:ByteArray)] 9)):=(Ext.rfl' _).al _
   have q7a:=(hxa.cell (lt_of_cell q7)).trans q7
   have qka:=(hxa.cell (lt_of_cell qk)).trans qk
   clear hxa
   go_cut [] (fun wx=>∀ m',AgQ w o C0 x.2 (some ⟨gc,fc,none⟩) cc [114,111,111,116] m' (.returned (.bool m')) wx)
   case first =>
    go_region_law (first
     | (refine step_put slt_str14 (.tmp 60) (.tmp 62) rfl rfl rfl rfl (HX.out.ext (by (repeat first | exact Ex0 | assumption | refine Ex1 ?_ | refine Ex2 ?_ | refine Ex3 ?_ | refine Ex4 ?_ | refine Ex5 ?_))) HXN.out (Sl.src Tryz.underlying55 (n:=1) ((rd_newS w _ rfl (⟨#[114,111,111,116]⟩:ByteArray)).ext (by (repeat first | exact Ex0 | assumption | refine Ex1 ?_ | refine Ex2 ?_ | refine Ex3 ?_ | refine Ex4 ?_ | refine Ex5 ?_))) rfl (by omega) (by simp [Value.oneCell']) 1) (by omega) (by simp only [maxLen]; omega) ?_; intro A5 c5 w5 o5 hs5 st5 hn5; have st5':Stp (fun i=>i=6 + C0.length) w o w5 o5:=(Stp.ext (by (repeat first | exact Ex0 | assumption | refine Ex1 ?_ | refine Ex2 ?_ | refine Ex3 ?_ | refine Ex4 ?_ | refine Ex5 ?_))).tr st5; have hc5:=(HC.out.stp st5' (by omega)).set (by omega) C0.length (by omega) (.slice A5 (x.2.length + 1) c5); have HT:Hid (∀ m',AgQ w o C0 x.2 (some ⟨gc,fc,none⟩) cc [114,111,111,116] m' (.returned (.bool m')) (w5.setCell ⟨gc,fc + C0.length,none⟩ (.slice A5 (x.2.length + 1) c5))):=Lib.hid (fun m'=>⟨rfl,o5,A5,c5,(st5'.mono fun i hi=>.inr hi).tr (hc5.2.mono fun i hi=>.inl hi),by have:=hs5.stp hc5.2 (by omega); rw [HKV.out] at this; simpa [strC] using this,hn5,by have e:=flat_set hdV 1 hdV_len C0 x ((A5,c5),x.2 ++ [[114,111,111,116]]) 0 (.slice A5 (x.2.length + 1) c5) (by simp [hdV]); rw [Nat.mul_one,Nat.add_zero] at e; rw [e]; exact hc5.1⟩); have q7b:=st5'.cell (a:=⟨p,7,none⟩) (by show ¬ (o p=_); rw [OP.out]; omega) Q7.out; have qkb:=st5'.cell (a:=⟨gc,fc + C0.length,none⟩) (by show ¬ (o gc=_); rw [OG.out]; omega) QK.out; have fkb:=(st5'.frozen (a:=⟨gc,fc + C0.length,none⟩) hgl (by show ¬ (o gc=_); rw [OG.out]; omega)).trans FK.out; clear hs5 st5 st5' hc5))
    all_goals (go_wp2_with fail; go_meet)
    all_goals exact HT.out
   case rest =>
    have HT:=Lib.hid hcut
    clear hcut q7a qka q7 qk HX HXN HC
    have HMQ:Hid (m=mm):=Lib.hid (by rw [HMM.out,HMN.out])
    clear HMM
    go_wp2
    go_ret
    rw [HMQ.out]
    exact HT.out _
end Go.Proofs.YtmnohicojefhfaaGreatDoor
end
section
namespace Go.Proofs.YtmnohicojefhfaaGreatDoor
open Go.RowKit
theorem cut_to (size:Nat) (ty el:TypeId) (hu:Tryz.prog.underlying ty=some (.slice el)) (hz:∀ w',(Go.sizeOf el).run Tryz.prog w'=.ok size w') (B:Option Addr) (hB:B=none ∨ ∃ g f,B=some ⟨g,f,none⟩) (n c X:Nat) (x:Int) (hx:x=(X:Int)) (hX:X ≤ n) (hc:n ≤ c) (w':World) :
  (Instr.slice ty (.slice B n c) none (some (.int .i64 x)) none).run Tryz.prog w'=.ok (.slice B X c) w':=by
 subst hx
 have h2:(X:Int) ≤ (n:Int):=by omega
 have h3:(0:Int) ≤ (X:Int):=by omega
 have h4:(0:Int) ≤ (n:Int):=by omega
 have h5:(n:Int) ≤ (c:Int):=by omega
 have h6:(X:Int) ≤ (c:Int):=by omega
 have h7:X ≤ c:=by omega
 rcases hB with rfl | ⟨g,f,rfl⟩
 all_goals simp [Instr.slice,Instr.sliceBounds,Instr.sliceBound,asIntOf,run_underlying hu,go_sem,h2,h3,h4,h5,h6,h7,hz,hX,hc,Addr.add]
theorem ragain_c (k:Dk) (w:World) (o:Ow) (p:Nat) (c:Cf14) (x6:Value) (b:Bool) (U:List (Up14 × Hd)) (UA:Option Addr) (uc:Nat) (S:List (Sr14 × Hd × Hd)) (SA:Option Addr) (sc:Nat) (C0:List (Hd × List (List UInt8))) (x:Hd × List (List UInt8)) (CA:Option Addr) (cc:Nat) (h:Rf0 w o p c (x6,.slice CA (C0.length + 1) cc,.bool b) U UA uc S SA sc) (hc:Sl w o 5 1 CA (C0.length + 1) cc ((C0 ++ [x]).flatMap hdV)) (hcn:CA=none → cc=0) (hx:Sl w o (6 + C0.length) 1 x.1.1 x.2.length x.1.2 (strC x.2)) (hxn:x.1.1=none → x.1.2=0) (hl:C0.length ≤ 2) (hL:x.2.length ≤ 65536) (sv:ByteArray) (hsv:sv=str (nameD k)) :
  Calls Tryz.prog 63 #[.pointer (some ⟨p,0,none⟩),.string sv] w (AgQ w o C0 x.2 CA cc (nameD (kindD k)) (x.2.contains (nameD (kindD k)) && !(manyD k))):=by
 subst hsv
 cases k
 case keep =>
  exact rag_A w o p c x6 b U UA uc S SA sc C0 x CA cc h hc hcn hx hxn hl hL _ _ rfl _ (by rw [str_tl]; decide) (by rw [str_tl]; decide) (.inl ⟨by rw [str_tl]; decide,by rw [str_tl]; decide,by rw [str_tl]; decide,by rw [str_tl]; decide,by rw [str_tl]; decide,by simp [manyD,nameD,kindD]⟩)
 case body =>
  exact rag_A w o p c x6 b U UA uc S SA sc C0 x CA cc h hc hcn hx hxn hl hL _ _ rfl _ (by rw [str_tl]; decide) (by rw [str_tl]; decide) (.inl ⟨by rw [str_tl]; decide,by rw [str_tl]; decide,by rw [str_tl]; decide,by rw [str_tl]; decide,by rw [str_tl]; decide,by simp [manyD,nameD,kindD]⟩)
 case store =>
  exact rag_A w o p c x6 b U UA uc S SA sc C0 x CA cc h hc hcn hx hxn hl hL _ _ rfl _ (by rw [str_tl]; decide) (by rw [str_tl]; decide) (.inl ⟨by rw [str_tl]; decide,by rw [str_tl]; decide,by rw [str_tl]; decide,by rw [str_tl]; decide,by rw [str_tl]; decide,by simp [manyD,nameD,kindD]⟩)
 case conns =>
  exact rag_A w o p c x6 b U UA uc S SA sc C0 x CA cc h hc hcn hx hxn hl hL _ _ rfl _ (by rw [str_tl]; decide) (by rw [str_tl]; decide) (.inl ⟨by rw [str_tl]; decide,by rw [str_tl]; decide,by rw [str_tl]; decide,by rw [str_tl]; decide,by rw [str_tl]; decide,by simp [manyD,nameD,kindD]⟩)
 case upstream =>
  exact rag_A w o p c x6 b U UA uc S SA sc C0 x CA cc h hc hcn hx hxn hl hL _ _ rfl _ (by rw [str_tl]; decide) (by rw [str_tl]; decide) (.inr (.inr (.inl ⟨rfl,by simp [manyD]⟩)))
 case peer =>
  exact rag_A w o p c x6 b U UA uc S SA sc C0 x CA cc h hc hcn hx hxn hl hL _ _ rfl _ (by rw [str_tl]; decide) (by rw [str_tl]; decide) (.inr (.inl ⟨rfl,by simp [manyD]⟩))
 case timeout =>
  exact rag_A w o p c x6 b U UA uc S SA sc C0 x CA cc h hc hcn hx hxn hl hL _ _ rfl _ (by rw [str_tl]; decide) (by rw [str_tl]; decide) (.inl ⟨by rw [str_tl]; decide,by rw [str_tl]; decide,by rw [str_tl]; decide,by rw [str_tl]; decide,by rw [str_tl]; decide,by simp [manyD,nameD,kindD]⟩)
 case retries =>
  exact rag_A w o p c x6 b U UA uc S SA sc C0 x CA cc h hc hcn hx hxn hl hL _ _ rfl _ (by rw [str_tl]; decide) (by rw [str_tl]; decide) (.inl ⟨by rw [str_tl]; decide,by rw [str_tl]; decide,by rw [str_tl]; decide,by rw [str_tl]; decide,by rw [str_tl]; decide,by simp [manyD,nameD,kindD]⟩)
 case server =>
  exact rag_A w o p c x6 b U UA uc S SA sc C0 x CA cc h hc hcn hx hxn hl hL _ _ rfl _ (by rw [str_tl]; decide) (by rw [str_tl]; decide) (.inr (.inr (.inr (.inl ⟨rfl,by simp [manyD]⟩))))
 case name =>
  exact rag_A w o p c x6 b U UA uc S SA sc C0 x CA cc h hc hcn hx hxn hl hL _ _ rfl _ (by rw [str_tl]; decide) (by rw [str_tl]; decide) (.inr (.inr (.inr (.inr (.inl ⟨rfl,by simp [manyD]⟩)))))
 case dflt =>
  exact rag_A w o p c x6 b U UA uc S SA sc C0 x CA cc h hc hcn hx hxn hl hL _ _ rfl _ (by rw [str_tl]; decide) (by rw [str_tl]; decide) (.inl ⟨by rw [str_tl]; decide,by rw [str_tl]; decide,by rw [str_tl]; decide,by rw [str_tl]; decide,by rw [str_tl]; decide,by simp [manyD,nameD,kindD]⟩)
 case location =>
  exact rag_A w o p c x6 b U UA uc S SA sc C0 x CA cc h hc hcn hx hxn hl hL _ _ rfl _ (by rw [str_tl]; decide) (by rw [str_tl]; decide) (.inr (.inr (.inr (.inr (.inr ⟨rfl,by simp [manyD]⟩)))))
 case root =>
  exact rag_A w o p c x6 b U UA uc S SA sc C0 x CA cc h hc hcn hx hxn hl hL _ _ rfl _ (by rw [str_tl]; decide) (by rw [str_tl]; decide) (.inl ⟨by rw [str_tl]; decide,by rw [str_tl]; decide,by rw [str_tl]; decide,by rw [str_tl]; decide,by rw [str_tl]; decide,by simp [manyD,nameD,kindD]⟩)
 case index =>
  exact rag_A w o p c x6 b U UA uc S SA sc C0 x CA cc h hc hcn hx hxn hl hL _ _ rfl _ (by rw [str_tl]; decide) (by rw [str_tl]; decide) (.inl ⟨by rw [str_tl]; decide,by rw [str_tl]; decide,by rw [str_tl]; decide,by rw [str_tl]; decide,by rw [str_tl]; decide,by simp [manyD,nameD,kindD]⟩)
 case gzip =>
  exact rag_A w o p c x6 b U UA uc S SA sc C0 x CA cc h hc hcn hx hxn hl hL _ _ rfl _ (by rw [str_tl]; decide) (by rw [str_tl]; decide) (.inl ⟨by rw [str_tl]; decide,by rw [str_tl]; decide,by rw [str_tl]; decide,by rw [str_tl]; decide,by rw [str_tl]; decide,by simp [manyD,nameD,kindD]⟩)
 case expires =>
  exact rag_A w o p c x6 b U UA uc S SA sc C0 x CA cc h hc hcn hx hxn hl hL _ _ rfl _ (by rw [str_tl]; decide) (by rw [str_tl]; decide) (.inl ⟨by rw [str_tl]; decide,by rw [str_tl]; decide,by rw [str_tl]; decide,by rw [str_tl]; decide,by rw [str_tl]; decide,by simp [manyD,nameD,kindD]⟩)
 case proxy =>
  exact rag_C0 w o p c x6 b U UA uc S SA sc C0 x CA cc h hc hcn hx hxn hl hL _ (by simp [manyD,nameD,kindD])
 case cache =>
  exact rag_A w o p c x6 b U UA uc S SA sc C0 x CA cc h hc hcn hx hxn hl hL _ _ rfl _ (by rw [str_tl]; decide) (by rw [str_tl]; decide) (.inl ⟨by rw [str_tl]; decide,by rw [str_tl]; decide,by rw [str_tl]; decide,by rw [str_tl]; decide,by rw [str_tl]; decide,by simp [manyD,nameD,kindD]⟩)
 case limit =>
  exact rag_A w o p c x6 b U UA uc S SA sc C0 x CA cc h hc hcn hx hxn hl hL _ _ rfl _ (by rw [str_tl]; decide) (by rw [str_tl]; decide) (.inl ⟨by rw [str_tl]; decide,by rw [str_tl]; decide,by rw [str_tl]; decide,by rw [str_tl]; decide,by rw [str_tl]; decide,by simp [manyD,nameD,kindD]⟩)
 case ret =>
  exact rag_C1 w o p c x6 b U UA uc S SA sc C0 x CA cc h hc hcn hx hxn hl hL _ (by simp [manyD,nameD,kindD])
theorem len2 {α:Type} {a:List α} (h1:2 ≤ a.length) (h2:a.length ≤ 2):∃ s t,a=[s,t]:=by
 match a,h1,h2 with
 | [s,t],_,_=>exact ⟨s,t,rfl⟩
theorem do_loc (k:Dk) (hk:inD k=some .location) (w:World) (o:Ow) (p:Nat) (c:Cf14) (x6 x7:Value) (b:Bool) (h:RfB w o p c x6 x7 b) (hM:CfB 1048576 c) (hin:OkB (inD k) c) (a:List (List UInt8)) (hl1:leastD k ≤ a.length) (hl2:a.length ≤ mostD k) (ha:∀ s ∈ a,s.length ≤ 65536) (A:Option Addr) (ac:Nat) (hr:RdZ w o A (strC a)) (sv:ByteArray) (hsv:sv=str (nameD k)) :
  Calls Tryz.prog 64 #[.pointer (some ⟨p,0,none⟩),.string sv,.slice A a.length ac] w (RoQ w o p (doT k a c).1 x6 x7 (b || (doT k a c).2)):=by
 subst hsv
 have hM2:CfB 1099511627776 c:=hM.mono (by omega)
 cases k
 case keep=>cases hk
 case body=>cases hk
 case store=>cases hk
 case conns=>cases hk
 case upstream=>cases hk
 case peer=>cases hk
 case timeout=>cases hk
 case retries=>cases hk
 case server=>cases hk
 case name=>cases hk
 case dflt=>cases hk
 case location=>cases hk
 case root =>
  have hL:LocOk c:=hin
  obtain ⟨s,rfl⟩:=len1 hl1 hl2
  rw [show (b || (doT .root [s] c).2)=b from Bool.or_false b]
  exact rl_root w o p c x6 x7 b h hL hM2 s (ha s (by simp)) A ac hr
 case index =>
  have hL:LocOk c:=hin
  obtain ⟨s,rfl⟩:=len1 hl1 hl2
  rw [show (b || (doT .index [s] c).2)=b from Bool.or_false b]
  exact rl_index w o p c x6 x7 b h hL hM2 s (ha s (by simp)) A ac hr
 case gzip =>
  have hL:LocOk c:=hin
  obtain ⟨s,rfl⟩:=len1 hl1 hl2
  exact rl_gzip w o p c x6 x7 b h hL hM2 s (ha s (by simp)) A ac hr
 case expires =>
  have hL:LocOk c:=hin
  obtain ⟨s,rfl⟩:=len1 hl1 hl2
  exact rl_expires w o p c x6 x7 b h hL hM2 s (ha s (by simp)) A ac hr
 case proxy =>
  have hL:LocOk c:=hin
  obtain ⟨s,rfl⟩:=len1 hl1 hl2
  rw [show (b || (doT .proxy [s] c).2)=b from Bool.or_false b]
  exact rl_proxy w o p c x6 x7 b h hL hM2 s (ha s (by simp)) A ac hr
 case cache =>
  have hL:LocOk c:=hin
  obtain rfl:=len0 hl2
  rw [show (b || (doT .cache [] c).2)=b from Bool.or_false b]
  exact rl_cache w o p c x6 x7 b h hL hM2 A ac
 case limit =>
  have hL:LocOk c:=hin
  obtain ⟨s,t,rfl⟩:=len2 hl1 hl2
  rw [show (b || (doT .limit [s,t] c).2)=(b || numE s || numE t) from (Bool.or_assoc b _ _).symm]
  exact rl_limit w o p c x6 x7 b h hL hM2 s t (ha s (by simp)) (ha t (by simp)) A ac hr
 case ret =>
  have hL:LocOk c:=hin
  rcases len12 hl1 hl2 with ⟨s,rfl⟩ | ⟨s,t,rfl⟩
  ·exact rl_ret1 w o p c x6 x7 b h hL hM2 s (ha s (by simp)) A ac hr
  ·exact rl_ret2 w o p c x6 x7 b h hL hM2 s t (ha s (by simp)) (ha t (by simp)) A ac hr
theorem do_out (k:Dk) (hk:inD k ≠ some .location) (w:World) (o:Ow) (p:Nat) (c:Cf14) (x6 x7:Value) (b:Bool) (h:RfB w o p c x6 x7 b) (hM:CfB 1048576 c) (hin:OkB (inD k) c) (a:List (List UInt8)) (hl1:leastD k ≤ a.length) (hl2:a.length ≤ mostD k) (ha:∀ s ∈ a,s.length ≤ 65536) (A:Option Addr) (ac:Nat) (hr:RdZ w o A (strC a)) (sv:ByteArray) (hsv:sv=str (nameD k)) :
  Calls Tryz.prog 65 #[.pointer (some ⟨p,0,none⟩),.string sv,.slice A a.length ac] w (RoQ w o p (doT k a c).1 x6 x7 (b || (doT k a c).2)):=by
 subst hsv
 cases k
 case keep =>
  obtain ⟨s,rfl⟩:=len1 hl1 hl2
  exact ro_keep w o p c x6 x7 b h s (ha s (by simp)) A ac hr
 case body =>
  obtain ⟨s,rfl⟩:=len1 hl1 hl2
  exact ro_body w o p c x6 x7 b h s (ha s (by simp)) A ac hr
 case store =>
  obtain ⟨s,rfl⟩:=len1 hl1 hl2
  exact ro_store w o p c x6 x7 b h s (ha s (by simp)) A ac hr
 case conns =>
  obtain ⟨s,rfl⟩:=len1 hl1 hl2
  exact ro_conns w o p c x6 x7 b h s (ha s (by simp)) A ac hr
 case upstream =>
  obtain ⟨s,rfl⟩:=len1 hl1 hl2
  rw [show (b || (doT .upstream [s] c).2)=b from Bool.or_false b]
  exact ro_upstream w o p c x6 x7 b h hM s A ac hr
 case peer =>
  rcases len12 hl1 hl2 with ⟨s,rfl⟩ | ⟨s,t,rfl⟩
  ·exact ro_peer1 w o p c x6 x7 b h hin hM s (ha s (by simp)) A ac hr
  ·rw [show (b || (doT .peer [s,t] c).2)=(b || numE s || numE t) from (Bool.or_assoc b _ _).symm]
   exact ro_peer2 w o p c x6 x7 b h hin hM s t (ha s (by simp)) (ha t (by simp)) A ac hr
 case timeout =>
  obtain ⟨s,rfl⟩:=len1 hl1 hl2
  exact ro_timeout w o p c x6 x7 b h hin hM s (ha s (by simp)) A ac hr
 case retries =>
  obtain ⟨s,rfl⟩:=len1 hl1 hl2
  exact ro_retries w o p c x6 x7 b h hin hM s (ha s (by simp)) A ac hr
 case server =>
  obtain rfl:=len0 hl2
  rw [show (b || (doT .server [] c).2)=b from Bool.or_false b]
  exact ro_server w o p c x6 x7 b h hM _
 case name =>
  rw [show (b || (doT .name a c).2)=b from Bool.or_false b]
  exact ro_name w o p c x6 x7 b h hin hM a a.length rfl hl2 A ac hr
 case dflt =>
  obtain rfl:=len0 hl2
  rw [show (b || (doT .dflt [] c).2)=b from Bool.or_false b]
  exact ro_dflt w o p c x6 x7 b h hin hM _
 case location =>
  obtain ⟨s,rfl⟩:=len1 hl1 hl2
  rw [show (b || (doT .location [s] c).2)=b from Bool.or_false b]
  exact ro_location w o p c x6 x7 b h hin hM s A ac hr
 case root=>exact absurd rfl hk
 case index=>exact absurd rfl hk
 case gzip=>exact absurd rfl hk
 case expires=>exact absurd rfl hk
 case proxy=>exact absurd rfl hk
 case cache=>exact absurd rfl hk
 case limit=>exact absurd rfl hk
 case ret=>exact absurd rfl hk
def kindsR (l:List Dk):List (List UInt8):=l.reverse.map nameD
def cameR (st:List Fr14):List (List (List UInt8)):=(st.map fun fr=>kindsR fr.2).reverse
def blkR (fr:Fr14):List UInt8:=match fr.1 with | none=>[] | some k=>nameD k
def insR (st:List Fr14):List (List UInt8):=(st.dropLast.map blkR).reverse
def WfR (st:List Fr14):Prop:=st.map (·.1)=[none] ∨ st.map (·.1)=[some .upstream,none] ∨ st.map (·.1)=[some .server,none] ∨ st.map (·.1)=[some .location,some .server,none]
def OkR (st:List Fr14) (c:Cf14):Prop:=∀ fr ∈ st,OkB fr.1 c
structure RrA (w:World) (o:Ow) (p:Nat) (st:List Fr14) (C:List (Hd × List (List UInt8))) (IA:Option Addr) (ic:Nat) (CA:Option Addr) (cc:Nat):Prop where
 ins:Sl w o 4 1 IA (insR st).length ic (strC (insR st))
 ina:IA=none → ic=0
 iad:IA=none ∨ ∃ g f,IA=some ⟨g,f,none⟩
 came:Sl w o 5 1 CA C.length cc (C.flatMap hdV)
 cna:CA=none → cc=0
 each:∀ i x,C[i]?=some x → Sl w o (6 + i) 1 x.1.1 x.2.length x.1.2 (strC x.2)∧(x.1.1=none → x.1.2=0)
 eq:C.map (·.2)=cameR st
def RrAt (w:World) (o:Ow) (p:Nat) (c:Cf14) (st:List Fr14) (b:Bool):Prop:=∃ C IA ic CA cc,RfB w o p c (.slice IA (insR st).length ic) (.slice CA C.length cc) b∧RrA w o p st C IA ic CA cc
theorem WfR.le {st:List Fr14} (h:WfR st):st.length ≤ 3:=by
 have e:st.length=(st.map (·.1)).length:=by simp
 rcases h with h | h | h | h <;> rw [e,h] <;> decide
theorem RrA.len {w:World} {o:Ow} {p:Nat} {st:List Fr14} {C:List (Hd × List (List UInt8))} {IA:Option Addr} {ic:Nat} {CA:Option Addr} {cc:Nat} (h:RrA w o p st C IA ic CA cc):C.length=st.length:=by
 have:=congrArg List.length h.eq
 simpa [cameR] using this
theorem RrA.stp {K:Nat → Prop} {w w':World} {o o':Ow} {p:Nat} {st:List Fr14} {C:List (Hd × List (List UInt8))} {IA:Option Addr} {ic:Nat} {CA:Option Addr} {cc:Nat} (h:RrA w o p st C IA ic CA cc) (hw:WfR st) (s:Stp K w o w' o') (hk:∀ i,4 ≤ i → i ≤ 8 → ¬ K i):RrA w' o' p st C IA ic CA cc :=
 ⟨h.ins.stp s (hk 4 (by omega) (by omega)),h.ina,h.iad,h.came.stp s (hk 5 (by omega) (by omega)),h.cna,fun i x hx=>by
  have hi:=(List.getElem?_eq_some_iff.1 hx).1
  rw [h.len] at hi
  have:=hw.le
  exact ⟨(h.each i x hx).1.stp s (hk _ (by omega) (by omega)),(h.each i x hx).2⟩,h.eq⟩
end Go.Proofs.YtmnohicojefhfaaGreatDoor
end
