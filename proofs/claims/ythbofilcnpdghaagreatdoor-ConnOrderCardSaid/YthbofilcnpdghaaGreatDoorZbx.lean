/-
ConnOrder: an output is read as responses: bodies, walked.
-/
import Derived.Test.YthbofilcnpdghaaGreatDoorZbw
import Derived.Test.YthbofilcnpdghaaGreatDoorJE
import Derived.Test.YthbofilcnpdghaaGreatDoorZao
set_option maxRecDepth 100000
set_option maxHeartbeats 8000000
set_option linter.unusedVariables false
set_option linter.unusedSimpArgs false
section
namespace Go.Proofs.YthbofilcnpdghaaGreatDoor
open Go.RowKit
def txV (l:List (List UInt8)):List Value:=l.map fun x=>Value.string (str x)
theorem slt_strO:SlT Tryz.prog 49 9 (.string ⟨#[]⟩) 1 16:=⟨Tryz.underlying49,by kernel_rfl,rfl,by omega⟩
theorem wp_putI {P:Program} {t e:TypeId} {z:Value} {size bytes:Nat} (hT:SlT P t e z size bytes) {op:Oper} {a:Act} {K:Act→World→Prop} {Q:Exit→Act→World→Prop} (s x:Operand) {tx:TypeId}
  (ho:op.op=.call { callee:=.builtin .append,args:=#[s,x],argTypes:=#[t,tx] })
  {w:World} {o:Ow} {k n c m:Nat} {A:Option Addr} {xs news:List Value} {xv:Value} (hs:a.eval s=.slice A n c) (hx:a.eval x=xv)
  (hsl:Sl w o k size A n c xs) (hna:A=none→c=0) (src:Src P size tx xv m news w) (hbytes:(n+m)*bytes≤140737488355328) (h63:n+m≤maxLen)
  (h:∀ A' c' w' o',Sl w' o' k size A' (n+m) c' (xs++news)→Stp (fun i=>i=k) w o w' o'→(A'=none→c'=0)→K (a.put op.dst (.slice A' (n+m) c')) w'):Oper.wp P op a w K Q:=by
 obtain ⟨A',c',w',o',hr,h1,h2,h3⟩:=run_put hT op.type hsl hna src hbytes h63
 unfold Oper.wp execOp
 simp only [ho,resolve,invoke,builtin,Sem.run_bind,Sem.run_pure,Result.andThen_ok,List.map_toArray,List.map_cons,List.map_nil,hs,hx,hr]
 exact h A' c' w' o' h1 (h2.mono fun _ hi=>hi.2) h3
theorem cut_fromI (xs:List Value) (B:Option Addr) (n c X:Nat) (hl:xs.length=n) (hX:X≤n) (hc:n≤c) :
  ∃ B',(∀ w',(Instr.slice 22 (.slice B n c) (some (.int .i64 (X:Int))) none none).run Tryz.prog w'=.ok (.slice B' (n-X) (c-X)) w')∧∀ w',Rd w' B xs→Rd w' B' (xs.drop X):=by
 have hz:∀ w',(Go.sizeOf 5).run Tryz.prog w'=.ok 1 w':=fun _=>rfl
 have hu:=Tryz.underlying22
 refine ⟨if c=X then B else B.map (·.add (X*1)),fun w'=>?_,fun w' hR=>?_⟩
 ·have h2:(X:Int)≤(n:Int):=by omega
  have h3:(0:Int)≤(X:Int):=by omega
  have h4:(0:Int)≤(n:Int):=by omega
  have h5:(n:Int)≤(c:Int):=by omega
  simp [Instr.slice,Instr.sliceBounds,Instr.sliceBound,asIntOf,run_underlying hu,go_sem,h2,h3,h4,h5,hz,hX,hc]
 ·by_cases h0:X=n
  ·exact .inl (List.drop_eq_nil_iff.2 (by omega))
  ·rw [if_neg (by omega)]
   rcases hR with h | ⟨g,f,rfl,hcc⟩
   ·exact .inl (by rw [h];simp)
   ·refine .inr ⟨g,f+X*1,by simp [Addr.add],fun j u hu=>?_⟩
    rw [Nat.mul_one,Nat.add_assoc]
    exact hcc (X+j) u (by rw [← hu,List.getElem?_drop])
theorem Stp.old0 {w wr:World} {o:Ow} (h:Stp (fun j=>j≠0) w (fun _=>0) wr o):Old w wr o:=⟨h.toExt (fun _ _ h=>h rfl),h.own⟩
theorem old_blk {w:World} {B:Option Addr} {xs:List Value} (h:Rd w B xs) (hne:xs≠[]):∀ a,B=some a→a.block<w.heap.size:=fun a ha=>by
 obtain ⟨g,f,hB,hg,_⟩:=h.at_ (List.length_pos_iff.2 hne)
 rw [hB] at ha;cases ha;exact hg
theorem BodS.cases_ne {l:List Ev24} {i:Nat} {b:List UInt8} {ws:List (List UInt8)} (h:BodS l i b ws):(b=[]∧ws=[])∨(∃ fs k,RspS b 100 fs k∧BodS l i (b.drop k) ws) ∨
  ∃ st fs k body kd rn j ws',RspS b st fs k∧(101≤st∧st≤599)∧rspV (methL l i) st fs=(((kd:Nat):Int),((rn:Nat):Int),0)∧(kd≤3∧(rn=0∨kd=1)∧rn≤1048576)∧(feedF (newF kd rn 1048576) (b.drop k)).2=(j,body,true,0)∧(j≤(b.drop k).length∧body.length≤1048576)∧BodS l (i+1) ((b.drop k).drop j) ws'∧ws=(Lib.itoa st++body)::ws':=by
 cases h with
 | nil=>exact .inl ⟨rfl,rfl⟩
 | skip h1 h2=>exact .inr (.inl ⟨_,_,h1,h2⟩)
 | one h1 h2 h3 h4 h5 h6 h7=>exact .inr (.inr ⟨_,_,_,_,_,_,_,_,h1,h2,h3,h4,h5,h6,h7,rfl⟩)
def BodL (w:World) (l:List Ev24) (bn:Nat) (ws:List (List UInt8)) (v0 v6 v7:Value) (wr:World):Prop :=
 ∃ bb B n d O c ws0 rest o,v0=.slice B n d∧v6=.slice O ws0.length c∧v7=.int .i64 (ws0.length:Int)∧n=bb.length∧n≤d∧ws0.length+n≤bn∧Rd w B (bc bb)∧BodS l ws0.length bb rest∧ws=ws0++rest∧Sl wr o 11 1 O ws0.length c (txV ws0)∧(O=none→c=0)∧Stp (fun j=>j≠0) w (fun _=>0) wr o
def IsSsB (ws:List (List UInt8)) (v:Value) (w:World):Prop:=∃ O c,v=.tuple #[.slice O ws.length c,.bool true]∧Rd w O (txV ws)
theorem nBodiesL_c (w:World) (hL:Lb w) (l:List Ev24) (A:Option Addr) (n1 d1:Nat) (hn1:n1=l.length) (HE:∀ j e m,l.drop j=e::m→∃ g f,A=some ⟨g,f,none⟩∧w.cell? ⟨g,f+j*6+1,none⟩=some (.string (str e.r.1))) (b:List UInt8) (B:Option Addr) (bn bd:Nat) (hb:bn=b.length) (hbd:bn≤bd) (hbb:bn≤1099511627776) (hB:Rd w B (bc b)) (ws:List (List UInt8)) (hS:BodS l 0 b ws) :
  Calls Tryz.prog 19 #[.slice B bn bd,.slice A n1 d1] w (Ret (IsSsB ws) w):=by
 have HL:=Hy hL
 have HEV:=Hy HE
 have HB:=Hy hB
 have HN1:=Hy hn1
 have HBN:=Hy (And.intro hb hbd)
 have HS:=Hy hS
 clear hL HE hB hn1 hb hbd hS
 go_enter Tryz.func19,Tryz.ntmps19
 go_upto_region 3 with (fail)
 go_loopw [0,6,7] (fun v0 v6 v7 wr=>BodL w l bn ws v0 v6 v7 wr) (fun v0 _ _ _=>slN v0)
 case atStart=>exact ⟨b,B,bn,bd,none,0,[],ws,fun _=>0,rfl,rfl,rfl,HBN.out.1,HBN.out.2,by simp,HB.out,HS.out,rfl,Sl.nil_ _ _ _ _ _,fun _=>rfl,Stp.rfl'⟩
 case round =>
  clear HS HB HBN
  obtain ⟨bb,B,n,d,O,c,ws0,rest,o,rfl,rfl,rfl,hn,hd,hin,hB,hS,hws,hsl,hna,hst⟩:=hrel
  have HN:=Hy hn
  have HB:=Hy hB
  have HW:=Hy hws
  have HSL:=Hy hsl
  have HNA:=Hy hna
  have HST:=Hy hst
  obtain ⟨i,hi⟩:∃ i,i=ws0.length:=⟨_,rfl⟩
  rw [← hi] at hS HSL hin
  rw [← hi]
  have HI:=Hy hi
  clear hn hB hws hsl hna hst hi
  rcases hS.cases_ne with ⟨rfl,rfl⟩ | ⟨fs,k,hR,hS2⟩ | ⟨st,fs,k,body,kd,rn,j,ws',hR,hst,hrv,hkd,hfd,hjb,hS2,rfl⟩
  ·obtain rfl:n=0:=HN.out
   have HQ:=Hy (show ws=ws0 from by rw [HW.out,List.append_nil])
   clear hS
   go_wp2
   refine bodyPost_ret (v:=.tuple #[.slice O i c,.bool true]) (by simp [results,Tryz.results19,go_sem]) rfl ?_
   exact Ret.mk ⟨O,c,by rw [HQ.out,HI.out],by rw [HQ.out];exact HSL.out.rd⟩ HST.out.old0.ext
  ·have hbb0:bb≠[]:=fun h=>by have:=hR.kp;have:=hR.kl;rw [h] at this;simp at this;omega
   have hnp:0<n:=by rw [HN.out];exact List.length_pos_iff.2 hbb0
   have hkn:k≤n:=by rw [HN.out];exact hR.kl
   have hk0:=hR.kp
   obtain ⟨mi,re,htl⟩:=hR.tl
   obtain ⟨q,hq⟩:∃ q,q=feedP (newP true) bb:=⟨_,rfl⟩
   have hfv:feedV q=.tuple #[.int .i64 (k:Int),.bool true,.int .i64 0]:=by unfold feedV;rw [hq,hR.fd]
   rw [← hq] at htl
   have hqf:q.1.fields.length≤1000000:=by have:=(feed_rf bb (newP true) (newP_ok true).fl).2;rw [hq];omega
   have HBW:=Hy (old_blk HB.out (by intro h;apply hbb0;have:=congrArg List.length h;rw [bc_len] at this;exact List.eq_nil_of_length_eq_zero this))
   have CN:=Hy (hNewParser_c 1 true wr o)
   have CF:=Hy (fun (w1:World) (o1:Ow) (P:Nat) (hp:PsAt w1 o1 1 P (newP true)) (hs:Stp (fun j=>j≠0) w (fun _=>0) w1 o1)=>(by have:=hFeed_c 1 P (by decide) (newP true) (.inr (.inr (newP_ok true))) bb B n d HN.out (by omega) w1 o1 hp (hs.old0.gl HL.out) (HB.out.ext hs.old0.ext) (fun _ a ha _=>by rw [hs.own _ (HBW.out a ha)];unfold KP;decide);rw [← hq,hfv] at this;exact this:Calls Tryz.prog 32 #[.pointer (some ⟨P,0,none⟩),.slice B n d] w1 (Turns (KP 1) w1 o1 fun v w' o'=>v=.tuple #[.int .i64 (k:Int),.bool true,.int .i64 0]∧PsAt w' o' 1 P q.1)))
   obtain ⟨B2,hcut,hrd⟩:=cut_fromI (bc bb) B n d k (by rw [bc_len,HN.out]) hkn hd
   have HB2:=Hy (show Rd w B2 (bc (bb.drop k)) from by rw [← bc_drop];exact hrd w HB.out)
   have CT:=Hy (fun (w2:World) (o2:Ow) (P:Nat) (hp:PsAt w2 o2 1 P q.1)=>(by have:=hTell_c 1 P q.1 hqf w2 o2 hp;rw [htl] at this;exact this:Calls Tryz.prog 33 #[.pointer (some ⟨P,0,none⟩)] w2 (Ret (IsRs (100,mi,re,fs)) w2)))
   obtain ⟨n2,hn2⟩:∃ x,x=n-k:=⟨_,rfl⟩
   obtain ⟨d2,hd2⟩:∃ x,x=d-k:=⟨_,rfl⟩
   rw [← hn2,← hd2] at hcut
   have hi0:(0:Int)≤(i:Int):=by omega
   have hib:i≤1099511627776:=by omega
   have hnp':(0:Int)<(n:Int):=by omega
   have HR:=Hy hR
   have HK:=Hy (And.intro hn2 hd2)
   clear hR hfv htl hq hqf hbb0 hrd hn2 hd2 hnp hS
   have w1f:IntKind.i64.wrap ((i:Int)-1)=(i:Int)-1:=by rw [IntKind.wrap_i64];omega
   have w2f:IntKind.i64.wrap ((i:Int)-1+1)=(i:Int):=by rw [IntKind.wrap_i64];omega
   have HS2:=Hy hS2
   clear hS2
   go_wp2_with (first
    | (go_at_call 22;refine (CN.out).mono ?_;rintro e w1 ⟨v,o1,rfl,⟨P,rfl,hp1,_⟩,st1⟩;have HST1:=Hy (HST.out.tr (st1.mono (L:=fun j=>j≠0) fun i hi=>hi.elim));have HSL1:=Hy (HSL.out.stp st1 (fun x=>x));have HP1:=Hy hp1;clear hp1 st1)
    | (go_at_call 32;refine (CF.out _ _ _ HP1.out HST1.out).mono ?_;rintro e w2 ⟨v,o2,rfl,⟨rfl,hp2⟩,st2⟩;have HST2:=Hy (HST1.out.tr (st2.mono (L:=fun j=>j≠0) fun i hi=>by unfold KP at hi;omega));have HSL2:=Hy (HSL1.out.stp st2 (by unfold KP;omega));have HP2:=Hy hp2;clear hp2 st2)
    | (go_at_call 8;refine (nNum_c _ _).mono ?_;rintro e w9 ⟨rfl,hw⟩;subst hw)
    | (go_at_call 33;refine (CT.out _ _ _ HP2.out).mono ?_;rintro e w3 ⟨v,rfl,⟨F,fcp,rfl,hF⟩,hx3⟩;have HX3:=Hy hx3;clear hF hx3;dsimp only))
   go_roundw
   case rel=>exact ⟨bb.drop k,B2,n2,d2,O,c,ws0,rest,o2,rfl,by rw [HI.out],by rw [← HI.out],by rw [HK.out.1,List.length_drop,HN.out],by rw [HK.out.1,HK.out.2];omega,by rw [← HI.out,HK.out.1];omega,HB2.out,by rw [← HI.out];exact HS2.out,HW.out,by rw [← HI.out];exact HSL2.out.ext HX3.out,HNA.out,HST2.out.tr (Stp.ext HX3.out)⟩
   case measure=>simp [slN];rw [HK.out.1];omega
  ·have hbb0:bb≠[]:=fun h=>by have:=hR.kp;have:=hR.kl;rw [h] at this;simp at this;omega
   have hnp:0<n:=by rw [HN.out];exact List.length_pos_iff.2 hbb0
   have hkn:k≤n:=by rw [HN.out];exact hR.kl
   have hk0:=hR.kp
   obtain ⟨mi,re,htl⟩:=hR.tl
   obtain ⟨q,hq⟩:∃ q,q=feedP (newP true) bb:=⟨_,rfl⟩
   have hfv:feedV q=.tuple #[.int .i64 (k:Int),.bool true,.int .i64 0]:=by unfold feedV;rw [hq,hR.fd]
   rw [← hq] at htl
   have hqf:q.1.fields.length≤1000000:=by have:=(feed_rf bb (newP true) (newP_ok true).fl).2;rw [hq];omega
   have HBW:=Hy (old_blk HB.out (by intro h;apply hbb0;have:=congrArg List.length h;rw [bc_len] at this;exact List.eq_nil_of_length_eq_zero this))
   have CN:=Hy (hNewParser_c 1 true wr o)
   have CF:=Hy (fun (w1:World) (o1:Ow) (P:Nat) (hp:PsAt w1 o1 1 P (newP true)) (hs:Stp (fun j=>j≠0) w (fun _=>0) w1 o1)=>(by have:=hFeed_c 1 P (by decide) (newP true) (.inr (.inr (newP_ok true))) bb B n d HN.out (by omega) w1 o1 hp (hs.old0.gl HL.out) (HB.out.ext hs.old0.ext) (fun _ a ha _=>by rw [hs.own _ (HBW.out a ha)];unfold KP;decide);rw [← hq,hfv] at this;exact this:Calls Tryz.prog 32 #[.pointer (some ⟨P,0,none⟩),.slice B n d] w1 (Turns (KP 1) w1 o1 fun v w' o'=>v=.tuple #[.int .i64 (k:Int),.bool true,.int .i64 0]∧PsAt w' o' 1 P q.1)))
   obtain ⟨B2,hcut,hrd⟩:=cut_fromI (bc bb) B n d k (by rw [bc_len,HN.out]) hkn hd
   have HB2:=Hy (show Rd w B2 (bc (bb.drop k)) from by rw [← bc_drop];exact hrd w HB.out)
   have CT:=Hy (fun (w2:World) (o2:Ow) (P:Nat) (hp:PsAt w2 o2 1 P q.1)=>(by have:=hTell_c 1 P q.1 hqf w2 o2 hp;rw [htl] at this;exact this:Calls Tryz.prog 33 #[.pointer (some ⟨P,0,none⟩)] w2 (Ret (IsRs (st,mi,re,fs)) w2)))
   obtain ⟨n2,hn2⟩:∃ x,x=n-k:=⟨_,rfl⟩
   obtain ⟨d2,hd2⟩:∃ x,x=d-k:=⟨_,rfl⟩
   rw [← hn2,← hd2] at hcut
   have hi0:(0:Int)≤(i:Int):=by omega
   have hib:i≤1099511627776:=by omega
   have hnp':(0:Int)<(n:Int):=by omega
   have HR:=Hy hR
   have HK:=Hy (And.intro hn2 hd2)
   clear hR hfv htl hq hqf hbb0 hrd hn2 hd2 hnp hS
   have HS2:=Hy hS2
   have HFD:=Hy hfd
   have HJB:=Hy hjb
   have HKD:=Hy hkd
   have HSB:=Hy hst
   have hs1:¬ st=100:=by omega
   obtain ⟨sm,hsm⟩:∃ x,x=str (methL l i):=⟨_,rfl⟩
   have CR:=Hy (fun (w3:World) (o3:Ow) (hs:Stp (fun j=>j≠0) w (fun _=>0) w3 o3) (F:Option Addr) (fcp:Nat) (hF:Rd w3 F (fc fs))=>(by have:=fResponse_c (methL l i) st fs HR.out.f8.fit F fs.length fcp rfl w3 (HL.out.er.ext hs.old0.ext) hF;rw [hrv,← hsm] at this;exact this:Calls Tryz.prog 34 #[.string sm,.int .i64 st,.slice F fs.length fcp] w3 (Gives (.tuple #[.agg #[.int .i64 (kd:Int),.int .i64 (rn:Int)],.int .i64 0]) w3)))
   have HSM:=Hy hsm
   clear hS2 hfd hjb hkd hst hsm hrv
   go_upto_region 13 with (first
    | (go_at_call 22;refine (CN.out).mono ?_;rintro e w1 ⟨v,o1,rfl,⟨P,rfl,hp1,_⟩,st1⟩;have HST1:=Hy (HST.out.tr (st1.mono (L:=fun j=>j≠0) fun i hi=>hi.elim));have HSL1:=Hy (HSL.out.stp st1 (fun x=>x));have HP1:=Hy hp1;clear hp1 st1)
    | (go_at_call 32;refine (CF.out _ _ _ HP1.out HST1.out).mono ?_;rintro e w2 ⟨v,o2,rfl,⟨rfl,hp2⟩,st2⟩;have HST2:=Hy (HST1.out.tr (st2.mono (L:=fun j=>j≠0) fun i hi=>by unfold KP at hi;omega));have HSL2:=Hy (HSL1.out.stp st2 (by unfold KP;omega));have HP2:=Hy hp2;clear hp2 st2)
    | (go_at_call 8;refine (nNum_c _ _).mono ?_;rintro e w9 ⟨rfl,hw⟩;subst hw)
    | (go_at_call 33;refine (CT.out _ _ _ HP2.out).mono ?_;rintro e w3 ⟨v,rfl,⟨F,fcp,rfl,hF⟩,hx3⟩;have HX3:=Hy hx3;have HF:=Hy hF;clear hF hx3;dsimp only))
   have HST3:=Hy (HST2.out.tr (Stp.ext HX3.out))
   have HSL3:=Hy (HSL2.out.ext HX3.out)
   have CR3:=Hy (CR.out w3 o2 HST3.out F fcp HF.out)
   clear CN CF CT CR HP1 HP2 HST1 HSL1 HST2 HSL2 HSL HST HX3 hs1
   go_cut [16] (fun v wx=>v=.string ⟨#[71,69,84]⟩∧w3=wx)
   case first =>
    go_wp2
    go_meet
    exact ⟨rfl,rfl⟩
   case rest =>
    obtain ⟨rfl,hw⟩:=hcut
    subst hw
    go_step
    go_step
    go_cut [16] (fun v wx=>v=.string sm∧w3=wx)
    case first =>
     by_cases hlt:i<n1
     ·have hi1:(i:Int)<(n1:Int):=by omega
      have hil:i<l.length:=by rw [← HN1.out];exact hlt
      obtain ⟨g,f,rfl,hcell⟩:=HEV.out i _ _ (List.drop_eq_getElem_cons hil)
      have hm:=meth_in (List.drop_eq_getElem_cons hil)
      obtain ⟨me,hme⟩:∃ x,x=(l[i]'hil).r.1:=⟨_,rfl⟩
      rw [← hme] at hcell hm
      have hcell3:=(HST3.out.old0.ext.cell (lt_of_cell hcell)).trans hcell
      by_cases hh:me=headM
      ·have HQ:=Hy (show sm=⟨#[72,69,65,68]⟩ from by rw [HSM.out,hm,if_pos hh];rfl)
       rw [hh,show str headM=⟨#[72,69,65,68]⟩ from rfl] at hcell3
       clear hcell hm hme hh hil hlt
       go_wp2
       go_meet
       exact ⟨by rw [HQ.out],rfl⟩
      ·have HQ:=Hy (show sm=⟨#[71,69,84]⟩ from by rw [HSM.out,hm,if_neg hh];rfl)
       obtain ⟨sv,hsv⟩:∃ x,x=str me:=⟨_,rfl⟩
       have hnn:¬ sv.toList=[72,69,65,68]:=by
        intro h
        apply hh
        rw [hsv] at h
        have h2:me=[72,69,65,68]:=by simpa using h
        exact h2
       have hne:(sv.toList == [72,69,65,68])=false:=by rw [beq_eq_false_iff_ne];exact hnn
       rw [← hsv] at hcell3
       clear hcell hm hme hh hil hlt hsv
       go_wp2
       go_meet
       exact ⟨by rw [HQ.out],rfl⟩
     ·have hi1:¬(i:Int)<(n1:Int):=by omega
      have HQ:=Hy (show sm=⟨#[71,69,84]⟩ from by rw [HSM.out,meth_out (by rw [← HN1.out];omega)];rfl)
      clear hlt
      go_wp2
      go_meet
      exact ⟨by rw [HQ.out],rfl⟩
    case rest =>
     obtain ⟨rfl,hw⟩:=hcut
     subst hw
     obtain ⟨hk1,hk2,hk3⟩:=HKD.out
     obtain ⟨hj1,hj2⟩:=HJB.out
     have hn2k:n2=(bb.drop k).length:=by rw [HK.out.1,List.length_drop,HN.out]
     have hn2b:n2≤1099511627776:=by rw [HK.out.1];omega
     have hn2d:n2≤d2:=by rw [HK.out.1,HK.out.2];omega
     have hjn:j≤n2:=by rw [hn2k];exact hj1
     have CNR:=Hy (fun (w':World)=>(show Calls Tryz.prog 35 #[.agg #[.int .i64 (kd:Int),.int .i64 (rn:Int)],.int .i64 1048576] w' _ from fNew_yes 6 kd rn 1048576 hk1 hk2 (by decide) (by omega) w' o2))
     have HBW2:=Hy (fun (hne:bb.drop k≠[])=>old_blk HB2.out (by intro h;apply hne;have:=congrArg List.length h;rw [bc_len] at this;exact List.eq_nil_of_length_eq_zero this))
     have CFD:=Hy (fun (w5:World) (o5:Ow) (R:Nat) (hp:FsAt w5 o5 6 R (newF kd rn 1048576)) (hs:Stp (fun j=>j≠0) w (fun _=>0) w5 o5)=>(by have:=fFeed_c 6 R (by decide) (newF kd rn 1048576) (.inr (.inr (new_okF hk1 (by omega) (by decide)))) (bb.drop k) B2 n2 d2 hn2k (by omega) w5 o5 hp (hs.old0.glF HL.out) (HB2.out.ext hs.old0.ext) (fun hne a ha _=>by rw [hs.own _ (HBW2.out hne a ha)];unfold KF;decide);rw [HFD.out] at this;exact this:Calls Tryz.prog 36 #[.pointer (some ⟨R,0,none⟩),.slice B2 n2 d2] w5 (Turns (KF 6) w5 o5 fun v w' o'=>IsFed 6 (j,body,true,0) v w' o'∧FsAt w' o' 6 R (feedF (newF kd rn 1048576) (bb.drop k)).1)))
     obtain ⟨B3,hcut3,hrd3⟩:=cut_fromI (bc (bb.drop k)) B2 n2 d2 j (by rw [bc_len,hn2k]) hjn hn2d
     have HB3:=Hy (show Rd w B3 (bc ((bb.drop k).drop j)) from by rw [← bc_drop];exact hrd3 w HB2.out)
     obtain ⟨n3,hn3⟩:∃ x,x=n2-j:=⟨_,rfl⟩
     obtain ⟨d3,hd3⟩:∃ x,x=d2-j:=⟨_,rfl⟩
     rw [← hn3,← hd3] at hcut3
     have HK3:=Hy (And.intro (And.intro hn3 hd3) (And.intro hn2k (And.intro hn2d hjn)))
     clear hk1 hk2 hk3 hj1 hn2k hn2b hn2d hjn hrd3 hn3 hd3
     go_upto_region 24 with (first
      | (go_at_call 34;refine (CR3.out).mono ?_;rintro e w4 ⟨rfl,hx4⟩)
      | (go_at_call 35;refine (CNR.out _).mono ?_;rintro e w5 ⟨v,o5,rfl,⟨R,rfl,hr5,_⟩,st5⟩;have HST5:=Hy ((HST3.out.tr (Stp.ext (w:=w3) Xq)).tr (st5.mono (L:=fun j=>j≠0) fun i hi=>hi.elim));have HSL5:=Hy ((HSL3.out.ext Xq).stp st5 (fun x=>x));have HR5:=Hy hr5;clear hr5 st5 hx4)
      | (go_at_call 8;refine (nNum_c _ _).mono ?_;rintro e w9 ⟨rfl,hw⟩;subst hw)
      | (go_at_call 36;refine (CFD.out _ _ _ HR5.out HST5.out).mono ?_;rintro e w6 ⟨v,o6,rfl,⟨⟨C,gc,rfl,hc6⟩,_⟩,st6⟩;dsimp only at hc6;have HST6:=Hy (HST5.out.tr (st6.mono (L:=fun j=>j≠0) fun i hi=>by unfold KF at hi;omega));have HSL6:=Hy (HSL5.out.stp st6 (by unfold KF;omega));have HC6:=Hy hc6;clear hc6 st6;dsimp only))
     clear CR3 CNR CFD HST3 HSL3 HST5 HSL5 HR5 HF
     obtain ⟨nb,hnb⟩:∃ x,x=body.length:=⟨_,rfl⟩
     rw [← hnb]
     rw [← hnb] at HC6
     obtain ⟨sb,hsb⟩:∃ x,x=str body:=⟨_,rfl⟩
     obtain ⟨sd,hsd⟩:∃ x,x=decB st:=⟨_,rfl⟩
     obtain ⟨sr,hsr⟩:∃ x,x=str (Lib.itoa st++body):=⟨_,rfl⟩
     have hks:=Hy (fun (w':World) (o':Ow) (h:Sl w' o' 9 1 C nb gc (bc body))=>(show (convert 22 9 (.slice C nb gc)).run Tryz.prog w'=.ok (.string sb) w' from by rw [hsb];exact conv_bs 22 9 5 Tryz.underlying22 Tryz.underlying5 Tryz.underlying9 h.rd nb gc hnb))
     have hcc:∀ w,(Op.stringOp .add sd sb).run Tryz.prog w=.ok (.string sr) w:=fun w=>by
      have h1:=Lib.itoa_length_le st (by have:=HSB.out;omega) (by have:=HSB.out;omega)
      rw [hsd,hsb,hsr]
      unfold decB
      rw [cat_ok _ _ (by rw [str_size,str_size];omega)]
      simp
     have CD:=Hy (fun (w':World) (e:Ext w w')=>(by have:=Digits_c st w' (HL.out.pw.ext e) (by have:=HSB.out;omega) (by have:=HSB.out;omega);rw [← hsd] at this;exact this:Calls Tryz.prog 18 #[.int .i64 st] w' (Gives (.string sd) w')))
     have HSR:=Hy hsr
     clear hnb hsb hsd hsr hj2
     have hHeld0:=hks.out _ _ HC6.out
     refine wp_region_noPanic ?_
     refine wp_region_held_drew (S:=fun w'=>(convert 22 9 (.slice C nb gc)).run Tryz.prog w'=.ok (.string sb) w') (by kernel_rfl) (hks.out _ _ (HC6.out.ext Xq)) (fun hHeld=>?_)
     clear hHeld0
     refine wpAnyH_take (i:=0) (oi:=?_) (v:=?_) ?_ (by kernel_rfl) (by kernel_rfl) (by kernel_rfl) (fun _ _ _ h=>h) (Or.inl ⟨?_,?_⟩) (by assumption) ?_
     rotate_left 2
     ·(simp only [List.getElem?_toArray,List.getElem?_cons_succ,List.getElem?_cons_zero];first | done | rfl)
     ·rfl
     ·intro w hSw
      try dsimp only at hSw
      go_simp <;> with_reducible rfl
     try simp only [Act.put,List.setIfInBounds_toArray,List.set_cons_zero,List.set_cons_succ]
     refine wpAnyH_take (i:=1) (oi:=?_) (v:=?_) ?_ (by kernel_rfl) (by kernel_rfl) (by kernel_rfl) (fun _ _ _ h=>h) (Or.inl ⟨?_,?_⟩) (by assumption) ?_
     rotate_left 2
     ·(simp only [List.getElem?_toArray,List.getElem?_cons_succ,List.getElem?_cons_zero];first | done | rfl)
     ·rfl
     ·intro w hSw
      try dsimp only at hSw
      go_simp <;> with_reducible rfl
     try simp only [Act.put,List.setIfInBounds_toArray,List.set_cons_zero,List.set_cons_succ]
     refine wpAnyH_take (i:=3) (oi:=?_) (v:=?_) ?_ (by kernel_rfl) (by kernel_rfl) (by kernel_rfl) (fun _ _ _ h=>h) (Or.inl ⟨?_,?_⟩) (by assumption) ?_
     rotate_left 2
     ·(simp only [List.getElem?_toArray,List.getElem?_cons_succ,List.getElem?_cons_zero];first | done | rfl)
     ·rfl
     ·intro w hSw
      try dsimp only at hSw
      go_simp <;> with_reducible rfl
     try simp only [Act.put,List.setIfInBounds_toArray,List.set_cons_zero,List.set_cons_succ]
     refine wpAnyH_take (i:=4) (oi:=?_) (v:=?_) ?_ (by kernel_rfl) (by kernel_rfl) (by kernel_rfl) (fun _ _ _ h=>h) (Or.inl ⟨?_,?_⟩) (by assumption) ?_
     rotate_left 2
     ·(simp only [List.getElem?_toArray,List.getElem?_cons_succ,List.getElem?_cons_zero];first | done | rfl)
     ·rfl
     ·intro w hSw
      try dsimp only at hSw
      go_simp <;> with_reducible rfl
     try simp only [Act.put,List.setIfInBounds_toArray,List.set_cons_zero,List.set_cons_succ]
     refine wpAnyH_ready (rs:=[2]) (by kernel_rfl) (by simp) ?_
     refine AllReadyH.cons rfl (fun K hK=>?_) AllReadyH.nil
     go_simp
     go_at_call 18
     refine (CD.out _ (HST6.out.old0.ext.tr Xq)).mono ?_
     rintro e w7 ⟨rfl,hx7⟩
     have HX7:=Hy (show Ext w6 w7 from Xq)
     refine hK.out _ _ (hks.out _ _ (HC6.out.ext HX7.out)) (fun hHeld2=>?_)
     clear hHeld hx7
     clear hK K
     try simp only [List.getElem?_toArray,List.getElem?_cons_succ,List.getElem?_cons_zero,Act.put,List.setIfInBounds_toArray,List.set_cons_zero,List.set_cons_succ]
     refine wpAnyH_take (i:=5) (oi:=?_) (v:=?_) ?_ (by kernel_rfl) (by kernel_rfl) (by kernel_rfl) (fun _ _ _ h=>h) (Or.inl ⟨?_,?_⟩) (by assumption) ?_
     rotate_left 2
     ·(simp only [List.getElem?_toArray,List.getElem?_cons_succ,List.getElem?_cons_zero];first | done | rfl)
     ·rfl
     ·intro w hSw
      try dsimp only at hSw
      go_simp <;> with_reducible rfl
     try simp only [Act.put,List.setIfInBounds_toArray,List.set_cons_zero,List.set_cons_succ]
     refine wpAnyH_ready (rs:=[6]) (by kernel_rfl) (by simp) ?_
     refine AllReadyH.cons rfl (fun K hK=>?_) AllReadyH.nil
     go_simp
     have hx8:=HX7.out
     refine hK.out _ _ (hks.out _ _ (HC6.out.ext Xq)) (fun hHeld3=>?_)
     clear hHeld2
     clear hK K
     try simp only [List.getElem?_toArray,List.getElem?_cons_succ,List.getElem?_cons_zero,Act.put,List.setIfInBounds_toArray,List.set_cons_zero,List.set_cons_succ]
     refine wpAnyH_ready (rs:=[7]) (by kernel_rfl) (by simp) ?_
     refine AllReadyH.cons rfl (fun K hK=>?_) AllReadyH.nil
     refine wp_putI slt_strO (.tmp 109) (.tmp 115) rfl rfl rfl (HSL6.out.ext Xq) HNA.out (Sl.src Tryz.underlying49 ((Rd.newZ w7 #[.string sr] 9 (0,0)).ext Xq) (by simp) (by omega) (by simp [Value.oneCell']) 1) (by omega) (by unfold maxLen;omega) ?_
     intro A9 c9 w9 o9 hs9 hst9 hz9
     have HS9:=Hy hs9
     have HST9:=Hy ((Stp.ext (w:=w6) Xq).tr hst9)
     have HZ9:=Hy hz9
     clear hs9 hst9 hz9 hx8
     refine hK.out _ _ (hks.out _ _ (HC6.out.stp HST9.out (by omega))) (fun hHeld4=>?_)
     clear hHeld3
     clear hK K
     try simp only [List.getElem?_toArray,List.getElem?_cons_succ,List.getElem?_cons_zero,Act.put,List.setIfInBounds_toArray,List.set_cons_zero,List.set_cons_succ]
     refine wpAnyH_take (i:=8) (oi:=?_) (v:=?_) ?_ (by kernel_rfl) (by kernel_rfl) (by kernel_rfl) (fun _ _ _ h=>h) (Or.inl ⟨?_,?_⟩) (by assumption) ?_
     rotate_left 2
     ·(simp only [List.getElem?_toArray,List.getElem?_cons_succ,List.getElem?_cons_zero];first | done | rfl)
     ·rfl
     ·intro w hSw
      try dsimp only at hSw
      go_simp <;> with_reducible rfl
     try simp only [Act.put,List.setIfInBounds_toArray,List.set_cons_zero,List.set_cons_succ]
     refine wpAnyH_done (by kernel_rfl) ?_ _
     refine NoPanic.normal ?_
     try simp only [List.getElem?_toArray,List.getElem?_cons_succ,List.getElem?_cons_zero,Act.put,List.setIfInBounds_toArray,List.set_cons_zero,List.set_cons_succ]
     clear hHeld4
     go_wp2_with fail
     have hlen:(ws0++[Lib.itoa st++body]).length=i+1:=by rw [List.length_append,← HI.out];rfl
     have HLEN:=Hy hlen
     clear hlen
     go_roundw
     case rel=>exact ⟨(bb.drop k).drop j,B3,n3,d3,A9,c9,ws0++[Lib.itoa st++body],ws',o9,rfl,by rw [HLEN.out],by rw [HLEN.out];go_num,by rw [HK3.out.1.1,List.length_drop,HK3.out.2.1],by rw [HK3.out.1.1,HK3.out.1.2];have:=HK3.out.2.2.1;omega,by rw [HLEN.out,HK3.out.1.1,HK.out.1];omega,HB3.out,by rw [HLEN.out];exact HS2.out,by rw [HW.out,List.append_assoc];rfl,by rw [HLEN.out];have h9:=HS9.out;rw [HSR.out] at h9;unfold txV;rw [List.map_append];exact h9,HZ9.out,HST6.out.tr (HST9.out.mono (L:=fun j=>j≠0) fun i hi=>by omega)⟩
     case measure=>simp [slN];rw [HK3.out.1.1,HK.out.1];omega
def numF (j:Nat):List UInt8:=Lib.itoa j
theorem numF_len:∀ j,j<64→(numF j).length≤3:=by
 have h:∀ j∈List.range 64,(numF j).length≤3:=by decide +kernel
 exact fun j hj=>h j (List.mem_range.2 hj)
def firstA (P:List Nat) (t:Nat):Nat→Bool:=fun j=>decide (j∈P.take t)
theorem firstA_zero (P:List Nat):firstA P 0=fun _=>false:=by
 funext j
 unfold firstA
 simp
theorem firstA_next {P:List Nat} {t k:Nat} (h:P[t]?=some k):addA (firstA P t) k=firstA P (t+1):=by
 funext j
 obtain ⟨hl,hx⟩:=List.getElem?_eq_some_iff.1 h
 unfold addA firstA
 rw [List.take_add_one,h]
 simp [List.mem_append]
theorem firstA_new {P:List Nat} {n t k:Nat} (hp:P.Perm (List.range n)) (h:P[t]?=some k):firstA P t k=false:=by
 have hnd:P.Nodup:=hp.nodup_iff.2 List.nodup_range
 obtain ⟨hl,hx⟩:=List.getElem?_eq_some_iff.1 h
 unfold firstA
 rw [decide_eq_false_iff_not]
 intro hm
 have h1:P=P.take t++k::P.drop (t+1):=by rw [← hx,← List.drop_eq_getElem_cons hl,List.take_append_drop]
 rw [h1] at hnd
 exact (List.nodup_append.1 hnd).2.2 k hm k List.mem_cons_self rfl
theorem perm_lt {P:List Nat} {n t k:Nat} (hp:P.Perm (List.range n)) (h:P[t]?=some k):k<n:=by
 have:k∈P:=List.mem_of_getElem? h
 exact List.mem_range.1 (hp.mem_iff.1 this)
theorem firstA_all {P:List Nat} {n:Nat} (hp:P.Perm (List.range n)):∀ j,j<n→firstA P n j=true:=fun j hj=>by
 have hl:P.length=n:=by rw [hp.length_eq,List.length_range]
 unfold firstA
 rw [List.take_of_length_le (by omega),decide_eq_true_iff]
 exact hp.mem_iff.2 (List.mem_range.2 hj)
structure OrS (w:World) (c:Nat) (s:Cst) (l:List Ev24) (A:Option Addr) (n d:Nat) (O:Option Addr) (P:List Nat) (wr:World) (o:Ow):Prop where
 old:Old w wr o
 ol:∀ x,x<wr.heap.size→o x≠100
 cn:CnAt wr o 20 c s
 ev:∃ es,Sl wr o 95 6 A n d es∧EvL wr o l es
 os:Ro wr o O (nsV P)
section
variable {w:World} {c:Nat} {s s2:Cst} {l:List Ev24} {A:Option Addr} {n d:Nat} {O:Option Addr} {P:List Nat} {wr w':World} {o o':Ow}
theorem OrS.on (h:OrS w c s l A n d O P wr o) (t:Sto (KC 20) wr o w' o') (hc:CnAt w' o' 20 c s2):OrS w c s2 l A n d O P w' (o99 o'):=by
 have t2:=no100 t h.ol
 obtain ⟨x,x1,x2⟩:=h.ev
 have k0:¬ KC 20 0:=kc0 (by decide)
 exact ⟨h.old.sto t2 k0,fun x _=>o99_no o' x,hc.o99 (by decide) (by decide),⟨x,x1.sto t2 (by unfold KC;omega),x2.sto t2 k0⟩,h.os.sto t2 k0⟩
theorem OrS.oz (h:OrS w c s l A n d O P wr o) (e:Ext wr w'):OrS w c s l A n d O P w' (oz wr o):=by
 have t:Sto (fun _=>False) wr o w' (Go.Proofs.YthbofilcnpdghaaGreatDoor.oz wr o):=oz_sto e
 obtain ⟨x,x1,x2⟩:=h.ev
 exact ⟨h.old.sto t (fun x=>x),oz_ol h.ol,h.cn.sto t (fun x=>x) (fun _ _ x=>x) (fun _ _ x=>x),⟨x,x1.sto t (fun x=>x),x2.sto t (fun x=>x)⟩,h.os.sto t (fun x=>x)⟩
theorem OrS.cell {g f:Nat} (h:OrS w c s l A n d (some ⟨g,f,none⟩) P wr o) {t k:Nat} (hk:P[t]?=some k):wr.cell? ⟨g,f+t,none⟩=some (.int .i64 (k:Int)):=by
 have hx:(nsV P)[t]?=some (.int .i64 (k:Int)):=by unfold nsV;rw [List.getElem?_map,hk];rfl
 rcases h.os with h0 | ⟨g',f',hA,_,_,hc⟩
 ·rw [h0] at hx;cases hx
 ·cases hA;exact hc t _ hx
theorem OrS.adr (h:OrS w c s l A n d O P wr o) {t k:Nat} (hk:P[t]?=some k):∃ g f,O=some ⟨g,f,none⟩:=by
 have hx:(nsV P)[t]?=some (.int .i64 (k:Int)):=by unfold nsV;rw [List.getElem?_map,hk];rfl
 rcases h.os with h0 | ⟨g',f',hA,_⟩
 ·rw [h0] at hx;cases hx
 ·exact ⟨g',f',hA⟩
end
theorem ansO_c {w:World} (hL:Lb w) {c:Nat} {s:Cst} {l:List Ev24} {A:Option Addr} {n d:Nat} {O:Option Addr} {P:List Nat} {wr:World} {o:Ow} (h:OrS w c s l A n d O P wr o) {t:List Th24} (ht:EndR t) (hk:RowOk t) {out:List UInt8} (ho:out.length≤32768) (hl:l.length≤64) {r:Bool} {B:Nat→Bool} (hI:OrI B numF l t out r s) {k:Nat} (hB:B k=false) (hkl:k<l.length) {X:Option Addr} {nx dx:Nat} (hn:nx=(numF k).length) (hX:Ro wr o X (bc (numF k))) :
  Calls Tryz.prog 13 #[.pointer (some ⟨c,0,none⟩),.int .i64 (k:Int),.agg #[.int .i64 200,.slice none 0 0,.slice X nx dx]] wr fun e w'=>∃ s2 o',e=.returned (.int .i64 0)∧OrI (addA B k) numF l t out r s2∧OrS w c s2 l A n d O P w' o':=by
 obtain ⟨f1,f2,f3⟩:=hI.fit ht hk (fun j hj=>Nat.le_trans (numF_len j (by omega)) (by decide)) ho hl
 obtain ⟨h1,h2⟩:=hI.step hB hkl
 rw [hn]
 refine (nAnswer_c w hL 20 c (by decide) (by decide) s f1 f2 f3 k (numF k) (Nat.le_trans (numF_len k (by omega)) (by decide)) X dx wr o h.old h.cn hX).mono ?_
 rintro e w' ⟨v,o',rfl,⟨rfl,h4⟩,st⟩
 exact ⟨_,_,by rw [h1],h2,h.on st h4⟩
theorem ansN_c {w:World} (hL:Lb w) {c:Nat} {s:Cst} {l:List Ev24} {A:Option Addr} {n d:Nat} {O:Option Addr} {P:List Nat} {wr:World} {o:Ow} (h:OrS w c s l A n d O P wr o) (h0:s.row=[]) (hs:s.out.length≤1099511627776) (k:Nat) :
  Calls Tryz.prog 13 #[.pointer (some ⟨c,0,none⟩),.int .i64 (k:Int),.agg #[.int .i64 200,.slice none 0 0,.slice none 0 0]] wr fun e w'=>∃ o',e=.returned (.int .i64 3)∧OrS w c s l A n d O P w' o':=by
 have ha:answerC s k []=(s,3):=by unfold answerC;rw [h0];rfl
 refine (nAnswer_c w hL 20 c (by decide) (by decide) s (by rw [h0];exact (fun x hx=>by cases hx)) (by rw [h0];simpa using hs) (by rw [h0];exact uni_nil) k [] (by decide) none 0 wr o h.old h.cn (.inl rfl)).mono ?_
 rw [ha]
 rintro e w' ⟨v,o',rfl,⟨rfl,h4⟩,st⟩
 exact ⟨_,rfl,h.on st h4⟩
theorem outO_c {w:World} {c:Nat} {s:Cst} {l:List Ev24} {A:Option Addr} {n d:Nat} {O:Option Addr} {P:List Nat} {wr:World} {o:Ow} (h:OrS w c s l A n d O P wr o) {k:Nat} (hk:k=s.out.length) :
  Calls Tryz.prog 14 #[.pointer (some ⟨c,0,none⟩)] wr fun e w'=>∃ A5 c5 o',e=.returned (.slice A5 k c5)∧k≤c5∧OrS w c { s with out:=[] } l A n d O P w' o'∧Rd w' A5 (bc s.out):=by
 refine (nOutput_c 97 20 c (by decide) (by decide) s wr o h.cn).mono ?_
 rw [hk]
 rintro e w' ⟨v,o',rfl,⟨⟨A5,c5,rfl,h1,_⟩,h2⟩,st⟩
 exact ⟨A5,c5,_,rfl,h1.le,h.on st h2,h1.rd⟩
theorem OrS.meth {w:World} {c:Nat} {s:Cst} {l:List Ev24} {A:Option Addr} {n d:Nat} {O:Option Addr} {P:List Nat} {wr:World} {o:Ow} (h:OrS w c s l A n d O P wr o) (hn:n=l.length):∀ j e m,l.drop j=e::m→∃ g f,A=some ⟨g,f,none⟩∧wr.cell? ⟨g,f+j*6+1,none⟩=some (.string (str e.r.1)):=fun j e m hd=>by
 obtain ⟨es,x1,x2⟩:=h.ev
 obtain ⟨g,f,_,_,_,_,hA,⟨_,hc,_⟩,_⟩:=ev_cells x1 hn x2 hd
 exact ⟨g,f,hA,hc⟩
def OrL (w:World) (c:Nat) (l:List Ev24) (t:List Th24) (out:List UInt8) (r:Bool) (A:Option Addr) (n d:Nat) (O:Option Addr) (P:List Nat) (v:Value) (wr:World):Prop :=
 ∃ i s o,v=.int .i64 ((i:Nat):Int)∧i≤n∧OrI (firstA P i) numF l t out r s∧OrS w c s l A n d O P wr o
theorem no_last {z:Cst} (h:InI [] z) {t:List Th24} (hr:z.row=asksC 0 z.evs++t) (hz:z.reads=true):t=[]:=by
 have h1:=(h.f.few hz).1
 have h2:asksC 0 z.evs++t=asksC 0 z.evs:=hr.symm.trans h1
 have h3:=congrArg List.length h2
 rw [List.length_append] at h3
 exact List.eq_nil_of_length_eq_zero (by omega)
end Go.Proofs.YthbofilcnpdghaaGreatDoor
end
