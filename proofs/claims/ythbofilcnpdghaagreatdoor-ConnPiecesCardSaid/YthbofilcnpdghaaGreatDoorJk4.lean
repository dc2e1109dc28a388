/-
A connection's whole, way 4.
-/
import Derived.Test.YthbofilcnpdghaaGreatDoorZbk
set_option maxRecDepth 100000
set_option maxHeartbeats 8000000
set_option linter.unusedVariables false
set_option linter.unusedSimpArgs false
namespace Go.Proofs.YthbofilcnpdghaaGreatDoor
open Go.RowKit
theorem nWhole_4 (w0:World) (hL:Lb w0) (k c:Nat) (hk:0<k) (hk8:k<80) (s:Cst) (hi:s.inBody=false) (hf:Rq8 (askP s.hp)) (hfl:s.hp.fields.length≤100) (hmo:s.most≤1048576) (hout:s.out.length≤100000) (hc1:WOk (askP s.hp)) (hc2:WLen (askP s.hp)) (hc3:¬ WBad s.most (askP s.hp)) (hc4:¬ WApp s.row (askP s.hp)) (w:World) (o:Ow) (hO:Old w0 w o) (h:CnAt w o k c s) :
  Calls Tryz.prog 41 #[.pointer (some ⟨c,0,none⟩)] w (EndsC (KH k) k w o c (fun R=>∃ P,R=some ⟨P,0,none⟩∧w.heap.size≤P) (wholeC s)):=by
 obtain ⟨a,hx,hnx⟩:=h
 have HX:=Hy hx
 have HNX:=Hy hnx
 have HF:=Hy hf
 have HO:=Hy hO
 have CA:=Hy (hAskN_c (k+5) a.H s.hp (by omega) w o hx.p.hp)
 have c7:=hx.row.c7
 obtain ⟨r,hr⟩:∃ r,r=askP s.hp:=⟨_,rfl⟩
 rw [← hr] at CA HF
 rw [← hr] at hc1 hc2 hc3 hc4;have HC1:=Hy hc1;have HC2:=Hy hc2;have HC3:=Hy hc3;have HC4:=Hy hc4
 have HR:=Hy hr
 clear hx hnx hf hr hO hfl hc1 hc2 hc3 hc4
 go_enter Tryz.func41,Tryz.ntmps41
 go_upto_region 1 with (first
  | (go_at_call 58;refine (CA.out).mono ?_;rintro e w1 ⟨v,rfl,⟨A1,c1,rfl,hr1,hb1⟩,hx1⟩))
 obtain ⟨W2,hW2⟩:∃ W,W=w1.alloc (.cells #[.string (str r.1),.string (str r.2.1),.int .i64 r.2.2.1,.slice A1 r.2.2.2.length c1] 36):=⟨_,rfl⟩
 rw [← hW2]
 obtain ⟨V,hV⟩:∃ V,V=w1.heap.size:=⟨_,rfl⟩
 rw [← hV]
 have x2:Ext w W2:=by rw [hW2];exact hx1.al _
 have row2:W2.heap[V]?=some (.cells #[.string (str r.1),.string (str r.2.1),.int .i64 r.2.2.1,.slice A1 r.2.2.2.length c1] 36 (0,0)):=by rw [hW2,hV];exact heap_alloc_new w1 _
 have hwV:w.heap.size≤V:=by rw [hV];exact hx1.size
 have hA:Ro W2 (oz w o) A1 (fc r.2.2.2):=by
  obtain ⟨A',c',hv,hro⟩:=NewS.ro (w:=w) (n:=r.2.2.2.length) (v:=.slice A1 r.2.2.2.length c1) (w':=W2) (o':=oz w o) ⟨A1,c1,rfl,by rw [hW2];exact hr1.ext ((Ext.rfl' w1).al _),by rcases hb1 with h | h;exact .inl (by rw [h];rfl);exact .inr h⟩ (fun b hb=>oz_new w o hb)
  cases hv
  exact hro
 have HX2:=Hy (HX.out.oz x2)
 have STO2:=Hy (show Sto (KH k) w o W2 (oz w o) from oz_sto x2)
 have HA:=Hy hA
 have hVk:¬ oz w o V=k:=by rw [oz_new w o hwV];omega
 have hcV:¬ V=c:=fun e=>by have h1:=row_lt HX.out.row;omega
 have hks:=Hy (fun w' (e:Ext W2 w')=>(show (w'.cell? ⟨V,0,none⟩=some (.string (str r.1))∧w'.cell? ⟨V,1,none⟩=some (.string (str r.2.1))∧w'.cell? ⟨V,2,none⟩=some (.int .i64 r.2.2.1)∧w'.cell? ⟨V,3,none⟩=some (.slice A1 r.2.2.2.length c1))∧Crow w' c s a from by
  have hx:=(e.block V (row_lt row2)).trans row2
  exact ⟨⟨(row_facts hx 0 _ rfl).1,(row_facts hx 1 _ rfl).1,(row_facts hx 2 _ rfl).1,(row_facts hx 3 _ rfl).1⟩,HX2.out.row.ext e⟩))
 have ROW2:=Hy row2
 obtain ⟨⟨b0,b1,b2,b3⟩,_⟩:=hks.out W2 (Ext.rfl' _)
 clear hW2 hV row2 hA hr1 hb1 hx1 x2 c7 CA
 go_cut [] (fun wx=>HeadW k c w o { s with r:=r,got:=[],hp:=newP false,line:=0,inBody:=true } (nxC false) r (.pointer (some ⟨V,0,none⟩)) wx)
 case first =>
  go_region_with (first
   | (go_at_call 22;refine (hNewParser_c (k+5) false _ (oz w o)).mono ?_;rintro e w3 ⟨v,o3,rfl,⟨P,rfl,hp3,hPl⟩,st3⟩;obtain ⟨⟨e0,e1,e2,e3⟩,hrow3⟩:=hks.out w3 (by have:=st3.noExt;(exact Xq));have i10:=hrow3.at_ 10 _ rfl;have i11:=hrow3.at_ 11 _ rfl;have i12:=hrow3.at_ 12 _ rfl;have i13:=hrow3.at_ 13 _ rfl;have i14:=hrow3.at_ 14 _ rfl;have i7:=hrow3.at_ 7 _ rfl;have i9:=hrow3.at_ 9 _ rfl;have j10:=i10.1;have j11:=i11.1;have j12:=i12.1;have j13:=i13.1;have j14:=i14.1;have j7:=i7.1;have j9:=i9.1;have l10:=i10.2;have l11:=i11.2;have l12:=i12.2;have l13:=i13.2;have l14:=i14.2;have l7:=i7.2;have l9:=i9.2;clear i10 i11 i12 i13 i14 i7 i9))
  all_goals (clear e0 e1 e2 e3 j10 j11 j12 j13 j14 j7 j9 l10 l11 l12 l13 l14 l7 l9 b0 b1 b2 b3;go_wp2_with fail;go_meet)
  all_goals first
   | exact HeadW.mk hk hk8 HX2.out (by rw [HNX.out,hi]) STO2.out ROW2.out HA.out hcV hVk st3 hp3
   | exact HeadW.mk hk hk8 HX2.out (by rw [HNX.out,hi]) STO2.out ROW2.out HA.out hcV hVk ((Stp.ext ((Ext.rfl' _).dr)).tr st3) hp3
 case rest =>
  clear HX2 STO2 HA hks ROW2 b0 b1 b2 b3 hVk hcV hwV HX HNX
  obtain ⟨p,A,ca,o3,a3,hv,hX3,st3,hn3,row3,hA3,hpc⟩:=hcut
  cases hv
  obtain ⟨W,rfl⟩:∃ W,W=wc:=⟨_,rfl⟩
  obtain ⟨m,t,mi,fs⟩:=r
  dsimp only at row3 hA3
  have hOW:=Hy (HO.out.sto st3 (kh0 hk))
  obtain ⟨s1,hs1⟩:∃ s1:Cst,s1={ s with r:=(m,t,mi,fs),got:=[],hp:=newP false,line:=0 }:=⟨_,rfl⟩
  have hX3:CnX W o3 k c { s1 with inBody:=true } a3:=by rw [hs1];exact hX3
  have HFIN:=Hy (fun (w':World) (e:Ext W w')=>(show ∃ o' R,CnAtR w' o' k c s1 R∧Sto (KH k) w o w' o'∧((some 0:Option Int)=none→∃ P,R=some (⟨P,0,none⟩:Addr)∧w.heap.size≤P) from ⟨o3,a3.R,⟨a3,(hX3.ext e).off (by rw [hs1];exact hi),by rw [hn3,hs1,hi]⟩,st3.tr (Sto.ext e),fun h=>by cases h⟩))
  have hks:=Hy (fun w' (e:Ext W w')=>(show (w'.cell? ⟨V,0,none⟩=some (.string (str m))∧w'.cell? ⟨V,1,none⟩=some (.string (str t))∧w'.cell? ⟨V,2,none⟩=some (.int .i64 mi)∧w'.cell? ⟨V,3,none⟩=some (.slice A fs.length ca)) from by
   have hx:=(e.block V (row_lt row3)).trans row3
   exact ⟨(row_facts hx 0 _ rfl).1,(row_facts hx 1 _ rfl).1,(row_facts hx 2 _ rfl).1,(row_facts hx 3 _ rfl).1⟩))
  obtain ⟨h8m,h8t,h8f⟩:=HF.out
  dsimp only at h8m h8t h8f
  have CP:=Hy (fun (w':World) (hE:ErrR w')=>uParse_c m t w' hE)
  have CH:=Hy (fun (w':World) (e:Ext W w') (hE:ErrR w')=>nHosted_c (m,t,mi,fs) h8f A ca w' hE (hA3.rd.ext e))
  have CQ:=Hy (fun (w':World) (e:Ext W w') (hE:ErrR w')=>fRequest_any fs h8f.fit A fs.length ca rfl (str m) (str t) mi w' hE (hA3.rd.ext e))
  have CE:=fun (w':World) (e:Ext W w')=>hFirst_c fs expN A fs.length ca rfl (by have:=h8f.1;omega) (by decide) (fun q hq=>by have:=(h8f.2 q hq).1;simp only [maxLen];omega) w' (hA3.rd.ext e)
  rw [show str expN=⟨#[69,120,112,101,99,116]⟩ from rfl] at CE
  have CE:=Hy CE
  have hEl:=(h8f.vals expN).2
  have HC3:=Hy (show ¬ WBad s1.most (m,t,mi,fs) from by rw [hs1];exact HC3.out)
  have HC4:=Hy (show ¬ WApp s1.row (m,t,mi,fs) from by rw [hs1];exact HC4.out)
  have HQ:=Hy (show wholeC s=(if (tgtL m t).2≠0∨(0<mi∧hostedC (m,t,mi,fs)=false) then (s1,some 400) else if (reqV mi fs).2.2=6 then (s1,some 413) else if (reqV mi fs).2.2=46 then (s1,some 501) else if (reqV mi fs).2.2≠0 then (s1,some 400) else
   if (decide (valsH fs expN≠[]) && decide (0<mi))=true∧lowL ((valsH fs expN).headD [])≠lowL contW then (s1,some 417) else if (reqV mi fs).1=1∧(s1.most:Int)<(reqV mi fs).2.1 then (s1,some 413) else
   ({ s1 with out:=if (decide (valsH fs expN≠[]) && decide (0<mi))=true∧s1.row=[]∧(0<(reqV mi fs).2.1∨(reqV mi fs).1=2) then s1.out++(rsW 100 []).1 else s1.out,rd:=some (newF (reqV mi fs).1.toNat (reqV mi fs).2.1.toNat s1.most),inBody:=true },none)) from by rw [hs1];unfold wholeC;rw [← HR.out])
  have hc1:=HC1.out;unfold WOk at hc1;dsimp only at hc1
  have hc2:=HC2.out;unfold WLen at hc2;dsimp only at hc2
  have hc3:=HC3.out;unfold WBad at hc3;dsimp only at hc3
  have hc4:=HC4.out;unfold WApp at hc4;dsimp only at hc4
  have hrq:=@reqV_ok mi fs
  obtain ⟨⟨tg,te⟩,hte⟩:∃ q,q=tgtL m t:=⟨_,rfl⟩
  obtain ⟨hb,hhb⟩:∃ q,q=hostedC (m,t,mi,fs):=⟨_,rfl⟩
  obtain ⟨⟨kd,nn,re⟩,hrv⟩:∃ q,q=reqV mi fs:=⟨_,rfl⟩
  obtain ⟨es,hes⟩:∃ q,q=valsH fs expN:=⟨_,rfl⟩
  rw [← hte] at CP HQ hc1
  rw [← hhb] at CH HQ hc1
  rw [← hrv] at CQ HQ hrq hc2 hc3 hc4
  rw [← hes] at CE HQ hEl hc3 hc4
  dsimp only at HQ hrq hc1 hc2 hc3 hc4
  have HEL:=Hy hEl
  obtain ⟨tf,th,tp,tq,tr,ts⟩:=tg
  have CP:=Hy (fun w' hE=>(show Calls Tryz.prog 59 #[.string (str m),.string (str t)] w' (Gives (.tuple #[.agg #[.int .i64 tf,.string (str th),.int .i64 tp,.string (str tq),.string (str tr),.bool ts],.int .i64 te]) w') from CP.out w' hE))
  have HX3:=Hy hX3
  have ST3:=Hy st3
  have HN3:=Hy hn3
  have HRQ:=Hy hrq
  obtain ⟨b0,b1,b2,b3⟩:=hks.out W (Ext.rfl' _)
  clear hX3 st3 hn3 row3 hA3 hte hhb hrv hes hrq hEl h8m h8t h8f HF HR
  clear HC1 HC2 HC3 HC4
  have HC1:=Hy hc1;have HC2:=Hy hc2;have HC3:=Hy hc3;have HC4:=Hy hc4
  clear hc1 hc2 hc3 hc4
  obtain ⟨hte0,hmh⟩:=HC1.out
  subst hte0
  go_step
  go_step
  go_cut [] (fun wx=>Ext W wx)
  case first =>
   by_cases h1:0<mi
   ·have hb1:=hmh h1
    subst hb1
    clear HQ HC1 HC2 HC3 HC4 hmh
    go_wp2_with (first
     | (go_at_call 59;refine (CP.out _ (hL.er.ext (hOW.out.ext.tr Xq))).mono ?_;rintro e w4 ⟨rfl,hx4⟩;have k0:=fun x=>(hks.out (w4.alloc x) (Ext.al hx4 x)).1;have k1:=fun x=>(hks.out (w4.alloc x) (Ext.al hx4 x)).2.1;have k2:=fun x=>(hks.out (w4.alloc x) (Ext.al hx4 x)).2.2.1;have k3:=fun x=>(hks.out (w4.alloc x) (Ext.al hx4 x)).2.2.2)
     | (go_at_call 60;refine (CH.out _ Xq (hL.er.ext (hOW.out.ext.tr Xq))).mono ?_;rintro e w5 ⟨rfl,hx5⟩)
     | (go_at_call 40;refine (nRefuse_c _ _).mono ?_;rintro e w9 ⟨rfl,rfl⟩))
    go_meet
    exact Xq
   ·clear HQ HC1 HC2 HC3 HC4 hmh
    go_wp2_with (first
     | (go_at_call 59;refine (CP.out _ (hL.er.ext (hOW.out.ext.tr Xq))).mono ?_;rintro e w4 ⟨rfl,hx4⟩;have k0:=fun x=>(hks.out (w4.alloc x) (Ext.al hx4 x)).1;have k1:=fun x=>(hks.out (w4.alloc x) (Ext.al hx4 x)).2.1;have k2:=fun x=>(hks.out (w4.alloc x) (Ext.al hx4 x)).2.2.1;have k3:=fun x=>(hks.out (w4.alloc x) (Ext.al hx4 x)).2.2.2)
     | (go_at_call 60;refine (CH.out _ Xq (hL.er.ext (hOW.out.ext.tr Xq))).mono ?_;rintro e w5 ⟨rfl,hx5⟩)
     | (go_at_call 40;refine (nRefuse_c _ _).mono ?_;rintro e w9 ⟨rfl,rfl⟩))
    go_meet
    exact Xq
  case rest =>
   have hxw:=hcut
   obtain ⟨W5,rfl⟩:∃ W5,W5=wc:=⟨_,rfl⟩
   have HQ2:=Hy (show wholeC s=(if re=6 then (s1,some 413) else if re=46 then (s1,some 501) else if re≠0 then (s1,some 400) else
    if (decide (es≠[]) && decide (0<mi))=true∧lowL (es.headD [])≠lowL contW then (s1,some 417) else if kd=1∧(s1.most:Int)<nn then (s1,some 413) else
    ({ s1 with out:=if (decide (es≠[]) && decide (0<mi))=true∧s1.row=[]∧(0<nn∨kd=2) then s1.out++(rsW 100 []).1 else s1.out,rd:=some (newF kd.toNat nn.toNat s1.most),inBody:=true },none)) from by
    rw [HQ.out,if_neg]
    rintro (h | ⟨h1,h2⟩)
    ·exact h rfl
    ·rw [hmh h1] at h2;cases h2)
   clear HQ hmh HC1 CP CH b0 b1 b2 b3
   obtain ⟨b0,b1,b2,b3⟩:=hks.out W5 hxw
   go_step
   go_step
   go_cut [5,6] (fun v5 v6 wx=>LenW W kd nn re v5 v6 wx)
   case first=>
    go_wp2_with (first
     | (go_at_call 49;refine (CQ.out _ Xq (hL.er.ext (hOW.out.ext.tr Xq))).mono ?_;rintro e w6 ⟨rfl,hx6⟩))
    go_meet
    exact ⟨_,rfl,rfl,heap_alloc_new w6 _,(hxw.tr hx6).size,Xq⟩
   case rest =>
    obtain ⟨q,rfl,rfl,rowq,hqW,hx6⟩:=hcut
    obtain ⟨W6,rfl⟩:∃ W6,W6=wc:=⟨_,rfl⟩
    clear hxw b0 b1 b2 b3 CQ
    have hkq:=Hy (fun w' (e:Ext W6 w')=>(show w'.heap[q]?=some (.cells #[.int .i64 kd,.int .i64 nn] 78 (0,0)) from (e.block q (row_lt rowq)).trans rowq))
    have HX6:=Hy hx6
    clear rowq
    have hre:=HC2.out
    subst hre
    go_step
    go_step
    go_cut [] (fun wx=>wx=W6)
    case first =>
     clear HQ2 HC3 HC4
     go_wp2
     go_meet
     first | trivial | rfl
    case rest =>
     have hw6:=hcut.symm
     subst hw6
     have HQ2:=Hy (show wholeC s=(if (decide (es≠[]) && decide (0<mi))=true∧lowL (es.headD [])≠lowL contW then (s1,some 417) else if kd=1∧(s1.most:Int)<nn then (s1,some 413) else
      ({ s1 with out:=if (decide (es≠[]) && decide (0<mi))=true∧s1.row=[]∧(0<nn∨kd=2) then s1.out++(rsW 100 []).1 else s1.out,rd:=some (newF kd.toNat nn.toNat s1.most),inBody:=true },none)) from by rw [HQ2.out];rfl)
     obtain ⟨hd,hhd⟩:∃ h,h=es.headD []:=⟨_,rfl⟩
     obtain ⟨he,hhe⟩:∃ h,h=decide (es≠[]):=⟨_,rfl⟩
     have hdl:hd.length≤8192:=by
      rw [hhd]
      cases es with
      | nil=>exact Nat.zero_le _
      | cons v t=>exact HEL.out v (by simp)
     have CE2:=Hy (fun (w':World) (e:Ext W w')=>(show Calls Tryz.prog 61 #[.slice A fs.length ca,.string ⟨#[69,120,112,101,99,116]⟩] w' (Gives (.tuple #[.string (str hd),.bool he]) w') from by
      have h:=CE.out w' e
      rw [hhd,hhe]
      cases es with
      | nil=>exact h
      | cons v t=>exact h))
     rw [← hhd,← hhe] at HQ2 HC3;rw [← hhe] at HC4
     clear CE HEL hhd hhe
     obtain ⟨b0,b1,b2,b3⟩:=hks.out _ HX6.out
     go_step
     go_step
     go_cut [7,8] (fun v7 v8 wx=>v7=.string (str hd)∧v8=.bool he∧Ext W6 wx)
     case first=>
      go_wp2_with (go_at_call 61;refine (CE2.out _ HX6.out).mono ?_;rintro e w7 ⟨rfl,hx7⟩)
      go_meet
      exact ⟨rfl,rfl,hx7⟩
     case rest =>
      obtain ⟨rfl,rfl,hx7⟩:=hcut
      obtain ⟨W7,rfl⟩:∃ W7,W7=wc:=⟨_,rfl⟩
      clear b0 b1 b2 b3 CE2
      obtain ⟨b0,b1,b2,b3⟩:=hks.out W7 (HX6.out.tr hx7)
      have HX7:=Hy hx7
      clear hx7
      go_step
      go_step
      obtain ⟨ex,hex⟩:∃ x,x=(he && decide (0<mi)):=⟨_,rfl⟩
      rw [← hex] at HQ2 HC3 HC4
      go_cut [8] (fun v8 wx=>v8=.bool ex∧wx=W7)
      case first=>
       cases he with
       | false =>
        rw [Bool.false_and] at hex
        subst hex
        go_wp2
        go_meet
        exact ⟨rfl,rfl⟩
       | true =>
        rw [Bool.true_and] at hex
        by_cases h1:0<mi
        ·rw [decide_eq_true h1] at hex
         subst hex
         go_wp2
         go_meet
         exact ⟨rfl,rfl⟩
        ·rw [decide_eq_false h1] at hex
         subst hex
         go_wp2
         go_meet
         exact ⟨rfl,rfl⟩
      case rest =>
       obtain ⟨rfl,hw7⟩:=hcut
       have hw7:=hw7.symm
       subst hw7
       clear hex
       have hk7:=hkq.out _ HX7.out
       have q0:W7.cell? ⟨q,0,none⟩=some (.int .i64 kd):=(row_facts hk7 0 _ rfl).1
       have q1:W7.cell? ⟨q,1,none⟩=some (.int .i64 nn):=(row_facts hk7 1 _ rfl).1
       have hX7:=HX3.out.ext (HX6.out.tr HX7.out)
       have d0:W7.cell? ⟨c,0,none⟩=some (.int .i64 (s1.most:Int)):=hX7.row.c0
       have d16:W7.cell? ⟨c,16,none⟩=some (.slice a3.L s1.row.length a3.cl):=hX7.row.c16
       have CEq:=Hy (fun (w':World)=>Equal_c hd contW (by simp only [maxLen];omega) (by decide) w')
       rw [show str contW=⟨#[49,48,48,45,99,111,110,116,105,110,117,101]⟩ from rfl] at CEq
       obtain ⟨eq,heq⟩:∃ x,x=(lowL hd == lowL contW):=⟨_,rfl⟩
       have HEQ:=Hy (show (lowL hd≠lowL contW)↔eq=false from by rw [heq,beq_eq_false_iff_ne])
       rw [← heq] at CEq
       have HX7':=Hy hX7
       have hsm:s1.most=s.most∧s1.out=s.out:=by rw [hs1];exact ⟨rfl,rfl⟩
       have HSM:=Hy hsm
       have HI1:=Hy (show s1.inBody=false from by rw [hs1];exact hi)
       clear heq hX7 hk7 hs1 hsm
       obtain ⟨mo,hmo1⟩:∃ x,x=s1.most:=⟨_,rfl⟩
       obtain ⟨nr,hnr⟩:∃ x,x=s1.row.length:=⟨_,rfl⟩
       rw [← hmo1] at d0 HQ2 HC3
       rw [← hnr] at d16
       have HNR:=Hy hnr
       have HMO:=Hy hmo1
       clear hnr hmo1
       have CWR:=Hy (fun (w':World) (e:Ext W w')=>hWriteRsp_c 100 [] none 0 0 (by omega) (by omega) rfl (by omega) (by simp) w' (.inl rfl) (hL.pw.ext (hOW.out.ext.tr e)) (hL.mx.ext (hOW.out.ext.tr e)))
       have HCL:=Hy (rsW_le 100 [])
       have HOL:=Hy (show s1.out.length≤100000 from by rw [HSM.out.2];exact hout)
       have hqc:¬ q=c:=fun e=>by have h1:=row_lt HX3.out.row;omega
       have HKX:=Hy (fun (w':World) (e:Ext W7 w')=>(show w'.cell? ⟨q,0,none⟩=some (.int .i64 kd)∧w'.cell? ⟨q,1,none⟩=some (.int .i64 nn)∧w'.cell? ⟨c,0,none⟩=some (.int .i64 (mo:Int))∧w'.cell? ⟨c,16,none⟩=some (.slice a3.L nr a3.cl)∧w'.cell? ⟨c,18,none⟩=some (.slice a3.O s1.out.length a3.co) from by
        have h1:=hkq.out _ (HX7.out.tr e)
        have h2:=(HX7'.out.ext e).row
        exact ⟨(row_facts h1 0 _ rfl).1,(row_facts h1 1 _ rfl).1,by rw [HMO.out];exact h2.c0,by rw [HNR.out];exact h2.c16,h2.c18⟩))
       go_step
       go_step
       go_cut [] (fun wx=>OutW k c w o { s1 with inBody:=true } (nxC false) q kd nn wx)
       case first =>
        have HK:=HKX
        have HSK:=Hy (fun (w':World) (e:Ext W7 w')=>(show OutW k c w o { s1 with inBody:=true } (nxC false) q kd nn w' from ⟨hkq.out _ (HX7.out.tr e),o3,a3,HX7'.out.ext e,ST3.out.tr (Sto.ext (HX6.out.tr (HX7.out.tr e))),HN3.out⟩))
        cases ex with
        | false =>
         clear CEq HEQ
         by_cases k1:kd=1
         ·subst k1
          have k2:¬(mo:Int)<nn:=fun h=>HC3.out (.inr ⟨rfl,h⟩)
          clear HQ2 HC3 HC4
          go_wp2
          go_quiet (fail)
          go_wp2
          go_meet
          exact HSK.out _ Xq
         ·have k1b:(kd == 1)=false:=by rw [beq_eq_false_iff_ne];exact k1
          clear HQ2 HC3 HC4
          go_wp2
          go_quiet (fail)
          go_wp2
          go_meet
          exact HSK.out _ Xq
        | true =>
         have heq1:eq=true:=by
          cases eq with
          | true=>rfl
          | false=>exact absurd (.inl ⟨rfl,HEQ.out.2 rfl⟩) HC3.out
         subst heq1
         have H3:=Hy (fun (h:kd=1∧(mo:Int)<nn)=>HC3.out (.inr h))
         have H4:=Hy (fun (h1:nr=0) (h:0<nn∨kd=2)=>HC4.out ⟨rfl,List.eq_nil_of_length_eq_zero (by rw [← HNR.out];exact h1),h⟩)
         clear HQ2 HC3 HC4 HEQ
         by_cases k1:kd=1
         ·subst k1
          have k2:¬(mo:Int)<nn:=fun h=>H3.out ⟨rfl,h⟩
          by_cases n0:nr=0
          ·have n1:¬ 0<nn:=fun h=>H4.out n0 (.inl h)
           clear H3 H4
           subst n0
           go_wp2_with (go_at_call 62;refine (CEq.out _).mono ?_;rintro e w8 ⟨rfl,hx8⟩;obtain ⟨y0,y1,y2,y3,y4⟩:=HK.out w8 hx8)
           go_quiet (fail)
           go_wp2_with (go_at_call 40;refine (nRefuse_c _ _).mono ?_;rintro e w9 ⟨rfl,rfl⟩)
           go_meet
           exact HSK.out _ Xq
          ·have n0b:((nr:Int) == 0)=false:=by rw [beq_eq_false_iff_ne];omega
           clear H3 H4
           go_wp2_with (go_at_call 62;refine (CEq.out _).mono ?_;rintro e w8 ⟨rfl,hx8⟩;obtain ⟨y0,y1,y2,y3,y4⟩:=HK.out w8 hx8)
           go_quiet (fail)
           go_wp2_with (go_at_call 40;refine (nRefuse_c _ _).mono ?_;rintro e w9 ⟨rfl,rfl⟩)
           go_meet
           exact HSK.out _ Xq
         ·have k1b:(kd == 1)=false:=by rw [beq_eq_false_iff_ne];exact k1
          by_cases n0:nr=0
          ·have n1:¬ 0<nn:=fun h=>H4.out n0 (.inl h)
           have k2:¬ kd=2:=fun h=>H4.out n0 (.inr h)
           have k2b:(kd == 2)=false:=by rw [beq_eq_false_iff_ne];exact k2
           clear H3 H4 k1 k2
           subst n0
           go_wp2_with (go_at_call 62;refine (CEq.out _).mono ?_;rintro e w8 ⟨rfl,hx8⟩;obtain ⟨y0,y1,y2,y3,y4⟩:=HK.out w8 hx8)
           go_quiet (fail)
           go_wp2_with (go_at_call 40;refine (nRefuse_c _ _).mono ?_;rintro e w9 ⟨rfl,rfl⟩)
           go_meet
           exact HSK.out _ Xq
          ·have n0b:((nr:Int) == 0)=false:=by rw [beq_eq_false_iff_ne];omega
           clear H3 H4 k1
           go_wp2_with (go_at_call 62;refine (CEq.out _).mono ?_;rintro e w8 ⟨rfl,hx8⟩;obtain ⟨y0,y1,y2,y3,y4⟩:=HK.out w8 hx8)
           go_quiet (fail)
           go_wp2_with (go_at_call 40;refine (nRefuse_c _ _).mono ?_;rintro e w9 ⟨rfl,rfl⟩)
           go_meet
           exact HSK.out _ Xq
       case rest =>
        obtain ⟨rowq,o8,a8,hX8,st8,hn8⟩:=hcut
        obtain ⟨s2,hs2⟩:∃ s2:Cst,s2={ s1 with inBody:=true }:=⟨_,rfl⟩
        rw [← hs2] at hX8
        obtain ⟨r1,r2,r3,r4,r5⟩:=HRQ.out rfl
        have HQ9:=Hy (show wholeC s=({ s2 with rd:=some (newF kd.toNat nn.toNat mo) },none) from by
         rw [HQ2.out,if_neg (fun h=>HC3.out (.inl h)),if_neg (fun h=>HC3.out (.inr h)),if_neg HC4.out,hs2,HMO.out])
        have hmo2:s2.most=mo:=by rw [hs2,HMO.out]
        have hib:s2.inBody=true:=by rw [hs2]
        have k0:wc.cell? ⟨q,0,none⟩=some (.int .i64 kd):=(row_facts rowq 0 _ rfl).1
        have k1:wc.cell? ⟨q,1,none⟩=some (.int .i64 nn):=(row_facts rowq 1 _ rfl).1
        have k2:wc.cell? ⟨c,0,none⟩=some (.int .i64 (mo:Int)):=by rw [← hmo2];exact hX8.row.c0
        have hmo3:mo≤1048576:=by rw [HMO.out,HSM.out.1];exact hmo
        have CN:=fNew_yes (k+9) kd.toNat nn.toNat mo (by omega) (by omega) hmo3 (by omega)
        rw [Int.toNat_of_nonneg r1,Int.toNat_of_nonneg r3] at CN
        have CN:=Hy CN
        have HX8:=Hy hX8
        have ST8:=Hy st8
        have HN8:=Hy hn8
        have HS2:=Hy hib
        clear HC3 HC4 HKX hX8 st8 hn8 hs2 hmo2 hib rowq HQ2 HEQ HRQ r1 r2 r3 r4 r5 hkq CEq CWR q0 q1 d0 d16
        go_step
        go_step
        go_cut [] (fun wx=>NewR k c w o { s2 with rd:=some (newF kd.toNat nn.toNat mo) } (nxC false) wx)
        case first=>
         go_region_with (first
          | (go_at_call 35;refine (CN.out _ o8).mono ?_;rintro e w9 ⟨v,o9,rfl,⟨P,rfl,hf9,hPl⟩,st9⟩;have hx9:=st9.noExt;have r9:=HX8.out.row.ext (show Ext wc w9 from Xq);have y8:=(r9.at_ 8 _ rfl).1;have g8:=(r9.at_ 8 _ rfl).2;clear r9))
         all_goals (go_wp2_with fail;go_meet)
         all_goals (
          have hh:=HX8.out.rdNew hk hk8 (by first | exact st9 | exact (Stp.ext ((Ext.rfl' _).dr)).tr st9) (newF kd.toNat nn.toNat mo) hf9
          exact ⟨P,o9,_,Nat.le_trans ST8.out.size (by first | exact hPl | (simpa using hPl)),hh.1,ST8.out.tr hh.2,HN8.out,rfl⟩)
        case rest =>
         obtain ⟨P,o10,a10,hPw,hX10,st10,hn10,hPR⟩:=hcut
         have HPR:=Hy (And.intro hPR hPw)
         have d6:=hX10.row.c6
         have f6:=hX10.row.fz 6 (by decide)
         have hmf:∀ (fn:Fn) (first cap:Array Value) (w:World),(Instr.makeFunc fn first cap).run Tryz.prog w=.ok (.func fn first cap) w:=fun _ _ _ _=>rfl
         have hp:=hX10.p.cell hk hX10.own 6 (.func (.func 64) #[.pointer (some ⟨c,0,none⟩)] #[])
         have HT:=Hy (show CnAtR (wc.setCell ⟨c,6,none⟩ (.func (.func 64) #[.pointer (some ⟨c,0,none⟩)] #[])) o10 k c { s2 with rd:=some (newF kd.toNat nn.toNat mo) } (some ⟨P,0,none⟩)∧Sto (KH k) w o (wc.setCell ⟨c,6,none⟩ (.func (.func 64) #[.pointer (some ⟨c,0,none⟩)] #[])) o10 from
          ⟨⟨{ a10 with nx:=64 },⟨hX10.own,hX10.row.set 6 _ rfl,hp.hp,hp.rd,hp.r,hp.got,hp.evs,hp.ez,hp.row,hp.lz,hp.out,hp.oz⟩,by rw [HS2.out];exact Prod.ext rfl hPR⟩,st10.tr (setH_sto 6 _ hX10.own hk8)⟩)
         clear hX10 st10 hn10 hp hPR hPw
         go_wp2
         go_end0
         rw [HQ9.out]
         exact ⟨rfl,o10,_,HT.out.1,HT.out.2,fun _=>⟨P,rfl,HPR.out.2⟩⟩
end Go.Proofs.YthbofilcnpdghaaGreatDoor
