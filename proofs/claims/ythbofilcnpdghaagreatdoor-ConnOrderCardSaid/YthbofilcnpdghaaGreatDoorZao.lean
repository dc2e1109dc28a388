/-
Head's Feed: bytes for a parser that may go on.
-/
import Derived.Test.YthbofilcnpdghaaGreatDoorZan
import Derived.Test.YthbofilcnpdghaaGreatDoorZal
set_option maxRecDepth 100000
set_option maxHeartbeats 8000000
set_option linter.unusedVariables false
set_option linter.unusedSimpArgs false
section
namespace Go.Proofs.YthbofilcnpdghaaGreatDoor
open Go.RowKit Go.Extern.Stop Go.Stop Go.Extern
theorem PsAt.er {w:World} {o:Ow} {k P:Nat} {s:Pst} (h:PsAt w o k P s) (e:Int):PsAt (w.setCell ⟨P,7,none⟩ (.int .i64 e)) o k P { s with e:=e }:=by
 obtain ⟨A,c,B,d,hr,h1,h2,h3,h4⟩:=h.row
 exact PsAt.of h.own (hr.set 7 _ rfl) (h1.stp (Stp.set (K:=fun i=>i=k) P 7 _ (fun _=>h.own)) (by omega)) h2 (h3.stp (Stp.set (K:=fun i=>i=k) P 7 _ (fun _=>h.own)) (by omega)) h4
theorem PsAt.oth {w:World} {o:Ow} {k P:Nat} {s:Pst} (h:PsAt w o k P s) (b off:Nat) (u:Value) (hb:o b=k+3):PsAt (w.setCell ⟨b,off,none⟩ u) o k P s :=
 h.stp (K:=fun i=>i=k+3) (Stp.set b off u (fun _=>hb)) (by omega) (by omega) (by omega)
theorem Rd.byte {w:World} {B:Option Addr} {l:List UInt8} (h:Rd w B (bc l)) {j:Nat} (hj:j<l.length):∃ g f,B=some ⟨g,f,none⟩∧w.cell? ⟨g,f+j,none⟩=some (.int .u8 (l[j].toNat:Int)):=by
 obtain ⟨g,f,hB,_,hc⟩:=h.at_ (by rw [bc_len];omega)
 exact ⟨g,f,hB,hc j _ (bc_at l j hj)⟩
theorem pst_e {s:Pst} (h:s.e=0):{ s with e:=0 }=s:=by
 obtain ⟨r,ln,cr,dn,al,em,e,nx,me,tg,mi,st,re,fl⟩:=s
 dsimp only at h
 subst h
 rfl
theorem feed_fin {s z:Pst} {b:List UInt8} {u:Nat} (HQ:feedP s b=({ (runP s b).1 with e:=(runP s b).2.2 },(runP s b).2.1,decide ((runP s b).2.2=0) && (runP s b).1.done,(runP s b).2.2)) (hr:runP s b=(z,u,0)) (he:z.e=0):feedP s b=(z,u,z.done,0):=by
 rw [HQ,hr]
 dsimp only
 rw [pst_e he]
 simp
theorem feed_err {s z:Pst} {b:List UInt8} {u:Nat} {e:Int} (HQ:feedP s b=({ (runP s b).1 with e:=(runP s b).2.2 },(runP s b).2.1,decide ((runP s b).2.2=0) && (runP s b).1.done,(runP s b).2.2)) (hr:runP s b=(z,u,e)) (he:e≠0):feedP s b=({ z with e:=e },u,false,e):=by
 rw [HQ,hr]
 simp [he]
theorem hFeed_on (k P:Nat) (hk:0<k) (s:Pst) (hs:Pok s) (b:List UInt8) (B:Option Addr) (n d:Nat) (hn:n=b.length) (hb:n≤4611686018427387904) (w:World) (o:Ow) (h:PsAt w o k P s) (hG:Gl w o) (hB:Rd w B (bc b)) (hBo:b≠[]→∀ a,B=some a→a.block<w.heap.size→¬ KP k (o a.block)) :
  Calls Tryz.prog 32 #[.pointer (some ⟨P,0,none⟩),.slice B n d] w (Turns (KP k) w o fun v w' o'=>v=feedV (feedP s b)∧PsAt w' o' k P (feedP s b).1):=by
 have HQ:=Hy (show feedP s b=({ (runP s b).1 with e:=(runP s b).2.2 },(runP s b).2.1,decide ((runP s b).2.2=0) && (runP s b).1.done,(runP s b).2.2) from if_neg (by rw [hs.d0,hs.e0];simp))
 have hd0:=hs.d0
 have he0:=hs.e0
 have HS:=Hy hs
 obtain ⟨A,m,C,l,hr,h1,h2,h3,h4⟩:=h.row
 have HR:=Hy hr
 have HE:=Hy h
 have HG:=Hy hG
 have HN:=Hy hn
 have e3:∀ x y z,Ext w (((w.alloc x).alloc y).alloc z):=fun x y z=>(((Ext.rfl' w).al x).al y).al z
 have c0:=fun x y z=>(hr.ext (e3 x y z)).c0
 have c4:=fun x y z=>(hr.ext (e3 x y z)).c4
 have c7:=fun x y z=>(hr.ext (e3 x y z)).c7
 have hP:P<w.heap.size:=row_lt hr
 rw [hd0] at c4
 rw [he0] at c7
 have HB:=Hy hB
 have HBO:=Hy hBo
 clear hr h1 h2 h3 h4 h hd0 he0 hs hG hB hBo hn
 have hmf:∀ (fn:Fn) (first cap:Array Value) (w:World),(Instr.makeFunc fn first cap).run Tryz.prog w=.ok (.func fn first cap) w:=fun _ _ _ _=>rfl
 go_enter_defers Tryz.func32,Tryz.ntmps32
 go_wp2
 clear c0 c4 c7 hmf
 obtain ⟨V,hV⟩:∃ V,V=w.heap.size:=⟨_,rfl⟩
 obtain ⟨W1,hW1⟩:∃ W,W=((w.alloc (.cells #[.pointer (some ⟨P,0,none⟩)] 55)).alloc (.cells #[.bool false] 4)).alloc (.cells #[.int .i64 0] 25):=⟨_,rfl⟩
 rw [← hW1,← hV]
 obtain ⟨o1,ho1⟩:∃ o1:Ow,o1=fun x=>if x<w.heap.size then o x else k+3:=⟨_,rfl⟩
 have x1:Ext w W1:=by rw [hW1];exact e3 _ _ _
 have t0:Stp (KP k) w o W1 o1:=Stp.ext2 x1 (fun b hb=>by rw [ho1];exact if_pos hb)
 have k3:¬ KP k (k+3):=by unfold KP;omega
 have ow:∀ x,V≤x→o1 x=k+3:=fun x hx=>by rw [ho1];exact if_neg (by omega)
 have sz1:W1.heap.size=V+3:=by rw [hW1,hV];simp
 have b0:W1.heap[V]?=some (.cells #[.pointer (some ⟨P,0,none⟩)] 55 (0,0)):=by
  have h0:=heap_alloc_new w (.cells #[.pointer (some ⟨P,0,none⟩)] 55)
  rw [hW1,hV]
  exact ((((Ext.rfl' (w.alloc _)).al _).al _).block w.heap.size (by simp)).trans h0
 have b1:W1.heap[V+1]?=some (.cells #[.bool false] 4 (0,0)):=by
  have h0:=heap_alloc_new (w.alloc (.cells #[.pointer (some ⟨P,0,none⟩)] 55)) (.cells #[.bool false] 4)
  have hz:(w.alloc (.cells #[.pointer (some ⟨P,0,none⟩)] 55)).heap.size=w.heap.size+1:=by simp
  rw [hz] at h0
  rw [hW1,hV]
  exact (((Ext.rfl' ((w.alloc _).alloc _)).al _).block (w.heap.size+1) (by simp)).trans h0
 have b2:W1.heap[V+1+1]?=some (.cells #[.int .i64 0] 25 (0,0)):=by
  have h0:=heap_alloc_new ((w.alloc (.cells #[.pointer (some ⟨P,0,none⟩)] 55)).alloc (.cells #[.bool false] 4)) (.cells #[.int .i64 0] 25)
  have hz:((w.alloc (.cells #[.pointer (some ⟨P,0,none⟩)] 55)).alloc (.cells #[.bool false] 4)).heap.size=w.heap.size+1+1:=by simp
  rw [hz] at h0
  rw [hW1,hV]
  exact h0
 have HV:=Hy (fun w' o' (t:Stp (KP k) W1 o1 w' o')=>(show (w'.cell? ⟨V,0,none⟩=some (.pointer (some ⟨P,0,none⟩))∧w'.cell? ⟨V+1,0,none⟩=some (.bool false)∧w'.cell? ⟨V+1+1,0,none⟩=some (.int .i64 0))∧w'.frozen? ⟨V+1,0,none⟩=false∧w'.frozen? ⟨V+1+1,0,none⟩=false from by
  have d0:=(t.keep V (row_lt b0) (by rw [ow V (by omega)];exact k3)).trans b0
  have d1:=(t.keep (V+1) (row_lt b1) (by rw [ow (V+1) (by omega)];exact k3)).trans b1
  have d2:=(t.keep (V+1+1) (row_lt b2) (by rw [ow (V+1+1) (by omega)];exact k3)).trans b2
  exact ⟨⟨(row_facts d0 0 _ rfl).1,(row_facts d1 0 _ rfl).1,(row_facts d2 0 _ rfl).1⟩,(row_facts d1 0 _ rfl).2,(row_facts d2 0 _ rfl).2⟩))
 have HOW:=Hy (And.intro (ow (V+1) (by omega)) (ow (V+1+1) (by omega)))
 have RB:=Hy (fun w' o' (t:Stp (KP k) W1 o1 w' o')=>show Rd w' B (bc b) from by
  by_cases h0:b=[]
  ·exact .inl (by rw [h0];rfl)
  ·exact HB.out.stp (t0.tr t) (HBO.out h0))
 have T0:=Hy t0
 have HE1:=Hy (HE.out.stp (K:=fun _=>False) (Stp.ext2 (o':=o1) x1 (fun b hb=>by rw [ho1];exact if_pos hb)) (fun x=>x) (fun x=>x) (fun x=>x))
 have HG1:=Hy (HG.out.stp t0 (by unfold KP;omega))
 have HVV:=Hy hV
 have SZ:=Hy sz1
 have hPV:P<V:=by omega
 clear hV hW1 ho1 x1 t0 ow b0 b1 b2 HB HBO HE HG HR e3 hP sz1
 go_loopw [4,40] (fun u i wr=>∃ (j:Nat) (o':Ow) (sj:Pst),u=.int .i64 (j:Int)∧i=.int .i64 (j:Int)∧j≤n∧PsAt wr o' k P sj∧Pok sj∧Stp (KP k) W1 o1 wr o'∧Hid (runP s b=((runP sj (b.drop j)).1,j+(runP sj (b.drop j)).2.1,(runP sj (b.drop j)).2.2))) (fun _ i _=>n-(intOf i).toNat)
 case atStart=>exact ⟨0,o1,s,rfl,rfl,Nat.zero_le _,HE1.out,HS.out,Stp.rfl',Hy (by simp)⟩
 case round =>
  obtain ⟨j,o',sj,rfl,rfl,hj,hp,hok,hst,HRUN⟩:=hrel
  obtain ⟨⟨v0,v1,v2⟩,z1,z2⟩:=HV.out wr o' hst
  have HST:=Hy hst
  have HP:=Hy hp
  have HOKJ:=Hy hok
  by_cases hlt:j<n
  ·obtain ⟨g,f,rfl,hcb⟩:=(RB.out wr o' hst).byte (j:=j) (by rw [← HN.out];exact hlt)
   have hj0:(0:Int)≤(j:Int):=by omega
   have hj1:(j:Int)<(n:Int):=by omega
   have hj2:IntKind.i64.wrap ((j:Int)+1)=((j+1:Nat):Int):=by rw [IntKind.wrap_i64];omega
   have hdr:b.drop j=b[j]'(by rw [← HN.out];exact hlt)::b.drop (j+1):=List.drop_eq_getElem_cons _
   obtain ⟨c,hc⟩:∃ c,c=b[j]'(by rw [← HN.out];exact hlt):=⟨_,rfl⟩
   rw [← hc] at hcb hdr
   have CT:=hTake_c k P hk sj hok c wr o' hp (HG1.out.stp hst (by unfold KP;omega))
   have HDR:=Hy hdr
   clear hc hdr hp hok hst
   obtain ⟨q,hq⟩:∃ q,q=takeP sj c:=⟨_,rfl⟩
   rw [← hq] at CT
   have HTQ:=Hy hq
   clear hq
   obtain ⟨cN,hcN⟩:∃ x,x=c.toNat:=⟨_,rfl⟩
   rw [← hcN] at CT hcb
   clear hcN
   by_cases h0:q.2=0
   ·have CT2:=Hy (CT.mono (R':=fun r w'=>r=.returned (.tuple #[])∧∃ o'',PsAt w' o'' k P q.1∧Stp (KP k) wr o' w' o'') (by rintro r w' ⟨rfl,h⟩;exact ⟨by rw [h0];rfl,h⟩))
    have H0:=Hy h0
    clear h0 CT
    by_cases hdn:q.1.done=true
    ·have HDN:=Hy hdn
     have hfin:=feed_fin (u:=j+1) HQ.out (by rw [HRUN.out,HDR.out,run_cons,← HTQ.out,if_neg (by rw [H0.out];simp),if_pos hdn]) (by rw [HTQ.out,take_e];exact HOKJ.out.e0)
     have HFIN:=Hy hfin
     clear hfin hdn
     go_wp2_with (go_at_call 47;refine (CT2.out).mono ?_;rintro e w2 ⟨rfl,o2,hp2,st2⟩;have st3:=HST.out.tr st2;obtain ⟨⟨y0,y1,y2⟩,x1,x2⟩:=HV.out w2 o2 st3;obtain ⟨A2,m2,C2,l2,hr2,hgarb⟩:=hp2.row;have k4:=hr2.c4;rw [HDN.out] at k4;have HP2:=Hy hp2;have HST3:=Hy st3;clear hp2 hr2 hgarb st2 st3 v0 v1 v2 z1 z2 hcb)
     have hfin:=HFIN.out
     refine wp_region_noPanic ?_
     go_region_with (fail)
     all_goals refine NoPanic.normal ?_
     all_goals go_wp2
     all_goals (
      refine leaves_cons (f:=46) (args:=#[.pointer (some ⟨V,0,none⟩),.pointer (some ⟨V+1,0,none⟩),.pointer (some ⟨V+1+1,0,none⟩)]) (by simp) (by simp [go_sem]) ?_
      refine (feedD_idle _ _ _ _).mono ?_
      rintro e u' w'' ⟨rfl,rfl,rfl⟩
      refine ⟨.tuple #[.int .i64 ((j:Int)+1),.bool true,.int .i64 0],by simp [results,Tryz.results32,go_sem,y1,y2],?_⟩
      have hq1:o2 (V+1)=k+3:=(HST3.out.own (V+1) (by rw [SZ.out];omega)).trans HOW.out.1
      have hq2:o2 (V+1+1)=k+3:=(HST3.out.own (V+1+1) (by rw [SZ.out];omega)).trans HOW.out.2
      have hv:=HVV.out
      have hp9:=PsAt.oth (PsAt.oth HP2.out (V+1) 0 (.bool true) hq1) (V+1+1) 0 (.int .i64 0) hq2
      have hs9:=Stp.setNew (Stp.setNew (T0.out.tr HST3.out) (V+1) 0 (.bool true) (by omega)) (V+1+1) 0 (.int .i64 0) (by omega)
      exact Turns.mk o2 rfl ⟨by rw [hfin];simp [feedV,HDN.out],by rw [hfin];exact hp9.ext Xq⟩ (hs9.tr (Stp.ext Xq)))
    ·have hdn2:q.1.done=false:=by simpa using hdn
     have HDN:=Hy hdn2
     have HRN:=Hy (show runP s b=((runP q.1 (b.drop (j+1))).1,j+1+(runP q.1 (b.drop (j+1))).2.1,(runP q.1 (b.drop (j+1))).2.2) from by rw [HRUN.out,HDR.out,run_cons,← HTQ.out,if_neg (by rw [H0.out];simp),if_neg hdn];simp only [Prod.mk.injEq,true_and,and_true];omega)
     have HOK2:=Hy (show Pok q.1 from by rw [HTQ.out];exact take_ok HOKJ.out (by rw [← HTQ.out];exact H0.out) (by rw [← HTQ.out];exact hdn2))
     clear hdn hdn2
     go_wp2_with (go_at_call 47;refine (CT2.out).mono ?_;rintro e w2 ⟨rfl,o2,hp2,st2⟩;have st3:=HST.out.tr st2;obtain ⟨⟨y0,y1,y2⟩,x1,x2⟩:=HV.out w2 o2 st3;obtain ⟨A2,m2,C2,l2,hr2,hgarb⟩:=hp2.row;have k4:=hr2.c4;rw [HDN.out] at k4;have HP2:=Hy hp2;have HST3:=Hy st3;clear hp2 hr2 hgarb st2 st3 v0 v1 v2 z1 z2 hcb)
     go_roundw
     case rel=>exact ⟨j+1,o2,q.1,by go_num,by go_num,by omega,HP2.out,HOK2.out,HST3.out,HRN⟩
     case measure=>simp [intOf];omega
   ·have CT2:=Hy (CT.mono (R':=fun r w'=>r=.panicked [{ v:=.iface 25 (.int .i64 q.2),recovered:=false }]∧∃ o'',PsAt w' o'' k P q.1∧Stp (KP k) wr o' w' o'') (by rintro r w' ⟨rfl,h⟩;exact ⟨gone_no h0,h⟩))
    have H0:=Hy h0
    clear h0 CT
    go_wp2_with (go_at_call 47;refine (CT2.out).mono ?_;rintro e w2 ⟨rfl,o2,hp2,st2⟩)
    have st3:=HST.out.tr st2
    obtain ⟨⟨y0,y1,y2⟩,x1,x2⟩:=HV.out w2 o2 st3
    obtain ⟨A2,m2,C2,l2,hr2,_⟩:=hp2.row
    refine leaves_cons (f:=46) (args:=#[.pointer (some ⟨V,0,none⟩),.pointer (some ⟨V+1,0,none⟩),.pointer (some ⟨V+1+1,0,none⟩)]) (by simp) (by simp [go_sem]) ?_
    refine (feedD_caught P V (V+1) (V+1+1) q.2 q.1.e 0 false w2 y0 hr2.c7 (hr2.fz 7 (by decide)) y1 x1 y2 x2 (by omega) (by omega) (by omega) (by omega)).mono ?_
    rintro e u' w'' ⟨rfl,rfl,rfl⟩
    have hn1:¬ V+1=P:=by omega
    have hn2:¬ V+1+1=P:=by omega
    refine ⟨.tuple #[.int .i64 ((j:Int)+1),.bool false,.int .i64 q.2],by simp [results,Tryz.results32,go_sem,y1,y2],?_⟩
    have hfin:=feed_err (u:=j+1) HQ.out (by rw [HRUN.out,HDR.out,run_cons,← HTQ.out,if_pos H0.out]) H0.out
    have hq1:o2 (V+1)=k+3:=(st3.own (V+1) (by rw [SZ.out];omega)).trans HOW.out.1
    have hq2:o2 (V+1+1)=k+3:=(st3.own (V+1+1) (by rw [SZ.out];omega)).trans HOW.out.2
    have hv:=HVV.out
    refine Turns.mk o2 rfl ⟨by rw [hfin];simp [feedV],by rw [hfin];exact PsAt.oth (PsAt.oth ((hp2.ext (w':=w2.drew) Xq).er q.2) _ _ _ hq1) _ _ _ hq2⟩ ?_
    exact Stp.setNew (Stp.setNew (((T0.out.tr st3).tr (Stp.ext (w':=w2.drew) Xq)).tr (set_stp 7 _ hp2.own)) _ _ _ (by omega)) _ _ _ (by omega)
  ·have hjn:j=n:=by omega
   subst hjn
   obtain ⟨A1,m1,C1,l1,hr1,_⟩:=hp.row
   have k4:=hr1.c4
   rw [hok.d0] at k4
   have HDN:=Hy hok.d0
   have HFIN:=Hy (feed_fin (u:=j) HQ.out (by rw [HRUN.out,show b.drop j=[] from by rw [HN.out];simp];simp [runP]) hok.e0)
   clear hst hp hok hr1
   go_wp2
   have hfin:=HFIN.out
   have y1:=v1
   have y2:=v2
   refine wp_region_noPanic ?_
   go_region_with (fail)
   all_goals refine NoPanic.normal ?_
   all_goals go_wp2
   all_goals (
    refine leaves_cons (f:=46) (args:=#[.pointer (some ⟨V,0,none⟩),.pointer (some ⟨V+1,0,none⟩),.pointer (some ⟨V+1+1,0,none⟩)]) (by simp) (by simp [go_sem]) ?_
    refine (feedD_idle _ _ _ _).mono ?_
    rintro e u' w'' ⟨rfl,rfl,rfl⟩
    refine ⟨.tuple #[.int .i64 (j:Int),.bool false,.int .i64 0],by simp [results,Tryz.results32,go_sem,y1,y2],?_⟩
    have hq1:o' (V+1)=k+3:=(HST.out.own (V+1) (by rw [SZ.out];omega)).trans HOW.out.1
    have hq2:o' (V+1+1)=k+3:=(HST.out.own (V+1+1) (by rw [SZ.out];omega)).trans HOW.out.2
    have hv:=HVV.out
    have hp9:=PsAt.oth (PsAt.oth HP.out (V+1) 0 (.bool false) hq1) (V+1+1) 0 (.int .i64 0) hq2
    have hs9:=Stp.setNew (Stp.setNew (T0.out.tr HST.out) (V+1) 0 (.bool false) (by omega)) (V+1+1) 0 (.int .i64 0) (by omega)
    exact Turns.mk o' rfl ⟨by rw [hfin];simp [feedV,HDN.out],by rw [hfin];exact hp9.ext Xq⟩ (hs9.tr (Stp.ext Xq)))
def Pgo (s:Pst):Prop:=s.done=true∨s.e≠0∨Pok s
theorem hFeed_c (k P:Nat) (hk:0<k) (s:Pst) (hs:Pgo s) (b:List UInt8) (B:Option Addr) (n d:Nat) (hn:n=b.length) (hb:n≤4611686018427387904) (w:World) (o:Ow) (h:PsAt w o k P s) (hG:Gl w o) (hB:Rd w B (bc b)) (hBo:b≠[]→∀ a,B=some a→a.block<w.heap.size→¬ KP k (o a.block)) :
  Calls Tryz.prog 32 #[.pointer (some ⟨P,0,none⟩),.slice B n d] w (Turns (KP k) w o fun v w' o'=>v=feedV (feedP s b)∧PsAt w' o' k P (feedP s b).1):=by
 rcases hs with h1 | h1 | h1
 ·exact hFeed_shut k P s (.inl h1) b B n d w o h
 ·exact hFeed_shut k P s (.inr h1) b B n d w o h
 ·exact hFeed_on k P hk s h1 b B n d hn hb w o h hG hB hBo
def askP (s:Pst):List UInt8 × List UInt8 × Int × List Fld:=if (s.done && !s.reply)=true then (s.meth,s.targ,s.minor,s.fields) else ([],[],0,[])
def IsRq (r:List UInt8 × List UInt8 × Int × List Fld) (v:Value) (w:World):Prop:=∃ A c,v=.agg #[.string (str r.1),.string (str r.2.1),.int .i64 r.2.2.1,.slice A r.2.2.2.length c]∧Rd w A (fc r.2.2.2)
def IsRqN (w0:World) (r:List UInt8 × List UInt8 × Int × List Fld) (v:Value) (w:World):Prop:=∃ A c,v=.agg #[.string (str r.1),.string (str r.2.1),.int .i64 r.2.2.1,.slice A r.2.2.2.length c]∧Rd w A (fc r.2.2.2)∧(r.2.2.2=[]∨∀ a,A=some a→w0.heap.size≤a.block)
theorem hAsk_no (P:Nat) (d r:Bool) (hdr:(d && !r)=false) (w:World) (h4:w.cell? ⟨P,4,none⟩=some (.bool d)) (h1:w.cell? ⟨P,1,none⟩=some (.bool r)) :
  Calls Tryz.prog 58 #[.pointer (some ⟨P,0,none⟩)] w (Ret (IsRq ([],[],0,[])) w):=by
 have c4:∀ x,(w.alloc x).cell? ⟨P,4,none⟩=some (.bool d):=fun x=>(((Ext.rfl' w).al x).cell (lt_of_cell h4)).trans h4
 have c1:∀ x,(w.alloc x).cell? ⟨P,1,none⟩=some (.bool r):=fun x=>(((Ext.rfl' w).al x).cell (lt_of_cell h1)).trans h1
 clear h4 h1
 cases d with
 | false =>
  clear hdr
  go_enter Tryz.func58,Tryz.ntmps58
  go_wp2
  refine bodyPost_ret (v:=.agg #[.string ⟨#[]⟩,.string ⟨#[]⟩,.int .i64 0,.slice none 0 0]) (by simp [results,Tryz.results58,go_sem]) rfl ?_
  exact Ret.mk ⟨none,0,rfl,.inl rfl⟩ Xq
 | true =>
  cases r with
  | false=>cases hdr
  | true =>
   clear hdr
   go_enter Tryz.func58,Tryz.ntmps58
   go_wp2
   refine bodyPost_ret (v:=.agg #[.string ⟨#[]⟩,.string ⟨#[]⟩,.int .i64 0,.slice none 0 0]) (by simp [results,Tryz.results58,go_sem]) rfl ?_
   exact Ret.mk ⟨none,0,rfl,.inl rfl⟩ Xq
theorem two_rows {w w1:World} {x y:Array Value} {t u:TypeId} (e:Ext ((w.alloc (.cells x t)).alloc (.cells y u)) w1):w1.heap[w.heap.size]?=some (.cells x t (0,0))∧w1.heap[w.heap.size+1]?=some (.cells y u (0,0)):=by
 have hz:(w.alloc (.cells x t)).heap.size=w.heap.size+1:=by simp
 have h1:=heap_alloc_new (w.alloc (.cells x t)) (.cells y u)
 rw [hz] at h1
 exact ⟨(e.block w.heap.size (by simp;omega)).trans ((((Ext.rfl' (w.alloc _)).al _).block w.heap.size (by simp)).trans (heap_alloc_new w (.cells x t))),(e.block (w.heap.size+1) (by simp)).trans h1⟩
theorem hAsk_yes (k P:Nat) (s:Pst) (hd:s.done=true) (hr:s.reply=false) (hf:s.fields.length≤1000000) (w:World) (o:Ow) (h:PsAt w o k P s) :
  Calls Tryz.prog 58 #[.pointer (some ⟨P,0,none⟩)] w (Ret (IsRqN w (s.meth,s.targ,s.minor,s.fields)) w):=by
 obtain ⟨A,c,B,d,hrow,h1,h2,h3,h4⟩:=h.row
 have HR:=Hy hrow
 have HF:=Hy h3.rd
 have cs:∀ x,(w.alloc x).cell? ⟨P,4,none⟩=some (.bool true)∧(w.alloc x).cell? ⟨P,1,none⟩=some (.bool false)∧(w.alloc x).cell? ⟨P,9,none⟩=some (.string (str s.meth))∧(w.alloc x).cell? ⟨P,10,none⟩=some (.string (str s.targ))∧(w.alloc x).cell? ⟨P,11,none⟩=some (.int .i64 s.minor)∧(w.alloc x).cell? ⟨P,12,none⟩=some (.slice none 0 0):=fun x=>by
  have hx:=HR.out.ext ((Ext.rfl' w).al x)
  exact ⟨by rw [← hd];exact hx.c4,by rw [← hr];exact hx.c1,(row_facts hx 9 _ rfl).1,(row_facts hx 10 _ rfl).1,(row_facts hx 11 _ rfl).1,(row_facts hx 12 _ rfl).1⟩
 have c15:∀ x y,((w.alloc x).alloc y).cell? ⟨P,15,none⟩=some (.slice B s.fields.length d):=fun x y=>(HR.out.ext (((Ext.rfl' w).al x).al y)).c15
 have a0:=fun x=>(cs x).1
 have a1:=fun x=>(cs x).2.1
 have a2:=fun x=>(cs x).2.2.1
 have a3:=fun x=>(cs x).2.2.2.1
 have a4:=fun x=>(cs x).2.2.2.2.1
 have a5:=fun x=>(cs x).2.2.2.2.2
 clear cs hrow h1 h2 h3 h4 h hd hr
 go_enter Tryz.func58,Tryz.ntmps58
 go_wp2_with (go_at_call 48;refine (hClone_c 9 s.fields B _ d rfl hf _ (fun _=>8) (HF.out.ext Xq)).mono ?_;rintro e w1 ⟨v,o1,rfl,⟨A1,c1,rfl,hs1,hn1⟩,st1⟩;obtain ⟨g0,g1⟩:=two_rows st1.noExt;obtain ⟨p0,pf0⟩:=row_facts g0 0 _ rfl;obtain ⟨p1,pf1⟩:=row_facts g0 1 _ rfl;obtain ⟨p2,pf2⟩:=row_facts g0 2 _ rfl;obtain ⟨p3,pf3⟩:=row_facts g0 3 _ rfl;obtain ⟨q0,qf0⟩:=row_facts g1 0 _ rfl;obtain ⟨q1,qf1⟩:=row_facts g1 1 _ rfl;obtain ⟨q2,qf2⟩:=row_facts g1 2 _ rfl;obtain ⟨q3,qf3⟩:=row_facts g1 3 _ rfl)
 have hx1:Ext w w1:=(((Ext.rfl' w).al _).al _).tr st1.noExt
 have u0:o1 w.heap.size=8:=(st1.own _ (by simp;omega)).trans rfl
 have u1:o1 (w.heap.size+1)=8:=(st1.own _ (by simp)).trans rfl
 refine bodyPost_ret (v:=.agg #[.string (str s.meth),.string (str s.targ),.int .i64 s.minor,.slice A1 s.fields.length c1]) (by simp [results,Tryz.results58,go_sem,p0,p1,p2,p3]) rfl ?_
 have t1:Stp (fun i=>i=8) w1 o1 _ o1:=Stp.set (w.heap.size+1) 3 (.slice A1 s.fields.length c1) (fun _=>u1)
 refine Ret.mk ⟨A1,c1,rfl,?_,?_⟩ (Ext.st (Ext.st (Ext.st (Ext.st (Ext.st hx1 (by simp) _) (by simp) _) (by simp) _) (by simp) _) (by simp) _)
 ·exact (hs1.stp ((((t1.tr (Stp.set w.heap.size 0 _ (fun _=>u0))).tr (Stp.set w.heap.size 1 _ (fun _=>u0))).tr (Stp.set w.heap.size 2 _ (fun _=>u0))).tr (Stp.set w.heap.size 3 _ (fun _=>u0))) (by omega)).rd
 ·rcases hs1.at_ with h0 | ⟨g,f,hA,hg,hl,_⟩
  ·have:=hs1.le
   exact .inl (List.eq_nil_of_length_eq_zero (by show s.fields.length=0;omega))
  ·refine .inr fun a ha=>?_
   rw [hA] at ha
   cases ha
   rcases Nat.lt_or_ge g w.heap.size with hlt | hge
   ·have:=st1.own g (by simp;omega);rw [hg] at this;exact absurd this (by decide)
   ·exact hge
theorem hAskN_c (k P:Nat) (s:Pst) (hf:s.fields.length≤1000000) (w:World) (o:Ow) (h:PsAt w o k P s):Calls Tryz.prog 58 #[.pointer (some ⟨P,0,none⟩)] w (Ret (IsRqN w (askP s)) w):=by
 unfold askP
 cases hd:(s.done && !s.reply) with
 | true =>
  rw [if_pos rfl]
  rw [Bool.and_eq_true] at hd
  exact hAsk_yes k P s hd.1 (by simpa using hd.2) hf w o h
 | false =>
  rw [if_neg (by decide)]
  obtain ⟨A,c,B,d,hr,_⟩:=h.row
  exact (hAsk_no P s.done s.reply hd w hr.c4 hr.c1).mono (by rintro e w' ⟨v,rfl,⟨A,c,hv,hr⟩,hx⟩;exact Ret.mk ⟨A,c,hv,hr,.inl rfl⟩ hx)
end Go.Proofs.YthbofilcnpdghaaGreatDoor
end
section
namespace Go.Proofs.YthbofilcnpdghaaGreatDoor
open Go.RowKit
def tellP (s:Pst):Int × Int × List UInt8 × List Fld:=if (s.done && s.reply)=true then (s.status,s.minor,s.reason,s.fields) else (0,0,[],[])
def IsRs (r:Int × Int × List UInt8 × List Fld) (v:Value) (w:World):Prop:=∃ A c,v=.tuple #[.int .i64 r.1,.int .i64 r.2.1,.string (str r.2.2.1),.slice A r.2.2.2.length c]∧Rd w A (fc r.2.2.2)
theorem hTell_no (P:Nat) (d r:Bool) (hdr:(d && r)=false) (w:World) (h4:w.cell? ⟨P,4,none⟩=some (.bool d)) (h1:w.cell? ⟨P,1,none⟩=some (.bool r)) :
  Calls Tryz.prog 33 #[.pointer (some ⟨P,0,none⟩)] w (Ret (IsRs (0,0,[],[])) w):=by
 cases d with
 | false =>
  clear hdr
  go_enter Tryz.func33,Tryz.ntmps33
  go_wp2
  refine bodyPost_ret (v:=.tuple #[.int .i64 0,.int .i64 0,.string ⟨#[]⟩,.slice none 0 0]) (by simp [results,Tryz.results33,go_sem]) rfl ?_
  exact Ret.mk ⟨none,0,rfl,.inl rfl⟩ Xq
 | true =>
  cases r with
  | true=>cases hdr
  | false =>
   clear hdr
   go_enter Tryz.func33,Tryz.ntmps33
   go_wp2
   refine bodyPost_ret (v:=.tuple #[.int .i64 0,.int .i64 0,.string ⟨#[]⟩,.slice none 0 0]) (by simp [results,Tryz.results33,go_sem]) rfl ?_
   exact Ret.mk ⟨none,0,rfl,.inl rfl⟩ Xq
theorem hTell_yes (k P:Nat) (s:Pst) (hd:s.done=true) (hr:s.reply=true) (hf:s.fields.length≤1000000) (w:World) (o:Ow) (h:PsAt w o k P s) :
  Calls Tryz.prog 33 #[.pointer (some ⟨P,0,none⟩)] w (Ret (IsRs (s.status,s.minor,s.reason,s.fields)) w):=by
 obtain ⟨A,c,B,d,hrow,h1,h2,h3,h4⟩:=h.row
 have HR:=Hy hrow
 have HF:=Hy h3.rd
 have c4:=hrow.c4
 have c1:=hrow.c1
 rw [hd] at c4
 rw [hr] at c1
 obtain ⟨fs,hfs⟩:∃ q,q=s.fields:=⟨_,rfl⟩
 obtain ⟨ms,hms⟩:∃ q,q=s.minor:=⟨_,rfl⟩
 obtain ⟨ss,hss⟩:∃ q,q=s.status:=⟨_,rfl⟩
 obtain ⟨rs,hrs⟩:∃ q,q=str s.reason:=⟨_,rfl⟩
 have hks:=Hy (fun w' (e:Ext w w')=>(show w'.cell? ⟨P,11,none⟩=some (.int .i64 ms)∧w'.cell? ⟨P,13,none⟩=some (.int .i64 ss)∧w'.cell? ⟨P,14,none⟩=some (.string rs)∧w'.cell? ⟨P,15,none⟩=some (.slice B fs.length d) from by
  have hx:=HR.out.ext e
  rw [hms,hss,hrs,hfs]
  exact ⟨(row_facts hx 11 _ rfl).1,(row_facts hx 13 _ rfl).1,(row_facts hx 14 _ rfl).1,hx.c15⟩))
 obtain ⟨a0,a1,a2,a3⟩:=hks.out w (Ext.rfl' w)
 have HRS:=Hy hrs
 rw [← hfs] at HF hf
 rw [← hfs,← hms,← hss]
 have CC:=Hy (fun w' h'=>hClone_c 9 fs B _ d rfl hf w' o h')
 clear hrow h1 h2 h3 h4 h hd hr hfs hms hss hrs HR
 go_enter Tryz.func33,Tryz.ntmps33
 go_wp2
 go_region_held3 (fun w'=>w'.cell? ⟨P,11,none⟩=some (.int .i64 ms)∧w'.cell? ⟨P,13,none⟩=some (.int .i64 ss)∧w'.cell? ⟨P,14,none⟩=some (.string rs)∧w'.cell? ⟨P,15,none⟩=some (.slice B fs.length d)) (exact hks.out _ Xq) (first
  | (go_at_call 48;refine (CC.out _ (HF.out.ext Xq)).mono ?_;rintro e w1 ⟨v,o1,rfl,⟨A1,c1,rfl,hs1,hn1⟩,st1⟩;have hx1:=st1.noExt))
 all_goals go_wp2
 all_goals (
  refine bodyPost_ret (v:=.tuple #[.int .i64 ss,.int .i64 ms,.string rs,.slice A1 fs.length c1]) (by simp [results,Tryz.results33,go_sem]) rfl ?_
  exact Ret.mk ⟨A1,c1,by rw [HRS.out],hs1.rd⟩ (Ext.tr Xq hx1))
theorem hTell_c (k P:Nat) (s:Pst) (hf:s.fields.length≤1000000) (w:World) (o:Ow) (h:PsAt w o k P s):Calls Tryz.prog 33 #[.pointer (some ⟨P,0,none⟩)] w (Ret (IsRs (tellP s)) w):=by
 unfold tellP
 cases hd:(s.done && s.reply) with
 | true =>
  rw [if_pos rfl]
  rw [Bool.and_eq_true] at hd
  exact hTell_yes k P s hd.1 hd.2 hf w o h
 | false =>
  rw [if_neg (by decide)]
  obtain ⟨A,c,B,d,hr,_⟩:=h.row
  exact hTell_no P s.done s.reply hd w hr.c4 hr.c1
theorem dw_idH (p:UInt8→Bool):∀ l:List UInt8,(l.dropWhile p).dropWhile p=l.dropWhile p
 | []=>rfl
 | a::l=>by by_cases h:p a=true <;> simp [List.dropWhile_cons,h,dw_idH p l]
theorem trim_idH (l:List UInt8):trimL (trimL l)=trimL l:=by
 rw [trimL_eq (trimL l)]
 have h1:(trimL l).dropWhile blk=trimL l:=by
  rw [trimL_eq l,← trim_comm blk l,dw_idH]
 rw [h1]
 have h2:(trimL l).reverse.dropWhile blk=(trimL l).reverse:=by
  rw [trimL_eq l,List.reverse_reverse,dw_idH]
 rw [h2,List.reverse_reverse]
def FOk (f:Fld):Prop:=tokL f.1=true∧vlL f.2=true∧trimL f.2=f.2∧f.1.length≤8192∧f.2.length≤8192
structure HInv (u:List UInt8) (s:Pst):Prop where
 nx:s.nx=37∨s.nx=51
 ends:s.nx=51→s.line=[]→if s.cr=true then ∃ v,u=v++[13,10,13] else ∃ v,u=v++[13,10]
 crU:s.cr=true→∃ v,u=v++[13]
 first:s.nx=51→tokL s.meth=true∧tgH s.targ=true∧s.meth.length≤8192∧s.targ.length≤8192
 ln:s.line.length≤8192
 flds:∀ f∈s.fields,FOk f
structure HEnd (u:List UInt8) (s:Pst):Prop where
 ends:∃ v,u=v++[13,10,13,10]
 tok:tokL s.meth=true
 tg:tgH s.targ=true
 lm:s.meth.length≤8192
 lt:s.targ.length≤8192
 flds:∀ f∈s.fields,FOk f
theorem fldV_ok {l:List UInt8} {p:Fld} (hl:l.length≤8192) (h:fldV l=some p):FOk p:=by
 unfold fldV at h
 cases hc:cutW 58 l with
 | none=>rw [hc] at h;cases h
 | some q =>
  rw [hc] at h
  dsimp only at h
  split at h
  ·rename_i hg
   cases h
   rw [Bool.and_eq_true] at hg
   obtain ⟨e,_⟩:=cutW_some hc
   have e2:=congrArg List.length e
   simp at e2
   have:=trim_len q.2
   exact ⟨hg.1,hg.2,trim_idH _,by dsimp only;omega,by dsimp only;omega⟩
  ·cases h
theorem w3_len {l:List UInt8} {p:List UInt8 × List UInt8 × List UInt8} (h:w3 l=some p):p.1.length≤l.length∧p.2.1.length≤l.length:=by
 obtain ⟨a,b,t⟩:=p
 obtain ⟨e,_⟩:=w3_some h
 have e2:=congrArg List.length e
 simp at e2
 constructor <;> (dsimp only;omega)
theorem take_inv {u:List UInt8} {s:Pst} {c:UInt8} (h:HInv u s) (h0:(takeP s c).2=0) :
  s.done=false→((takeP s c).1.done=true→HEnd (u++[c]) (takeP s c).1)∧((takeP s c).1.done=false→HInv (u++[c]) (takeP s c).1):=by
 intro hnd
 unfold takeP at h0 ⊢
 split at h0
 ·cases h0
 ·rename_i k0
  rw [if_neg k0]
  split at h0
  ·rename_i k1
   rw [if_pos k1]
   split at h0
   ·rename_i k2
    rw [if_pos k2]
    subst k2
    obtain ⟨v,hv⟩:=h.crU k1
    have hu:∃ v,u++[10]=v++[13,10]:=⟨v,by rw [hv];simp⟩
    unfold lineP at h0 ⊢
    dsimp only at h0 ⊢
    split at h0
    ·rename_i k3
     rw [if_pos k3]
     unfold reqP at h0 ⊢
     dsimp only at h0 ⊢
     split at h0
     ·rename_i k4
      rw [if_pos k4]
      refine ⟨fun hd=>absurd (hd.symm.trans hnd) (by decide),fun _=>?_⟩
      ·exact ⟨.inl k3,fun hf=>absurd (k3.symm.trans hf) num_rf,fun hc=>(by cases hc),fun hf=>absurd (k3.symm.trans hf) num_rf,Nat.zero_le _,h.flds⟩
     ·rename_i k4
      rw [if_neg k4]
      cases hw:w3 s.line with
      | none=>rw [hw] at h0;cases h0
      | some p =>
       rw [hw] at h0
       dsimp only at h0 ⊢
       split at h0
       ·rename_i k5
        rw [if_pos k5]
        unfold reqG at k5
        simp only [Bool.and_eq_true] at k5
        refine ⟨fun hd=>absurd (hd.symm.trans hnd) (by decide),fun _=>?_⟩
        ·exact ⟨.inr rfl,fun _ _=>by rw [if_neg Bool.false_ne_true];exact hu,fun hc=>(by cases hc),fun _=>⟨k5.1.1.2,k5.1.2,by have:=w3_len hw;have:=h.ln;dsimp only;omega,by have:=w3_len hw;have:=h.ln;dsimp only;omega⟩,Nat.zero_le _,h.flds⟩
       ·cases h0
    ·rename_i k3
     rw [if_neg k3]
     have hnx:s.nx=51:=by rcases h.nx with e | e;exact absurd e k3;exact e
     have k4:¬ s.nx=38:=fun e=>num_sf (e.symm.trans hnx)
     rw [if_neg k4] at h0 ⊢
     unfold fldP at h0 ⊢
     split at h0
     ·rename_i k5
      rw [if_pos k5]
      refine ⟨fun _=>?_,fun hd=>(by cases hd)⟩
      have he:=h.ends hnx k5
      rw [if_pos k1] at he
      obtain ⟨v2,hv2⟩:=he
      exact ⟨⟨v2,by rw [hv2];simp⟩,(h.first hnx).1,(h.first hnx).2.1,(h.first hnx).2.2.1,(h.first hnx).2.2.2,h.flds⟩
     ·rename_i k5
      rw [if_neg k5]
      cases hw:fldV s.line with
      | none=>rw [hw] at h0;cases h0
      | some p =>
       rw [hw] at h0
       dsimp only at h0 ⊢
       split at h0
       ·rename_i k6
        rw [if_pos k6]
        refine ⟨fun hd=>absurd (hd.symm.trans hnd) (by decide),fun _=>?_⟩
        ·refine ⟨.inr hnx,fun _ _=>by rw [if_neg Bool.false_ne_true];exact hu,fun hc=>(by cases hc),h.first,Nat.zero_le _,fun f hf=>?_⟩
         rcases List.mem_append.1 hf with e | e
         ·exact h.flds f e
         ·rw [List.mem_singleton.1 e];exact fldV_ok h.ln hw
       ·cases h0
   ·cases h0
  ·rename_i k1
   rw [if_neg k1]
   split at h0
   ·rename_i k2
    rw [if_pos k2]
    subst k2
    refine ⟨fun hd=>absurd (hd.symm.trans hnd) (by decide),fun _=>?_⟩
    ·refine ⟨h.nx,fun hf hl=>?_,fun _=>⟨u,rfl⟩,h.first,h.ln,h.flds⟩
     have he:=h.ends hf hl
     rw [if_neg k1] at he
     obtain ⟨v,hv⟩:=he
     rw [if_pos rfl]
     exact ⟨v,by rw [hv];simp⟩
   ·rename_i k2
    rw [if_neg k2]
    split at h0
    ·rename_i k3
     rw [if_pos k3]
     split at h0
     ·rename_i k4
      rw [if_pos k4]
      refine ⟨fun hd=>absurd (hd.symm.trans hnd) (by decide),fun _=>?_⟩
      ·exact ⟨h.nx,fun _ hl=>by simp at hl,fun hc=>absurd hc k1,h.first,by dsimp only;rw [List.length_append];simp only [List.length_cons,List.length_nil];omega,h.flds⟩
     ·cases h0
    ·cases h0
theorem run_inv:∀ (l u:List UInt8) (s:Pst),HInv u s→s.done=false→(runP s l).2.2=0→(runP s l).1.done=true→HEnd (u++l.take (runP s l).2.1) (runP s l).1
 | [],u,s,_,h0,_,h2=>by rw [show (runP s []).1=s from rfl,h0] at h2;cases h2
 | c::l,u,s,h,h0,h1,h2=>by
  rw [run_cons] at h1 h2 ⊢
  by_cases k1:(takeP s c).2≠0
  ·rw [if_pos k1] at h1;exact absurd h1 k1
  ·rw [if_neg k1] at h1 h2 ⊢
   have hi:=take_inv (c:=c) h (by simpa using k1) h0
   by_cases k2:(takeP s c).1.done=true
   ·rw [if_pos k2]
    simpa using hi.1 k2
   ·rw [if_neg k2] at h1 h2 ⊢
    have ih:=run_inv l (u++[c]) _ (hi.2 (by simpa using k2)) (by simpa using k2) h1 h2
    simpa using ih
theorem newP_inv:HInv [] (newP false):=⟨.inl rfl,fun h=>absurd h num_rf,fun h=>(by cases h),fun h=>absurd h num_rf,Nat.zero_le _,fun f hf=>by cases hf⟩
theorem take_rf (s:Pst) (c:UInt8) (h:s.fields.length≤100):(takeP s c).1.reply=s.reply∧(takeP s c).1.fields.length≤100:=by
 have hl:∀ (s:Pst) (l:List UInt8),s.fields.length≤100→(lineP s l).1.reply=s.reply∧(lineP s l).1.fields.length≤100:=fun s l h=>by
  unfold lineP
  split
  ·unfold reqP
   split
   ·exact ⟨rfl,h⟩
   ·split
    ·exact ⟨rfl,h⟩
    ·split <;> exact ⟨rfl,h⟩
  ·split
   ·unfold rspP
    split
    ·exact ⟨rfl,h⟩
    ·split <;> exact ⟨rfl,h⟩
   ·unfold fldP
    split
    ·exact ⟨rfl,h⟩
    ·split
     ·exact ⟨rfl,h⟩
     ·split
      ·exact ⟨rfl,by dsimp only;rw [List.length_append];simp only [List.length_cons,List.length_nil];omega⟩
      ·exact ⟨rfl,h⟩
 unfold takeP
 split
 ·exact ⟨rfl,h⟩
 ·split
  ·split
   ·exact hl _ _ h
   ·exact ⟨rfl,h⟩
  ·split
   ·exact ⟨rfl,h⟩
   ·split
    ·split <;> exact ⟨rfl,h⟩
    ·exact ⟨rfl,h⟩
theorem run_rf:∀ (l:List UInt8) (s:Pst),s.fields.length≤100→(runP s l).1.reply=s.reply∧(runP s l).1.fields.length≤100
 | [],s,h=>⟨rfl,h⟩
 | c::l,s,h=>by
  have h1:=take_rf s c h
  have ih:=run_rf l (takeP s c).1 h1.2
  rw [run_cons]
  split
  ·exact h1
  ·split
   ·exact h1
   ·exact ⟨ih.1.trans h1.1,ih.2⟩
theorem feed_rf (l:List UInt8) (s:Pst) (h:s.fields.length≤100):(feedP s l).1.reply=s.reply∧(feedP s l).1.fields.length≤100:=by
 unfold feedP
 split
 ·exact ⟨rfl,h⟩
 ·exact run_rf l s h
end Go.Proofs.YthbofilcnpdghaaGreatDoor
end
