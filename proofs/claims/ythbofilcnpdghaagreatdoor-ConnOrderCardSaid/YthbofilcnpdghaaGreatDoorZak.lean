/-
Framing's feed: bytes for a reader that may go on.
-/
import Derived.Test.YthbofilcnpdghaaGreatDoorZaj
set_option maxRecDepth 100000
set_option maxHeartbeats 8000000
set_option linter.unusedVariables false
set_option linter.unusedSimpArgs false
section
namespace Go.Proofs.YthbofilcnpdghaaGreatDoor
open Go.RowKit Go.Extern.Stop Go.Stop Go.Extern
theorem Rd.byte12 {w:World} {B:Option Addr} {l:List UInt8} (h:Rd w B (bc l)) {j:Nat} (hj:j<l.length):∃ g f,B=some ⟨g,f,none⟩∧w.cell? ⟨g,f+j,none⟩=some (.int .u8 (l[j].toNat:Int)):=by
 obtain ⟨g,f,hB,_,hc⟩:=h.at_ (by rw [bc_len];omega)
 exact ⟨g,f,hB,hc j _ (bc_at l j hj)⟩
theorem rst_e {s:Rst} (h:s.e=0):{ s with e:=0 }=s:=by
 obtain ⟨a,b,c,d,e,f,g,h1,i,j,k,l⟩:=s
 dsimp only at h
 subst h
 rfl
theorem goF_fin {s z:Rst} {b:List UInt8} {u:Nat} (HQ:goF s b=({ (runF (readyF s).1 b).1 with e:=(runF (readyF s).1 b).2.2 },(runF (readyF s).1 b).2.1)) (hr:runF (readyF s).1 b=(z,u,0)) (he:z.e=0):goF s b=(z,u):=by
 rw [HQ,hr]
 dsimp only
 rw [rst_e he]
theorem goF_err {s z:Rst} {b:List UInt8} {u:Nat} {e:Int} (HQ:goF s b=({ (runF (readyF s).1 b).1 with e:=(runF (readyF s).1 b).2.2 },(runF (readyF s).1 b).2.1)) (hr:runF (readyF s).1 b=(z,u,e)):goF s b=({ z with e:=e },u):=by
 rw [HQ,hr]
theorem FsAt.er {w:World} {o:Ow} {k P:Nat} {s:Rst} (h:FsAt w o k P s) (e:Int):FsAt (w.setCell ⟨P,11,none⟩ (.int .i64 e)) o k P { s with e:=e } :=
 h.put 11 _ rfl rfl rfl (fun _ _ _ _ _ _=>rfl)
def stepsC (P:Nat):Array Value:=#[.func (.func 73) #[.pointer (some ⟨P,0,none⟩)] #[],.func (.func 74) #[.pointer (some ⟨P,0,none⟩)] #[],.func (.func 75) #[.pointer (some ⟨P,0,none⟩)] #[],.func (.func 76) #[.pointer (some ⟨P,0,none⟩)] #[],.func (.func 77) #[.pointer (some ⟨P,0,none⟩)] #[]]
theorem fGo_bad (k P:Nat) (hk:0<k) (s:Rst) (hs:Rok s) (hd0:s.done=false) (hbad:(readyF s).2≠0) (b:List UInt8) (B:Option Addr) (n d:Nat) (hn:n=b.length) (w:World) (o:Ow) (h:FsAt w o k P s) (hG:GlF w o) :
  Calls Tryz.prog 50 #[.pointer (some ⟨P,0,none⟩),.slice B n d] w (Turns (KF k) w o fun v w' o'=>v=.int .i64 ((goF s b).2:Int)∧FsAt w' o' k P (goF s b).1):=by
 have HQ:=Hy (show goF s b=({ (readyF s).1 with e:=(readyF s).2 },0) from by unfold goF;rw [if_neg (by rw [hd0,hs.e0];simp)];dsimp only;rw [if_pos hbad])
 have HE:=Hy h
 have HG:=Hy hG
 have HN:=Hy hn
 obtain ⟨A,m,D,l,C,g,hr,h1⟩:=h.row
 have c10:=fun x=>(hr.ext ((Ext.rfl' w).al x)).c10
 have c11:=fun x=>(hr.ext ((Ext.rfl' w).al x)).c11
 have hP:P<w.heap.size:=row_lt hr
 rw [hd0] at c10
 rw [hs.e0] at c11
 have HS:=Hy hs
 clear hr h1 h hG hn hd0 hs
 have hmf:∀ (fn:Fn) (first cap:Array Value) (w:World),(Instr.makeFunc fn first cap).run Tryz.prog w=.ok (.func fn first cap) w:=fun _ _ _ _=>rfl
 obtain ⟨o1,ho1⟩:∃ o1:Ow,o1=fun x=>if x<w.heap.size then o x else k+4:=⟨_,rfl⟩
 have x1:Ext w (w.alloc (.cells #[.pointer (some ⟨P,0,none⟩)] 56)):=(Ext.rfl' w).al _
 have t0:Stp (KF k) w o (w.alloc (.cells #[.pointer (some ⟨P,0,none⟩)] 56)) o1:=Stp.ext2 x1 (fun b hb=>by rw [ho1];exact if_pos hb)
 have hv0:=heap_alloc_new w (.cells #[.pointer (some ⟨P,0,none⟩)] 56)
 have how:o1 w.heap.size=k+4:=by rw [ho1];exact if_neg (by omega)
 have HE1:=HE.out.stp (K:=fun _=>False) (Stp.ext2 (o':=o1) x1 (fun b hb=>by rw [ho1];exact if_pos hb)) (fun x=>x) (fun x=>x) (fun x=>x) (fun x=>x)
 have CR:=fReady_c k P s _ o1 HE1
 obtain ⟨V,hV⟩:∃ V,V=w.heap.size:=⟨_,rfl⟩
 obtain ⟨W0,hW0⟩:∃ W,W=w.alloc (.cells #[.pointer (some ⟨P,0,none⟩)] 56):=⟨_,rfl⟩
 rw [← hW0] at CR t0 hv0 HE1
 rw [← hV] at hv0 how
 have hVlt:V<W0.heap.size:=by rw [hW0,hV];simp
 have k4:¬ KF k (k+4):=by unfold KF;omega
 have HV0:=Hy (fun w' o' (t:Stp (KF k) W0 o1 w' o')=>show w'.heap[V]?=some (.cells #[.pointer (some ⟨P,0,none⟩)] 56 (0,0))∧o' V=k+4∧V<w'.heap.size from
  ⟨(t.keep V hVlt (by rw [how];exact k4)).trans hv0,(t.own V hVlt).trans how,row_lt ((t.keep V hVlt (by rw [how];exact k4)).trans hv0)⟩)
 have T00:=Hy t0
 have HVV:=Hy hV
 clear ho1 x1 t0 hv0 how HE1 hVlt HE
 obtain ⟨q0,hq0⟩:∃ q,q=readyF s:=⟨_,rfl⟩
 rw [← hq0] at CR HQ
 have HQ0:=Hy hq0
 rw [← hq0] at hbad
 have CR2:=Hy (CR.mono (R':=fun r w'=>r=.panicked [{ v:=.iface 25 (.int .i64 q0.2),recovered:=false }]∧∃ o',FsAt w' o' k P q0.1∧Stp (KF k) W0 o1 w' o') (by rintro r w' ⟨rfl,h⟩;exact ⟨goneF_no hbad,h⟩))
 clear CR hq0 hbad
 have HW0:=Hy hW0
 go_enter_defers Tryz.func50,Tryz.ntmps50
 go_wp2_with (go_at_call 72;rw [← HW0.out];refine (CR2.out).mono ?_;rintro e w2 ⟨rfl,o2,hp2,st2⟩)
 rw [← HVV.out]
 obtain ⟨A2,m2,D2,l2,C2,g2,hr2,_⟩:=hp2.row
 obtain ⟨hv2,how2,hlt2⟩:=HV0.out w2 o2 st2
 have hv:=HVV.out
 refine leaves_cons (f:=71) (args:=#[.pointer (some ⟨V,0,none⟩)]) (by simp) (by simp [go_sem]) ?_
 refine (goD_caught P V q0.2 q0.1.e w2 (row_facts hv2 0 _ rfl).1 hr2.c11 (hr2.fz 11 (by decide)) (by omega)).mono ?_
 rintro e u' w'' ⟨rfl,rfl,rfl⟩
 refine ⟨.int .i64 0,by simp [results,Tryz.results50,go_sem],?_⟩
 exact Turns.mk o2 rfl ⟨by rw [HQ.out];rfl,by rw [HQ.out];exact (hp2.er q0.2).ext Xq⟩ (((T00.out.tr st2).tr (setF_stp 11 (.int .i64 q0.2) hp2.own)).tr (Stp.ext Xq))
theorem fGo_on (k P:Nat) (hk:0<k) (s:Rst) (hs:Rok s) (hd0:s.done=false) (hgood:(readyF s).2=0) (b:List UInt8) (B:Option Addr) (n d:Nat) (hn:n=b.length) (hb:n≤4611686018427387904) (w:World) (o:Ow) (h:FsAt w o k P s) (hG:GlF w o) (hB:Rd w B (bc b)) (hBo:b≠[]→∀ a,B=some a→a.block<w.heap.size→¬ KF k (o a.block)) :
  Calls Tryz.prog 50 #[.pointer (some ⟨P,0,none⟩),.slice B n d] w (Turns (KF k) w o fun v w' o'=>v=.int .i64 ((goF s b).2:Int)∧FsAt w' o' k P (goF s b).1):=by
 have HQ:=Hy (show goF s b=({ (runF (readyF s).1 b).1 with e:=(runF (readyF s).1 b).2.2 },(runF (readyF s).1 b).2.1) from by unfold goF;rw [if_neg (by rw [hd0,hs.e0];simp)];dsimp only;rw [if_neg (by rw [hgood];simp)])
 have HB:=Hy hB
 have HBO:=Hy hBo
 clear hB hBo
 have HE:=Hy h
 have HG:=Hy hG
 have HN:=Hy hn
 obtain ⟨A,m,D,l,C,g,hr,h1⟩:=h.row
 have c10:=fun x=>(hr.ext ((Ext.rfl' w).al x)).c10
 have c11:=fun x=>(hr.ext ((Ext.rfl' w).al x)).c11
 have hP:P<w.heap.size:=row_lt hr
 rw [hd0] at c10
 rw [hs.e0] at c11
 have HS:=Hy hs
 clear hr h1 h hG hn hd0 hs
 have hmf:∀ (fn:Fn) (first cap:Array Value) (w:World),(Instr.makeFunc fn first cap).run Tryz.prog w=.ok (.func fn first cap) w:=fun _ _ _ _=>rfl
 obtain ⟨o1,ho1⟩:∃ o1:Ow,o1=fun x=>if x<w.heap.size then o x else k+4:=⟨_,rfl⟩
 have x1:Ext w (w.alloc (.cells #[.pointer (some ⟨P,0,none⟩)] 56)):=(Ext.rfl' w).al _
 have t0:Stp (KF k) w o (w.alloc (.cells #[.pointer (some ⟨P,0,none⟩)] 56)) o1:=Stp.ext2 x1 (fun b hb=>by rw [ho1];exact if_pos hb)
 have hv0:=heap_alloc_new w (.cells #[.pointer (some ⟨P,0,none⟩)] 56)
 have how:o1 w.heap.size=k+4:=by rw [ho1];exact if_neg (by omega)
 have HE1:=HE.out.stp (K:=fun _=>False) (Stp.ext2 (o':=o1) x1 (fun b hb=>by rw [ho1];exact if_pos hb)) (fun x=>x) (fun x=>x) (fun x=>x) (fun x=>x)
 have CR:=fReady_c k P s _ o1 HE1
 obtain ⟨V,hV⟩:∃ V,V=w.heap.size:=⟨_,rfl⟩
 obtain ⟨W0,hW0⟩:∃ W,W=w.alloc (.cells #[.pointer (some ⟨P,0,none⟩)] 56):=⟨_,rfl⟩
 rw [← hW0] at CR t0 hv0 HE1
 rw [← hV] at hv0 how
 have hVlt:V<W0.heap.size:=by rw [hW0,hV];simp
 have k4:¬ KF k (k+4):=by unfold KF;omega
 have HV0:=Hy (fun w' o' (t:Stp (KF k) W0 o1 w' o')=>show w'.heap[V]?=some (.cells #[.pointer (some ⟨P,0,none⟩)] 56 (0,0))∧o' V=k+4∧V<w'.heap.size from
  ⟨(t.keep V hVlt (by rw [how];exact k4)).trans hv0,(t.own V hVlt).trans how,row_lt ((t.keep V hVlt (by rw [how];exact k4)).trans hv0)⟩)
 have T00:=Hy t0
 have HVV:=Hy hV
 clear ho1 x1 t0 hv0 how HE1 hVlt HE
 obtain ⟨q0,hq0⟩:∃ q,q=readyF s:=⟨_,rfl⟩
 rw [← hq0] at CR HQ
 have HQ0:=Hy hq0
 rw [← hq0] at hgood
 have HOK0:=Hy (show Rok q0.1 from by rw [hq0];exact ready_okF HS.out)
 have CR2:=Hy (CR.mono (R':=fun r w'=>r=.returned (.tuple #[])∧∃ o',FsAt w' o' k P q0.1∧Stp (KF k) W0 o1 w' o') (by rintro r w' ⟨rfl,h⟩;exact ⟨by rw [hgood];rfl,h⟩))
 clear CR hq0 hgood
 have HW0:=Hy hW0
 clear hV hW0
 go_enter_defers Tryz.func50,Tryz.ntmps50
 go_wp2_with (go_at_call 72;rw [← HW0.out];refine (CR2.out).mono ?_;rintro e w2 ⟨rfl,o2,hp2,st2⟩;rw [← HVV.out];obtain ⟨hv2,how2,hlt2⟩:=HV0.out w2 o2 st2;have v0:=(row_facts hv2 0 _ rfl).1;clear c10 c11)
 obtain ⟨U,hU⟩:∃ U,U=w2.heap.size:=⟨_,rfl⟩
 obtain ⟨W1,hW1⟩:∃ W,W=w2.alloc (.cells (stepsC P) 120):=⟨_,rfl⟩
 have hW1':=hW1
 unfold stepsC at hW1'
 rw [← hW1',← hU]
 obtain ⟨o3,ho3⟩:∃ o3:Ow,o3=fun x=>if x<w2.heap.size then o2 x else k+4:=⟨_,rfl⟩
 have x3:Ext w2 W1:=by rw [hW1];exact (Ext.rfl' w2).al _
 have t3:Stp (KF k) w2 o2 W1 o3:=Stp.ext2 x3 (fun b hb=>by rw [ho3];exact if_pos hb)
 have T0:=Hy ((T00.out.tr st2).tr t3)
 have bV:=(x3.block V hlt2).trans hv2
 have bU:W1.heap[U]?=some (.cells (stepsC P) 120 (0,0)):=by rw [hW1,hU];exact heap_alloc_new w2 _
 have oV:o3 V=k+4:=by rw [ho3];exact (if_pos hlt2).trans how2
 have oU:o3 U=k+4:=by rw [ho3,hU];exact if_neg (by omega)
 have HV:=Hy (fun w' o' (t:Stp (KF k) W1 o3 w' o')=>show w'.cell? ⟨V,0,none⟩=some (.pointer (some ⟨P,0,none⟩))∧w'.heap[U]?=some (.cells (stepsC P) 120 (0,0)) from
  ⟨(row_facts ((t.keep V (row_lt bV) (by rw [oV];exact k4)).trans bV) 0 _ rfl).1,(t.keep U (row_lt bU) (by rw [oU];exact k4)).trans bU⟩)
 have RB:=Hy (fun w' o' (t:Stp (KF k) W1 o3 w' o')=>show Rd w' B (bc b) from by
  by_cases h0:b=[]
  ·exact .inl (by rw [h0];rfl)
  ·exact HB.out.stp (T0.out.tr t) (HBO.out h0))
 have HE1:=Hy (hp2.stp (K:=fun _=>False) (Stp.ext2 (o':=o3) x3 (fun b hb=>by rw [ho3];exact if_pos hb)) (fun x=>x) (fun x=>x) (fun x=>x) (fun x=>x))
 have HG1:=Hy (HG.out.stp T0.out (by unfold KF;omega))
 have hPV:P<V:=by rw [HVV.out];exact hP
 clear v0 hv2 how2 hlt2 hU hW1 hW1' ho3 x3 t3 bV bU oV oU hp2 st2 HV0 T00 HVV HB HBO CR2 HW0 hmf
 go_loopw [4,35] (fun u i wr=>∃ (j:Nat) (o':Ow) (sj:Rst),u=.int .i64 (j:Int)∧i=.int .i64 (j:Int)∧j≤n∧FsAt wr o' k P sj∧Rok sj∧Stp (KF k) W1 o3 wr o'∧Hid (runF q0.1 b=((runF sj (b.drop j)).1,j+(runF sj (b.drop j)).2.1,(runF sj (b.drop j)).2.2))) (fun _ i _=>n-(intOf i).toNat)
 case atStart=>exact ⟨0,o3,q0.1,rfl,rfl,Nat.zero_le _,HE1.out,HOK0.out,Stp.rfl',Hy (by simp)⟩
 case round =>
  obtain ⟨j,o',sj,rfl,rfl,hj,hp,hok,hst,HRUN⟩:=hrel
  obtain ⟨v0,vU⟩:=HV.out wr o' hst
  have u0:wr.cell? ⟨U,0,none⟩=some (.func (.func 73) #[.pointer (some ⟨P,0,none⟩)] #[]):=(row_facts vU 0 _ rfl).1
  have u1:wr.cell? ⟨U,1,none⟩=some (.func (.func 74) #[.pointer (some ⟨P,0,none⟩)] #[]):=(row_facts vU 1 _ rfl).1
  have u2:wr.cell? ⟨U,2,none⟩=some (.func (.func 75) #[.pointer (some ⟨P,0,none⟩)] #[]):=(row_facts vU 2 _ rfl).1
  have u3:wr.cell? ⟨U,3,none⟩=some (.func (.func 76) #[.pointer (some ⟨P,0,none⟩)] #[]):=(row_facts vU 3 _ rfl).1
  have u4:wr.cell? ⟨U,4,none⟩=some (.func (.func 77) #[.pointer (some ⟨P,0,none⟩)] #[]):=(row_facts vU 4 _ rfl).1
  obtain ⟨A2,m2,D2,l2,C2,g2,hr2,_⟩:=hp.row
  have c10:=hr2.c10
  have HC4:=Hy hr2.c4
  have HST:=Hy hst
  have HP:=Hy hp
  have HOKJ:=Hy hok
  clear vU hr2
  by_cases hlt:j<n
  ·obtain ⟨g,f,rfl,hcb⟩:=(RB.out wr o' hst).byte12 (j:=j) (by rw [← HN.out];exact hlt)
   have hj0:(0:Int)≤(j:Int):=by omega
   have hj1:(j:Int)<(n:Int):=by omega
   have hj2:IntKind.i64.wrap ((j:Int)+1)=((j+1:Nat):Int):=by rw [IntKind.wrap_i64];omega
   cases hdn:sj.done with
   | true =>
    rw [hdn] at c10
    have HFIN:=Hy (goF_fin (z:=sj) (u:=j) (by rw [← HQ0.out];exact HQ.out) (by rw [← HQ0.out,HRUN.out,runF_done hdn];rfl) HOKJ.out.e0)
    clear hdn hp hok hst
    go_wp2
    refine leaves_cons (f:=71) (args:=#[.pointer (some ⟨V,0,none⟩)]) (by simp) (by simp [go_sem]) ?_
    refine (goD_idle _ _).mono ?_
    rintro e u' w'' ⟨rfl,rfl,rfl⟩
    refine ⟨.int .i64 (j:Int),by simp [results,Tryz.results50,go_sem],?_⟩
    exact Turns.mk o' rfl ⟨by rw [HFIN.out],by rw [HFIN.out];exact HP.out.ext Xq⟩ (T0.out.tr (HST.out.tr (Stp.ext Xq)))
   | false =>
    rw [hdn] at c10
    have HDN:=Hy hdn
    have hdr:b.drop j=b[j]'(by rw [← HN.out];exact hlt)::b.drop (j+1):=List.drop_eq_getElem_cons _
    obtain ⟨c,hc⟩:∃ c,c=b[j]'(by rw [← HN.out];exact hlt):=⟨_,rfl⟩
    rw [← hc] at hcb hdr
    have CTT:=fStep_c k P hk sj hok c wr o' hp (HG1.out.stp hst (by unfold KF;omega))
    have HDR:=Hy hdr
    have hst4:=hok.st
    obtain ⟨q,hq⟩:∃ q,q=takeF sj c:=⟨_,rfl⟩
    rw [← hq] at CTT
    have HTQ:=Hy hq
    have HOK2:=Hy (show Rok q.1 from by rw [hq];exact take_okF hok)
    have CTT:=Hy CTT
    clear hdn hc hdr hp hok hst hq
    rcases (show sj.state=0∨sj.state=1∨sj.state=2∨sj.state=3∨sj.state=4 by omega) with hst0 | hst0 | hst0 | hst0 | hst0
    ·clear hst4
     have CT:Calls Tryz.prog 73 #[.pointer (some ⟨P,0,none⟩),.int .u8 (c.toNat:Int)] wr (TurnsF k wr o' P q):=by have h:=CTT.out;rw [hst0] at h;exact h
     have c4:wr.cell? ⟨P,4,none⟩=some (.int .i64 0):=by rw [HC4.out,hst0];rfl
     obtain ⟨cN,hcN⟩:∃ x,x=c.toNat:=⟨_,rfl⟩
     rw [← hcN] at CT hcb
     clear hcN hst0
     by_cases h0:q.2=0
     ·have CT2:=Hy (CT.mono (R':=fun r w'=>r=.returned (.tuple #[])∧∃ o'',FsAt w' o'' k P q.1∧Stp (KF k) wr o' w' o'') (by rintro r w' ⟨rfl,h⟩;exact ⟨by rw [h0];rfl,h⟩))
      have HRN:=Hy (show runF q0.1 b=((runF q.1 (b.drop (j+1))).1,j+1+(runF q.1 (b.drop (j+1))).2.1,(runF q.1 (b.drop (j+1))).2.2) from by rw [HRUN.out,HDR.out,runF_cons,← HTQ.out,if_neg (by rw [HDN.out];decide),if_neg (by rw [h0];simp)];simp only [Prod.mk.injEq,true_and,and_true];omega)
      clear h0 CT
      go_wp2_with (go_at_call 73;refine (CT2.out).mono ?_;rintro e w2 ⟨rfl,o2,hp2,st2⟩;have st3:=HST.out.tr st2;obtain ⟨y0,yU⟩:=HV.out w2 o2 st3;have HP2:=Hy hp2;have HST3:=Hy st3;clear hp2 st2 st3 v0 u0 u1 u2 u3 u4 c4 c10 hcb)
      go_roundw
      case rel=>exact ⟨j+1,o2,q.1,by go_num,by go_num,by omega,HP2.out,HOK2.out,HST3.out,HRN⟩
      case measure=>simp [intOf];omega
     ·have CT2:=Hy (CT.mono (R':=fun r w'=>r=.panicked [{ v:=.iface 25 (.int .i64 q.2),recovered:=false }]∧∃ o'',FsAt w' o'' k P q.1∧Stp (KF k) wr o' w' o'') (by rintro r w' ⟨rfl,h⟩;exact ⟨goneF_no h0,h⟩))
      have H0:=Hy h0
      clear h0 CT
      go_wp2_with (go_at_call 73;refine (CT2.out).mono ?_;rintro e w2 ⟨rfl,o2,hp2,st2⟩)
      have st3:=HST.out.tr st2
      obtain ⟨y0,yU⟩:=HV.out w2 o2 st3
      obtain ⟨A2,m2,D2,l2,C2,g2,hr2,_⟩:=hp2.row
      refine leaves_cons (f:=71) (args:=#[.pointer (some ⟨V,0,none⟩)]) (by simp) (by simp [go_sem]) ?_
      refine (goD_caught P V q.2 q.1.e w2 y0 hr2.c11 (hr2.fz 11 (by decide)) (by omega)).mono ?_
      rintro e u' w'' ⟨rfl,rfl,rfl⟩
      refine ⟨.int .i64 ((j:Int)+1),by simp [results,Tryz.results50,go_sem],?_⟩
      have hfin:=goF_err (z:=q.1) (u:=j+1) (e:=q.2) (by rw [← HQ0.out];exact HQ.out) (by rw [← HQ0.out,HRUN.out,HDR.out,runF_cons,← HTQ.out,if_neg (by rw [HDN.out];decide),if_pos H0.out])
      exact Turns.mk o2 rfl ⟨by rw [hfin];simp,by rw [hfin];exact (hp2.er q.2).ext Xq⟩ (((T0.out.tr st3).tr (setF_stp 11 (.int .i64 q.2) hp2.own)).tr (Stp.ext Xq))
    ·clear hst4
     have CT:Calls Tryz.prog 74 #[.pointer (some ⟨P,0,none⟩),.int .u8 (c.toNat:Int)] wr (TurnsF k wr o' P q):=by have h:=CTT.out;rw [hst0] at h;exact h
     have c4:wr.cell? ⟨P,4,none⟩=some (.int .i64 1):=by rw [HC4.out,hst0];rfl
     obtain ⟨cN,hcN⟩:∃ x,x=c.toNat:=⟨_,rfl⟩
     rw [← hcN] at CT hcb
     clear hcN hst0
     by_cases h0:q.2=0
     ·have CT2:=Hy (CT.mono (R':=fun r w'=>r=.returned (.tuple #[])∧∃ o'',FsAt w' o'' k P q.1∧Stp (KF k) wr o' w' o'') (by rintro r w' ⟨rfl,h⟩;exact ⟨by rw [h0];rfl,h⟩))
      have HRN:=Hy (show runF q0.1 b=((runF q.1 (b.drop (j+1))).1,j+1+(runF q.1 (b.drop (j+1))).2.1,(runF q.1 (b.drop (j+1))).2.2) from by rw [HRUN.out,HDR.out,runF_cons,← HTQ.out,if_neg (by rw [HDN.out];decide),if_neg (by rw [h0];simp)];simp only [Prod.mk.injEq,true_and,and_true];omega)
      clear h0 CT
      go_wp2_with (go_at_call 74;refine (CT2.out).mono ?_;rintro e w2 ⟨rfl,o2,hp2,st2⟩;have st3:=HST.out.tr st2;obtain ⟨y0,yU⟩:=HV.out w2 o2 st3;have HP2:=Hy hp2;have HST3:=Hy st3;clear hp2 st2 st3 v0 u0 u1 u2 u3 u4 c4 c10 hcb)
      go_roundw
      case rel=>exact ⟨j+1,o2,q.1,by go_num,by go_num,by omega,HP2.out,HOK2.out,HST3.out,HRN⟩
      case measure=>simp [intOf];omega
     ·have CT2:=Hy (CT.mono (R':=fun r w'=>r=.panicked [{ v:=.iface 25 (.int .i64 q.2),recovered:=false }]∧∃ o'',FsAt w' o'' k P q.1∧Stp (KF k) wr o' w' o'') (by rintro r w' ⟨rfl,h⟩;exact ⟨goneF_no h0,h⟩))
      have H0:=Hy h0
      clear h0 CT
      go_wp2_with (go_at_call 74;refine (CT2.out).mono ?_;rintro e w2 ⟨rfl,o2,hp2,st2⟩)
      have st3:=HST.out.tr st2
      obtain ⟨y0,yU⟩:=HV.out w2 o2 st3
      obtain ⟨A2,m2,D2,l2,C2,g2,hr2,_⟩:=hp2.row
      refine leaves_cons (f:=71) (args:=#[.pointer (some ⟨V,0,none⟩)]) (by simp) (by simp [go_sem]) ?_
      refine (goD_caught P V q.2 q.1.e w2 y0 hr2.c11 (hr2.fz 11 (by decide)) (by omega)).mono ?_
      rintro e u' w'' ⟨rfl,rfl,rfl⟩
      refine ⟨.int .i64 ((j:Int)+1),by simp [results,Tryz.results50,go_sem],?_⟩
      have hfin:=goF_err (z:=q.1) (u:=j+1) (e:=q.2) (by rw [← HQ0.out];exact HQ.out) (by rw [← HQ0.out,HRUN.out,HDR.out,runF_cons,← HTQ.out,if_neg (by rw [HDN.out];decide),if_pos H0.out])
      exact Turns.mk o2 rfl ⟨by rw [hfin];simp,by rw [hfin];exact (hp2.er q.2).ext Xq⟩ (((T0.out.tr st3).tr (setF_stp 11 (.int .i64 q.2) hp2.own)).tr (Stp.ext Xq))
    ·clear hst4
     have CT:Calls Tryz.prog 75 #[.pointer (some ⟨P,0,none⟩),.int .u8 (c.toNat:Int)] wr (TurnsF k wr o' P q):=by have h:=CTT.out;rw [hst0] at h;exact h
     have c4:wr.cell? ⟨P,4,none⟩=some (.int .i64 2):=by rw [HC4.out,hst0];rfl
     obtain ⟨cN,hcN⟩:∃ x,x=c.toNat:=⟨_,rfl⟩
     rw [← hcN] at CT hcb
     clear hcN hst0
     by_cases h0:q.2=0
     ·have CT2:=Hy (CT.mono (R':=fun r w'=>r=.returned (.tuple #[])∧∃ o'',FsAt w' o'' k P q.1∧Stp (KF k) wr o' w' o'') (by rintro r w' ⟨rfl,h⟩;exact ⟨by rw [h0];rfl,h⟩))
      have HRN:=Hy (show runF q0.1 b=((runF q.1 (b.drop (j+1))).1,j+1+(runF q.1 (b.drop (j+1))).2.1,(runF q.1 (b.drop (j+1))).2.2) from by rw [HRUN.out,HDR.out,runF_cons,← HTQ.out,if_neg (by rw [HDN.out];decide),if_neg (by rw [h0];simp)];simp only [Prod.mk.injEq,true_and,and_true];omega)
      clear h0 CT
      go_wp2_with (go_at_call 75;refine (CT2.out).mono ?_;rintro e w2 ⟨rfl,o2,hp2,st2⟩;have st3:=HST.out.tr st2;obtain ⟨y0,yU⟩:=HV.out w2 o2 st3;have HP2:=Hy hp2;have HST3:=Hy st3;clear hp2 st2 st3 v0 u0 u1 u2 u3 u4 c4 c10 hcb)
      go_roundw
      case rel=>exact ⟨j+1,o2,q.1,by go_num,by go_num,by omega,HP2.out,HOK2.out,HST3.out,HRN⟩
      case measure=>simp [intOf];omega
     ·have CT2:=Hy (CT.mono (R':=fun r w'=>r=.panicked [{ v:=.iface 25 (.int .i64 q.2),recovered:=false }]∧∃ o'',FsAt w' o'' k P q.1∧Stp (KF k) wr o' w' o'') (by rintro r w' ⟨rfl,h⟩;exact ⟨goneF_no h0,h⟩))
      have H0:=Hy h0
      clear h0 CT
      go_wp2_with (go_at_call 75;refine (CT2.out).mono ?_;rintro e w2 ⟨rfl,o2,hp2,st2⟩)
      have st3:=HST.out.tr st2
      obtain ⟨y0,yU⟩:=HV.out w2 o2 st3
      obtain ⟨A2,m2,D2,l2,C2,g2,hr2,_⟩:=hp2.row
      refine leaves_cons (f:=71) (args:=#[.pointer (some ⟨V,0,none⟩)]) (by simp) (by simp [go_sem]) ?_
      refine (goD_caught P V q.2 q.1.e w2 y0 hr2.c11 (hr2.fz 11 (by decide)) (by omega)).mono ?_
      rintro e u' w'' ⟨rfl,rfl,rfl⟩
      refine ⟨.int .i64 ((j:Int)+1),by simp [results,Tryz.results50,go_sem],?_⟩
      have hfin:=goF_err (z:=q.1) (u:=j+1) (e:=q.2) (by rw [← HQ0.out];exact HQ.out) (by rw [← HQ0.out,HRUN.out,HDR.out,runF_cons,← HTQ.out,if_neg (by rw [HDN.out];decide),if_pos H0.out])
      exact Turns.mk o2 rfl ⟨by rw [hfin];simp,by rw [hfin];exact (hp2.er q.2).ext Xq⟩ (((T0.out.tr st3).tr (setF_stp 11 (.int .i64 q.2) hp2.own)).tr (Stp.ext Xq))
    ·clear hst4
     have CT:Calls Tryz.prog 76 #[.pointer (some ⟨P,0,none⟩),.int .u8 (c.toNat:Int)] wr (TurnsF k wr o' P q):=by have h:=CTT.out;rw [hst0] at h;exact h
     have c4:wr.cell? ⟨P,4,none⟩=some (.int .i64 3):=by rw [HC4.out,hst0];rfl
     obtain ⟨cN,hcN⟩:∃ x,x=c.toNat:=⟨_,rfl⟩
     rw [← hcN] at CT hcb
     clear hcN hst0
     by_cases h0:q.2=0
     ·have CT2:=Hy (CT.mono (R':=fun r w'=>r=.returned (.tuple #[])∧∃ o'',FsAt w' o'' k P q.1∧Stp (KF k) wr o' w' o'') (by rintro r w' ⟨rfl,h⟩;exact ⟨by rw [h0];rfl,h⟩))
      have HRN:=Hy (show runF q0.1 b=((runF q.1 (b.drop (j+1))).1,j+1+(runF q.1 (b.drop (j+1))).2.1,(runF q.1 (b.drop (j+1))).2.2) from by rw [HRUN.out,HDR.out,runF_cons,← HTQ.out,if_neg (by rw [HDN.out];decide),if_neg (by rw [h0];simp)];simp only [Prod.mk.injEq,true_and,and_true];omega)
      clear h0 CT
      go_wp2_with (go_at_call 76;refine (CT2.out).mono ?_;rintro e w2 ⟨rfl,o2,hp2,st2⟩;have st3:=HST.out.tr st2;obtain ⟨y0,yU⟩:=HV.out w2 o2 st3;have HP2:=Hy hp2;have HST3:=Hy st3;clear hp2 st2 st3 v0 u0 u1 u2 u3 u4 c4 c10 hcb)
      go_roundw
      case rel=>exact ⟨j+1,o2,q.1,by go_num,by go_num,by omega,HP2.out,HOK2.out,HST3.out,HRN⟩
      case measure=>simp [intOf];omega
     ·have CT2:=Hy (CT.mono (R':=fun r w'=>r=.panicked [{ v:=.iface 25 (.int .i64 q.2),recovered:=false }]∧∃ o'',FsAt w' o'' k P q.1∧Stp (KF k) wr o' w' o'') (by rintro r w' ⟨rfl,h⟩;exact ⟨goneF_no h0,h⟩))
      have H0:=Hy h0
      clear h0 CT
      go_wp2_with (go_at_call 76;refine (CT2.out).mono ?_;rintro e w2 ⟨rfl,o2,hp2,st2⟩)
      have st3:=HST.out.tr st2
      obtain ⟨y0,yU⟩:=HV.out w2 o2 st3
      obtain ⟨A2,m2,D2,l2,C2,g2,hr2,_⟩:=hp2.row
      refine leaves_cons (f:=71) (args:=#[.pointer (some ⟨V,0,none⟩)]) (by simp) (by simp [go_sem]) ?_
      refine (goD_caught P V q.2 q.1.e w2 y0 hr2.c11 (hr2.fz 11 (by decide)) (by omega)).mono ?_
      rintro e u' w'' ⟨rfl,rfl,rfl⟩
      refine ⟨.int .i64 ((j:Int)+1),by simp [results,Tryz.results50,go_sem],?_⟩
      have hfin:=goF_err (z:=q.1) (u:=j+1) (e:=q.2) (by rw [← HQ0.out];exact HQ.out) (by rw [← HQ0.out,HRUN.out,HDR.out,runF_cons,← HTQ.out,if_neg (by rw [HDN.out];decide),if_pos H0.out])
      exact Turns.mk o2 rfl ⟨by rw [hfin];simp,by rw [hfin];exact (hp2.er q.2).ext Xq⟩ (((T0.out.tr st3).tr (setF_stp 11 (.int .i64 q.2) hp2.own)).tr (Stp.ext Xq))
    ·clear hst4
     have CT:Calls Tryz.prog 77 #[.pointer (some ⟨P,0,none⟩),.int .u8 (c.toNat:Int)] wr (TurnsF k wr o' P q):=by have h:=CTT.out;rw [hst0] at h;exact h
     have c4:wr.cell? ⟨P,4,none⟩=some (.int .i64 4):=by rw [HC4.out,hst0];rfl
     obtain ⟨cN,hcN⟩:∃ x,x=c.toNat:=⟨_,rfl⟩
     rw [← hcN] at CT hcb
     clear hcN hst0
     by_cases h0:q.2=0
     ·have CT2:=Hy (CT.mono (R':=fun r w'=>r=.returned (.tuple #[])∧∃ o'',FsAt w' o'' k P q.1∧Stp (KF k) wr o' w' o'') (by rintro r w' ⟨rfl,h⟩;exact ⟨by rw [h0];rfl,h⟩))
      have HRN:=Hy (show runF q0.1 b=((runF q.1 (b.drop (j+1))).1,j+1+(runF q.1 (b.drop (j+1))).2.1,(runF q.1 (b.drop (j+1))).2.2) from by rw [HRUN.out,HDR.out,runF_cons,← HTQ.out,if_neg (by rw [HDN.out];decide),if_neg (by rw [h0];simp)];simp only [Prod.mk.injEq,true_and,and_true];omega)
      clear h0 CT
      go_wp2_with (go_at_call 77;refine (CT2.out).mono ?_;rintro e w2 ⟨rfl,o2,hp2,st2⟩;have st3:=HST.out.tr st2;obtain ⟨y0,yU⟩:=HV.out w2 o2 st3;have HP2:=Hy hp2;have HST3:=Hy st3;clear hp2 st2 st3 v0 u0 u1 u2 u3 u4 c4 c10 hcb)
      go_roundw
      case rel=>exact ⟨j+1,o2,q.1,by go_num,by go_num,by omega,HP2.out,HOK2.out,HST3.out,HRN⟩
      case measure=>simp [intOf];omega
     ·have CT2:=Hy (CT.mono (R':=fun r w'=>r=.panicked [{ v:=.iface 25 (.int .i64 q.2),recovered:=false }]∧∃ o'',FsAt w' o'' k P q.1∧Stp (KF k) wr o' w' o'') (by rintro r w' ⟨rfl,h⟩;exact ⟨goneF_no h0,h⟩))
      have H0:=Hy h0
      clear h0 CT
      go_wp2_with (go_at_call 77;refine (CT2.out).mono ?_;rintro e w2 ⟨rfl,o2,hp2,st2⟩)
      have st3:=HST.out.tr st2
      obtain ⟨y0,yU⟩:=HV.out w2 o2 st3
      obtain ⟨A2,m2,D2,l2,C2,g2,hr2,_⟩:=hp2.row
      refine leaves_cons (f:=71) (args:=#[.pointer (some ⟨V,0,none⟩)]) (by simp) (by simp [go_sem]) ?_
      refine (goD_caught P V q.2 q.1.e w2 y0 hr2.c11 (hr2.fz 11 (by decide)) (by omega)).mono ?_
      rintro e u' w'' ⟨rfl,rfl,rfl⟩
      refine ⟨.int .i64 ((j:Int)+1),by simp [results,Tryz.results50,go_sem],?_⟩
      have hfin:=goF_err (z:=q.1) (u:=j+1) (e:=q.2) (by rw [← HQ0.out];exact HQ.out) (by rw [← HQ0.out,HRUN.out,HDR.out,runF_cons,← HTQ.out,if_neg (by rw [HDN.out];decide),if_pos H0.out])
      exact Turns.mk o2 rfl ⟨by rw [hfin];simp,by rw [hfin];exact (hp2.er q.2).ext Xq⟩ (((T0.out.tr st3).tr (setF_stp 11 (.int .i64 q.2) hp2.own)).tr (Stp.ext Xq))
  ·have hjn:j=n:=by omega
   subst hjn
   have HFIN:=Hy (goF_fin (z:=sj) (u:=j) (by rw [← HQ0.out];exact HQ.out) (by rw [← HQ0.out,HRUN.out,show b.drop j=[] from by rw [HN.out];simp];simp [runF]) HOKJ.out.e0)
   clear hst hp hok
   go_wp2
   refine leaves_cons (f:=71) (args:=#[.pointer (some ⟨V,0,none⟩)]) (by simp) (by simp [go_sem]) ?_
   refine (goD_idle _ _).mono ?_
   rintro e u' w'' ⟨rfl,rfl,rfl⟩
   refine ⟨.int .i64 (j:Int),by simp [results,Tryz.results50,go_sem],?_⟩
   exact Turns.mk o' rfl ⟨by rw [HFIN.out],by rw [HFIN.out];exact HP.out.ext Xq⟩ (T0.out.tr (HST.out.tr (Stp.ext Xq)))
theorem fGo_c (k P:Nat) (hk:0<k) (s:Rst) (hs:s.done=true∨s.e≠0∨Rok s) (b:List UInt8) (B:Option Addr) (n d:Nat) (hn:n=b.length) (hb:n≤4611686018427387904) (w:World) (o:Ow) (h:FsAt w o k P s) (hG:GlF w o) (hB:Rd w B (bc b)) (hBo:b≠[]→∀ a,B=some a→a.block<w.heap.size→¬ KF k (o a.block)) :
  Calls Tryz.prog 50 #[.pointer (some ⟨P,0,none⟩),.slice B n d] w (Turns (KF k) w o fun v w' o'=>v=.int .i64 ((goF s b).2:Int)∧FsAt w' o' k P (goF s b).1):=by
 cases hd:s.done with
 | true=>exact fGo_shut k P s (.inl hd) b B n d w o h
 | false =>
  rcases hs with h1 | h1 | h1
  ·rw [hd] at h1;cases h1
  ·exact fGo_shut k P s (.inr h1) b B n d w o h
  ·by_cases hr:(readyF s).2=0
   ·exact fGo_on k P hk s h1 hd hr b B n d hn hb w o h hG hB hBo
   ·exact fGo_bad k P hk s h1 hd hr b B n d hn w o h hG
end Go.Proofs.YthbofilcnpdghaaGreatDoor
end
section
namespace Go.Proofs.YthbofilcnpdghaaGreatDoor
open Go.RowKit
def IsFed (k:Nat) (r:Nat × List UInt8 × Bool × Int) (v:Value) (w:World) (o:Ow):Prop:=∃ C g,v=.tuple #[.int .i64 (r.1:Int),.slice C r.2.1.length g,.bool r.2.2.1,.int .i64 r.2.2.2]∧Sl w o (k+3) 1 C r.2.1.length g (bc r.2.1)
theorem fFeed_c (k P:Nat) (hk:0<k) (s:Rst) (hs:s.done=true∨s.e≠0∨Rok s) (b:List UInt8) (B:Option Addr) (n d:Nat) (hn:n=b.length) (hb:n≤4611686018427387904) (w:World) (o:Ow) (h:FsAt w o k P s) (hG:GlF w o) (hB:Rd w B (bc b)) (hBo:b≠[]→∀ a,B=some a→a.block<w.heap.size→¬ KF k (o a.block)) :
  Calls Tryz.prog 36 #[.pointer (some ⟨P,0,none⟩),.slice B n d] w (Turns (KF k) w o fun v w' o'=>IsFed k (feedF s b).2 v w' o'∧FsAt w' o' k P (feedF s b).1):=by
 have CG:=Hy (fGo_c k P hk s hs b B n d hn hb w o h hG hB hBo)
 obtain ⟨A,m,D,l,C,g,hr,h1⟩:=h.row
 have c9:=hr.c9
 obtain ⟨q,hq⟩:∃ q,q=goF s b:=⟨_,rfl⟩
 have HF:=Hy (show feedF s b=({ q.1 with body:=[] },q.2,q.1.body,q.1.done,q.1.e) from by rw [hq];rfl)
 rw [← hq] at CG
 obtain ⟨R,hR⟩:∃ R,R=feedF s b:=⟨_,rfl⟩
 rw [← hR] at HF ⊢
 clear hr h1 h hG hB hBo hn hq hR hs
 go_enter Tryz.func36,Tryz.ntmps36
 go_wp2_with (go_at_call 50;refine (CG.out).mono ?_;rintro e w2 ⟨v,o2,rfl,⟨rfl,hp2⟩,st2⟩;obtain ⟨A2,m2,D2,l2,C2,g2,hr2,hh2⟩:=hp2.row;have k12:=hr2.c12;have k10:=hr2.c10;have k11:=hr2.c11;have g12:=hr2.fz 12 (by decide);have HP2:=Hy hp2;have HR2:=Hy hr2;have HH2:=Hy hh2;have ST2:=Hy st2;clear hp2 hr2 hh2 st2 c9)
 go_region
 all_goals go_wp2
 all_goals (
  refine bodyPost_ret (v:=.tuple #[.int .i64 (q.2:Int),.slice C2 q.1.body.length g2,.bool q.1.done,.int .i64 q.1.e]) (by simp [results,Tryz.results36,go_sem]) rfl ?_
  obtain ⟨a1,a2,a3,a4,a5,a6⟩:=HH2.out
  have hp:=HP2.out.own
  have st:Stp (fun i=>i=k) w2 o2 (w2.setCell ⟨P,12,none⟩ (.slice none 0 0)) o2:=Stp.set P 12 _ (fun _=>hp)
  refine Turns.mk o2 rfl ⟨?_,?_⟩ ((ST2.out.tr (setF_stp 12 (.slice none 0 0) hp)).tr (Stp.ext Xq))
  ·rw [HF.out]
   exact ⟨C2,g2,rfl,(a5.stp st (by omega)).ext Xq⟩
  ·rw [HF.out]
   exact FsAt.ext (w:=w2.setCell ⟨P,12,none⟩ (.slice none 0 0)) ⟨hp,A2,m2,D2,l2,none,0,HR2.out.set 12 _ (by simp [Rst.cells]),a1.stp st (by omega),a2,a3.stp st (by omega),a4,Sl.nil_ _ _ _ _ _,fun _=>rfl⟩ Xq)
theorem FsAt.fresh (W:World) (o:Ow) (k:Nat) (s:Rst) (hl:s.line=[]) (ht:s.tail=[]) (hb:s.body=[]):FsAt (W.alloc (.cells (s.cells none 0 none 0 none 0) 96)) (fun b=>if b=W.heap.size then k else o b) k W.heap.size s:=by
 refine ⟨by simp,none,0,none,0,none,0,heap_alloc_new W _,?_,fun _=>rfl,?_,fun _=>rfl,?_,fun _=>rfl⟩
 ·rw [hl];exact Sl.nil_ _ _ _ _ _
 ·rw [ht];exact Sl.nil_ _ _ _ _ _
 ·rw [hb];exact Sl.nil_ _ _ _ _ _
theorem fNew_yes (k:Nat) (kd n most:Nat) (h1:kd≤3) (h2:n=0∨kd=1) (h3:most≤1048576) (hn:n<9223372036854775808) (w:World) (o:Ow) :
  Calls Tryz.prog 35 #[.agg #[.int .i64 (kd:Int),.int .i64 (n:Int)],.int .i64 (most:Int)] w (Turns (fun _=>False) w o fun v w' o'=>∃ p,v=.tuple #[.pointer (some ⟨p,0,none⟩),.int .i64 0]∧FsAt w' o' k p (newF kd n most)∧w.heap.size≤p):=by
 have a1:¬(kd:Int)<0:=by omega
 have a2:¬(3:Int)<(kd:Int):=by omega
 have a3:¬(n:Int)<0:=by omega
 have a4:¬(most:Int)<0:=by omega
 have a5:¬(1048576:Int)<(most:Int):=by omega
 have hz:(w.alloc (.cells #[.int .i64 (kd:Int),.int .i64 (n:Int)] 78)).heap.size=w.heap.size+1:=by simp
 by_cases k2:kd=2
 ·obtain rfl:n=0:=by omega
  subst k2
  have HZ:=Hy hz
  clear a1 a2 a3 hz
  go_enter Tryz.func35,Tryz.ntmps35
  go_wp2
  refine bodyPost_ret (v:=.tuple #[.pointer (some ⟨w.heap.size+1,0,none⟩),.int .i64 0]) (by simp [results,Tryz.results35,go_sem]) rfl ?_
  have hf:=FsAt.fresh (w.alloc (.cells #[.int .i64 2,.int .i64 0] 78)) o k (newF 2 0 most) rfl rfl rfl
  rw [show (w.alloc (.cells #[.int .i64 2,.int .i64 0] 78)).heap.size=w.heap.size+1 from by simp] at hf
  have hs:(newF 2 0 most).cells none 0 none 0 none 0=#[.int .i64 2,.int .i64 0,.int .i64 (most:Int),.int .i64 0,.int .i64 1,.int .i64 0,.slice none 0 0,.bool false,.slice none 0 0,.bool true,.bool false,.int .i64 0,.slice none 0 0]:=by unfold newF;first | rfl | (rw [if_neg k2];rfl)
  rw [hs] at hf
  exact Turns.mk _ rfl ⟨w.heap.size+1,rfl,hf,Nat.le_succ _⟩ (Stp.ext2 Xq (fun b hb=>by rw [if_neg (by omega)]))
 ·have d2:((kd:Int) == 2)=false:=by rw [beq_eq_false_iff_ne];omega
  have HZ:=Hy hz
  clear hz
  by_cases k1:n=0
  ·subst k1
   clear a3
   go_enter Tryz.func35,Tryz.ntmps35
   go_wp2
   refine bodyPost_ret (v:=.tuple #[.pointer (some ⟨w.heap.size+1,0,none⟩),.int .i64 0]) (by simp [results,Tryz.results35,go_sem]) rfl ?_
   have hf:=FsAt.fresh (w.alloc (.cells #[.int .i64 (kd:Int),.int .i64 0] 78)) o k (newF kd 0 most) rfl rfl rfl
   rw [show (w.alloc (.cells #[.int .i64 (kd:Int),.int .i64 0] 78)).heap.size=w.heap.size+1 from by simp] at hf
   have hs:(newF kd 0 most).cells none 0 none 0 none 0=#[.int .i64 (kd:Int),.int .i64 0,.int .i64 (most:Int),.int .i64 0,.int .i64 0,.int .i64 0,.slice none 0 0,.bool false,.slice none 0 0,.bool true,.bool false,.int .i64 0,.slice none 0 0]:=by unfold newF;first | rfl | (rw [if_neg k2];rfl)
   rw [hs] at hf
   exact Turns.mk _ rfl ⟨w.heap.size+1,rfl,hf,Nat.le_succ _⟩ (Stp.ext2 Xq (fun b hb=>by rw [if_neg (by omega)]))
  ·obtain rfl:kd=1:=by omega
   have a6:(0:Int)<(n:Int):=by omega
   clear a1 a2
   go_enter Tryz.func35,Tryz.ntmps35
   go_wp2
   refine bodyPost_ret (v:=.tuple #[.pointer (some ⟨w.heap.size+1,0,none⟩),.int .i64 0]) (by simp [results,Tryz.results35,go_sem]) rfl ?_
   have hf:=FsAt.fresh (w.alloc (.cells #[.int .i64 1,.int .i64 (n:Int)] 78)) o k (newF 1 n most) rfl rfl rfl
   rw [show (w.alloc (.cells #[.int .i64 1,.int .i64 (n:Int)] 78)).heap.size=w.heap.size+1 from by simp] at hf
   have hs:(newF 1 n most).cells none 0 none 0 none 0=#[.int .i64 1,.int .i64 (n:Int),.int .i64 (most:Int),.int .i64 0,.int .i64 0,.int .i64 0,.slice none 0 0,.bool false,.slice none 0 0,.bool true,.bool false,.int .i64 0,.slice none 0 0]:=by unfold newF;first | rfl | (rw [if_neg k2];rfl)
   rw [hs] at hf
   exact Turns.mk _ rfl ⟨w.heap.size+1,rfl,hf,Nat.le_succ _⟩ (Stp.ext2 Xq (fun b hb=>by rw [if_neg (by omega)]))
end Go.Proofs.YthbofilcnpdghaaGreatDoor
end
