/-
A connection's request: a whole one is told, and waits.
-/
import Derived.Test.YthbofilcnpdghaaGreatDoorZaw
import Derived.Test.YthbofilcnpdghaaGreatDoorZay
import Derived.Deep.DeepCutAuto
import Derived.Test.YthbofilcnpdghaaGreatDoorZaj
import Derived.Test.YthbofilcnpdghaaGreatDoorZav
import Derived.Test.YthbofilcnpdghaaGreatDoorZal
import Derived.Test.YthbofilcnpdghaaGreatDoorZae
import Derived.Test.YthbofilcnpdghaaGreatDoorZao
set_option maxRecDepth 100000
set_option maxHeartbeats 8000000
set_option linter.unusedVariables false
set_option linter.unusedSimpArgs false
section
namespace Go.Proofs.YthbofilcnpdghaaGreatDoor
open Go.RowKit
theorem slt_ev:SlT Tryz.prog 32 38 (.agg #[.int .i64 0,.string ⟨#[]⟩,.string ⟨#[]⟩,.int .i64 0,.slice none 0 0,.slice none 0 0]) 6 96:=⟨Tryz.underlying32,by kernel_rfl,rfl,by omega⟩
theorem slt_th:SlT Tryz.prog 57 64 .nilIface 1 16:=⟨Tryz.underlying57,by kernel_rfl,rfl,by omega⟩
def CnAtR (w:World) (o:Ow) (k c:Nat) (s:Cst) (R:Option Addr):Prop:=∃ a,CnX w o k c s a∧(a.nx,a.R)=(nxC s.inBody,R)
theorem CnAtR.at_ {w:World} {o:Ow} {k c:Nat} {s:Cst} {R:Option Addr} (h:CnAtR w o k c s R):CnAt w o k c s:=by
 obtain ⟨a,hx,hn⟩:=h
 exact ⟨a,hx,congrArg Prod.fst hn⟩
theorem CnAt.r {w:World} {o:Ow} {k c:Nat} {s:Cst} (h:CnAt w o k c s):∃ R,CnAtR w o k c s R:=by
 obtain ⟨a,hx,hn⟩:=h
 exact ⟨a.R,a,hx,by rw [hn]⟩
def GoneC:Option Int→Ending
 | none=>.returned (.tuple #[])
 | some st=>.panicked [{ v:=.iface 85 (.int .i64 st),recovered:=false }]
def EndsC (K:Nat→Prop) (k:Nat) (w:World) (o:Ow) (c:Nat) (Q:Option Addr→Prop) (q:Cst × Option Int) (e:Ending) (w':World):Prop:=e=GoneC q.2∧∃ o' R,CnAtR w' o' k c q.1 R∧Sto K w o w' o'∧(q.2=none→Q R)
def AtC (k c:Nat) (w:World) (o:Ow) (s:Cst) (nx:FuncId × Option Addr) (wx:World):Prop:=∃ o' a,CnX wx o' k c s a∧Sto (KC k) w o wx o'∧(a.nx,a.R)=nx
theorem CnX.oz {w w':World} {o:Ow} {k c:Nat} {s:Cst} {a:Cad} (h:CnX w o k c s a) (e:Ext w w'):CnX w' (oz w o) k c s a:=h.sto (K:=fun _=>False) (oz_sto e) (fun x=>x) (fun _ _ x=>x) (fun _ _ x=>x)
def AskN (k c:Nat) (w:World) (o:Ow) (s:Cst) (nx:FuncId × Option Addr) (t:Ask24) (v:Value) (wx:World):Prop:=∃ p o' a,v=.pointer (some ⟨p,0,none⟩)∧CnX wx o' k c s a∧Sto (KC k) w o wx o'∧(a.nx,a.R)=nx∧AskAt wx o' (KA k t.id) p t
theorem AskN.mk {k c:Nat} {w:World} {o:Ow} {s:Cst} {nx:FuncId × Option Addr} (t:Ask24) {w1 w2:World} {o1:Ow} {a:Cad} (hk:0<k) (h:CnX w1 o1 k c s a) (st:Sto (KC k) w o w1 o1) (hn:(a.nx,a.R)=nx) (x:Ext w1 w2) (ht:t.ans=none) (hr:t.r=s.r):AskN k c w o s nx t (.pointer (some ⟨w2.heap.size,0,none⟩)) (w2.alloc (.cells (askV t a.A a.ca none) 69)):=by
 obtain ⟨o2,ho2⟩:∃ o2:Ow,o2=fun b=>if b<w1.heap.size then o1 b else if b=w2.heap.size then KA k t.id else 0:=⟨_,rfl⟩
 have xs:=x.size
 have old:∀ b,b<w1.heap.size→o2 b=o1 b:=fun b hb=>by rw [ho2];exact if_pos hb
 have x3:Ext w1 (w2.alloc (.cells (askV t a.A a.ca none) 69)):=x.al _
 have t2:Sto (fun _=>False) w1 o1 (w2.alloc (.cells (askV t a.A a.ca none) 69)) o2:=Sto.ext2 x3 (fun b hb _=>old b hb)
 have h3:=h.sto t2 (fun x=>x) (fun _ _ x=>x) (fun _ _ x=>x)
 refine ⟨w2.heap.size,o2,a,rfl,h3,st.tr (t2.mono fun _ h=>h.elim),hn,?_,a.A,a.ca,none,heap_alloc_new w2 _,by rw [hr];exact h3.p.r,by rw [ht];rfl⟩
 rw [ho2]
 exact (if_neg (by omega)).trans (if_pos rfl)
def RowN (k c:Nat) (w:World) (o:Ow) (s:Cst) (nx:FuncId × Option Addr) (l:Bool) (v:Value) (wx:World):Prop:=∃ p o' a,v=.pointer (some ⟨p,0,none⟩)∧CnX wx o' k c s a∧Sto (KC k) w o wx o'∧(a.nx,a.R)=nx∧wx.cell? ⟨p,5,none⟩=some (.bool l)∧¬ p=c
theorem Rd.newA (w:World) (g:Nat) (hg:w.heap.size=g) (cs:Array Value) (t:TypeId):Rd (w.alloc (.cells cs t)) (some ⟨g,0,none⟩) cs.toList:=by
 subst hg
 exact .inr ⟨_,0,rfl,fun j u hu=>by have:=new_cells w cs t j u hu;rw [add_mk] at this;exact this⟩
theorem nRequest_c (k c:Nat) (hk:0<k) (hk8:k<80) (s:Cst) (hi:s.inBody=true) (hf:Fl8 s.r.2.2.2) (he:s.evs.length≤100) (hrow:s.row.length≤100) (hnum:s.number≤1000000) (w:World) (o:Ow) (R:Option Addr) (h:CnAtR w o k c s R) :
  Calls Tryz.prog 91 #[.pointer (some ⟨c,0,none⟩)] w (EndsC (KC k) k w o c (fun R'=>R'=R) (requestC s)):=by
 obtain ⟨a,hx,hnx⟩:=h
 have HX:=Hy hx
 have HF:=Hy hf
 have q10:w.cell? ⟨c,10,none⟩=some (.string (str s.r.1)):=(hx.row.at_ 10 _ rfl).1
 have q11:w.cell? ⟨c,11,none⟩=some (.string (str s.r.2.1)):=(hx.row.at_ 11 _ rfl).1
 have q12:w.cell? ⟨c,12,none⟩=some (.int .i64 s.r.2.2.1):=(hx.row.at_ 12 _ rfl).1
 have q13:w.cell? ⟨c,13,none⟩=some (.slice a.A s.r.2.2.2.length a.ca):=(hx.row.at_ 13 _ rfl).1
 have CCl:=Hy (fun (w':World) (h':Rd w' a.A (fc s.r.2.2.2))=>nCloneF_c s.r.2.2.2 a.A s.r.2.2.2.length a.ca rfl w' h' (by have:=hf.1;omega))
 clear hx hf
 go_enter Tryz.func91,Tryz.ntmps91
 go_upto_region 2 with (first
  | (go_at_call 29;refine (CCl.out _ (HX.out.p.r.rd.ext Xq)).mono ?_;rintro e w1 ⟨v,rfl,⟨A1,c1,rfl,hr1,hb1⟩,hx1⟩;have hrow1:=(hx1.block w.heap.size (by simp)).trans (heap_alloc_new w _);have k3:=(row_facts hrow1 3 _ rfl).1;have g3:=(row_facts hrow1 3 _ rfl).2;have HROW:=Hy hrow1;have HR1:=Hy hr1;have HB1:=Hy hb1;clear hrow1 hr1 hb1))
 obtain ⟨W2,hW2⟩:∃ W,W=w1.setCell ⟨w.heap.size,3,none⟩ (.slice A1 s.r.2.2.2.length c1):=⟨_,rfl⟩
 rw [← hW2]
 have x2:Ext w W2:=by rw [hW2];exact Ext.st (Ext.tr ((Ext.rfl' w).al _) hx1) (Nat.le_refl _) _
 have row2:W2.heap[w.heap.size]?=some (.cells #[.string (str s.r.1),.string (str s.r.2.1),.int .i64 s.r.2.2.1,.slice A1 s.r.2.2.2.length c1] 36 (0,0)):=by rw [hW2];exact row_set HROW.out 3 _
 have hA:Ro W2 (oz w o) A1 (fc s.r.2.2.2):=by
  obtain ⟨A',c',hv,hro⟩:=NewS.ro (w:=w.alloc (.cells #[.string (str s.r.1),.string (str s.r.2.1),.int .i64 s.r.2.2.1,.slice a.A s.r.2.2.2.length a.ca] 36)) (n:=s.r.2.2.2.length) (v:=.slice A1 s.r.2.2.2.length c1) (o':=oz w o) ⟨A1,c1,rfl,HR1.out,HB1.out⟩ (fun b hb=>oz_new w o (by simp at hb;omega))
  cases hv
  rw [hW2]
  rcases hro with hro | ⟨g,f,hA,hl,hg,hc⟩
  ·exact .inl hro
  ·rcases HB1.out with hb | hb
   ·exact .inl hb
   ·have hge:w.heap.size+1≤g:=by have:=hb _ hA;simpa using this
    refine .inr ⟨g,f,hA,by simpa using hl,hg,fun j u hu=>?_⟩
    rw [World.cell?_of_block (a:=⟨g,f+j,none⟩) (Below.heap_setCell w1 ⟨w.heap.size,3,none⟩ _ g (by show g≠w.heap.size;omega))]
    exact hc j u hu
 have hX2:=HX.out.oz x2
 obtain ⟨es,es1,es2⟩:=hX2.p.evs
 have hol:=hX2.row
 obtain ⟨A5,c5,w5,o5,hr5,hs5,st5,hn5⟩:=run_put slt_ev (tx:=32) 32 (w:=(W2.alloc (.cells #[.int .i64 (s.number:Int),.string (str s.r.1),.string (str s.r.2.1),.int .i64 s.r.2.2.1,.slice A1 s.r.2.2.2.length c1,.slice a.B a.nb a.cb] 38)).drew) (o:=oz w o) (es1.ext Xq) hX2.p.ez (Sl.src Tryz.underlying32 (n:=1) ((Rd.newA W2 _ rfl #[.int .i64 (s.number:Int),.string (str s.r.1),.string (str s.r.2.1),.int .i64 s.r.2.2.1,.slice A1 s.r.2.2.2.length c1,.slice a.B a.nb a.cb] 38).ext Xq) (by simp) (by omega) (by simp [Value.oneCell']) 1) (by omega) (by simp only [maxLen];omega)
 have st5':Stp (fun i=>i=k+3) W2 (oz w o) w5 o5:=(Stp.ext Xq).tr (st5.mono fun i hi=>hi.2)
 obtain ⟨o6,hX6,st6⟩:=hX2.evsPut hk hk8 hi es2 st5' hA hs5 hn5
 have HT:=Hy (show AtC k c w o { s with evs:=s.evs++[⟨s.number,s.r,s.got⟩],inBody:=false } (nxC true,R) (w5.setCell ⟨c,15,none⟩ (.slice A5 (s.evs.length+1) c5)) from ⟨o6,_,hX6,(oz_sto x2).tr st6,by rw [← hi];exact hnx⟩)
 have q15:=hol.c15
 have q17:=hol.c17
 have q14:=hol.c14
 have z15:=(hol.ext (show Ext W2 (W2.alloc (.cells #[.int .i64 (s.number:Int),.string (str s.r.1),.string (str s.r.2.1),.int .i64 s.r.2.2.1,.slice A1 s.r.2.2.2.length c1,.slice a.B a.nb a.cb] 38)) from Xq)).c15
 have r5:=(st5'.keep c (row_lt hol) (by rw [hX2.own];omega)).trans hol
 have y15:=(row_facts r5 15 _ rfl).1
 have g15:=(row_facts r5 15 _ rfl).2
 have b0:W2.cell? ⟨w.heap.size,0,none⟩=some (.string (str s.r.1)):=(row_facts row2 0 _ rfl).1
 have b1:W2.cell? ⟨w.heap.size,1,none⟩=some (.string (str s.r.2.1)):=(row_facts row2 1 _ rfl).1
 have b2:W2.cell? ⟨w.heap.size,2,none⟩=some (.int .i64 s.r.2.2.1):=(row_facts row2 2 _ rfl).1
 have b3:W2.cell? ⟨w.heap.size,3,none⟩=some (.slice A1 s.r.2.2.2.length c1):=(row_facts row2 3 _ rfl).1
 have X2:=Hy x2
 clear row2 hA hX2 es1 es2 hol hs5 st5 hn5 st5' hX6 st6 r5 hW2 hx1 k3 g3 x2 q10 q11 q12 q13
 go_cut [] (fun wx=>AtC k c w o { s with evs:=s.evs++[⟨s.number,s.r,s.got⟩],inBody:=false } (nxC true,R) wx)
 case first =>
  go_region_law (first
   | (refine stepj_run (.tmp 16) (.tmp 27) rfl rfl rfl rfl hr5 ?_))
  all_goals (clear hr5 q15 q17 q14 z15 y15 g15 b0 b1 b2 b3;go_wp2_with fail;go_meet)
  all_goals exact HT.out
 case rest =>
  obtain ⟨o3,a3,hX3,st3,hn3⟩:=hcut
  have HX3:=Hy hX3
  have ST3:=Hy st3
  have HN3:=Hy hn3
  have hks:=Hy (fun w' (e:Ext wc w')=>(show w'.cell? ⟨c,10,none⟩=some (.string (str s.r.1))∧w'.cell? ⟨c,11,none⟩=some (.string (str s.r.2.1))∧w'.cell? ⟨c,12,none⟩=some (.int .i64 s.r.2.2.1)∧w'.cell? ⟨c,13,none⟩=some (.slice a3.A s.r.2.2.2.length a3.ca)∧w'.cell? ⟨c,17,none⟩=some (.int .i64 (s.number:Int)) from by
   have hx:=hX3.row.ext e
   exact ⟨(hx.at_ 10 _ rfl).1,(hx.at_ 11 _ rfl).1,(hx.at_ 12 _ rfl).1,(hx.at_ 13 _ rfl).1,hx.c17⟩))
  obtain ⟨d0,d1,d2,d3,d4⟩:=hks.out wc (Ext.rfl' _)
  have CL:=Hy (fun (w':World) (e:Ext wc w')=>nLasting_c s.r HF.out a3.A a3.ca w' (HX3.out.p.r.rd.ext e))
  obtain ⟨l,hl⟩:∃ l,l=lastingC s.r:=⟨_,rfl⟩
  rw [← hl] at CL
  have HL:=Hy hl
  clear hX3 st3 hn3 hl HX HROW HR1 HB1 X2 HT
  go_step
  go_step
  go_cut [3] (fun v3 wx=>AskN k c w o { s with evs:=s.evs++[⟨s.number,s.r,s.got⟩],inBody:=false } (nxC true,R) ⟨s.number,s.r,l,none⟩ v3 wx)
  case first =>
   go_region_held3 (fun w'=>w'.cell? ⟨c,10,none⟩=some (.string (str s.r.1))∧w'.cell? ⟨c,11,none⟩=some (.string (str s.r.2.1))∧w'.cell? ⟨c,12,none⟩=some (.int .i64 s.r.2.2.1)∧w'.cell? ⟨c,13,none⟩=some (.slice a3.A s.r.2.2.2.length a3.ca)∧w'.cell? ⟨c,17,none⟩=some (.int .i64 (s.number:Int))) (exact hks.out _ Xw) (first
    | (go_at_call 121;refine (CL.out _ Xq).mono ?_;rintro e w2 ⟨rfl,hx2⟩))
   all_goals (go_wp2_with fail;go_meet)
   all_goals exact AskN.mk ⟨s.number,s.r,l,none⟩ hk HX3.out ST3.out HN3.out hx2.undr rfl rfl
  case rest =>
   clear HX3 ST3 HN3 hks d0 d1 d2 d3 d4 CL
   obtain ⟨p,o4,a4,rfl,hX4,st4,hn4,hA4⟩:=hcut
   have HX4:=Hy hX4
   have ST4:=Hy st4
   have HN4:=Hy hn4
   have HA4:=Hy hA4
   have d16:=hX4.row.c16
   obtain ⟨ts,ts1,ts2⟩:=hX4.p.row
   have HTS:=Hy (And.intro ts1 ts2)
   have hz:=hX4.p.lz
   dsimp only at d16
   clear hX4 st4 hn4 hA4 ts1 ts2
   go_step
   go_step
   go_cut [3] (fun v3 wx=>RowN k c w o { s with evs:=s.evs++[⟨s.number,s.r,s.got⟩],inBody:=false,row:=s.row++[.ask ⟨s.number,s.r,l,none⟩] } (nxC true,R) l v3 wx)
   case first =>
    go_wp2_with (first
     | (at_builtin;refine wpL_put slt_th (.tmp 50) (.tmp 53) rfl rfl rfl rfl (HTS.out.1.ext (Ext.al (Ext.rfl' _) _)) hz (Sl.src Tryz.underlying57 (n:=1) (Rd.newA wc _ rfl #[.iface 65 (.pointer (some ⟨p,0,none⟩))] 64) (by simp) (by omega) (by simp [Value.oneCell']) 1) (by omega) (by simp only [maxLen];omega) ?_;intro A5 c5 w5 o5 hs5 st5 hn5;have st5':Stp (fun i=>i=k+1) wc o4 w5 o5:=(Stp.ext Xq).tr st5;have r5:=(st5'.keep c (row_lt HX4.out.row) (by rw [HX4.out.own];omega)).trans HX4.out.row;have y16:=(row_facts r5 16 _ rfl).1;have g16:=(row_facts r5 16 _ rfl).2;have HT:=Hy (HX4.out.rowPut hk hk8 HTS.out.2 st5' (.ask ⟨s.number,s.r,l,none⟩) ⟨p,rfl,HA4.out⟩ hs5 hn5);have HS5:=Hy st5';clear r5 hs5 st5 hn5 st5'))
    go_meet
    have hp:=HA4.out
    have hpc:¬ p=c:=fun e=>by have h1:=hp.1;rw [e,HX4.out.own] at h1;unfold KA at h1;omega
    obtain ⟨ho,A',ca',Q',hr,_⟩:=hp
    have hk5:w5.heap[p]?=wc.heap[p]?:=HS5.out.keep p (row_lt hr) (by rw [ho];unfold KA;omega)
    refine ⟨p,o5,_,rfl,HT.out.1,ST4.out.tr HT.out.2,HN4.out,?_,hpc⟩
    rw [World.cell?_of_block (a:=⟨p,5,none⟩) (Below.heap_setCell w5 ⟨c,16,none⟩ _ p hpc),World.cell?_of_block (a:=⟨p,5,none⟩) hk5]
    exact (row_facts hr 5 _ rfl).1
   case rest =>
    clear HX4 ST4 HN4 HA4 d16 HTS hz
    obtain ⟨p,o6,a6,rfl,hX6,st6,hn6,hp5,hpc⟩:=hcut
    have hcp:¬ c=p:=fun e=>hpc e.symm
    have sN:IntKind.i64.wrap ((s.number:Int)+1)=((s.number+1:Nat):Int):=by rw [IntKind.wrap_i64];omega
    have d17:wc.cell? ⟨c,17,none⟩=some (.int .i64 (s.number:Int)):=hX6.row.c17
    have d2:wc.cell? ⟨c,2,none⟩=some (.int .i64 0):=hX6.row.c2
    have d3:wc.cell? ⟨c,3,none⟩=some (.int .i64 0):=(hX6.row.at_ 3 _ rfl).1
    have d6:wc.cell? ⟨c,6,none⟩=some (.func (.func a6.nx) #[.pointer (some ⟨c,0,none⟩)] #[]):=hX6.row.c6
    have d5:wc.cell? ⟨c,5,none⟩=some (.bool s.begun):=hX6.row.c5
    have d4:wc.cell? ⟨c,4,none⟩=some (.bool s.reads):=hX6.row.c4
    have d16:wc.cell? ⟨c,16,none⟩=some (.slice a6.L (s.row.length+1) a6.cl):=by have h:=hX6.row.c16;rw [show (s.row++[Th24.ask ⟨s.number,s.r,l,none⟩]).length=s.row.length+1 from by simp] at h;exact h
    have f17:=hX6.row.fz 17 (by decide)
    have f6:=hX6.row.fz 6 (by decide)
    have f5:=hX6.row.fz 5 (by decide)
    have f3:=hX6.row.fz 3 (by decide)
    have f4:=hX6.row.fz 4 (by decide)
    have hmf:∀ (fn:Fn) (first cap:Array Value) (w:World),(Instr.makeFunc fn first cap).run Tryz.prog w=.ok (.func fn first cap) w:=fun _ _ _ _=>rfl
    have hQ:requestC s=({ s with evs:=s.evs++[⟨s.number,s.r,s.got⟩],row:=s.row++[.ask ⟨s.number,s.r,l,none⟩],number:=s.number+1,inBody:=false,begun:=false,reads:=l },if l=true∧s.row.length+1=64 then some 503 else none):=by
     unfold requestC
     rw [← HL.out]
     simp
    have hfin:CnAtR (((((wc.setCell ⟨c,17,none⟩ (.int .i64 ((s.number+1:Nat):Int))).setCell ⟨c,6,none⟩ (.func (.func 23) #[.pointer (some ⟨c,0,none⟩)] #[])).setCell ⟨c,5,none⟩ (.bool false)).setCell ⟨c,3,none⟩ (.int .i64 0)).setCell ⟨c,4,none⟩ (.bool l)) o6 k c (requestC s).1 R∧Sto (KC k) w o (((((wc.setCell ⟨c,17,none⟩ (.int .i64 ((s.number+1:Nat):Int))).setCell ⟨c,6,none⟩ (.func (.func 23) #[.pointer (some ⟨c,0,none⟩)] #[])).setCell ⟨c,5,none⟩ (.bool false)).setCell ⟨c,3,none⟩ (.int .i64 0)).setCell ⟨c,4,none⟩ (.bool l)) o6:=by
     rw [hQ]
     have hoc:=hX6.own
     have r1:=hX6.row.set 17 (.int .i64 ((s.number+1:Nat):Int)) (s':={ s with evs:=s.evs++[⟨s.number,s.r,s.got⟩],row:=s.row++[.ask ⟨s.number,s.r,l,none⟩],number:=s.number+1,inBody:=false }) (a':=a6) rfl
     have r2:=r1.set 6 (.func (.func 23) #[.pointer (some ⟨c,0,none⟩)] #[]) (s':={ s with evs:=s.evs++[⟨s.number,s.r,s.got⟩],row:=s.row++[.ask ⟨s.number,s.r,l,none⟩],number:=s.number+1,inBody:=false }) (a':={ a6 with nx:=23 }) rfl
     have r3:=r2.set 5 (.bool false) (s':={ s with evs:=s.evs++[⟨s.number,s.r,s.got⟩],row:=s.row++[.ask ⟨s.number,s.r,l,none⟩],number:=s.number+1,inBody:=false,begun:=false }) (a':={ a6 with nx:=23 }) rfl
     have r4:=r3.set 3 (.int .i64 0) (s':={ s with evs:=s.evs++[⟨s.number,s.r,s.got⟩],row:=s.row++[.ask ⟨s.number,s.r,l,none⟩],number:=s.number+1,inBody:=false,begun:=false }) (a':={ a6 with nx:=23 }) rfl
     have r5:=r4.set 4 (.bool l) (s':={ s with evs:=s.evs++[⟨s.number,s.r,s.got⟩],row:=s.row++[.ask ⟨s.number,s.r,l,none⟩],number:=s.number+1,inBody:=false,begun:=false,reads:=l }) (a':={ a6 with nx:=23 }) rfl
     have p5:=((((hX6.p.cell hk hoc 17 (.int .i64 ((s.number+1:Nat):Int))).cell hk hoc 6 (.func (.func 23) #[.pointer (some ⟨c,0,none⟩)] #[])).cell hk hoc 5 (.bool false)).cell hk hoc 3 (.int .i64 0)).cell hk hoc 4 (.bool l)
     refine ⟨⟨{ a6 with nx:=23 },⟨hoc,r5,⟨p5.hp,p5.rd,p5.r,p5.got,p5.evs,p5.ez,p5.row,p5.lz,p5.out,p5.oz⟩⟩,by have h:=congrArg Prod.snd hn6;exact Prod.ext rfl h⟩,?_⟩
     exact ((((st6.tr (setC_sto 17 _ hoc hk8)).tr (setC_sto 6 _ hoc hk8)).tr (setC_sto 5 _ hoc hk8)).tr (setC_sto 3 _ hoc hk8)).tr (setC_sto 4 _ hoc hk8)
    have HFIN:=Hy hfin
    have HQ:=Hy (congrArg Prod.snd hQ)
    obtain ⟨bg,hbg⟩:∃ b,b=s.begun:=⟨_,rfl⟩
    obtain ⟨rd,hrd⟩:∃ b,b=s.reads:=⟨_,rfl⟩
    obtain ⟨nr,hnr⟩:∃ b,b=s.row.length:=⟨_,rfl⟩
    rw [← hbg] at d5
    rw [← hrd] at d4
    rw [← hnr] at d16 HQ hrow
    clear hbg hrd hX6 st6 hn6 hQ hfin HL hnr hi he hnum
    cases l with
    | false =>
     go_wp2
     go_end0
     exact ⟨by rw [HQ.out];rfl,o6,R,HFIN.out.1,HFIN.out.2,fun _=>rfl⟩
    | true =>
     by_cases h64:nr+1=64
     ·obtain rfl:nr=63:=by omega
      go_wp2_with (go_at_call 40;refine (nRefuse_c _ _).mono ?_;rintro e w7 ⟨rfl,rfl⟩)
      simp only [bodyPost]
      exact ⟨trivial,by rw [HQ.out];rfl,o6,R,HFIN.out.1,HFIN.out.2,fun _=>rfl⟩
     ·have e64:((((nr:Int)+1)) == 64)=false:=by rw [beq_eq_false_iff_ne];omega
      have e64':((((nr+1:Nat):Int)) == 64)=false:=by rw [beq_eq_false_iff_ne];omega
      have HQ2:=Hy (show (requestC s).2=none from by rw [HQ.out,if_neg (fun x=>h64 x.2)])
      clear HQ h64
      go_wp2
      go_end0
      exact ⟨by rw [HQ2.out];rfl,o6,R,HFIN.out.1,HFIN.out.2,fun _=>rfl⟩
def shF (p:List UInt8) (s:Rst):Rst:={ s with body:=p++s.body }
theorem text_sh (p:List UInt8) (s:Rst) (c:UInt8):textF (shF p s) c=(shF p (textF s c).1,(textF s c).2):=by
 unfold textF shF
 dsimp only
 split
 ·split <;> rfl
 ·split
  ·rfl
  ·split
   ·split <;> rfl
   ·rfl
theorem size_sh (p:List UInt8) (s:Rst) (l:List UInt8):sizeL (shF p s) l=(shF p (sizeL s l).1,(sizeL s l).2):=by
 unfold sizeL shF
 dsimp only
 split
 ·split <;> rfl
 ·rfl
theorem tail_sh (p:List UInt8) (s:Rst) (l:List UInt8):tailL (shF p s) l=(shF p (tailL s l).1,(tailL s l).2):=by
 unfold tailL shF
 dsimp only
 split
 ·rfl
 ·cases fldV12 l with
  | none=>rfl
  | some q=>dsimp only;split <;> rfl
theorem take_sh (p:List UInt8) (s:Rst) (c:UInt8):takeF (shF p s) c=(shF p (takeF s c).1,(takeF s c).2):=by
 unfold takeF
 rw [show (shF p s).state=s.state from rfl]
 split
 ·unfold plainF shF
  dsimp only
  split
  ·simp
  ·rfl
 ·split
  ·unfold sizeF
   rw [text_sh]
   obtain ⟨⟨t,ol,e⟩,hx⟩:∃ q,q=textF s c:=⟨_,rfl⟩
   rw [← hx]
   cases ol with
   | none=>rfl
   | some l=>exact size_sh p t l
  ·split
   ·unfold dataF shF
    dsimp only
    split <;> simp
   ·split
    ·unfold behindF shF
     dsimp only
     by_cases hc:c=(if s.left=2 then 13 else 10)
     ·rw [if_pos hc,if_pos hc];split <;> rfl
     ·rw [if_neg hc,if_neg hc]
    ·unfold trailF
     rw [text_sh]
     obtain ⟨⟨t,ol,e⟩,hx⟩:∃ q,q=textF s c:=⟨_,rfl⟩
     rw [← hx]
     cases ol with
     | none=>rfl
     | some l=>exact tail_sh p t l
theorem run_sh (p:List UInt8):∀ (l:List UInt8) (s:Rst),runF (shF p s) l=(shF p (runF s l).1,(runF s l).2)
 | [],_=>rfl
 | c::l,s=>by
  rw [runF_cons,runF_cons,take_sh]
  rw [show (shF p s).done=s.done from rfl]
  dsimp only
  split
  ·rfl
  ·split
   ·rfl
   ·rw [run_sh p l]
def Dn (s:Rst):Prop:=(s.kind=1→s.done=decide (s.all=s.n))∧(s.kind=0→s.done=true)
theorem text_kd {s t:Rst} {c:UInt8} {ol:Option (List UInt8)} {e:Int} (ht:textF s c=(t,ol,e)):t.kind=s.kind∧t.done=s.done∧t.all=s.all∧t.n=s.n∧t.most=s.most:=by
 unfold textF at ht
 split at ht
 ·split at ht <;> (cases ht;exact ⟨rfl,rfl,rfl,rfl,rfl⟩)
 ·split at ht
  ·cases ht;exact ⟨rfl,rfl,rfl,rfl,rfl⟩
  ·split at ht
   ·split at ht <;> (cases ht;exact ⟨rfl,rfl,rfl,rfl,rfl⟩)
   ·cases ht;exact ⟨rfl,rfl,rfl,rfl,rfl⟩
theorem take_kd (s:Rst) (c:UInt8):(takeF s c).1.kind=s.kind∧(takeF s c).1.n=s.n∧(takeF s c).1.most=s.most:=by
 unfold takeF
 split
 ·unfold plainF;split <;> exact ⟨rfl,rfl,rfl⟩
 ·split
  ·unfold sizeF
   obtain ⟨⟨t,ol,e⟩,hx⟩:∃ q,q=textF s c:=⟨_,rfl⟩
   rw [← hx]
   obtain ⟨h1,_,_,h2,h3⟩:=text_kd hx.symm
   cases ol with
   | none=>exact ⟨h1,h2,h3⟩
   | some l =>
    dsimp only
    unfold sizeL
    split
    ·split <;> exact ⟨h1,h2,h3⟩
    ·exact ⟨h1,h2,h3⟩
  ·split
   ·unfold dataF;split <;> exact ⟨rfl,rfl,rfl⟩
   ·split
    ·unfold behindF
     by_cases hc:c=(if s.left=2 then 13 else 10)
     ·rw [if_pos hc];split <;> exact ⟨rfl,rfl,rfl⟩
     ·rw [if_neg hc];exact ⟨rfl,rfl,rfl⟩
    ·unfold trailF
     obtain ⟨⟨t,ol,e⟩,hx⟩:∃ q,q=textF s c:=⟨_,rfl⟩
     rw [← hx]
     obtain ⟨h1,_,_,h2,h3⟩:=text_kd hx.symm
     cases ol with
     | none=>exact ⟨h1,h2,h3⟩
     | some l =>
      dsimp only
      unfold tailL
      split
      ·exact ⟨h1,h2,h3⟩
      ·cases fldV12 l with
       | none=>exact ⟨h1,h2,h3⟩
       | some p=>dsimp only;split <;> exact ⟨h1,h2,h3⟩
theorem take_dn {s:Rst} {c:UInt8} (hok:Rok s) (hk:s.kind≠0) (h:Dn s) (h0:(takeF s c).2=0):Dn (takeF s c).1:=by
 obtain ⟨k1,k2,_⟩:=take_kd s c
 refine ⟨fun e=>?_,fun e=>absurd (k1.symm.trans e) hk⟩
 have e1:s.kind=1:=k1.symm.trans e
 have hs:s.state=0:=Decidable.byContradiction fun hn=>by have:=hok.ck.2 hn;omega
 unfold takeF at h0 ⊢
 rw [if_pos hs] at h0 ⊢
 unfold plainF at h0 ⊢
 split
 ·dsimp only;rw [e1];rfl
 ·rename_i hm;rw [if_neg hm] at h0;cases h0
theorem run_dn:∀ (l:List UInt8) (s:Rst),Rok s→s.kind≠0→Dn s→(runF s l).2.2=0→Dn (runF s l).1
 | [],_,_,_,h,_=>h
 | c::l,s,hok,hk,h,h0=>by
  rw [runF_cons] at h0 ⊢
  by_cases kd:s.done=true
  ·rw [if_pos kd];exact h
  ·rw [if_neg kd] at h0 ⊢
   by_cases k1:(takeF s c).2≠0
   ·rw [if_pos k1] at h0;exact absurd h0 k1
   ·rw [if_neg k1] at h0 ⊢
    exact run_dn l _ (take_okF hok) (by rw [(take_kd s c).1];exact hk) (take_dn hok hk h (by simpa using k1)) h0
theorem ready_dn {s:Rst} (hr:(readyF s).2=0):Dn (readyF s).1∧(readyF s).1.kind=s.kind∧((readyF s).1.kind=1→(readyF s).1.n≤(readyF s).1.most):=by
 unfold readyF at hr ⊢
 by_cases k0:s.kind=0
 ·rw [if_pos k0]
  exact ⟨⟨fun e=>by have:s.kind=1:=e;omega,fun _=>rfl⟩,rfl,fun e=>by have:s.kind=1:=e;omega⟩
 ·rw [if_neg k0] at hr ⊢
  by_cases k1:s.kind=1
  ·rw [if_pos k1] at hr ⊢
   by_cases k2:s.n≤s.most
   ·rw [if_pos k2]
    exact ⟨⟨fun _=>rfl,fun e=>absurd e k0⟩,rfl,fun _=>k2⟩
   ·rw [if_neg k2] at hr;cases hr
  ·rw [if_neg k1]
   exact ⟨⟨fun e=>absurd e k1,fun e=>absurd e k0⟩,rfl,fun e=>absurd e k1⟩
theorem ready_idem {s:Rst} (h:Dn s) (hd:s.done=false) (hm:s.kind=1→s.n≤s.most):readyF s=(s,0):=by
 unfold readyF
 by_cases k0:s.kind=0
 ·have:=h.2 k0;rw [hd] at this;cases this
 ·rw [if_neg k0]
  by_cases k1:s.kind=1
  ·rw [if_pos k1,if_pos (hm k1),← h.1 k1]
  ·rw [if_neg k1]
theorem run_kd:∀ (l:List UInt8) (s:Rst),(runF s l).1.kind=s.kind∧(runF s l).1.n=s.n∧(runF s l).1.most=s.most
 | [],_=>⟨rfl,rfl,rfl⟩
 | c::l,s=>by
  obtain ⟨h1,h2,h3⟩:=take_kd s c
  obtain ⟨g1,g2,g3⟩:=run_kd l (takeF s c).1
  rw [runF_cons]
  split
  ·exact ⟨rfl,rfl,rfl⟩
  ·split
   ·exact ⟨h1,h2,h3⟩
   ·exact ⟨g1.trans h1,g2.trans h2,g3.trans h3⟩
theorem feed_onF {s:Rst} (hok:Rok s) (hd:s.done=false) (a:List UInt8) (h2:(feedF s a).2.2.2.1=false) (h3:(feedF s a).2.2.2.2=0) :
  (readyF s).2=0∧(runF (readyF s).1 a).2.2=0∧(runF (readyF s).1 a).1.done=false∧feedF s a=({ (runF (readyF s).1 a).1 with body:=[] },(runF (readyF s).1 a).2.1,(runF (readyF s).1 a).1.body,false,0):=by
 have hc:¬(s.done=true∨s.e≠0):=by rw [hd,hok.e0];simp
 have hg:goF s a=if (readyF s).2≠0 then ({ (readyF s).1 with e:=(readyF s).2 },0) else ({ (runF (readyF s).1 a).1 with e:=(runF (readyF s).1 a).2.2 },(runF (readyF s).1 a).2.1):=by unfold goF;rw [if_neg hc]
 have he:(goF s a).1.e=0:=h3
 have hdn:(goF s a).1.done=false:=h2
 by_cases hr:(readyF s).2≠0
 ·rw [hg,if_pos hr] at he;exact absurd he hr
 ·rw [hg,if_neg hr] at he hdn
  have hr0:(readyF s).2=0:=by simpa using hr
  have e0:(runF (readyF s).1 a).2.2=0:=he
  have d0:(runF (readyF s).1 a).1.done=false:=hdn
  have z0:=(runF_ok a _ (ready_okF hok)).e0
  refine ⟨hr0,e0,d0,?_⟩
  unfold feedF
  rw [hg,if_neg hr]
  dsimp only
  rw [e0,d0]
  obtain ⟨z,hz⟩:∃ z,z=(runF (readyF s).1 a).1:=⟨_,rfl⟩
  rw [← hz] at z0 ⊢
  obtain ⟨x1,x2,x3,x4,x5,x6,x7,x8,x9,x10,x11,x12⟩:=z
  dsimp only at z0 ⊢
  rw [z0]
theorem feed_appF {s:Rst} (hok:Rok s) (hd:s.done=false) (a b:List UInt8) (h2:(feedF s a).2.2.2.1=false) (h3:(feedF s a).2.2.2.2=0) :
  feedF s (a++b)=((feedF (feedF s a).1 b).1,(feedF s a).2.1+(feedF (feedF s a).1 b).2.1,(feedF s a).2.2.1++(feedF (feedF s a).1 b).2.2.1,(feedF (feedF s a).1 b).2.2.2):=by
 obtain ⟨hr,e0,d0,hf⟩:=feed_onF hok hd a h2 h3
 have hc:¬(s.done=true∨s.e≠0):=by rw [hd,hok.e0];simp
 obtain ⟨dn,hk,hm⟩:=ready_dn hr
 have ok1:=ready_okF hok
 obtain ⟨s1,hs1⟩:∃ z,z=(readyF s).1:=⟨_,rfl⟩
 rw [← hs1] at e0 d0 hf dn hk hm ok1
 have hk0:s1.kind≠0:=fun e=>by
  have:=dn.2 e
  rw [runF_done this] at d0
  rw [this] at d0;cases d0
 have dz:=run_dn a s1 ok1 hk0 dn e0
 have okz:=runF_ok a s1 ok1
 obtain ⟨kz,nz,mz⟩:=run_kd a s1
 have happ:=runF_app a b s1 e0
 obtain ⟨z,hz⟩:∃ z,z=(runF s1 a).1:=⟨_,rfl⟩
 obtain ⟨u,hu⟩:∃ z,z=(runF s1 a).2.1:=⟨_,rfl⟩
 rw [← hz] at d0 dz okz kz nz mz
 rw [← hz,← hu] at happ hf
 obtain ⟨x,hx⟩:∃ x:Rst,x={ z with body:=[] }:=⟨_,rfl⟩
 have hsh:z=shF z.body x:=by rw [hx];unfold shF;simp
 have hxd:x.done=false:=by rw [hx];exact d0
 have hxe:x.e=0:=by rw [hx];exact okz.e0
 have hxr:readyF x=(x,0):=ready_idem (by rw [hx];exact dz) hxd (by rw [hx];intro e;have e1:z.kind=1:=e;show z.n≤z.most;rw [nz,mz];exact hm (kz.symm.trans e1))
 have hxc:¬(x.done=true∨x.e≠0):=by rw [hxd,hxe];simp
 have hgx:goF x b=({ (runF x b).1 with e:=(runF x b).2.2 },(runF x b).2.1):=by unfold goF;rw [if_neg hxc,hxr];simp
 have hrz:runF z b=(shF z.body (runF x b).1,(runF x b).2):=by
  have:=run_sh z.body b x
  rw [← hsh] at this
  exact this
 have hgs:goF s (a++b)=({ shF z.body (runF x b).1 with e:=(runF x b).2.2 },u+(runF x b).2.1):=by
  unfold goF
  rw [if_neg hc]
  dsimp only
  rw [if_neg (by rw [hr];simp),← hs1,happ,hrz]
 rw [hf,← hx]
 unfold feedF
 rw [hgs,hgx]
 rfl
theorem run_stopF (s:Rst) (a b:List UInt8) (h:(runF s a).1.done=true∨(runF s a).2.2≠0):runF s (a++b)=runF s a:=by
 by_cases h0:(runF s a).2.2=0
 ·rcases h with h | h
  ·rw [runF_app a b s h0,runF_done h]
   obtain ⟨z,hz⟩:∃ z,z=runF s a:=⟨_,rfl⟩
   rw [← hz] at h0 ⊢
   obtain ⟨x,u,e⟩:=z
   dsimp only at h0 ⊢
   rw [h0];rfl
  ·exact absurd h0 h
 ·exact runF_end a b s h0
theorem feed_endF {s:Rst} (hok:Rok s) (hd:s.done=false) (a b:List UInt8) (h:(feedF s a).2.2.2.1=true∨(feedF s a).2.2.2.2≠0):feedF s (a++b)=feedF s a:=by
 have hc:¬(s.done=true∨s.e≠0):=by rw [hd,hok.e0];simp
 have hg:∀ l,goF s l=if (readyF s).2≠0 then ({ (readyF s).1 with e:=(readyF s).2 },0) else ({ (runF (readyF s).1 l).1 with e:=(runF (readyF s).1 l).2.2 },(runF (readyF s).1 l).2.1):=fun l=>by unfold goF;rw [if_neg hc]
 have h':(goF s a).1.done=true∨(goF s a).1.e≠0:=h
 have he:goF s (a++b)=goF s a:=by
  rw [hg,hg]
  by_cases hr:(readyF s).2≠0
  ·rw [if_pos hr,if_pos hr]
  ·rw [hg,if_neg hr] at h'
   rw [if_neg hr,if_neg hr,run_stopF _ a b h']
 unfold feedF
 rw [he]
theorem line_app (n:Nat) (a b:List UInt8):lineC n (a++b)=lineC (lineC n a) b:=List.foldl_append ..
theorem line_up:∀ (b:List UInt8) (n:Nat),0<n→0<lineC n b
 | [],_,h=>h
 | x::t,n,h=>by
  refine line_up t _ ?_
  show 0<(if x≠13∧x≠10∧n=0 then 1 else if x=10∧n=1 then 2 else n)
  split
  ·omega
  ·split <;> omega
theorem looks_app (s:Cst) (a b:List UInt8):looksC s (a++b)=looksC (looksC s a) b:=by
 unfold looksC
 rw [line_app]
 by_cases h:0<lineC s.line a
 ·have:=line_up b _ h
  simp [h,this]
 ·simp [h]
theorem looks_hp (s:Cst) (p q:Pst) (a b:List UInt8):looksC { looksC { s with hp:=p } a with hp:=q } b=looksC { s with hp:=q } (a++b):=by
 rw [looks_app];rfl
theorem runF_all:∀ (a:List UInt8) (s:Rst),(runF s a).2.2=0→(runF s a).1.done=false→(runF s a).2.1=a.length
 | [],_,_,_=>rfl
 | c::l,s,h,hd=>by
  rw [runF_cons] at h hd ⊢
  by_cases h0:s.done=true
  ·rw [if_pos h0] at hd;rw [h0] at hd;cases hd
  ·rw [if_neg h0] at h hd ⊢
   by_cases h1:(takeF s c).2≠0
   ·rw [if_pos h1] at h;exact absurd h h1
   ·rw [if_neg h1] at h hd ⊢
    show (runF (takeF s c).1 l).2.1+1=_
    rw [runF_all l _ h hd];rfl
theorem run_all:∀ (a:List UInt8) (s:Pst),s.done=false→(runP s a).2.2=0→(runP s a).1.done=false→(runP s a).2.1=a.length
 | [],_,_,_,_=>rfl
 | c::l,s,hs,h,hd=>by
  rw [run_cons] at h hd ⊢
  by_cases h1:(takeP s c).2≠0
  ·rw [if_pos h1] at h;exact absurd h h1
  ·rw [if_neg h1] at h hd ⊢
   by_cases h2:(takeP s c).1.done=true
   ·rw [if_pos h2] at hd;rw [h2] at hd;cases hd
   ·rw [if_neg h2] at h hd ⊢
    show (runP (takeP s c).1 l).2.1+1=_
    rw [run_all l _ (by simpa using h2) h hd];rfl
theorem feedF_all {s:Rst} (hok:Rok s) (hd:s.done=false) (a:List UInt8) (h2:(feedF s a).2.2.2.1=false) (h3:(feedF s a).2.2.2.2=0):(feedF s a).2.1=a.length:=by
 obtain ⟨hr,e0,d0,hf⟩:=feed_onF hok hd a h2 h3
 rw [hf]
 exact runF_all a _ e0 d0
theorem feed_all (s:Pst) (h0:s.done=false) (h1:s.e=0) (a:List UInt8) (h2:(feedP s a).2.2.1=false) (h3:(feedP s a).2.2.2=0):(feedP s a).2.1=a.length:=by
 have hc:¬(s.done=true∨s.e≠0):=by rw [h0,h1];simp
 unfold feedP at h2 h3 ⊢
 rw [if_neg hc] at h2 h3 ⊢
 dsimp only at h2 h3 ⊢
 rw [h3] at h2
 exact run_all a s h0 h3 (by simpa using h2)
theorem usedF_le (s:Rst) (l:List UInt8):(feedF s l).2.1≤l.length:=by
 show (goF s l).2≤_
 unfold goF
 split
 ·exact Nat.zero_le _
 ·dsimp only
  split
  ·exact Nat.zero_le _
  ·exact runF_le l _
theorem usedP_le (s:Pst) (l:List UInt8):(feedP s l).2.1≤l.length:=by
 unfold feedP
 split
 ·exact Nat.zero_le _
 ·exact run_le l s
theorem drop_app {a b:List UInt8} {n:Nat} (h:n≤a.length):(a++b).drop n=a.drop n++b:=by
 rw [List.drop_append_of_le_length h]
def Meets (f:Cst→List UInt8→Sp24) (s:Cst) (a b:List UInt8):Prop :=
 ((f s (a++b)).1=(f s a).1∧(f s (a++b)).2.1=(f s a).2.1∧(f s (a++b)).2.2=(f s a).2.2++b) ∨
 ((f s a).2.1=none∧(f s a).2.2=[]∧(f s a).1.inBody=s.inBody∧(f s a).1.reads=s.reads∧f s (a++b)=f (f s a).1 b)
theorem bodies_app {s:Cst} {rd:Rst} (h:s.rd=some rd) (hok:Rok rd) (hd:rd.done=false) (a b:List UInt8):Meets bodiesC s a b:=by
 by_cases hg:(feedF rd a).2.2.2.1=true∨(feedF rd a).2.2.2.2≠0
 ·refine .inl ?_
  have hx:=feed_endF hok hd a b hg
  have hl:(feedF rd a).2.1≤a.length:=usedF_le rd a
  unfold bodiesC
  rw [h]
  dsimp only
  rw [hx,drop_app hl]
  split
  ·exact ⟨rfl,rfl,rfl⟩
  ·split
   ·exact ⟨rfl,rfl,rfl⟩
   ·split <;> exact ⟨rfl,rfl,rfl⟩
 ·have h2:(feedF rd a).2.2.2.1=false:=by
   cases hq:(feedF rd a).2.2.2.1 with
   | false=>rfl
   | true=>exact absurd (Or.inl hq) hg
  have h3:(feedF rd a).2.2.2.2=0:=by
   by_cases hq:(feedF rd a).2.2.2.2=0
   ·exact hq
   ·exact absurd (Or.inr hq) hg
  have hx:=feed_appF hok hd a b h2 h3
  have hl:=feedF_all hok hd a h2 h3
  have ha:bodiesC s a=({ s with rd:=some (feedF rd a).1,got:=s.got++(feedF rd a).2.2.1 },none,[]):=by
   unfold bodiesC
   rw [h]
   dsimp only
   rw [h2,h3,hl,List.drop_length]
   simp
  refine .inr ⟨by rw [ha],by rw [ha],by rw [ha],by rw [ha],?_⟩
  rw [ha]
  unfold bodiesC
  rw [h]
  dsimp only
  rw [hx]
  dsimp only
  have hdr:(a++b).drop ((feedF rd a).2.1+(feedF (feedF rd a).1 b).2.1)=b.drop (feedF (feedF rd a).1 b).2.1:=by
   rw [hl,← List.drop_drop,List.drop_left]
  rw [hdr,List.append_assoc]
theorem heads_app {s:Cst} (hok:Pok s.hp) (a b:List UInt8):Meets headsC s a b:=by
 have h0:=hok.d0
 have h1:=hok.e0
 by_cases hg:(feedP s.hp a).2.2.1=true∨(feedP s.hp a).2.2.2≠0
 ·refine .inl ?_
  have hx:=feed_end s.hp h0 h1 a b hg
  have hl:(feedP s.hp a).2.1≤a.length:=usedP_le s.hp a
  have ht:(a++b).take (feedP s.hp a).2.1=a.take (feedP s.hp a).2.1:=List.take_append_of_le_length hl
  unfold headsC
  dsimp only
  rw [hx,drop_app hl,ht]
  split
  ·exact ⟨rfl,rfl,rfl⟩
  ·split
   ·exact ⟨rfl,rfl,rfl⟩
   ·split <;> exact ⟨rfl,rfl,rfl⟩
 ·have h2:(feedP s.hp a).2.2.1=false:=by
   cases hq:(feedP s.hp a).2.2.1 with
   | false=>rfl
   | true=>exact absurd (Or.inl hq) hg
  have h3:(feedP s.hp a).2.2.2=0:=by
   by_cases hq:(feedP s.hp a).2.2.2=0
   ·exact hq
   ·exact absurd (Or.inr hq) hg
  have hx:=feed_app s.hp h0 h1 a b h2 h3
  have hl:=feed_all s.hp h0 h1 a h2 h3
  have ha:headsC s a=(looksC { s with hp:=(feedP s.hp a).1 } a,none,[]):=by
   unfold headsC
   dsimp only
   rw [h2,h3,hl,List.drop_length,List.take_length]
   simp
  refine .inr ⟨by rw [ha],by rw [ha],by rw [ha];rfl,by rw [ha];rfl,?_⟩
  rw [ha]
  unfold headsC
  dsimp only
  have hp:(looksC { s with hp:=(feedP s.hp a).1 } a).hp=(feedP s.hp a).1:=rfl
  rw [hx,hp]
  dsimp only
  have hdr:(a++b).drop ((feedP s.hp a).2.1+(feedP (feedP s.hp a).1 b).2.1)=b.drop (feedP (feedP s.hp a).1 b).2.1:=by
   rw [hl,← List.drop_drop,List.drop_left]
  have htk:(a++b).take ((feedP s.hp a).2.1+(feedP (feedP s.hp a).1 b).2.1)=a++b.take (feedP (feedP s.hp a).1 b).2.1:=by
   rw [hl,List.take_length_add_append]
  rw [hdr,htk,looks_hp]
theorem hFields_c (fs:List Fld) (A B:Option Addr) (n c m d:Nat) (hn:fs.length=n) (hm:fs.length=m) (hb:n≤maxLen) (w:World) (h:Rd w A (fc fs)) (hB:Rd w B (fc fs)) :
  Calls Tryz.prog 28 #[.slice A n c,.slice B m d] w (Gives (.bool true) w):=by
 obtain rfl:n=m:=hn.symm.trans hm
 unfold maxLen at hb
 go_enter Tryz.func28,Tryz.ntmps28
 go_wp2
 go_loopw [5] (fun i wr=>∃ k:Nat,k≤n∧i=.int .i64 (k:Int)∧Ext w wr) (fun i _=>n-(intOf i).toNat)
 case atStart=>exact ⟨0,Nat.zero_le _,rfl,Ext.rfl' _⟩
 case round =>
  obtain ⟨k,hk,rfl,hext⟩:=hrel
  by_cases hlt:k<n
  ·obtain ⟨b,o,rfl,hbl,hS⟩:=h.fld (k:=k) (by omega)
   obtain ⟨b',o',rfl,hbl',hS'⟩:=hB.fld (k:=k) (by omega)
   obtain ⟨a0,a1⟩:=hS.out wr hext
   obtain ⟨e0,e1⟩:=hS'.out wr hext
   obtain ⟨p,hp⟩:∃ p,p=fs[k]:=⟨_,rfl⟩
   rw [← hp] at a0 a1 e0 e1
   obtain ⟨x,y⟩:=p
   have hk0:(0:Int)≤(k:Int):=by omega
   have hk1:(k:Int)<(n:Int):=by omega
   clear hp
   go_wp2
   go_quiet (fail)
   go_wp2
   go_roundw
   case rel=>exact ⟨k+1,by omega,by go_num,hext.drN _⟩
   case measure=>simp [intOf];omega
  ·obtain rfl:k=n:=by omega
   go_wp2
   go_ret
   exact ⟨rfl,hext⟩
theorem hSame_c (m t:ByteArray) (i:Int) (fs:List Fld) (A B:Option Addr) (n k c d:Nat) (hn:fs.length=n) (hk:fs.length=k) (hb:n≤maxLen) (w:World) (h:Rd w A (fc fs)) (hB:Rd w B (fc fs)) :
  Calls Tryz.prog 12 #[.agg #[.string m,.string t,.int .i64 i,.slice A n c],.agg #[.string m,.string t,.int .i64 i,.slice B k d]] w (Gives (.bool true) w):=by
 have HA:=Hy h
 have HB:=Hy hB
 clear h hB
 have CF:=Hy (fun w h hB=>hFields_c fs A B n c k d hn hk hb w h hB)
 clear hn hk hb
 go_enter Tryz.func12,Tryz.ntmps12
 go_wp2_with (go_at_call 28;refine (CF.out _ (HA.out.ext Xq) (HB.out.ext Xq)).mono ?_;rintro e w1 ⟨rfl,x1⟩)
 go_ret
 exact ⟨rfl,Xq⟩
end Go.Proofs.YthbofilcnpdghaaGreatDoor
end
