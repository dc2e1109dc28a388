/-
A connection's Input.
-/
import Derived.Test.YthbofilcnpdghaaGreatDoorJn
import Derived.Test.YthbofilcnpdghaaGreatDoorZbb
import Derived.Test.YthbofilcnpdghaaGreatDoorZbd
import Derived.Test.YthbofilcnpdghaaGreatDoorZaz
import Derived.Test.YthbofilcnpdghaaGreatDoorZbe
set_option maxRecDepth 100000
set_option maxHeartbeats 8000000
set_option linter.unusedVariables false
set_option linter.unusedSimpArgs false
section
namespace Go.Proofs.YthbofilcnpdghaaGreatDoor
open Go.RowKit
def IsEvs (j:Nat) (l:List Ev24) (v:Value) (w:World) (o:Ow):Prop:=∃ A c es,v=.slice A l.length c∧Sl w o j 6 A l.length c es∧(A=none→c=0)∧EvL w o l es
def slN:Value→Nat
 | .slice _ n _=>n
 | _=>0
structure InpI (k c:Nat) (w:World) (o:Ow) (e:List Ev24) (s:Cst) (b:List UInt8) (wr:World) (s':Cst) (b':List UInt8) (B':Option Addr) (d':Nat) (o':Ow):Prop where
 x:CnAt wr o' k c s'
 st:Sto (KC k) w o wr o'
 i:InI e s'∨(s'=s∧s.reads=false)
 eq:allC s b=allC s' b'
 d:b'.length≤d'
 n:b'.length≤b.length
 B:Ro wr o' B' (bc b')
 ol:∀ x,x<wr.heap.size→o' x≠100
def InpL (k c:Nat) (w:World) (o:Ow) (e:List Ev24) (s:Cst) (b:List UInt8) (vb:Value) (wr:World):Prop:=∃ s' b' B' d' o',vb=.slice B' b'.length d'∧InpI k c w o e s b wr s' b' B' d' o'
theorem nInput_c (w0:World) (hL:Lb w0) (j k c:Nat) (hj:j≠100) (hk:0<k) (hk8:k<80) (e:List Ev24) (s:Cst) (hs:InI e s∨(s.reads=false∧RowOk s.row∧s.out.length+s.row.length*40000≤1099511627776)) (b:List UInt8) (B:Option Addr) (n d:Nat) (hn:n=b.length) (hd:n≤d) (hnb:n≤4611686018427387904) (w:World) (o:Ow) (hO:Old w0 w o) (hol:∀ b,b<w.heap.size→o b≠100) (h:CnAt w o k c s) (hB:Ro w o B (bc b)) :
  Calls Tryz.prog 10 #[.pointer (some ⟨c,0,none⟩),.slice B n d,.int .i64 0] w (TurnsO (KC k) w o fun v w' o'=>IsEvs j (inputC s b).2 v w' o'∧CnAt w' o' k c (inputC s b).1∧∀ x,x<w'.heap.size→o' x≠100):=by
 obtain ⟨a,hx,hnx⟩:=id h
 have c6:w.cell? ⟨c,6,none⟩=some (.func (.func a.nx) #[.pointer (some ⟨c,0,none⟩)] #[]):=hx.row.c6
 have c2:w.cell? ⟨c,2,none⟩=some (.int .i64 0):=hx.row.c2
 have f2:=hx.row.fz 2 (by decide)
 have hI1:InpL k c w o e s b (.slice B n d) (w.setCell ⟨c,2,none⟩ (.int .i64 0)):=by
  have t:Sto (fun i=>i=k) w o (w.setCell ⟨c,2,none⟩ (.int .i64 0)) o:=Sto.set c 2 _ (fun _=>hx.own)
  refine ⟨s,b,B,d,o,by rw [hn],⟨⟨a,⟨hx.own,hx.row.set 2 _ rfl,hx.p.cell hk hx.own 2 _⟩,hnx⟩,setC_sto 2 _ hx.own hk8,?_,rfl,by omega,Nat.le_refl _,hB.sto t (by omega),fun x hx'=>hol x (by simpa using hx')⟩⟩
  rcases hs with h | h
  ·exact .inl h
  ·exact .inr ⟨rfl,h.1⟩
 have HI:=Hy hI1
 have HO:=Hy hO
 have HOL:=Hy hol
 have HS:=Hy hs
 have HN:=Hy hn
 clear hx hnx hO hol h hB hs hI1 hn hd
 go_enter Tryz.func10,Tryz.ntmps10
 go_wp2_with (first
  | (go_at_call 25;refine (nNone_c _ _ _ _ c6).mono ?_;rintro e w2 ⟨rfl,rfl⟩)
  | (go_at_call 24;refine (nTime_c _ _ c2 f2).mono ?_;rintro e w2 ⟨rfl,rfl⟩))
 go_loopw [1] (fun vb wr=>InpL k c w o e s b vb wr) (fun vb _=>slN vb)
 case atStart=>exact HI.out
 case round =>
  obtain ⟨s1,b1,B1,d1,o1,rfl,hI⟩:=hrel
  have HII:=Hy hI
  obtain ⟨a1,hx1,hn1⟩:=hI.x
  have d4:wr.cell? ⟨c,4,none⟩=some (.bool s1.reads):=hx1.row.c4
  clear hx1 hn1 hI c6 c2 f2
  obtain ⟨rd,hrd⟩:∃ r,r=s1.reads:=⟨_,rfl⟩
  rw [← hrd] at d4
  have HRD:=Hy hrd
  clear hrd
  obtain ⟨n1,hn1⟩:∃ m,m=b1.length:=⟨_,rfl⟩
  rw [← hn1]
  have HN1:=Hy hn1
  clear hn1
  by_cases hgo:rd=true∧0<n1
  ·obtain ⟨rfl,hp⟩:=hgo
   have hp':(0:Int)<(n1:Int):=by omega
   have hne:b1≠[]:=by intro h;have:=HN1.out;rw [h] at this;simp at this;omega
   have hInI:InI e s1:=by
    rcases HII.out.i with h | ⟨h1,h2⟩
    ·exact h
    ·have:=HRD.out;rw [h1,h2] at this;cases this
   obtain ⟨g1,g2⟩:=hInI.g HRD.out.symm
   obtain ⟨m1,m2,m3,m4⟩:=hInI.few
   have hOl:∀ b,b<wr.heap.size→o1 b≠100:=HII.out.ol
   have CR:=Hy (nRead_c w0 hL k c hk hk8 s1 HRD.out.symm g1 g2 (by omega) (by omega) (by omega) (by omega) b1 B1 n1 d1 HN1.out (by rw [HN1.out];exact HII.out.d) (by have:=HII.out.n;have:=HN.out;have:=HN1.out;omega) wr o1 (HO.out.sto HII.out.st (kc0 hk)) hOl HII.out.x HII.out.B)
   have HIN:=Hy (hInI.read HRD.out.symm hne)
   have HAL:=Hy (HII.out.eq.trans (all_read g1.ok HRD.out.symm hne))
   have HLE:=Hy (read_less g1.ok hne)
   obtain ⟨⟨s2,b2⟩,hq⟩:∃ q,q=readC s1 b1:=⟨_,rfl⟩
   rw [← hq] at CR HIN HAL HLE
   clear hq hInI g1 g2 m1 m2 m3 m4 hOl hne hp
   go_wp2_with (go_at_call 26;refine (CR.out).mono ?_;rintro e w3 ⟨o3,B3,d3,rfl,hd3,hB3,hA3,st3,hn100⟩)
   go_roundw
   case rel=>exact ⟨s2,b2,B3,d3,o3,rfl,hA3,HII.out.st.tr st3,.inl HIN.out,HAL.out,hd3,(by have h1:b2.length<b1.length:=HLE.out;have h2:=HII.out.n;omega),hB3,fun x _=>hn100 x⟩
   case measure=>show b2.length<n1;rw [HN1.out];exact HLE.out
  ·have HFI:=Hy (show allC s b=s1 from by
    rw [HII.out.eq]
    cases rd with
    | false=>exact all_no _ HRD.out.symm
    | true =>
     have h0:b1=[]:=List.eq_nil_of_length_eq_zero (by have:=HN1.out;have h:¬ 0<n1:=fun h=>hgo ⟨rfl,h⟩;omega)
     rw [h0];rfl)
   have hok:RowOk s1.row∧s1.out.length+s1.row.length*40000≤1099511627776:=by
    rcases HII.out.i with h | ⟨h1,h2⟩
    ·obtain ⟨m1,m2,m3,m4⟩:=h.few
     exact ⟨h.r,by omega⟩
    ·rcases HS.out with h | ⟨_,h3,h4⟩
     ·obtain ⟨m1,m2,m3,m4⟩:=h.few
      rw [h1]
      exact ⟨h.r,by omega⟩
     ·rw [h1];exact ⟨h3,h4⟩
   have CW:=Hy (nWrite_c w0 hL k c hk hk8 s1 hok.1 hok.2 wr o1 (HO.out.sto HII.out.st (kc0 hk)) HII.out.x)
   have HQ:=Hy (show inputC s b=({ writeC s1 with evs:=[] },(writeC s1).evs) from by unfold inputC;dsimp only;rw [show readsC b.length s b=allC s b from rfl,HFI.out])
   obtain ⟨s5,hs5⟩:∃ x,x=writeC s1:=⟨_,rfl⟩
   rw [← hs5] at CW HQ
   clear hok hs5
   have hgo':rd=false∨(rd=true∧n1=0):=by
    cases rd with
    | false=>exact .inl rfl
    | true=>exact .inr ⟨rfl,by have:¬ 0<n1:=fun h=>hgo ⟨rfl,h⟩;omega⟩
   clear hgo
   rcases hgo' with rfl | ⟨rfl,rfl⟩
   all_goals (
    go_wp2_with (go_at_call 27;refine (CW.out).mono ?_;rintro e w5 ⟨rfl,o5,⟨a5,hx5,hn5⟩,st5⟩;have k15:w5.cell? ⟨c,15,none⟩=some (.slice a5.E s5.evs.length a5.ce):=hx5.row.c15;have kf:=hx5.row.fz 15 (by decide);have HX5:=Hy hx5;have HN5:=Hy hn5;have ST5:=Hy st5;clear hx5 hn5 st5)
    go_ret
    have hx5:=HX5.out
    have hp:=hx5.p
    have ho:=hx5.own
    have t1:Sto (fun i=>i=k) w5 o5 (w5.setCell ⟨c,15,none⟩ (.slice none 0 0)) o5:=Sto.set c 15 _ (fun _=>ho)
    obtain ⟨o',ho'⟩:∃ o':Ow,o'=fun b=>if o5 b=k+3 then j else if o5 b=100 then 0 else o5 b:=⟨_,rfl⟩
    have t2:Sto (fun i=>i=k+3∨i=100) (w5.setCell ⟨c,15,none⟩ (.slice none 0 0)) o5 (w5.setCell ⟨c,15,none⟩ (.slice none 0 0)) o':=Sto.give (fun b _ hb=>by rw [ho'];exact (if_neg (fun x=>hb (.inl x))).trans (if_neg (fun x=>hb (.inr x))))
    have t3:Sto (fun i=>i=k∨i=k+3∨i=100) w5 o5 (w5.setCell ⟨c,15,none⟩ (.slice none 0 0)) o':=(t1.mono fun _ h=>.inl h).tr (t2.mono fun _ h=>.inr h)
    obtain ⟨p1,p2,p3⟩:=hp.hd t3 (by omega) (fun i _ _=>by omega)
    obtain ⟨es,e1,e2⟩:=hp.evs
    rw [HQ.out]
    refine TurnsO.mk o' rfl ⟨⟨a5.E,a5.ce,es,rfl,(e1.sto t1 (by omega)).give (fun b _ hb=>by rw [ho'];exact if_pos hb),hp.ez,e2.sto t3 (by omega)⟩,⟨{ a5 with E:=none,ce:=0 },⟨?_,hx5.row.set 15 _ (by simp [Cst.cells]),?_⟩,HN5.out⟩,?_⟩ ?_
    ·rw [ho']
     exact (if_neg (by rw [ho];omega)).trans ((if_neg (by rw [ho];omega)).trans ho)
    ·exact ⟨p1,p2,p3,hp.got.sto t3 (by omega),⟨[],Sl.nil_ _ _ _ _ _,rfl⟩,fun _=>rfl,hp.rowS t3 (by omega) (by omega) (fun a _=>by unfold KA;omega),hp.lz,hp.out.sto t3 (by omega),hp.oz⟩
    ·intro x _
     rw [ho']
     show (if o5 x=k+3 then j else if o5 x=100 then 0 else o5 x)≠100
     split
     ·exact hj
     ·split <;> omega
    ·have tt:=((HII.out.st.tr ST5.out).tr (t1.mono fun i hi=>by subst hi;unfold KC;omega))
     have hol:=HOL.out
     refine ⟨tt.os,tt.tape,tt.output,tt.size,fun b hb hk'=>?_,tt.keep⟩
     have h1:=tt.own b hb hk'
     have h2:=hol b hb
     rw [ho']
     show (if o5 b=k+3 then j else if o5 b=100 then 0 else o5 b)=o b
     rw [h1,if_neg (fun h=>hk' (by rw [h];unfold KC;omega)),if_neg h2])
theorem Sto.setNewJ {K:Nat→Prop} {w w':World} {o o':Ow} (h:Sto K w o w' o') (b off:Nat) (u:Value) (hb:w.heap.size≤b):Sto K w o (w'.setCell ⟨b,off,none⟩ u) o' :=
 ⟨h.os,h.tape,h.output,by have:=h.size;simpa using this,h.own,fun i hi hk=>(Below.heap_setCell w' ⟨b,off,none⟩ u i (by show i≠b;omega)).trans (h.keep i hi hk)⟩
def newA (P:Nat) (kp:Int) (nx:FuncId):Cad:=⟨nx,kp,P,none,none,0,none,0,0,none,0,none,0,none,0⟩
def newV (most kp:Nat) (P:Nat):Array Value:=#[.int .i64 (most:Int),.int .i64 (kp:Int),.int .i64 0,.int .i64 0,.bool true,.bool false,.nilFunc,.pointer (some ⟨P,0,none⟩),.pointer none,.int .i64 0,.string ⟨#[]⟩,.string ⟨#[]⟩,.int .i64 0,.slice none 0 0,.slice none 0 0,.slice none 0 0,.slice none 0 0,.int .i64 0,.slice none 0 0]
def NewW (k:Nat) (w:World) (o:Ow) (most kp:Nat) (v:Value) (wx:World):Prop:=∃ c P o',v=.pointer (some ⟨c,0,none⟩)∧wx.heap[c]?=some (.cells (newV most kp P) 59 (0,0))∧PsAt wx o' (k+5) P (newP false)∧Stp (fun _=>False) w o wx o'∧w.heap.size≤c∧o' c=k
theorem nNew_c (k:Nat) (hk:0<k) (hk8:k<80) (most kp:Nat) (hm:most≤1048576) (hkp:kp≤3600) (w:World) (o:Ow) :
  Calls Tryz.prog 7 #[.agg #[.int .i64 (most:Int),.int .i64 (kp:Int)],.int .i64 0] w fun e w'=>∃ c o',e=.returned (.tuple #[.pointer (some ⟨c,0,none⟩),.int .i64 0])∧CnAt w' o' k c (newC most)∧Sto (fun _=>False) w o w' o'∧w.heap.size≤c:=by
 have a1:¬(most:Int)<0:=by omega
 have a2:¬(1048576:Int)<(most:Int):=by omega
 have a3:¬(kp:Int)<0:=by omega
 have a4:¬(3600:Int)<(kp:Int):=by omega
 have CP:=Hy (fun (w':World)=>hNewParser_c (k+5) false w' o)
 clear hm hkp
 go_enter Tryz.func7,Tryz.ntmps7
 go_upto_region 3 with (fail)
 obtain ⟨W1,hW1⟩:∃ W,W=w.alloc (.cells #[.int .i64 (most:Int),.int .i64 (kp:Int)] 29):=⟨_,rfl⟩
 rw [← hW1]
 have x1:Ext w W1:=by rw [hW1];exact (Ext.rfl' w).al _
 have r1:W1.heap[w.heap.size]?=some (.cells #[.int .i64 (most:Int),.int .i64 (kp:Int)] 29 (0,0)):=by rw [hW1];exact heap_alloc_new w _
 have hks:=Hy (fun w' (e:Ext W1 w')=>(show w'.cell? ⟨w.heap.size,0,none⟩=some (.int .i64 (most:Int))∧w'.cell? ⟨w.heap.size,1,none⟩=some (.int .i64 (kp:Int)) from by
  have h:=(e.block _ (row_lt r1)).trans r1
  exact ⟨(row_facts h 0 _ rfl).1,(row_facts h 1 _ rfl).1⟩))
 obtain ⟨b0,b1⟩:=hks.out W1 (Ext.rfl' _)
 have X1:=Hy x1
 clear r1 hW1 x1
 go_cut [6] (fun v6 wx=>NewW k w o most kp v6 wx)
 case first =>
  go_region_with (go_at_call 22;refine (CP.out _).mono ?_;rintro e w3 ⟨v,o3,rfl,⟨P,rfl,hp3,hPl⟩,st3⟩;have hx3:=st3.noExt;obtain ⟨b0,b1⟩:=hks.out w3 Xq)
  all_goals (go_wp2_with fail;go_meet)
  all_goals (
   have hsz:=X1.out.size
   have hxx:=hx3.size
   have t4:Stp (fun _=>False) w3 o3 (w3.alloc (.cells (newV most kp P) 59)) (fun b=>if b=w3.heap.size then k else o3 b):=Stp.ext2 ((Ext.rfl' _).al _) (fun b hb=>if_neg (by omega))
   exact ⟨w3.heap.size,P,_,rfl,heap_alloc_new w3 _,hp3.stp t4 (fun x=>x) (fun x=>x) (fun x=>x),((Stp.ext (Ext.tr X1.out Xq)).tr st3).tr t4,Nat.le_trans hsz (by first | exact hxx | (simpa using hxx)),if_pos rfl⟩)
 case rest =>
  obtain ⟨c,P,o3,rfl,row,hp,st,hle,hne⟩:=hcut
  have k6:wc.cell? ⟨c,6,none⟩=some .nilFunc:=(row_facts row 6 _ rfl).1
  have f6:=(row_facts row 6 _ rfl).2
  have hmf:∀ (fn:Fn) (first cap:Array Value) (w:World),(Instr.makeFunc fn first cap).run Tryz.prog w=.ok (.func fn first cap) w:=fun _ _ _ _=>rfl
  have r6:=row_set row 6 (.func (.func 23) #[.pointer (some ⟨c,0,none⟩)] #[])
  have k2:(wc.setCell ⟨c,6,none⟩ (.func (.func 23) #[.pointer (some ⟨c,0,none⟩)] #[])).cell? ⟨c,2,none⟩=some (.int .i64 0):=(row_facts r6 2 _ rfl).1
  have f2:(wc.setCell ⟨c,6,none⟩ (.func (.func 23) #[.pointer (some ⟨c,0,none⟩)] #[])).frozen? ⟨c,2,none⟩=false:=(row_facts r6 2 _ rfl).2
  have r2:=row_set r6 2 (.int .i64 0)
  have k2':((wc.setCell ⟨c,6,none⟩ (.func (.func 23) #[.pointer (some ⟨c,0,none⟩)] #[])).setCell ⟨c,2,none⟩ (.int .i64 0)).cell? ⟨c,2,none⟩=some (.int .i64 0):=(row_facts r2 2 _ rfl).1
  have k3':((wc.setCell ⟨c,6,none⟩ (.func (.func 23) #[.pointer (some ⟨c,0,none⟩)] #[])).setCell ⟨c,2,none⟩ (.int .i64 0)).cell? ⟨c,3,none⟩=some (.int .i64 0):=(row_facts r2 3 _ rfl).1
  have f3':((wc.setCell ⟨c,6,none⟩ (.func (.func 23) #[.pointer (some ⟨c,0,none⟩)] #[])).setCell ⟨c,2,none⟩ (.int .i64 0)).frozen? ⟨c,3,none⟩=false:=(row_facts r2 3 _ rfl).2
  have r3:=row_set r2 3 (.int .i64 0)
  have HT:=Hy (show ∃ o',CnAt (((wc.setCell ⟨c,6,none⟩ (.func (.func 23) #[.pointer (some ⟨c,0,none⟩)] #[])).setCell ⟨c,2,none⟩ (.int .i64 0)).setCell ⟨c,3,none⟩ (.int .i64 0)) o' k c (newC most)∧Sto (fun _=>False) w o (((wc.setCell ⟨c,6,none⟩ (.func (.func 23) #[.pointer (some ⟨c,0,none⟩)] #[])).setCell ⟨c,2,none⟩ (.int .i64 0)).setCell ⟨c,3,none⟩ (.int .i64 0)) o' from by
   have t5:Sto (fun i=>i=k) wc o3 (((wc.setCell ⟨c,6,none⟩ (.func (.func 23) #[.pointer (some ⟨c,0,none⟩)] #[])).setCell ⟨c,2,none⟩ (.int .i64 0)).setCell ⟨c,3,none⟩ (.int .i64 0)) o3:=((Sto.set c 6 _ (fun _=>hne)).tr (Sto.set c 2 _ (fun _=>hne))).tr (Sto.set c 3 _ (fun _=>hne))
   have t6:Sto (fun _=>False) w o (((wc.setCell ⟨c,6,none⟩ (.func (.func 23) #[.pointer (some ⟨c,0,none⟩)] #[])).setCell ⟨c,2,none⟩ (.int .i64 0)).setCell ⟨c,3,none⟩ (.int .i64 0)) o3:=((st.sto.setNewJ c 6 _ hle).setNewJ c 2 _ hle).setNewJ c 3 _ hle
   refine ⟨o3,⟨newA P kp 23,⟨hne,?_,hp.sto t5 (by omega) (by omega) (by omega),rfl,.inl rfl,(fun e=>by cases e),⟨[],Sl.nil_ _ _ _ _ _,rfl⟩,fun _=>rfl,⟨[],Sl.nil_ _ _ _ _ _,rfl⟩,fun _=>rfl,Sl.nil_ _ _ _ _ _,fun _=>rfl⟩,rfl⟩,t6⟩
   unfold Crow
   rw [r3]
   simp [newV,Cst.cells,newC,newA]
   rfl)
  clear row hp st r6 r2 r3
  go_wp2_with (go_at_call 24;refine (nTime_c _ _ k2 f2).mono ?_;rintro e w2 ⟨rfl,rfl⟩)
  go_ret2
  obtain ⟨o',h1,h2⟩:=HT.out
  exact ⟨c,o',rfl,h1,h2,hle⟩
end Go.Proofs.YthbofilcnpdghaaGreatDoor
end
section
namespace Go.Proofs.YthbofilcnpdghaaGreatDoor
def kn24B:List UInt8:=[71,69,84,32,47,32,72,84,84,80,47,49,46,49,13,10,72,111,115,116,58,32,97,13,10,13,10,71,69,84,32,47,32,72,84,84,80,47,49,46,49,13,10,13,10]
def kn24W:List UInt8:=[72,84,84,80,47,49,46,49,32,50,48,48,32,79,75,13,10,67,111,110,116,101,110,116,45,76,101,110,103,116,104,58,32,49,13,10,13,10,120,72,84,84,80,47,49,46,49,32,52,48,48,32,66,97,100,32,82,101,113,117,101,115,116,13,10]
def kn24Q:Cst × List Ev24:=inputC (newC 10) kn24B
def kn24A:Cst:=(answerC kn24Q.1 0 [120]).1
theorem kn24_evs:kn24Q.2.map (·.id)=[0]:=by decide +kernel
theorem kn24_out:kn24Q.1.out=[]:=by decide +kernel
theorem kn24_row:kn24Q.1.row.length=2:=by decide +kernel
theorem kn24_ans:(answerC kn24Q.1 0 [120]).2=0:=by decide +kernel
theorem kn24_len:(65:Nat)<kn24A.out.length:=by decide +kernel
theorem kn24_closed:closedC kn24A=true:=by decide +kernel
theorem kn24_shape:∃ a,kn24Q.1.row=[.ask a,.ref 400]∧a.id=0∧a.ans=none:=by
 have h:(kn24Q.1.row.map fun t=>match t with | .ref st=>(some st,0,true) | .ask a=>(none,a.id,a.ans.isNone))=[(none,0,true),(some 400,0,true)]:=by decide +kernel
 have hl:=kn24_row
 generalize kn24Q.1.row=l at h hl
 match l,hl with
 | [x,y],_ =>
  cases x with
  | ref st=>simp at h
  | ask a =>
   cases y with
   | ask b=>simp at h
   | ref st =>
    simp at h
    obtain ⟨⟨h1,h2⟩,h3⟩:=h
    exact ⟨a,by rw [h3],h1,by simpa using h2⟩
end Go.Proofs.YthbofilcnpdghaaGreatDoor
end
section
namespace Go.Proofs.YthbofilcnpdghaaGreatDoor
open Go.RowKit
theorem nNum_c (n:Int) (w:World):Calls Tryz.prog 8 #[.int .i64 n] w (Tells (.int .i64 n) w):=by
 go_enter Tryz.func8,Tryz.ntmps8
 go_wp2
 go_ret
 exact ⟨rfl,rfl⟩
def o99 (o:Ow):Ow:=fun b=>if o b=100 then 0 else o b
theorem o99_no (o:Ow) (b:Nat):o99 o b≠100:=by unfold o99;split <;> omega
theorem no100 {K:Nat→Prop} {w w':World} {o o':Ow} (tt:Sto K w o w' o') (hol:∀ b,b<w.heap.size→o b≠100):Sto K w o w' (o99 o'):=by
 refine ⟨tt.os,tt.tape,tt.output,tt.size,fun b hb hk'=>?_,tt.keep⟩
 have h1:=tt.own b hb hk'
 have h2:=hol b hb
 unfold o99
 rw [h1,if_neg h2]
theorem CnAt.o99 {w:World} {o:Ow} {k c:Nat} {s:Cst} (hk:0<k) (hk8:k<80) (h:CnAt w o k c s):CnAt w (o99 o) k c s :=
 h.sto (K:=fun i=>i=100) (Sto.give (fun b _ hb=>if_neg hb)) (show ¬(0=100) by omega) (fun i _=>show ¬(k+i=100) by omega) (fun a _=>show ¬(KA k a.id=100) by unfold KA;omega)
theorem Rd.newZ (w:World) (cs:Array Value) (t:TypeId) (z:Nat × Nat):Rd (w.alloc (.cells cs t z)) (some ⟨w.heap.size,0,none⟩) cs.toList:=by
 refine .inr ⟨_,0,rfl,fun j u hj=>?_⟩
 have hh:(w.alloc (.cells cs t z)).heap[w.heap.size]?=some (.cells cs t z):=heap_alloc_new w _
 have:(w.alloc (.cells cs t z)).cell? ⟨w.heap.size,j,none⟩=cs[j]?:=by unfold World.cell?;rw [hh];rfl
 rw [Nat.zero_add,this]
 simpa using hj
def Kn24I (w:World) (o:Ow) (c:Nat) (A:Option Addr) (s:Cst) (wx:World):Prop:=∃ o' g f,A=some ⟨g,f,none⟩∧wx.cell? ⟨g,f,none⟩=some (.int .i64 0)∧o' g=90∧CnAt wx o' 60 c s∧Sto (KC 60) w o wx o'∧∀ x,x<wx.heap.size→o' x≠100
def Kn24E (w:World) (o:Ow) (c:Nat) (v:Value) (wx:World):Prop:=∃ A d,v=.slice A 1 d∧Kn24I w o c A kn24Q.1 wx
theorem kn24_ev:∃ e,kn24Q.2=[e]∧e.id=0:=by
 have h:=kn24_evs
 generalize kn24Q.2=l at h
 match l with
 | [e]=>exact ⟨e,rfl,by simpa using h⟩
 | []=>simp at h
 | _::_::_=>simp at h
theorem Kn24E.mk {w:World} {o:Ow} {c:Nat} {w1 w2 w3:World} {o1 o3:Ow} {v:Value} (st1:Sto (KC 60) w o w1 o1) (x12:Ext w1 w2) (h1:IsEvs 90 kn24Q.2 v w3 o3) (h2:CnAt w3 o3 60 c kn24Q.1) (h3:∀ x,x<w3.heap.size→o3 x≠100) (st:Sto (KC 60) w2 (oz w1 o1) w3 o3):Kn24E w o c v w3:=by
 obtain ⟨A,d,es,rfl,e1,_,e3⟩:=h1
 obtain ⟨e,he,h0⟩:=kn24_ev
 rw [he] at e1 e3
 obtain ⟨u,us,rfl,⟨Q,cq,B,cb,rfl,_,_⟩,_⟩:=e3
 rcases e1.at_ with h | ⟨g,f,hA,hg,hl,hc,_⟩
 ·have:=e1.le;rw [h] at this;simp at this
 ·have hz:=hc 0 (.int .i64 (e.id:Int)) rfl
  rw [h0] at hz
  rw [he]
  exact ⟨A,d,rfl,o3,g,f,hA,hz,hg,h2,(st1.tr (oz_sto x12)).tr st,h3⟩
theorem Kn24I.mk {w wc w4:World} {o o3 o4:Ow} {c g f:Nat} {s:Cst} (hcell:wc.cell? ⟨g,f,none⟩=some (.int .i64 0)) (hg:o3 g=90) (st3:Sto (KC 60) w o wc o3) (hol3:∀ x,x<wc.heap.size→o3 x≠100) (stt:Sto (KC 60) wc o3 w4 o4) (h4:CnAt w4 o4 60 c s):Kn24I w o c (some ⟨g,f,none⟩) s w4:=by
 have hn:¬ KC 60 (o3 g):=by rw [hg];unfold KC;omega
 have hl:g<wc.heap.size:=lt_of_cell hcell
 refine ⟨o99 o4,g,f,rfl,stt.cell (a:=⟨g,f,none⟩) hn hcell,?_,h4.o99 (by decide) (by decide),st3.tr (no100 stt hol3),fun x _=>o99_no o4 x⟩
 unfold o99
 rw [stt.own g hl hn,hg]
 rfl
theorem kn24_ok:RowOk kn24Q.1.row∧kn24Q.1.out.length+kn24Q.1.row.length*40000≤1099511627776∧UnI kn24Q.1.row:=by
 obtain ⟨a,hr,h1,h2⟩:=kn24_shape
 rw [kn24_out,hr]
 refine ⟨fun t ht=>?_,by simp,fun p b t h=>?_⟩
 ·rcases List.mem_cons.1 ht with rfl | ht
  ·intro x hx;rw [h2] at hx;cases hx
  ·rw [List.mem_singleton.1 ht];exact ⟨by decide,by decide⟩
 ·match p,h with
  | [],h=>cases h;exact ⟨fun b hb=>(by cases hb),fun b hb=>(by have h9:=List.mem_singleton.1 hb;cases h9)⟩
  | [_],h=>simp at h
  | _::_::_,h=>simp at h
theorem kn24_ext:((str kn24A.out).extract 0 65).toList=kn24W:=by decide +kernel
theorem kn24_num:answerC kn24Q.1 0 [120]=(kn24A,0):=Prod.ext rfl kn24_ans
theorem knows_c (w0:World) (hL:Lb w0) (w:World) (o:Ow) (hO:Old w0 w o) (hol:∀ b,b<w.heap.size→o b≠100) :
  Calls Tryz.prog 9 #[] w fun e w'=>e=.returned (.bool true)∧∃ o',Sto (KC 60) w o w' o'∧∀ x,x<w'.heap.size→o' x≠100:=by
 have CN:=nNew_c 60 (by decide) (by decide) 10 5 (by decide) (by decide) w o
 have CN:=Hy (show Calls Tryz.prog 7 #[.agg #[.int .i64 10,.int .i64 5],.int .i64 0] w _ from CN)
 have HO:=Hy hO
 have HOL:=Hy hol
 clear hO hol
 go_enter Tryz.func9,Tryz.ntmps9
 go_upto_region 4 with (first
  | (go_at_call 7;refine (CN.out).mono ?_;rintro e w1 ⟨c,o1,rfl,hC1,st1,hle⟩)
  | (go_at_call 8;refine (nNum_c _ _).mono ?_;rintro e w2 ⟨rfl,hw⟩;subst hw))
 have hC:=hC1.o99 (by decide) (by decide)
 have st2:Sto (KC 60) w o w1 (o99 o1):=(no100 st1 HOL.out).mono fun _ h=>h.elim
 obtain ⟨o2,ho2⟩:∃ o2,o2=o99 o1:=⟨_,rfl⟩
 rw [← ho2] at hC st2
 have HN:=Hy (show ∀ x,o2 x≠100 from by rw [ho2];exact o99_no o1)
 have HC:=Hy hC
 have ST:=Hy st2
 clear hC st2 hC1 st1 hle ho2 CN
 have hcs:∀ (w:World),(convert 22 22 (.slice (some ⟨w.heap.size,0,none⟩) 45 45)).run Tryz.prog (w.alloc (.cells #[.int .u8 71,.int .u8 69,.int .u8 84,.int .u8 32,.int .u8 47,.int .u8 32,.int .u8 72,.int .u8 84,.int .u8 84,.int .u8 80,.int .u8 47,.int .u8 49,.int .u8 46,.int .u8 49,.int .u8 13,.int .u8 10,.int .u8 72,.int .u8 111,.int .u8 115,.int .u8 116,.int .u8 58,.int .u8 32,.int .u8 97,.int .u8 13,.int .u8 10,.int .u8 13,.int .u8 10,.int .u8 71,.int .u8 69,.int .u8 84,.int .u8 32,.int .u8 47,.int .u8 32,.int .u8 72,.int .u8 84,.int .u8 84,.int .u8 80,.int .u8 47,.int .u8 49,.int .u8 46,.int .u8 49,.int .u8 13,.int .u8 10,.int .u8 13,.int .u8 10] 5))=.ok (.slice (some ⟨w.heap.size,0,none⟩) 45 45) (w.alloc (.cells #[.int .u8 71,.int .u8 69,.int .u8 84,.int .u8 32,.int .u8 47,.int .u8 32,.int .u8 72,.int .u8 84,.int .u8 84,.int .u8 80,.int .u8 47,.int .u8 49,.int .u8 46,.int .u8 49,.int .u8 13,.int .u8 10,.int .u8 72,.int .u8 111,.int .u8 115,.int .u8 116,.int .u8 58,.int .u8 32,.int .u8 97,.int .u8 13,.int .u8 10,.int .u8 13,.int .u8 10,.int .u8 71,.int .u8 69,.int .u8 84,.int .u8 32,.int .u8 47,.int .u8 32,.int .u8 72,.int .u8 84,.int .u8 84,.int .u8 80,.int .u8 47,.int .u8 49,.int .u8 46,.int .u8 49,.int .u8 13,.int .u8 10,.int .u8 13,.int .u8 10] 5 (45,46))):=fun w=>Lib.run_convert_bytes_const w 22 5 #[.int .u8 71,.int .u8 69,.int .u8 84,.int .u8 32,.int .u8 47,.int .u8 32,.int .u8 72,.int .u8 84,.int .u8 84,.int .u8 80,.int .u8 47,.int .u8 49,.int .u8 46,.int .u8 49,.int .u8 13,.int .u8 10,.int .u8 72,.int .u8 111,.int .u8 115,.int .u8 116,.int .u8 58,.int .u8 32,.int .u8 97,.int .u8 13,.int .u8 10,.int .u8 13,.int .u8 10,.int .u8 71,.int .u8 69,.int .u8 84,.int .u8 32,.int .u8 47,.int .u8 32,.int .u8 72,.int .u8 84,.int .u8 84,.int .u8 80,.int .u8 47,.int .u8 49,.int .u8 46,.int .u8 49,.int .u8 13,.int .u8 10,.int .u8 13,.int .u8 10] 45 45 Tryz.underlying22 Tryz.underlying5
 go_cut [3] (fun v3 wx=>Kn24E w o c v3 wx)
 case first =>
  have CI:=Hy (fun (w':World) (e:Ext w1 w') (B:Option Addr) (hB:Ro w' (oz w1 o2) B (bc kn24B))=>nInput_c w0 hL 90 60 c (by decide) (by decide) (by decide) [] (newC 10) (.inl (new_in (by decide))) kn24B B 45 45 rfl (by omega) (by decide) w' (oz w1 o2) ((HO.out.sto ST.out (kc0 (by decide))).sto (oz_sto e) (kc0 (by decide:0<60))) (fun b _=>by unfold oz;split;exact HN.out b;decide) (HC.out.sto (K:=fun _=>False) (oz_sto e) (fun h=>h) (fun _ _ h=>h) (fun _ _ h=>h)) hB)
  go_wp2_with (go_at_call 10;refine (CI.out _ Xq _ (Ro.new (w1:=w1) (Rd.newZ w1 _ _ _) Xq (by intro a ha;cases ha;exact Nat.le_refl _) (fun b hb=>oz_new w1 o2 hb))).mono ?_;rintro e w3 ⟨v,o3,rfl,⟨h1,h2,h3⟩,st3⟩)
  go_meet
  exact Kn24E.mk ST.out Xq h1 h2 h3 st3
 case rest =>
  obtain ⟨A,d,rfl,hk⟩:=hcut
  clear HC ST HN hcs
  go_upto_region 5 with (fail)
  have hcs:∀ (w:World),(convert 22 22 (.slice (some ⟨w.heap.size,0,none⟩) 1 1)).run Tryz.prog (w.alloc (.cells #[.int .u8 120] 5))=.ok (.slice (some ⟨w.heap.size,0,none⟩) 1 1) (w.alloc (.cells #[.int .u8 120] 5 (1,2))):=fun w=>Lib.run_convert_bytes_const w 22 5 #[.int .u8 120] 1 1 Tryz.underlying22 Tryz.underlying5
  go_cut [4] (fun v4 wx=>v4=.int .i64 0∧Kn24I w o c A kn24A wx)
  case first =>
   obtain ⟨o3,g,f,rfl,hcell,hg,hC3,st3,hol3⟩:=hk
   have HC3:=Hy hC3
   have ST3:=Hy st3
   have HO3:=Hy hol3
   obtain ⟨q1,q2,q3⟩:=kn24_ok
   have CA:=fun (w':World) (e:Ext wc w') (B:Option Addr) (hB:Ro w' (oz wc o3) B (bc [120]))=>nAnswer_c w0 hL 60 c (by decide) (by decide) kn24Q.1 q1 q2 q3 0 [120] (by decide) B 1 w' (oz wc o3) ((HO.out.sto ST3.out (kc0 (by decide))).sto (oz_sto e) (kc0 (by decide:0<60))) (HC3.out.sto (K:=fun _=>False) (oz_sto e) (fun h=>h) (fun _ _ h=>h) (fun _ _ h=>h)) hB
   rw [kn24_num] at CA
   have CA:=Hy CA
   clear hC3 st3 hol3 q1 q2 q3
   go_wp2_with (go_at_call 13;refine (CA.out _ Xq _ (Ro.new (w1:=wc) (Rd.newZ wc _ _ _) Xq (by intro a ha;cases ha;exact Nat.le_refl _) (fun b hb=>oz_new wc o3 hb))).mono ?_;rintro e w4 ⟨v,o4,rfl,⟨rfl,h4⟩,st4⟩)
   go_meet
   exact ⟨rfl,Kn24I.mk hcell hg ST3.out HO3.out ((oz_sto Xq).tr st4) h4⟩
  case rest =>
   obtain ⟨rfl,hk⟩:=hcut
   clear hcs
   obtain ⟨S,hS⟩:∃ s,s=str kn24A.out:=⟨_,rfl⟩
   have HS0:=Hy hS
   clear hS
   go_upto_region 6 with (fail)
   go_cut [5] (fun v5 wx=>v5=.string S∧Kn24I w o c A { kn24A with out:=[] } wx)
   case first =>
    obtain ⟨o3,g,f,rfl,hcell,hg,hC3,st3,hol3⟩:=hk
    have HC3:=Hy hC3
    have ST3:=Hy st3
    have HO3:=Hy hol3
    have hS:=HS0.out
    have CO:=nOutput_c 90 60 c (by decide) (by decide) kn24A wc o3 HC3.out
    obtain ⟨ka,hka⟩:∃ q,q=kn24A:=⟨_,rfl⟩
    rw [← hka] at CO hS;have HKA:=Hy hka
    have CO:=Hy CO
    have HS:=Hy hS
    clear hC3 st3 hol3 hS hka
    go_wp2_with (go_at_call 14;refine (CO.out).mono ?_;rintro e w4 ⟨v,o4,rfl,⟨⟨A4,c4,rfl,hs4,_⟩,h4⟩,st4⟩;have CV:(convert 22 9 (.slice A4 ka.out.length c4)).run Tryz.prog w4=.ok (.string S) w4:=(by rw [HS.out];exact conv_bs 22 9 5 Tryz.underlying22 Tryz.underlying5 Tryz.underlying9 hs4.rd ka.out.length c4 rfl))
    go_meet
    exact ⟨rfl,Kn24I.mk hcell hg ST3.out HO3.out st4 (by rw [HKA.out] at h4;exact h4)⟩
   case rest =>
    obtain ⟨rfl,hk⟩:=hcut
    ·obtain ⟨o3,g,f,rfl,hcell,hg,hC3,st3,hol3⟩:=hk
     have HC3:=Hy hC3
     have ST3:=Hy st3
     have HO3:=Hy hol3
     clear hC3 st3 hol3 hg
     have hl:(65:Int)<(S.size:Int):=by
                           rw [HS0.out];have:=kn24_len;show (65:Int)<(((str kn24A.out).size:Nat):Int);have e:(str kn24A.out).size=kn24A.out.length:=by simp [str,ByteArray.size]
                           omega
     go_upto_region 8 with (fail)
     go_wp2_with (first
      | (go_at_call 8;refine (nNum_c _ _).mono ?_;rintro e w2 ⟨rfl,hw⟩;subst hw)
      | (go_at_call 15;refine (nClosed_c _ _ _ _ _ HC3.out).mono ?_;rintro e w2 ⟨rfl,hw⟩;subst hw))
     ·have hcl:closedC { kn24A with out:=[] }=true:=kn24_closed
      rw [show (Value.bool (closedC { kn24A with out:=[] }))=.bool true from by rw [hcl]]
      go_ret
      exact ⟨rfl,o3,ST3.out,HO3.out⟩
     ·rename_i h9
      exact absurd (by rw [HS0.out];exact kn24_ext) h9
end Go.Proofs.YthbofilcnpdghaaGreatDoor
end
