/-
A connection's small calls: none, time, refuse, waits, Reading, Closed, Output.
-/
import Derived.Test.YthbofilcnpdghaaGreatDoorZav
set_option maxRecDepth 100000
set_option maxHeartbeats 8000000
set_option linter.unusedVariables false
set_option linter.unusedSimpArgs false
section
namespace Go.Proofs.YthbofilcnpdghaaGreatDoor
open Go.RowKit
def Tells (v:Value) (w:World) (e:Ending) (w':World):Prop:=e=.returned v∧w=w'
section
variable {w:World} {c:Nat} {s:Cst} {a:Cad}
theorem Crow.c0 (h:Crow w c s a):w.cell? ⟨c,0,none⟩=some (.int .i64 (s.most:Int)):=(h.at_ 0 _ rfl).1
theorem Crow.c2 (h:Crow w c s a):w.cell? ⟨c,2,none⟩=some (.int .i64 0):=(h.at_ 2 _ rfl).1
theorem Crow.c4 (h:Crow w c s a):w.cell? ⟨c,4,none⟩=some (.bool s.reads):=(h.at_ 4 _ rfl).1
theorem Crow.c5 (h:Crow w c s a):w.cell? ⟨c,5,none⟩=some (.bool s.begun):=(h.at_ 5 _ rfl).1
theorem Crow.c6 (h:Crow w c s a):w.cell? ⟨c,6,none⟩=some (.func (.func a.nx) #[.pointer (some ⟨c,0,none⟩)] #[]):=(h.at_ 6 _ rfl).1
theorem Crow.c7 (h:Crow w c s a):w.cell? ⟨c,7,none⟩=some (.pointer (some ⟨a.H,0,none⟩)):=(h.at_ 7 _ rfl).1
theorem Crow.c8 (h:Crow w c s a):w.cell? ⟨c,8,none⟩=some (.pointer a.R):=(h.at_ 8 _ rfl).1
theorem Crow.c9 (h:Crow w c s a):w.cell? ⟨c,9,none⟩=some (.int .i64 (s.line:Int)):=(h.at_ 9 _ rfl).1
theorem Crow.c14 (h:Crow w c s a):w.cell? ⟨c,14,none⟩=some (.slice a.B a.nb a.cb):=(h.at_ 14 _ rfl).1
theorem Crow.c15 (h:Crow w c s a):w.cell? ⟨c,15,none⟩=some (.slice a.E s.evs.length a.ce):=(h.at_ 15 _ rfl).1
theorem Crow.c16 (h:Crow w c s a):w.cell? ⟨c,16,none⟩=some (.slice a.L s.row.length a.cl):=(h.at_ 16 _ rfl).1
theorem Crow.c17 (h:Crow w c s a):w.cell? ⟨c,17,none⟩=some (.int .i64 (s.number:Int)):=(h.at_ 17 _ rfl).1
theorem Crow.c18 (h:Crow w c s a):w.cell? ⟨c,18,none⟩=some (.slice a.O s.out.length a.co):=(h.at_ 18 _ rfl).1
theorem Crow.fz (h:Crow w c s a) (i:Nat) (hi:i<19):w.frozen? ⟨c,i,none⟩=false:=by
 obtain ⟨u,hu⟩:∃ u,(s.cells c a)[i]?=some u:=⟨(s.cells c a)[i]'(by simp [Cst.cells];omega),by simp⟩
 exact (row_facts h i u hu).2
end
section
variable {K:Nat→Prop} {w w':World} {o o':Ow} {k c:Nat} {s s':Cst} {a a':Cad}
theorem CnP.hd (h:CnP w o k s a) (t:Sto K w o w' o') (h0:¬ K 0) (hk:∀ i,5≤i→i<13→¬ K (k+i)):PsAt w' o' (k+5) a.H s.hp∧RdAt w' o' (k+9) a.R s.rd∧Ro w' o' a.A (fc s.r.2.2.2) :=
 ⟨h.hp.sto t (hk 5 (by decide) (by decide)) (hk 6 (by decide) (by decide)) (hk 7 (by decide) (by decide)),h.rd.sto t (hk 9 (by decide) (by decide)) (hk 10 (by decide) (by decide)) (hk 11 (by decide) (by decide)) (hk 12 (by decide) (by decide)),h.r.sto t h0⟩
theorem CnP.evsS (h:CnP w o k s a) (t:Sto K w o w' o') (h0:¬ K 0) (hk:¬ K (k+3)):∃ es,Sl w' o' (k+3) 6 a.E s.evs.length a.ce es∧EvL w' o' s.evs es:=by
 obtain ⟨es,e1,e2⟩:=h.evs
 exact ⟨es,e1.sto t hk,e2.sto t h0⟩
theorem CnP.rowS (h:CnP w o k s a) (t:Sto K w o w' o') (h0:¬ K 0) (hk:¬ K (k+1)) (hj:∀ a,Th24.ask a∈s.row→¬ K (KA k a.id)):∃ ts,Sl w' o' (k+1) 1 a.L s.row.length a.cl ts∧ThL w' o' k s.row ts:=by
 obtain ⟨ts,e1,e2⟩:=h.row
 exact ⟨ts,e1.sto t hk,e2.sto t h0 hj⟩
end
theorem eqfIn_no {P:Program} (w:World) (d:Nat) (t:TypeId) {ps rs:Array TypeId} {v:Bool} (h:P.underlying t=some (.func ps rs v)) (f:Fn) (x y:Array Value):(Op.equalIn (d+1) t (.func f x y) .nilFunc).run P w=.ok false w:=by
 simp [Op.equalIn,run_underlying h]
theorem eqf_no (f:Fn) (x y:Array Value) (w:World):(binOp .eql 54 (.func f x y) .nilFunc).run Tryz.prog w=.ok (.bool false) w:=by
 simp only [binOp]
 simp [Op.equal,Op.maxDepth,eqfIn_no w 9999 _ Tryz.underlying54]
theorem nNone_c (c:Nat) (f:FuncId) (x:Array Value) (w:World) (h:w.cell? ⟨c,6,none⟩=some (.func (.func f) x #[])):Calls Tryz.prog 25 #[.pointer (some ⟨c,0,none⟩)] w (Tells (.bool false) w):=by
 have q:=eqf_no
 go_enter Tryz.func25,Tryz.ntmps25
 go_wp2
 go_ret
 exact ⟨rfl,rfl⟩
theorem nTime_c (c:Nat) (w:World) (h:w.cell? ⟨c,2,none⟩=some (.int .i64 0)) (hf:w.frozen? ⟨c,2,none⟩=false):Calls Tryz.prog 24 #[.pointer (some ⟨c,0,none⟩),.int .i64 0] w fun e w'=>e=.returned (.tuple #[])∧w.setCell ⟨c,2,none⟩ (.int .i64 0)=w':=by
 go_enter Tryz.func24,Tryz.ntmps24
 go_wp2
 go_end0
 exact ⟨rfl,rfl⟩
theorem nRefuse_c (st:Int) (w:World):Calls Tryz.prog 40 #[.int .i64 st] w fun e w'=>e=.panicked [{ v:=.iface 85 (.int .i64 st),recovered:=false }]∧w=w':=by
 go_enter Tryz.func40,Tryz.ntmps40
 go_wp2
 simp [bodyPost]
theorem nAskW_yes (p:Nat) (w:World) (h:w.cell? ⟨p,6,none⟩=some (.pointer none)):Calls Tryz.prog 188 #[.pointer (some ⟨p,0,none⟩)] w (Tells (.bool true) w):=by
 go_enter Tryz.func188,Tryz.ntmps188
 go_wp2
 go_ret
 exact ⟨rfl,rfl⟩
theorem nAskW_no (p:Nat) (q:Addr) (w:World) (h:w.cell? ⟨p,6,none⟩=some (.pointer (some q))):Calls Tryz.prog 188 #[.pointer (some ⟨p,0,none⟩)] w (Tells (.bool false) w):=by
 go_enter Tryz.func188,Tryz.ntmps188
 go_wp2
 go_ret
 exact ⟨rfl,rfl⟩
theorem nRefW_c (st:Int) (w:World):Calls Tryz.prog 189 #[.int .i64 st] w (Tells (.bool false) w):=by
 go_enter Tryz.func189,Tryz.ntmps189
 go_wp2
 go_ret
 exact ⟨rfl,rfl⟩
theorem nReading_c (k c:Nat) (s:Cst) (w:World) (o:Ow) (h:CnAt w o k c s):Calls Tryz.prog 11 #[.pointer (some ⟨c,0,none⟩)] w (Tells (.bool s.reads) w):=by
 obtain ⟨a,⟨ho,hr,hp⟩,hnx⟩:=h
 have c6:=hr.c6
 have c4:=hr.c4
 obtain ⟨rd,hrd⟩:∃ x,x=s.reads:=⟨_,rfl⟩
 rw [← hrd] at c4 ⊢
 clear hr hp ho hrd hnx
 go_enter Tryz.func11,Tryz.ntmps11
 go_wp2_with (go_at_call 25;refine (nNone_c _ _ _ _ (by assumption)).mono ?_;rintro e w2 ⟨rfl,rfl⟩)
 go_ret
 exact ⟨rfl,rfl⟩
theorem nClosed_c (k c:Nat) (s:Cst) (w:World) (o:Ow) (h:CnAt w o k c s):Calls Tryz.prog 15 #[.pointer (some ⟨c,0,none⟩)] w (Tells (.bool (closedC s)) w):=by
 obtain ⟨a,⟨ho,hr,hp⟩,hnx⟩:=h
 have c6:=hr.c6
 have c4:=hr.c4
 have c16:=hr.c16
 obtain ⟨rd,hrd⟩:∃ x,x=s.reads:=⟨_,rfl⟩
 have HQ:=Hy (show closedC s=(!rd && decide (s.row.length=0)) from by unfold closedC;rw [hrd];cases s.row <;> simp)
 obtain ⟨n,hn⟩:∃ x,x=s.row.length:=⟨_,rfl⟩
 rw [← hrd] at c4
 rw [← hn] at c16 HQ
 clear hr hp ho hrd hn hnx
 cases rd with
 | true =>
  go_enter Tryz.func15,Tryz.ntmps15
  go_wp2_with (go_at_call 25;refine (nNone_c _ _ _ _ (by assumption)).mono ?_;rintro e w2 ⟨rfl,rfl⟩)
  go_ret
  exact ⟨by rw [HQ.out];rfl,rfl⟩
 | false =>
  by_cases h0:n=0
  ·subst h0
   go_enter Tryz.func15,Tryz.ntmps15
   go_wp2_with (go_at_call 25;refine (nNone_c _ _ _ _ (by assumption)).mono ?_;rintro e w2 ⟨rfl,rfl⟩)
   go_ret
   exact ⟨by rw [HQ.out];rfl,rfl⟩
  ·have d1:((n:Int) == 0)=false:=by rw [beq_eq_false_iff_ne];omega
   have HQ2:=Hy (show closedC s=false from by rw [HQ.out];simp [h0])
   clear h0
   go_enter Tryz.func15,Tryz.ntmps15
   go_wp2_with (go_at_call 25;refine (nNone_c _ _ _ _ (by assumption)).mono ?_;rintro e w2 ⟨rfl,rfl⟩)
   go_ret
   exact ⟨by rw [HQ2.out];rfl,rfl⟩
theorem nOutput_c (j k c:Nat) (hk:0<k) (hk8:k<80) (s:Cst) (w:World) (o:Ow) (h:CnAt w o k c s):Calls Tryz.prog 14 #[.pointer (some ⟨c,0,none⟩)] w (TurnsO (KC k) w o fun v w' o'=>IsB j s.out v w' o'∧CnAt w' o' k c { s with out:=[] }):=by
 obtain ⟨a,⟨ho,hr,hp⟩,hnx⟩:=h
 have c6:=hr.c6
 have c18:=hr.c18
 have f18:=hr.fz 18 (by decide)
 have HR:=Hy hr
 have HP:=Hy hp
 have HO:=Hy ho
 have HNX:=Hy hnx
 clear hr hp ho hnx
 go_enter Tryz.func14,Tryz.ntmps14
 go_wp2_with (go_at_call 25;refine (nNone_c _ _ _ _ (by assumption)).mono ?_;rintro e w2 ⟨rfl,rfl⟩)
 go_ret
 have hr:=HR.out
 have hp:=HP.out
 have ho:=HO.out
 have t1:Sto (fun i=>i=k) w o (w.setCell ⟨c,18,none⟩ (.slice none 0 0)) o:=Sto.set c 18 _ (fun _=>ho)
 obtain ⟨o',ho'⟩:∃ o':Ow,o'=fun b=>if o b=k+2 then j else o b:=⟨_,rfl⟩
 have t2:Sto (fun i=>i=k+2) (w.setCell ⟨c,18,none⟩ (.slice none 0 0)) o (w.setCell ⟨c,18,none⟩ (.slice none 0 0)) o':=Sto.give (fun b _ hb=>by rw [ho'];exact if_neg hb)
 have t3:Sto (fun i=>i=k∨i=k+2) w o (w.setCell ⟨c,18,none⟩ (.slice none 0 0)) o':=(t1.mono fun _ h=>.inl h).tr (t2.mono fun _ h=>.inr h)
 obtain ⟨p1,p2,p3⟩:=hp.hd t3 (by omega) (fun i _ _=>by omega)
 refine TurnsO.mk o' rfl ⟨⟨a.O,a.co,rfl,(hp.out.sto t1 (by omega)).give (fun b _ hb=>by rw [ho'];exact if_pos hb),hp.oz⟩,{ a with O:=none,co:=0 },⟨?_,hr.set 18 _ (by simp [Cst.cells]),?_⟩,HNX.out⟩ (t3.mono fun i hi=>by unfold KC;omega)
 ·rw [ho']
  exact (if_neg (by rw [ho];omega)).trans ho
 ·exact ⟨p1,p2,p3,hp.got.sto t3 (by omega),hp.evsS t3 (by omega) (by omega),hp.ez,hp.rowS t3 (by omega) (by omega) (fun a _=>by unfold KA;omega),hp.lz,Sl.nil_ _ _ _ _ _,fun _=>rfl⟩
section
variable {w w5:World} {o o5:Ow} {k c:Nat} {s:Cst} {a:Cad}
theorem CnX.evsPut (hk:0<k) (hk8:k<80) (h:CnX w o k c s a) (hi:s.inBody=true) {es:List Value} (he:EvL w o s.evs es) (st:Stp (fun i=>i=k+3) w o w5 o5) {A:Option Addr} {ca:Nat} (hA:Ro w o A (fc s.r.2.2.2))
  {A5:Option Addr} {c5:Nat} (hs5:Sl w5 o5 (k+3) 6 A5 (s.evs.length+1) c5 (es++[.int .i64 (s.number:Int),.string (str s.r.1),.string (str s.r.2.1),.int .i64 s.r.2.2.1,.slice A s.r.2.2.2.length ca,.slice a.B a.nb a.cb])) (hn5:A5=none→c5=0) :
  ∃ o',CnX (w5.setCell ⟨c,15,none⟩ (.slice A5 (s.evs.length+1) c5)) o' k c { s with evs:=s.evs++[⟨s.number,s.r,s.got⟩],inBody:=false } { a with E:=A5,ce:=c5 }∧Sto (KC k) w o (w5.setCell ⟨c,15,none⟩ (.slice A5 (s.evs.length+1) c5)) o':=by
 obtain ⟨ho,hr,hp⟩:=h
 obtain ⟨g1,g2,g3⟩:=hp.got hi
 have st1:=st.sto
 have o5c:o5 c=k:=(st1.own c (row_lt hr) (by rw [ho];omega)).trans ho
 have t5:Sto (fun i=>i=k) w5 o5 (w5.setCell ⟨c,15,none⟩ (.slice A5 (s.evs.length+1) c5)) o5:=Sto.set c 15 _ (fun _=>o5c)
 obtain ⟨W,hW⟩:∃ W,W=w5.setCell ⟨c,15,none⟩ (.slice A5 (s.evs.length+1) c5):=⟨_,rfl⟩
 rw [← hW] at t5 ⊢
 obtain ⟨o',ho'⟩:∃ o':Ow,o'=fun b=>if o5 b=k+4 then 0 else o5 b:=⟨_,rfl⟩
 have t6:Sto (fun i=>i=k+4) W o5 W o':=Sto.give (fun b _ hb=>by rw [ho'];exact if_neg hb)
 have t7:Sto (fun i=>i=k+3∨i=k) w o W o5:=(st1.mono fun _ h=>.inl h).tr (t5.mono fun _ h=>.inr h)
 have t8:Sto (fun i=>i=k+3∨i=k∨i=k+4) w o W o':=(t7.mono fun i h=>by omega).tr (t6.mono fun _ h=>.inr (.inr h))
 have t9:Sto (fun i=>i=k∨i=k+4) w5 o5 W o':=(t5.mono fun i h=>by omega).tr (t6.mono fun _ h=>.inr h)
 obtain ⟨p1,p2,p3⟩:=hp.hd t8 (by omega) (fun i _ _=>by omega)
 have hlen:(s.evs++[(⟨s.number,s.r,s.got⟩:Ev24)]).length=s.evs.length+1:=by simp
 have hB:Ro W o' a.B (bc s.got):=(g2.sto t7 (by omega)).ro (fun b _ hb=>by rw [ho'];exact if_pos hb)
 have hev:EvL W o' (s.evs++[⟨s.number,s.r,s.got⟩]) (es++[.int .i64 (s.number:Int),.string (str s.r.1),.string (str s.r.2.1),.int .i64 s.r.2.2.1,.slice A s.r.2.2.2.length ca,.slice a.B a.nb a.cb]) :=
  EvL.app (he.sto t8 (by omega)) ⟨_,[],(List.append_nil _).symm,⟨A,ca,a.B,a.cb,by rw [g1],hA.sto t8 (by omega),hB⟩,rfl⟩
 refine ⟨o',⟨?_,?_,?_⟩,t8.mono fun i hi=>by unfold KC;omega⟩
 ·rw [ho']
  exact (if_neg (by rw [o5c];omega)).trans o5c
 ·rw [hW]
  exact Crow.set (hr.sto st1 (by rw [ho];omega)) 15 _ (by simp [Cst.cells])
 ·exact ⟨p1,p2,p3,(fun e=>by cases e),⟨_,by rw [hlen];exact hs5.sto t9 (by omega),hev⟩,hn5,hp.rowS t8 (by omega) (by omega) (fun a _=>by unfold KA;omega),hp.lz,hp.out.sto t8 (by omega),hp.oz⟩
theorem CnX.rowPut (hk:0<k) (hk8:k<80) (h:CnX w o k c s a) {ts:List Value} (ht:ThL w o k s.row ts) (st:Stp (fun i=>i=k+1) w o w5 o5) (t:Th24) {u:Value} (hu:ThAt w o k t u)
  {A5:Option Addr} {c5:Nat} (hs5:Sl w5 o5 (k+1) 1 A5 (s.row.length+1) c5 (ts++[u])) (hn5:A5=none→c5=0) :
  CnX (w5.setCell ⟨c,16,none⟩ (.slice A5 (s.row.length+1) c5)) o5 k c { s with row:=s.row++[t] } { a with L:=A5,cl:=c5 }∧Sto (KC k) w o (w5.setCell ⟨c,16,none⟩ (.slice A5 (s.row.length+1) c5)) o5:=by
 obtain ⟨ho,hr,hp⟩:=h
 have st1:=st.sto
 have o5c:o5 c=k:=(st1.own c (row_lt hr) (by rw [ho];omega)).trans ho
 have t5:Sto (fun i=>i=k) w5 o5 (w5.setCell ⟨c,16,none⟩ (.slice A5 (s.row.length+1) c5)) o5:=Sto.set c 16 _ (fun _=>o5c)
 have t7:Sto (fun i=>i=k+1∨i=k) w o (w5.setCell ⟨c,16,none⟩ (.slice A5 (s.row.length+1) c5)) o5:=(st1.mono fun _ h=>.inl h).tr (t5.mono fun _ h=>.inr h)
 obtain ⟨p1,p2,p3⟩:=hp.hd t7 (by omega) (fun i _ _=>by omega)
 have hlen:(s.row++[t]).length=s.row.length+1:=by simp
 refine ⟨⟨o5c,Crow.set (hr.sto st1 (by rw [ho];omega)) 16 _ (by simp [Cst.cells]),?_⟩,t7.mono fun i hi=>by unfold KC;omega⟩
 exact ⟨p1,p2,p3,hp.got.sto t7 (by omega),hp.evsS t7 (by omega) (by omega),hp.ez,⟨_,by rw [hlen];exact hs5.sto t5 (by omega),ThL.snoc (ht.sto t7 (by omega) (fun a _=>by unfold KA;omega)) (hu.sto t7 (by omega) (fun a _=>by unfold KA;omega))⟩,hn5,hp.out.sto t7 (by omega),hp.oz⟩
theorem CnX.outPut (hk:0<k) (hk8:k<80) (h:CnX w o k c s a) (st:Stp (fun i=>i=k+2) w o w5 o5) (l:List UInt8)
  {A5:Option Addr} {c5:Nat} (hs5:Sl w5 o5 (k+2) 1 A5 (s.out.length+l.length) c5 (bc s.out++bc l)) (hn5:A5=none→c5=0) :
  CnX (w5.setCell ⟨c,18,none⟩ (.slice A5 (s.out.length+l.length) c5)) o5 k c { s with out:=s.out++l } { a with O:=A5,co:=c5 }∧Sto (KH k) w o (w5.setCell ⟨c,18,none⟩ (.slice A5 (s.out.length+l.length) c5)) o5:=by
 obtain ⟨ho,hr,hp⟩:=h
 have st1:=st.sto
 have o5c:o5 c=k:=(st1.own c (row_lt hr) (by rw [ho];omega)).trans ho
 have t5:Sto (fun i=>i=k) w5 o5 (w5.setCell ⟨c,18,none⟩ (.slice A5 (s.out.length+l.length) c5)) o5:=Sto.set c 18 _ (fun _=>o5c)
 have t7:Sto (fun i=>i=k+2∨i=k) w o (w5.setCell ⟨c,18,none⟩ (.slice A5 (s.out.length+l.length) c5)) o5:=(st1.mono fun _ h=>.inl h).tr (t5.mono fun _ h=>.inr h)
 obtain ⟨p1,p2,p3⟩:=hp.hd t7 (by omega) (fun i _ _=>by omega)
 have hlen:(s.out++l).length=s.out.length+l.length:=by simp
 refine ⟨⟨o5c,Crow.set (hr.sto st1 (by rw [ho];omega)) 18 _ (by simp [Cst.cells]),?_⟩,t7.mono fun i hi=>by unfold KH KC;omega⟩
 exact ⟨p1,p2,p3,hp.got.sto t7 (by omega),hp.evsS t7 (by omega) (by omega),hp.ez,hp.rowS t7 (by omega) (by omega) (fun a _=>by unfold KA;omega),hp.lz,by rw [hlen,bc_app];exact hs5.sto t5 (by omega),hn5⟩
theorem CnX.gotPut (hk:0<k) (hk8:k<80) (h:CnX w o k c s a) (st:Stp (fun i=>i=k+4) w o w5 o5) (l:List UInt8)
  {A5:Option Addr} {c5:Nat} (hs5:Sl w5 o5 (k+4) 1 A5 (s.got.length+l.length) c5 (bc s.got++bc l)) (hn5:A5=none→c5=0) :
  CnX (w5.setCell ⟨c,14,none⟩ (.slice A5 (s.got.length+l.length) c5)) o5 k c { s with got:=s.got++l } { a with B:=A5,nb:=s.got.length+l.length,cb:=c5 }∧Sto (KC k) w o (w5.setCell ⟨c,14,none⟩ (.slice A5 (s.got.length+l.length) c5)) o5:=by
 obtain ⟨ho,hr,hp⟩:=h
 have st1:=st.sto
 have o5c:o5 c=k:=(st1.own c (row_lt hr) (by rw [ho];omega)).trans ho
 have t5:Sto (fun i=>i=k) w5 o5 (w5.setCell ⟨c,14,none⟩ (.slice A5 (s.got.length+l.length) c5)) o5:=Sto.set c 14 _ (fun _=>o5c)
 have t7:Sto (fun i=>i=k+4∨i=k) w o (w5.setCell ⟨c,14,none⟩ (.slice A5 (s.got.length+l.length) c5)) o5:=(st1.mono fun _ h=>.inl h).tr (t5.mono fun _ h=>.inr h)
 obtain ⟨p1,p2,p3⟩:=hp.hd t7 (by omega) (fun i _ _=>by omega)
 have hlen:(s.got++l).length=s.got.length+l.length:=by simp
 refine ⟨⟨o5c,Crow.set (hr.sto st1 (by rw [ho];omega)) 14 _ (by simp [Cst.cells]),?_⟩,t7.mono fun i hi=>by unfold KC;omega⟩
 exact ⟨p1,p2,p3,fun _=>⟨hlen.symm,by rw [bc_app];exact hs5.sto t5 (by omega),hn5⟩,hp.evsS t7 (by omega) (by omega),hp.ez,hp.rowS t7 (by omega) (by omega) (fun a _=>by unfold KA;omega),hp.lz,hp.out.sto t7 (by omega),hp.oz⟩
end
def NewS (w:World) (n:Nat) (xs:List Value) (v:Value) (w':World):Prop:=∃ A c,v=.slice A n c∧Rd w' A xs∧(xs=[]∨∀ a,A=some a→w.heap.size≤a.block)
theorem NewS.ro {w w':World} {n:Nat} {xs:List Value} {v:Value} {o':Ow} (h:NewS w n xs v w') (ho:∀ b,w.heap.size≤b→o' b=0):∃ A c,v=.slice A n c∧Ro w' o' A xs:=by
 obtain ⟨A,c,hv,hr,hb⟩:=h
 refine ⟨A,c,hv,?_⟩
 rcases hb with hb | hb
 ·exact .inl hb
 ·rcases hr with hr | ⟨g,f,hA,hc⟩
  ·exact .inl hr
  ·cases xs with
   | nil=>exact .inl rfl
   | cons u t=>exact .inr ⟨g,f,hA,lt_of_cell (hc 0 u rfl),ho g (hb _ hA),hc⟩
theorem NewS.of {w w':World} {o':Ow} {size n c:Nat} {A:Option Addr} {xs:List Value} (h:Sl w' o' 7 size A n c xs) (ho:∀ b,b<w.heap.size→o' b=0):NewS w n xs (.slice A n c) w':=by
 refine ⟨A,c,rfl,h.rd,?_⟩
 rcases h.at_ with h0 | ⟨g,f,hA,hg,_⟩
 ·have:=h.len;have:=h.le
  obtain rfl:n=0:=by omega
  exact .inl (List.eq_nil_of_length_eq_zero (by omega))
 ·refine .inr fun a ha=>?_
  rw [hA] at ha
  cases ha
  rcases Nat.lt_or_ge g w.heap.size with hl | hl
  ·have:=ho g hl;omega
  ·exact hl
def oz (w:World) (o:Ow):Ow:=fun b=>if b<w.heap.size then o b else 0
theorem oz_old (w:World) (o:Ow) {b:Nat} (h:b<w.heap.size):oz w o b=o b:=if_pos h
theorem oz_new (w:World) (o:Ow) {b:Nat} (h:w.heap.size≤b):oz w o b=0:=if_neg (by omega)
theorem oz_sto {K:Nat→Prop} {w w':World} {o:Ow} (e:Ext w w'):Sto K w o w' (oz w o):=Sto.ext2 e (fun _ hb _=>oz_old w o hb)
theorem nCloneB_c (l:List UInt8) (B:Option Addr) (n d:Nat) (hn:n=l.length) (w:World) (h:Rd w B (bc l)) (hb:n≤1099511627776) :
  Calls Tryz.prog 30 #[.slice B n d] w (Ret (NewS w n (bc l)) w):=by
 subst hn
 have HR:=Hy h
 clear h
 have hms:maxLen=9223372036854775807:=rfl
 have l0:(0:Int)≤(l.length:Int):=by omega
 have q22:∀ (w:World) (a:Option Addr) (n c n' c':Nat),(binOp .eql 22 (.slice a n c) (.slice none n' c')).run Tryz.prog w=.ok (.bool a.isNone) w:=fun w a n c n' c'=>Lib.run_eql_slice_nil w _ _ a n c n' c' Tryz.underlying22
 cases B with
 | none =>
  have hl:l=[]:=by
   rcases HR.out with h | ⟨b,f,e,_⟩
   ·exact List.eq_nil_of_length_eq_zero (by have:=congrArg List.length h;rw [bc_len] at this;first | simpa using this | (simp only [List.length_nil] at this;omega))
   ·cases e
  subst hl
  go_enter Tryz.func30,Tryz.ntmps30
  go_wp2
  go_ret
  exact Ret.mk ⟨none,0,rfl,.inl rfl,.inl rfl⟩ Xq
 | some B =>
  go_enter Tryz.func30,Tryz.ntmps30
  go_wp2_with (first
   | (at_builtin;refine wpL_fresh slt_u8 (.tmp 5) (.tmp 6) rfl rfl (o:=fun _=>0) 7 rfl rfl (Sl.src Tryz.underlying22 (HR.out.ext Xq) (by rw [bc_len];try omega) (by omega) (bc_one _) d) (by omega) (by omega) ?_;intro A1 c1 w1 o1 hs1 hst1 hn1;have x1:Ext w w1:=Ext.tr Xq hst1.noExt;have own1:∀ b,b<w.heap.size→o1 b=0:=fun b hb=>hst1.own b (by first | exact hb | (simp;omega))))
  go_ret
  exact Ret.mk (NewS.of hs1 own1) x1
theorem nCloneF_c (l:List Fld) (B:Option Addr) (n d:Nat) (hn:n=l.length) (w:World) (h:Rd w B (fc l)) (hb:n≤1099511627776) :
  Calls Tryz.prog 29 #[.slice B n d] w (Ret (NewS w n (fc l)) w):=by
 subst hn
 have HR:=Hy h
 clear h
 have hms:maxLen=9223372036854775807:=rfl
 have l0:(0:Int)≤(l.length:Int):=by omega
 have q22:∀ (w:World) (a:Option Addr) (n c n' c':Nat),(binOp .eql 34 (.slice a n c) (.slice none n' c')).run Tryz.prog w=.ok (.bool a.isNone) w:=fun w a n c n' c'=>Lib.run_eql_slice_nil w _ _ a n c n' c' Tryz.underlying34
 cases B with
 | none =>
  have hl:l=[]:=by
   rcases HR.out with h | ⟨b,f,e,_⟩
   ·exact List.eq_nil_of_length_eq_zero (by have:=congrArg List.length h;rw [fc_len] at this;first | simpa using this | (simp only [List.length_nil] at this;omega))
   ·cases e
  subst hl
  go_enter Tryz.func29,Tryz.ntmps29
  go_wp2
  go_ret
  exact Ret.mk ⟨none,0,rfl,.inl rfl,.inl rfl⟩ Xq
 | some B =>
  go_enter Tryz.func29,Tryz.ntmps29
  go_wp2_with (first
   | (at_builtin;refine wpL_fresh slt_fld (.tmp 5) (.tmp 6) rfl rfl (o:=fun _=>0) 7 rfl rfl (Sl.src Tryz.underlying34 (HR.out.ext Xq) (by rw [fc_len];try omega) (by omega) (fc_one12 l) d) (by omega) (by omega) ?_;intro A1 c1 w1 o1 hs1 hst1 hn1;have x1:Ext w w1:=Ext.tr Xq hst1.noExt;have own1:∀ b,b<w.heap.size→o1 b=0:=fun b hb=>hst1.own b (by first | exact hb | (simp;omega))))
  go_ret
  exact Ret.mk (NewS.of hs1 own1) x1
theorem stepj_run {P:Program} {ops:Array Oper} {o:Oper} {a:Act} {K:Act→World→Prop} {Q:Exit→Act→World→Prop} {E:Prop} (s x:Operand) {t tx:TypeId}
  (ho:o.op=.call { callee:=.builtin .append,args:=#[s,x],argTypes:=#[t,tx] }) (hgd:o.guard=none) {sv xv v':Value} {w w':World} (hs:a.eval s=sv) (hx:a.eval x=xv)
  (hr:(Builtin.append_ #[t,tx] o.type #[sv,xv]).run P w=.ok v' w') (h:K (a.put o.dst v') w'):if Region.wanted o (yielded ops a.tmps)=true then Oper.wp P o a w K Q else E:=by
 have hw:Region.wanted o (yielded ops a.tmps)=true:=by simp [Region.wanted,hgd]
 rw [if_pos hw]
 unfold Oper.wp execOp
 simp only [ho,resolve,invoke,builtin,Sem.run_bind,Sem.run_pure,Result.andThen_ok,List.map_toArray,List.map_cons,List.map_nil,hs,hx,hr]
 exact h
theorem stepj_put {P:Program} {t e:TypeId} {z:Value} {size bytes:Nat} (hT:SlT P t e z size bytes) {ops:Array Oper} {o:Oper} {a:Act} {K:Act→World→Prop} {Q:Exit→Act→World→Prop} {E:Prop} (s x:Operand) {tx:TypeId}
  (ho:o.op=.call { callee:=.builtin .append,args:=#[s,x],argTypes:=#[t,tx] }) (hgd:o.guard=none) {w:World} {ow:Ow} {k n c m:Nat} {A:Option Addr} {xs news:List Value} {xv:Value} (hs:a.eval s=.slice A n c) (hx:a.eval x=xv)
  (hsl:Sl w ow k size A n c xs) (hna:A=none→c=0) (src:Src P size tx xv m news w) (hbytes:(n+m)*bytes≤140737488355328) (h63:n+m≤maxLen)
  (h:∀ A' c' w' o',Sl w' o' k size A' (n+m) c' (xs++news)→Stp (fun i=>i=k) w ow w' o'→(A'=none→c'=0)→K (a.put o.dst (.slice A' (n+m) c')) w'):if Region.wanted o (yielded ops a.tmps)=true then Oper.wp P o a w K Q else E:=by
 obtain ⟨A',c',w',o',hr,h1,h2,h3⟩:=run_put hT o.type hsl hna src hbytes h63
 exact stepj_run s x ho hgd hs hx hr (h A' c' w' o' h1 (h2.mono fun i hi=>hi.2) h3)
def IsYJ (l:List UInt8) (v:Value) (w:World):Prop:=∃ A c,v=.slice A l.length c∧Rd w A (bc l)
theorem src_strJ (l:List UInt8) (w:World):Src Tryz.prog 1 9 (.string (str l)) l.length (bc l) w:=by
 have h:=Src.ofString (w:=w) Tryz.underlying9 (str l)
 rw [str_size] at h
 exact h
theorem rd_newJ (w:World) (g:Nat) (hg:w.heap.size=g) (cs:Array Value) (t:TypeId):Rd (w.alloc (.cells cs t)) (some ⟨g,0,none⟩) cs.toList:=by
 subst hg
 exact .inr ⟨_,0,rfl,fun j u hu=>by have:=new_cells w cs t j u hu;rw [add_mk] at this;exact this⟩
theorem rsW_le (st:Int) (fs:List Fld):(rsW st fs).1.length≤32768:=by
 unfold rsW
 split
 ·unfold wrH
  split
  ·exact Nat.zero_le _
  ·split
   ·exact Nat.zero_le _
   ·rename_i h
    obtain ⟨_,_,h3⟩:=good_bd (by simpa using h:longH (rsF st).length fs=false)
    simp only [List.length_append,wrS_len]
    show _+(2+(_+2))≤_
    omega
 ·exact Nat.zero_le _
theorem old7 {w0 w w':World} {o o':Ow} {K:Nat→Prop} (x:Ext w0 w) (h:∀ b,b<w0.heap.size→o b=0) (s:Stp K w o w' o') (hk:¬ K 0):Old w0 w' o':=Old.sto ⟨x,h⟩ s.sto hk
theorem nRefused_c (st:Int) (h1:100≤st) (h2:st≤599) (w:World) (hP:Pow w) (hM:Mx w):Calls Tryz.prog 43 #[.int .i64 st] w (Ret (IsYJ (refusedC st)) w):=by
 have HP:=Hy hP
 have HM:=Hy hM
 have hrl:=rea_len st
 have CR:=Hy (fun (w:World) (hM:Mx w) (hP:Pow w)=>hReason_c st (by omega) (by omega) w hM hP)
 obtain ⟨sr,hsr⟩:∃ s,s=str (reaL st):=⟨_,rfl⟩
 obtain ⟨sb,hsb⟩:∃ s,s=str (bodyR st):=⟨_,rfl⟩
 have E1:∀ w,(Op.stringOp .add sr ⟨#[10]⟩).run Tryz.prog w=.ok (.string sb) w:=fun w=>by
  rw [hsr,hsb,cat_ok _ _ (by rw [str_size];show _+1≤_;omega) w]
  simp [bodyR]
 have hbl:(bodyR st).length≤200:=by unfold bodyR;simp;omega
 have hsz:sb.size=(bodyR st).length:=by rw [hsb];exact str_size _
 obtain ⟨sd,hsd⟩:∃ s,s=decB ((bodyR st).length:Int):=⟨_,rfl⟩
 have CD:=Hy (fun (w:World) (hP:Pow w)=>(by have:=Digits_c ((bodyR st).length:Int) w hP (by omega) (by omega);rw [← hsd,← hsz] at this;exact this:Calls Tryz.prog 18 #[.int .i64 (sb.size:Int)] w (Gives (.string sd) w)))
 have hfc:fc [(ctN,tpW),(clN,Lib.itoa (bodyR st).length),(cnN,clW)]=(#[.string ⟨#[67,111,110,116,101,110,116,45,84,121,112,101]⟩,.string ⟨#[116,101,120,116,47,112,108,97,105,110]⟩,.string ⟨#[67,111,110,116,101,110,116,45,76,101,110,103,116,104]⟩,.string sd,.string ⟨#[67,111,110,110,101,99,116,105,111,110]⟩,.string ⟨#[99,108,111,115,101]⟩]:Array Value).toList:=by rw [hsd];rfl
 have hil:=Lib.itoa_length_le ((bodyR st).length:Int) (by omega) (by omega)
 have CW:=Hy (fun (A:Option Addr) (c:Nat) (w:World) (h:Rd w A (fc [(ctN,tpW),(clN,Lib.itoa (bodyR st).length),(cnN,clW)])) (hP:Pow w) (hM:Mx w)=>hWriteRspS_c st [(ctN,tpW),(clN,Lib.itoa (bodyR st).length),(cnN,clW)] A 3 c (by omega) (by omega) rfl (by omega) (by
  intro p hp
  simp only [List.mem_cons,List.not_mem_nil,or_false] at hp
  rcases hp with rfl | rfl | rfl
  ·exact ⟨by decide,by decide⟩
  ·exact ⟨(by show (14:Nat)≤_;omega),(by show (Lib.itoa ((bodyR st).length:Int)).length≤_;omega)⟩
  ·exact ⟨by decide,by decide⟩) w h hP hM)
 obtain ⟨rs,hrs⟩:∃ r,r=rsW st [(ctN,tpW),(clN,Lib.itoa (bodyR st).length),(cnN,clW)]:=⟨_,rfl⟩
 have HQ:=Hy (show refusedC st=rs.1++bodyR st from by rw [hrs];rfl)
 have hrle:rs.1.length≤32768:=by rw [hrs];exact rsW_le _ _
 rw [hfc] at CW
 rw [← hrs] at CW
 have HS:=Hy hsb
 rw [← hsr] at CR
 obtain ⟨bl,hbl2⟩:∃ b,b=bodyR st:=⟨_,rfl⟩
 rw [← hbl2] at HQ HS hbl
 clear hsr hsb hsz hsd hfc hil hrs hbl2 hP hM hrl
 go_enter Tryz.func43,Tryz.ntmps43
 go_wp2_with (first
  | (go_at_call 65;refine (CR.out _ (HM.out.ext Xq) (HP.out.ext Xq)).mono ?_;rintro e w2 ⟨rfl,hx2⟩)
  | (go_at_call 18;refine (CD.out _ (HP.out.ext Xq)).mono ?_;rintro e w3 ⟨rfl,hx3⟩)
  | (go_at_call 63;refine (CW.out _ _ _ (rd_newJ _ _ rfl _ _) (HP.out.ext Xq) (HM.out.ext Xq)).mono ?_;rintro e w6 ⟨v,rfl,⟨A6,c6,rfl,hn6,o6,ho6,hs6⟩,hx6⟩)
  | (at_builtin;refine wpL_put slt_u8 (.tmp 21) (.tmp 22) rfl rfl rfl rfl hs6 hn6 (show Src Tryz.prog 1 9 (.string sb) bl.length (bc bl) _ from by rw [HS.out];exact src_strJ bl _) (by omega) (by simp only [maxLen];omega) ?_;intro A7 c7 w7 o7 hs7 st7 hn7))
 go_ret
 have x6:Ext w w6:=Xq
 have h7:=old7 x6 (fun b hb=>ho6 b (by simp;have:=hx2.size;have:=hx3.size;omega)) st7 (by omega)
 refine Ret.mk ⟨A7,c7,?_,?_⟩ h7.ext
 ·rw [HQ.out,List.length_append];rfl
 ·rw [HQ.out,bc_app];exact hs7.rd
theorem hWithout_none (B:Option Addr) (m d:Nat) (w:World):Calls Tryz.prog 66 #[.slice none 0 0,.slice B m d] w (Gives (.slice none 0 0) w):=by
 go_enter Tryz.func66,Tryz.ntmps66
 go_wp2
 go_step3
 go_wp2
 go_step3
 go_wp2
 go_loopw [5,12] (fun v i wr=>v=.slice none 0 0∧i=.int .i64 0∧Ext w wr) (fun _ _ _=>0)
 case atStart=>exact ⟨rfl,rfl,Ext.rfl' _⟩
 case round =>
  obtain ⟨rfl,rfl,hext⟩:=hrel
  go_wp2
  go_ret
  exact ⟨rfl,hext⟩
end Go.Proofs.YthbofilcnpdghaaGreatDoor
end
