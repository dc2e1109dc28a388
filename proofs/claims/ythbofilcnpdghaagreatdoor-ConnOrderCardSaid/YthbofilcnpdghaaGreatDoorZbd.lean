/-
Response, the program's and the reference's.
-/
import Derived.Test.YthbofilcnpdghaaGreatDoorZaq
import Derived.Test.YthbofilcnpdghaaGreatDoorZbc
import Derived.Test.YthbofilcnpdghaaGreatDoorZbb
set_option maxRecDepth 100000
set_option maxHeartbeats 8000000
set_option linter.unusedVariables false
set_option linter.unusedSimpArgs false
section
namespace Go.Proofs.YthbofilcnpdghaaGreatDoor
open Go.RowKit
def heaN:List UInt8:=[72,69,65,68]
def conN:List UInt8:=[67,79,78,78,69,67,84]
def bareR (m:List UInt8) (st:Int):Prop:=m=heaN∨st<200∨st=204∨st=304∨(m=conN∧st<300)
instance (m:List UInt8) (st:Int):Decidable (bareR m st):=by unfold bareR;infer_instance
def rspV (m:List UInt8) (st:Int) (fs:List Fld):Int × Int × Int :=
 if bareR m st then (0,0,0) else if (reqV 1 fs).2.2=0∧(reqV 1 fs).1=0 then (3,0,0) else reqV 1 fs
theorem reqV_zero (mi:Int) (fs:List Fld) (h:(reqV mi fs).1=0):(reqV mi fs).2.1=0:=by
 unfold reqV reqL reqT at *
 repeat' split
 all_goals (first | rfl | simp_all)
theorem fResponse_c (m:List UInt8) (st:Int) (fs:List Fld) (hF:FitF fs) (A:Option Addr) (n c:Nat) (hn:fs.length=n) (w:World) (hE:ErrR w) (h:Rd w A (fc fs)) :
  Calls Tryz.prog 34 #[.string (str m),.int .i64 st,.slice A n c] w (Gives (.tuple #[.agg #[.int .i64 (rspV m st fs).1,.int .i64 (rspV m st fs).2.1],.int .i64 (rspV m st fs).2.2]) w):=by
 have CR:=fun (w':World) (e:Ext w w')=>fRequest_any fs hF A n c hn ⟨#[]⟩ ⟨#[]⟩ 1 w' (hE.ext e) (h.ext e)
 clear hE h hF hn
 by_cases a1:m=heaN
 ·have e1:str m=⟨#[72,69,65,68]⟩:=by rw [a1];rfl
  rw [rspV,if_pos (.inl a1),e1]
  clear a1 e1
  go_enter Tryz.func34,Tryz.ntmps34
  go_wp2
  refine bodyPost_ret (v:=.tuple #[.agg #[.int .i64 0,.int .i64 0],.int .i64 0]) (by simp [results,Tryz.results34,go_sem]) rfl ?_
  exact ⟨rfl,Xq⟩
 ·by_cases a2:st<200
  ·rw [rspV,if_pos (.inr (.inl a2))]
   obtain ⟨sm,hsm⟩:∃ s,s=str m:=⟨_,rfl⟩
   have e1:(sm.toList == [72,69,65,68])=false:=by rw [beq_eq_false_iff_ne,hsm,Lib.toList_data];exact a1
   have e2:¬ sm.toList=[72,69,65,68]:=by rw [hsm,Lib.toList_data];exact a1
   rw [← hsm]
   clear a1 hsm
   go_enter Tryz.func34,Tryz.ntmps34
   go_wp2
   refine bodyPost_ret (v:=.tuple #[.agg #[.int .i64 0,.int .i64 0],.int .i64 0]) (by simp [results,Tryz.results34,go_sem]) rfl ?_
   exact ⟨rfl,Xq⟩
  ·by_cases a3:st=204∨st=304
   ·rw [rspV,if_pos (by rcases a3 with h | h;exact .inr (.inr (.inl h));exact .inr (.inr (.inr (.inl h))))]
    obtain ⟨sm,hsm⟩:∃ s,s=str m:=⟨_,rfl⟩
    have e1:(sm.toList == [72,69,65,68])=false:=by rw [beq_eq_false_iff_ne,hsm,Lib.toList_data];exact a1
    have e2:¬ sm.toList=[72,69,65,68]:=by rw [hsm,Lib.toList_data];exact a1
    rw [← hsm]
    clear a1 hsm
    rcases a3 with rfl | rfl
    ·go_enter Tryz.func34,Tryz.ntmps34
     go_wp2
     refine bodyPost_ret (v:=.tuple #[.agg #[.int .i64 0,.int .i64 0],.int .i64 0]) (by simp [results,Tryz.results34,go_sem]) rfl ?_
     exact ⟨rfl,Xq⟩
    ·go_enter Tryz.func34,Tryz.ntmps34
     go_wp2
     refine bodyPost_ret (v:=.tuple #[.agg #[.int .i64 0,.int .i64 0],.int .i64 0]) (by simp [results,Tryz.results34,go_sem]) rfl ?_
     exact ⟨rfl,Xq⟩
   ·have f3:(st == 204)=false:=by rw [beq_eq_false_iff_ne];omega
    have f4:(st == 304)=false:=by rw [beq_eq_false_iff_ne];omega
    by_cases a5:m=conN∧st<300
    ·obtain ⟨a5,a6⟩:=a5
     rw [rspV,if_pos (.inr (.inr (.inr (.inr ⟨a5,a6⟩))))]
     have e5:str m=⟨#[67,79,78,78,69,67,84]⟩:=by rw [a5];rfl
     rw [e5]
     clear a1 a3 a5 e5
     go_enter Tryz.func34,Tryz.ntmps34
     go_wp2
     refine bodyPost_ret (v:=.tuple #[.agg #[.int .i64 0,.int .i64 0],.int .i64 0]) (by simp [results,Tryz.results34,go_sem]) rfl ?_
     exact ⟨rfl,Xq⟩
    ·have HRS:=Hy (show rspV m st fs=if (reqV 1 fs).2.2=0∧(reqV 1 fs).1=0 then (3,0,0) else reqV 1 fs from by
      rw [rspV,if_neg]
      rintro (h | h | h | h | h)
      ·exact a1 h
      ·exact a2 h
      ·exact a3 (.inl h)
      ·exact a3 (.inr h)
      ·exact a5 h)
     have hz:=reqV_zero 1 fs
     obtain ⟨R,hR⟩:∃ R,R=rspV m st fs:=⟨_,rfl⟩
     rw [← hR] at HRS ⊢
     obtain ⟨⟨k,nn,e⟩,hr⟩:∃ r,r=reqV 1 fs:=⟨_,rfl⟩
     rw [← hr] at HRS hz CR
     dsimp only at HRS hz CR
     have CR:=Hy CR
     obtain ⟨sm,hsm⟩:∃ s,s=str m:=⟨_,rfl⟩
     have e1:(sm.toList == [72,69,65,68])=false:=by rw [beq_eq_false_iff_ne,hsm,Lib.toList_data];exact a1
     have e2:¬ sm.toList=[72,69,65,68]:=by rw [hsm,Lib.toList_data];exact a1
     by_cases a7:m=conN
     ·have a8:¬ st<300:=fun h=>a5 ⟨a7,h⟩
      have e5:sm=⟨#[67,79,78,78,69,67,84]⟩:=by rw [hsm,a7];rfl
      rw [← hsm,e5]
      clear a1 a3 a5 a7 hsm e1 e2 e5 hR hr
      by_cases he:e=0
      ·by_cases hk:k=0
       ·have hn0:=hz hk
        have HL:=Hy (show R=(3,0,0) from by rw [HRS.out,if_pos ⟨he,hk⟩])
        subst he hk hn0
        clear hz
        go_enter Tryz.func34,Tryz.ntmps34
        go_wp2_with (go_at_call 49;refine (CR.out _ Xq).mono ?_;rintro ee w1 ⟨rfl,hx1⟩;have p0:=(show ∀ x,(w1.alloc x).cell? ⟨w.heap.size,0,none⟩=some (.int .i64 0) from fun x=>(hx1.al x).new 0 _ rfl);have pf0:=(show ∀ x,(w1.alloc x).frozen? ⟨w.heap.size,0,none⟩=false from fun x=>(hx1.al x).newfr 0);have p1:=(show ∀ x,(w1.alloc x).cell? ⟨w.heap.size,1,none⟩=some (.int .i64 0) from fun x=>(hx1.al x).new 1 _ rfl);have pf1:=(show ∀ x,(w1.alloc x).frozen? ⟨w.heap.size,1,none⟩=false from fun x=>(hx1.al x).newfr 1);have hx0:Ext w w1:=Xq)
        refine bodyPost_ret (v:=.tuple #[.agg #[.int .i64 3,.int .i64 0],.int .i64 0]) (by simp [results,Tryz.results34,go_sem,p0,p1,pf0,pf1]) rfl ?_
        exact ⟨by rw [HL.out],Xq⟩
       ·have HL:=Hy (show R=(k,nn,0) from by rw [HRS.out,if_neg (fun h=>hk h.2),he])
        have d1:(k == 0)=false:=by rw [beq_eq_false_iff_ne];exact hk
        subst he
        clear hz
        go_enter Tryz.func34,Tryz.ntmps34
        go_wp2_with (go_at_call 49;refine (CR.out _ Xq).mono ?_;rintro ee w1 ⟨rfl,hx1⟩;have p0:=(show ∀ x,(w1.alloc x).cell? ⟨w.heap.size,0,none⟩=some (.int .i64 0) from fun x=>(hx1.al x).new 0 _ rfl);have pf0:=(show ∀ x,(w1.alloc x).frozen? ⟨w.heap.size,0,none⟩=false from fun x=>(hx1.al x).newfr 0);have p1:=(show ∀ x,(w1.alloc x).cell? ⟨w.heap.size,1,none⟩=some (.int .i64 0) from fun x=>(hx1.al x).new 1 _ rfl);have pf1:=(show ∀ x,(w1.alloc x).frozen? ⟨w.heap.size,1,none⟩=false from fun x=>(hx1.al x).newfr 1);have hx0:Ext w w1:=Xq)
        refine bodyPost_ret (v:=.tuple #[.agg #[.int .i64 k,.int .i64 nn],.int .i64 0]) (by simp [results,Tryz.results34,go_sem,p0,p1,pf0,pf1]) rfl ?_
        exact ⟨by rw [HL.out],Xq⟩
      ·have HL:=Hy (show R=(k,nn,e) from by rw [HRS.out,if_neg (fun h=>he h.1)])
       have d1:(e == 0)=false:=by rw [beq_eq_false_iff_ne];exact he
       clear hz
       go_enter Tryz.func34,Tryz.ntmps34
       go_wp2_with (go_at_call 49;refine (CR.out _ Xq).mono ?_;rintro ee w1 ⟨rfl,hx1⟩;have p0:=(show ∀ x,(w1.alloc x).cell? ⟨w.heap.size,0,none⟩=some (.int .i64 0) from fun x=>(hx1.al x).new 0 _ rfl);have pf0:=(show ∀ x,(w1.alloc x).frozen? ⟨w.heap.size,0,none⟩=false from fun x=>(hx1.al x).newfr 0);have p1:=(show ∀ x,(w1.alloc x).cell? ⟨w.heap.size,1,none⟩=some (.int .i64 0) from fun x=>(hx1.al x).new 1 _ rfl);have pf1:=(show ∀ x,(w1.alloc x).frozen? ⟨w.heap.size,1,none⟩=false from fun x=>(hx1.al x).newfr 1);have hx0:Ext w w1:=Xq)
       refine bodyPost_ret (v:=.tuple #[.agg #[.int .i64 k,.int .i64 nn],.int .i64 e]) (by simp [results,Tryz.results34,go_sem,p0,p1,pf0,pf1]) rfl ?_
       exact ⟨by rw [HL.out],Xq⟩
     ·have e3:(sm.toList == [67,79,78,78,69,67,84])=false:=by rw [beq_eq_false_iff_ne,hsm,Lib.toList_data];exact a7
      have e4:¬ sm.toList=[67,79,78,78,69,67,84]:=by rw [hsm,Lib.toList_data];exact a7
      rw [← hsm]
      clear a1 a3 a5 a7 hsm hR hr
      by_cases he:e=0
      ·by_cases hk:k=0
       ·have hn0:=hz hk
        have HL:=Hy (show R=(3,0,0) from by rw [HRS.out,if_pos ⟨he,hk⟩])
        subst he hk hn0
        clear hz
        go_enter Tryz.func34,Tryz.ntmps34
        go_wp2_with (go_at_call 49;refine (CR.out _ Xq).mono ?_;rintro ee w1 ⟨rfl,hx1⟩;have p0:=(show ∀ x,(w1.alloc x).cell? ⟨w.heap.size,0,none⟩=some (.int .i64 0) from fun x=>(hx1.al x).new 0 _ rfl);have pf0:=(show ∀ x,(w1.alloc x).frozen? ⟨w.heap.size,0,none⟩=false from fun x=>(hx1.al x).newfr 0);have p1:=(show ∀ x,(w1.alloc x).cell? ⟨w.heap.size,1,none⟩=some (.int .i64 0) from fun x=>(hx1.al x).new 1 _ rfl);have pf1:=(show ∀ x,(w1.alloc x).frozen? ⟨w.heap.size,1,none⟩=false from fun x=>(hx1.al x).newfr 1);have hx0:Ext w w1:=Xq)
        refine bodyPost_ret (v:=.tuple #[.agg #[.int .i64 3,.int .i64 0],.int .i64 0]) (by simp [results,Tryz.results34,go_sem,p0,p1,pf0,pf1]) rfl ?_
        exact ⟨by rw [HL.out],Xq⟩
       ·have HL:=Hy (show R=(k,nn,0) from by rw [HRS.out,if_neg (fun h=>hk h.2),he])
        have d1:(k == 0)=false:=by rw [beq_eq_false_iff_ne];exact hk
        subst he
        clear hz
        go_enter Tryz.func34,Tryz.ntmps34
        go_wp2_with (go_at_call 49;refine (CR.out _ Xq).mono ?_;rintro ee w1 ⟨rfl,hx1⟩;have p0:=(show ∀ x,(w1.alloc x).cell? ⟨w.heap.size,0,none⟩=some (.int .i64 0) from fun x=>(hx1.al x).new 0 _ rfl);have pf0:=(show ∀ x,(w1.alloc x).frozen? ⟨w.heap.size,0,none⟩=false from fun x=>(hx1.al x).newfr 0);have p1:=(show ∀ x,(w1.alloc x).cell? ⟨w.heap.size,1,none⟩=some (.int .i64 0) from fun x=>(hx1.al x).new 1 _ rfl);have pf1:=(show ∀ x,(w1.alloc x).frozen? ⟨w.heap.size,1,none⟩=false from fun x=>(hx1.al x).newfr 1);have hx0:Ext w w1:=Xq)
        refine bodyPost_ret (v:=.tuple #[.agg #[.int .i64 k,.int .i64 nn],.int .i64 0]) (by simp [results,Tryz.results34,go_sem,p0,p1,pf0,pf1]) rfl ?_
        exact ⟨by rw [HL.out],Xq⟩
      ·have HL:=Hy (show R=(k,nn,e) from by rw [HRS.out,if_neg (fun h=>he h.1)])
       have d1:(e == 0)=false:=by rw [beq_eq_false_iff_ne];exact he
       clear hz
       go_enter Tryz.func34,Tryz.ntmps34
       go_wp2_with (go_at_call 49;refine (CR.out _ Xq).mono ?_;rintro ee w1 ⟨rfl,hx1⟩;have p0:=(show ∀ x,(w1.alloc x).cell? ⟨w.heap.size,0,none⟩=some (.int .i64 0) from fun x=>(hx1.al x).new 0 _ rfl);have pf0:=(show ∀ x,(w1.alloc x).frozen? ⟨w.heap.size,0,none⟩=false from fun x=>(hx1.al x).newfr 0);have p1:=(show ∀ x,(w1.alloc x).cell? ⟨w.heap.size,1,none⟩=some (.int .i64 0) from fun x=>(hx1.al x).new 1 _ rfl);have pf1:=(show ∀ x,(w1.alloc x).frozen? ⟨w.heap.size,1,none⟩=false from fun x=>(hx1.al x).newfr 1);have hx0:Ext w w1:=Xq)
       refine bodyPost_ret (v:=.tuple #[.agg #[.int .i64 k,.int .i64 nn],.int .i64 e]) (by simp [results,Tryz.results34,go_sem,p0,p1,pf0,pf1]) rfl ?_
       exact ⟨by rw [HL.out],Xq⟩
def getM:List UInt8:=[71,69,84]
def methL (l:List Ev24) (i:Nat):List UInt8:=if (l[i]?.map fun e=>e.r.1)=some heaN then heaN else getM
theorem rs_some {st:Int} {fs:List Fld} (h:(rsW st fs).2=0):(rsW st fs).1≠[]:=by
 intro e
 have hb:=(back_rsp st fs [] h).1
 rw [e] at hb
 have:(feedP (newP true) ([]++[])).2.2.1=false:=by rfl
 rw [hb] at this
 cases this
def contR:List UInt8:=(rsW 100 []).1
structure OutOk (s:Cst):Prop where
 o:s.out=[]∨s.out=contR
 e:s.reads=true→s.row=[]→s.inBody=false→s.out=[]
def OutQ (q:Sp24):Prop:=(q.1.out=[]∨q.1.out=contR)∧(q.2.1=none→q.1.reads=true→q.1.row=[]→q.1.inBody=false→q.1.out=[])
theorem end_out {q:Sp24} (h:OutQ q):OutOk (endC q).1:=by
 obtain ⟨s,st,r⟩:=q
 cases st with
 | none=>exact ⟨h.1,h.2 rfl⟩
 | some x=>exact ⟨h.1,fun e=>by cases e⟩
theorem whole_out {s:Cst} (h:OutOk s) (hr:s.reads=true) (hb:s.inBody=false) (r:List UInt8):OutQ ((wholeC s).1,(wholeC s).2,r):=by
 unfold wholeC
 dsimp only
 split
 ·exact ⟨h.o,fun e=>by cases e⟩
 ·split
  ·exact ⟨h.o,fun e=>by cases e⟩
  ·split
   ·exact ⟨h.o,fun e=>by cases e⟩
   ·split
    ·exact ⟨h.o,fun e=>by cases e⟩
    ·split
     ·exact ⟨h.o,fun e=>by cases e⟩
     ·split
      ·exact ⟨h.o,fun e=>by cases e⟩
      ·refine ⟨?_,fun _ _ _ e=>by cases e⟩
       dsimp only
       split
       ·rename_i hc
        rw [h.e hr hc.2.1 hb]
        exact .inr rfl
       ·exact h.o
theorem heads_out {s:Cst} (h:OutOk s) (hr:s.reads=true) (hb:s.inBody=false) (b:List UInt8):OutQ (headsC s b):=by
 unfold headsC
 dsimp only
 split
 ·exact ⟨h.o,fun e=>by cases e⟩
 ·split
  ·exact ⟨h.o,fun e=>by cases e⟩
  ·split
   ·exact whole_out (s:=looksC { s with hp:=(feedP s.hp b).1 } (b.take (feedP s.hp b).2.1)) ⟨h.o,h.e⟩ hr hb _
   ·exact ⟨h.o,fun _=>h.e⟩
theorem bodies_out {s:Cst} (h:s.out=[]∨s.out=contR) (hb:s.inBody=true) (b:List UInt8):OutQ (bodiesC s b):=by
 unfold bodiesC
 split
 ·exact ⟨h,fun _ _ _ e=>by rw [hb] at e;cases e⟩
 ·dsimp only
  split
  ·exact ⟨h,fun e=>by cases e⟩
  ·split
   ·exact ⟨h,fun e=>by cases e⟩
   ·split
    ·refine ⟨h,fun _ _ e=>?_⟩
     unfold requestC at e
     simp at e
    ·exact ⟨h,fun _ _ _ e=>by rw [show _=s.inBody from rfl,hb] at e;cases e⟩
theorem read_out {s:Cst} (h:OutOk s) (hr:s.reads=true) (b:List UInt8):OutOk (readC s b).1:=by
 by_cases hb:s.inBody=true
 ·rw [read_b _ hb];exact end_out (bodies_out h.o hb b)
 ·have hb:s.inBody=false:=by simpa using hb
  rw [read_h _ hb]
  have hq:=heads_out h hr hb b
  split
  ·rename_i hc
   exact end_out (bodies_out hq.1 hc.2 _)
  ·exact end_out hq
theorem new_out (m:Nat):OutOk (newC m):=⟨.inl rfl,fun _ _ _=>rfl⟩
def outAll (rd:Bool) (f:Nat→List UInt8) (t:List Th24):Nat→List Ev24→List UInt8
 | _,[]=>(writesC rd t).1
 | i,e::m=>writtenC ⟨i,e.r,lastingC e.r,some (f i)⟩ (decide (m=[]∧t=[]) && !rd) (f i)++outAll rd f t (i+1) m
theorem writes_all (rd:Bool) (A:Nat→Bool) (f:Nat→List UInt8) {t:List Th24} (ht:EndR t):∀ (l:List Ev24) (i:Nat),(∀ j,i≤j→j<i+l.length→A j=true) →
  writesC rd (asksA A f i l++t)=(outAll rd f t i l,[])
 | [],_,_=>Prod.ext rfl (writes_end rd ht)
 | e::m,i,h=>by
  have hA:A i=true:=h i (Nat.le_refl _) (by simp)
  have hx:=writes_all rd A f ht m (i+1) (fun j h1 h2=>h j (by omega) (by simp only [List.length_cons];omega))
  show writesC rd (.ask ⟨i,e.r,lastingC e.r,if A i=true then some (f i) else none⟩::(asksA A f (i+1) m++t))=_
  rw [hA,writes_some rd (x:=f i) (by simp),hx]
  have hd:decide (asksA A f (i+1) m++t=[])=decide (m=[]∧t=[]):=by
   rw [decide_eq_decide]
   cases m with
   | nil=>simp [asksA]
   | cons a b=>simp [asksA]
  rw [hd]
  rfl
theorem at_none {z:Cst} {t:List Th24} (f:Nat→List UInt8) (hr:z.row=asksC 0 z.evs++t):AtA (fun _=>false) f z.evs t z.out (putC z):=by
 constructor
 ·show (writesC z.reads z.row).2=(writesC z.reads (asksA _ f 0 z.evs++t)).2
  rw [asksA_none,hr]
 ·show z.out++(writesC z.reads z.row).1=z.out++(writesC z.reads (asksA _ f 0 z.evs++t)).1
  rw [asksA_none,hr]
def StOk (o:Option Int):Prop:=∀ st,o=some st→400≤st∧st≤503
theorem stOk_none:StOk none:=fun _ h=>by cases h
theorem stOk_some {st:Int} (h:400≤st∧st≤503):StOk (some st):=fun x hx=>by cases hx;exact h
theorem whole_st (s:Cst):StOk (wholeC s).2:=by
 unfold wholeC
 dsimp only
 split
 ·exact stOk_some ⟨by decide,by decide⟩
 ·split
  ·exact stOk_some ⟨by decide,by decide⟩
  ·split
   ·exact stOk_some ⟨by decide,by decide⟩
   ·split
    ·exact stOk_some ⟨by decide,by decide⟩
    ·split
     ·exact stOk_some ⟨by decide,by decide⟩
     ·split
      ·exact stOk_some ⟨by decide,by decide⟩
      ·exact stOk_none
theorem heads_st (s:Cst) (b:List UInt8):StOk (headsC s b).2.1:=by
 unfold headsC
 dsimp only
 split
 ·split <;> exact stOk_some ⟨by decide,by decide⟩
 ·split
  ·exact stOk_some ⟨by decide,by decide⟩
  ·split
   ·exact whole_st _
   ·exact stOk_none
theorem bodies_st (s:Cst) (b:List UInt8):StOk (bodiesC s b).2.1:=by
 unfold bodiesC
 split
 ·exact stOk_none
 ·dsimp only
  split
  ·exact stOk_some ⟨by decide,by decide⟩
  ·split
   ·exact stOk_some ⟨by decide,by decide⟩
   ·split
    ·unfold requestC
     dsimp only
     split
     ·exact stOk_some ⟨by decide,by decide⟩
     ·exact stOk_none
    ·exact stOk_none
def RowOk (l:List Th24):Prop:=∀ t∈l,TOk t
theorem RowOk.snoc {l:List Th24} {t:Th24} (h:RowOk l) (ht:TOk t):RowOk (l++[t]):=fun x hx=>by
 rcases List.mem_append.1 hx with hx | hx
 ·exact h x hx
 ·rw [List.mem_singleton.1 hx];exact ht
theorem end_row {q:Sp24} (h:RowOk q.1.row) (hs:StOk q.2.1):RowOk (endC q).1.row:=by
 obtain ⟨s,st,r⟩:=q
 cases st with
 | none=>exact h
 | some st=>exact h.snoc (by have:=hs st rfl;exact ⟨by omega,by omega⟩)
theorem bodies_rowOk {s:Cst} (h:RowOk s.row) (b:List UInt8):RowOk (bodiesC s b).1.row:=by
 unfold bodiesC
 split
 ·exact h
 ·dsimp only
  split
  ·exact h
  ·split
   ·exact h
   ·split
    ·exact h.snoc (fun x hx=>by cases hx)
    ·exact h
theorem read_rowOk {s:Cst} (h:RowOk s.row) (b:List UInt8):RowOk (readC s b).1.row:=by
 by_cases hb:s.inBody=true
 ·rw [read_b _ hb];exact end_row (bodies_rowOk h b) (bodies_st s b)
 ·rw [read_h _ (by simpa using hb)]
  have hh:RowOk (headsC s b).1.row:=by rw [(heads_same s b).2.1];exact h
  split
  ·exact end_row (bodies_rowOk hh _) (bodies_st _ _)
  ·exact end_row hh (heads_st s b)
theorem end_le (q:Sp24):(endC q).2.length≤q.2.2.length:=by
 obtain ⟨s,st,r⟩:=q
 cases st with
 | none=>exact Nat.le_refl _
 | some st=>exact Nat.zero_le _
theorem read_less {s:Cst} (hk:Cok s) {b:List UInt8} (hb:b≠[]):(readC s b).2.length<b.length:=by
 by_cases hi:s.inBody=true
 ·rw [read_b _ hi]
  obtain ⟨r,h1,hg⟩:=hk.bd hi
  exact Nat.lt_of_le_of_lt (end_le _) (bodies_less h1 hg hb)
 ·rw [read_h _ (by simpa using hi)]
  have hl:=heads_less hk.hp hb
  split
  ·have h1:=bodies_most (headsC s b).1 (headsC s b).2.2
   have h2:=end_le (bodiesC (headsC s b).1 (headsC s b).2.2)
   omega
  ·exact Nat.lt_of_le_of_lt (end_le _) hl
structure InI (e:List Ev24) (s:Cst):Prop where
 f:Fresh (pushE e s)
 o:OutOk s
 r:RowOk s.row
 g:s.reads=true→Cgo s∧GotOk s
theorem InI.read {e:List Ev24} {s:Cst} (h:InI e s) (hr:s.reads=true) {b:List UInt8} (hb:b≠[]):InI e (readC s b).1:=by
 obtain ⟨g1,g2⟩:=h.g hr
 refine ⟨?_,read_out h.o hr b,read_rowOk h.r b,fun h1=>⟨read_go g1 hb h1,read_got g1 g2 h1⟩⟩
 have:=read_fresh h.f (by exact hr) b
 rw [read_push] at this
 exact this
theorem InI.few {e:List Ev24} {s:Cst} (h:InI e s):s.evs.length≤64∧s.row.length≤65∧s.number≤64∧s.out.length≤32768:=by
 have h1:=h.f.all
 have h2:=h.f.nm
 have h3:=h.f.row
 have ha:(pushE e s).evs=e++s.evs:=rfl
 have hr:(pushE e s).row=s.row:=rfl
 have hn:(pushE e s).number=s.number:=rfl
 rw [ha,List.length_append] at h1
 rw [ha,hn,List.length_append] at h2
 refine ⟨by omega,?_,by omega,?_⟩
 ·rw [hr,ha] at h3
  rcases h3 with h3 | ⟨_,st,h3⟩
  ·rw [h3,asks_len,List.length_append];omega
  ·rw [h3,List.length_append,asks_len,List.length_append];simp;omega
 ·rcases h.o.o with h | h
  ·rw [h];exact Nat.zero_le _
  ·rw [h];exact rsW_le _ _
theorem all_read {s:Cst} (hk:Cok s) (hr:s.reads=true) {b:List UInt8} (hb:b≠[]):allC s b=allC (readC s b).1 (readC s b).2:=by
 rw [all_step hk hr hb]
 split
 ·rfl
 ·rename_i h
  exact (all_no _ (by simpa using h)).symm
theorem new_in {m:Nat} (h:m≤1048576):InI [] (newC m):=⟨new_fresh m,new_out m,(fun t ht=>by cases ht),fun _=>⟨new_go h,new_got m⟩⟩
end Go.Proofs.YthbofilcnpdghaaGreatDoor
end
