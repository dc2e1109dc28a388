/-
A client's connection: what was read before counts for nothing in what comes (plain law); the row while it reads; writing twice is writing once.
-/
import Derived.Test.YthbofilcnpdghaaGreatDoorZba
import Derived.Test.YthbofilcnpdghaaGreatDoorJo
import Derived.Test.YthbofilcnpdghaaGreatDoorZaz
import Derived.Test.YthbofilcnpdghaaGreatDoorZao
import Derived.Test.YthbofilcnpdghaaGreatDoorZay
set_option maxRecDepth 100000
set_option maxHeartbeats 8000000
set_option linter.unusedVariables false
set_option linter.unusedSimpArgs false
section
namespace Go.Proofs.YthbofilcnpdghaaGreatDoor
open Go.RowKit
def pushE (e:List Ev24) (s:Cst):Cst:={ s with evs:=e++s.evs }
theorem whole_push (e:List Ev24) (s:Cst):wholeC (pushE e s)=(pushE e (wholeC s).1,(wholeC s).2):=by
 unfold wholeC
 dsimp only [pushE]
 split
 ·rfl
 ·split
  ·rfl
  ·split
   ·rfl
   ·split
    ·rfl
    ·split
     ·rfl
     ·split
      ·rfl
      ·rfl
theorem heads_push (e:List Ev24) (s:Cst) (b:List UInt8):headsC (pushE e s) b=(pushE e (headsC s b).1,(headsC s b).2):=by
 have hl:∀ (p:Pst) (a:List UInt8),looksC { pushE e s with hp:=p } a=pushE e (looksC { s with hp:=p } a):=fun _ _=>rfl
 have hp:(pushE e s).hp=s.hp:=rfl
 unfold headsC
 dsimp only
 rw [hp,hl,whole_push]
 split
 ·rfl
 ·split
  ·rfl
  ·split <;> rfl
theorem request_push (e:List Ev24) (s:Cst):requestC (pushE e s)=(pushE e (requestC s).1,(requestC s).2):=by
 unfold requestC
 simp [pushE,List.append_assoc]
theorem bodies_push (e:List Ev24) (s:Cst) (b:List UInt8):bodiesC (pushE e s) b=(pushE e (bodiesC s b).1,(bodiesC s b).2):=by
 have hr:(pushE e s).rd=s.rd:=rfl
 unfold bodiesC
 rw [hr]
 cases hq:s.rd with
 | none=>rfl
 | some r =>
  dsimp only
  have hx:({ pushE e s with rd:=some (feedF r b).1,got:=(pushE e s).got++(feedF r b).2.2.1 }:Cst)=pushE e { s with rd:=some (feedF r b).1,got:=s.got++(feedF r b).2.2.1 }:=rfl
  rw [hx,request_push]
  split
  ·rfl
  ·split
   ·rfl
   ·split <;> rfl
theorem end_push (e:List Ev24) (q:Sp24):endC (pushE e q.1,q.2)=(pushE e (endC q).1,(endC q).2):=by
 obtain ⟨s,st,r⟩:=q
 cases st <;> rfl
theorem read_push (e:List Ev24) (s:Cst) (b:List UInt8):readC (pushE e s) b=(pushE e (readC s b).1,(readC s b).2):=by
 by_cases hb:s.inBody=true
 ·rw [read_b _ hb,read_b (s:=pushE e s) _ hb,bodies_push,end_push]
 ·have hb:s.inBody=false:=by simpa using hb
  rw [read_h _ hb,read_h (s:=pushE e s) _ hb,heads_push]
  dsimp only
  rw [show (pushE e (headsC s b).1).inBody=(headsC s b).1.inBody from rfl,bodies_push]
  split
  ·exact end_push e (bodiesC (headsC s b).1 (headsC s b).2.2)
  ·exact end_push e (headsC s b)
theorem reads_push (e:List Ev24):∀ (n:Nat) (s:Cst) (b:List UInt8),readsC n (pushE e s) b=pushE e (readsC n s b)
 | 0,_,_=>rfl
 | n+1,s,b=>by
  show (if _ then _ else _)=pushE e (if _ then _ else _)
  rw [show (pushE e s).reads=s.reads from rfl,read_push]
  split
  ·exact reads_push e n _ _
  ·rfl
theorem all_push (e:List Ev24) (s:Cst) (b:List UInt8):allC (pushE e s) b=pushE e (allC s b):=reads_push e _ _ _
def asksC:Nat→List Ev24→List Th24
 | _,[]=>[]
 | i,e::t=>.ask ⟨i,e.r,lastingC e.r,none⟩::asksC (i+1) t
theorem asks_app:∀ (l m:List Ev24) (i:Nat),asksC i (l++m)=asksC i l++asksC (i+l.length) m
 | [],_,_=>rfl
 | e::t,m,i=>by
  show _::asksC (i+1) (t++m)=_::(asksC (i+1) t++_)
  rw [asks_app t m (i+1)]
  simp only [List.length_cons]
  rw [show i+1+t.length=i+(t.length+1) from by omega]
theorem asks_len:∀ (l:List Ev24) (i:Nat),(asksC i l).length=l.length
 | [],_=>rfl
 | _::t,i=>congrArg (·+1) (asks_len t (i+1))
def idsC:Nat→List Ev24→Prop
 | _,[]=>True
 | i,e::t=>e.id=i∧idsC (i+1) t
theorem ids_app:∀ (l m:List Ev24) (i:Nat),idsC i l→idsC (i+l.length) m→idsC i (l++m)
 | [],_,_,_,h=>h
 | e::t,m,i,h,k=>⟨h.1,ids_app t m (i+1) h.2 (by rw [show i+1+t.length=i+(e::t).length from by simp;omega];exact k)⟩
structure Fresh (s:Cst):Prop where
 nm:s.number=s.evs.length
 ids:idsC 0 s.evs
 row:(s.row=asksC 0 s.evs)∨(s.reads=false∧∃ st,s.row=asksC 0 s.evs++[.ref st])
 few:s.reads=true→s.row=asksC 0 s.evs∧s.evs.length<64
 all:s.evs.length≤64
theorem whole_same (s:Cst):(wholeC s).1.evs=s.evs∧(wholeC s).1.row=s.row∧(wholeC s).1.number=s.number∧(wholeC s).1.reads=s.reads:=by
 unfold wholeC
 dsimp only
 split
 ·exact ⟨rfl,rfl,rfl,rfl⟩
 ·split
  ·exact ⟨rfl,rfl,rfl,rfl⟩
  ·split
   ·exact ⟨rfl,rfl,rfl,rfl⟩
   ·split
    ·exact ⟨rfl,rfl,rfl,rfl⟩
    ·split
     ·exact ⟨rfl,rfl,rfl,rfl⟩
     ·split <;> exact ⟨rfl,rfl,rfl,rfl⟩
theorem heads_same (s:Cst) (b:List UInt8):(headsC s b).1.evs=s.evs∧(headsC s b).1.row=s.row∧(headsC s b).1.number=s.number∧(headsC s b).1.reads=s.reads:=by
 unfold headsC
 dsimp only
 split
 ·exact ⟨rfl,rfl,rfl,rfl⟩
 ·split
  ·exact ⟨rfl,rfl,rfl,rfl⟩
  ·split
   ·exact whole_same _
   ·exact ⟨rfl,rfl,rfl,rfl⟩
theorem Fresh.same {s z:Cst} (h:Fresh s) (e:z.evs=s.evs∧z.row=s.row∧z.number=s.number∧z.reads=s.reads):Fresh z:=by
 obtain ⟨e1,e2,e3,e4⟩:=e
 exact ⟨by rw [e3,e1];exact h.nm,by rw [e1];exact h.ids,by rw [e1,e2,e4];exact h.row,by rw [e1,e2,e4];exact h.few,by rw [e1];exact h.all⟩
def Due (q:Sp24):Prop:=(q.2.1=none∧Fresh q.1)∨(q.2.1≠none∧q.1.number=q.1.evs.length∧idsC 0 q.1.evs∧q.1.row=asksC 0 q.1.evs∧q.1.evs.length≤64)
theorem due_of {s z:Cst} (h:Fresh s) (hr:s.reads=true) (e:z.evs=s.evs∧z.row=s.row∧z.number=s.number∧z.reads=s.reads) (st:Option Int) (r:List UInt8):Due (z,st,r):=by
 cases st with
 | none=>exact .inl ⟨rfl,h.same e⟩
 | some x =>
  obtain ⟨e1,e2,e3,e4⟩:=e
  exact .inr ⟨by simp,by show z.number=_;rw [e3,e1];exact h.nm,by show idsC 0 z.evs;rw [e1];exact h.ids,by show z.row=asksC 0 z.evs;rw [e1,e2];exact (h.few hr).1,by show z.evs.length≤64;rw [e1];exact h.all⟩
theorem heads_due {s:Cst} (h:Fresh s) (hr:s.reads=true) (b:List UInt8):Due (headsC s b):=due_of h hr (heads_same s b) _ _
theorem request_due {s:Cst} (h:Fresh s) (hr:s.reads=true) (r:List UInt8):Due ((requestC s).1,(requestC s).2,r):=by
 obtain ⟨hw,hf⟩:=h.few hr
 have e1:asksC 0 (s.evs++[⟨s.number,s.r,s.got⟩])=s.row++[.ask ⟨s.number,s.r,lastingC s.r,none⟩]:=by
  rw [asks_app,hw,h.nm]
  simp [asksC]
 have e2:idsC 0 (s.evs++[⟨s.number,s.r,s.got⟩]):=ids_app _ _ _ h.ids ⟨by rw [h.nm];simp,trivial⟩
 have e3:(s.row++[Th24.ask ⟨s.number,s.r,lastingC s.r,none⟩]).length=s.evs.length+1:=by rw [hw];simp [asks_len]
 unfold requestC
 dsimp only
 rw [e3]
 by_cases hc:lastingC s.r=true∧s.evs.length+1=64
 ·rw [if_pos hc]
  exact .inr ⟨by simp,by simp [h.nm],e2,e1.symm,by simp;omega⟩
 ·rw [if_neg hc]
  refine .inl ⟨rfl,by simp [h.nm],e2,.inl e1.symm,fun hl=>⟨e1.symm,?_⟩,by simp;omega⟩
  have:lastingC s.r=true:=hl
  have h6:¬ s.evs.length+1=64:=fun x=>hc ⟨this,x⟩
  show (s.evs++[_]).length<64
  rw [List.length_append]
  show s.evs.length+1<64
  omega
theorem bodies_due {s:Cst} (h:Fresh s) (hr:s.reads=true) (b:List UInt8):Due (bodiesC s b):=by
 unfold bodiesC
 split
 ·exact due_of h hr (by exact ⟨rfl,rfl,rfl,rfl⟩) _ _
 ·rename_i rd _
  dsimp only
  have hs:Fresh { s with rd:=some (feedF rd b).1,got:=s.got++(feedF rd b).2.2.1 }:=h.same ⟨rfl,rfl,rfl,rfl⟩
  split
  ·exact due_of h hr (by exact ⟨rfl,rfl,rfl,rfl⟩) _ _
  ·split
   ·exact due_of h hr (by exact ⟨rfl,rfl,rfl,rfl⟩) _ _
   ·split
    ·exact request_due hs hr _
    ·exact due_of h hr (by exact ⟨rfl,rfl,rfl,rfl⟩) _ _
theorem end_fresh {q:Sp24} (h:Due q):Fresh (endC q).1:=by
 obtain ⟨s,st,r⟩:=q
 rcases h with ⟨h1,h2⟩ | ⟨h1,h2,h3,h4,h5⟩
 ·dsimp only at h1;subst h1;exact h2
 ·cases st with
  | none=>exact absurd rfl h1
  | some x=>exact ⟨h2,h3,.inr ⟨rfl,x,congrArg (·++[Th24.ref x]) h4⟩,(fun e=>by cases e),h5⟩
theorem read_fresh {s:Cst} (h:Fresh s) (hr:s.reads=true) (b:List UInt8):Fresh (readC s b).1:=by
 by_cases hb:s.inBody=true
 ·rw [read_b _ hb];exact end_fresh (bodies_due h hr b)
 ·rw [read_h _ (by simpa using hb)]
  split
  ·exact end_fresh (bodies_due (h.same (heads_same s b)) ((heads_same s b).2.2.2.trans hr) _)
  ·exact end_fresh (heads_due h hr b)
theorem reads_fresh:∀ (n:Nat) (s:Cst) (b:List UInt8),Fresh s→Fresh (readsC n s b)
 | 0,_,_,h=>h
 | n+1,s,b,h=>by
  show Fresh (if _ then _ else _)
  split
  ·rename_i hc
   exact reads_fresh n _ _ (read_fresh h hc.1 b)
  ·exact h
theorem all_fresh {s:Cst} (h:Fresh s) (b:List UInt8):Fresh (allC s b):=reads_fresh _ _ _ h
theorem new_fresh (m:Nat):Fresh (newC m):=⟨rfl,trivial,.inl rfl,fun _=>⟨rfl,(by decide:(0:Nat)<64)⟩,(by decide:(0:Nat)≤64)⟩
theorem new_cok {m:Nat} (h:m≤1048576):Cok (newC m):=⟨h,newP_ok false,rfl,fun e=>by cases e⟩
theorem writes_none (rd:Bool) {a:Ask24} (h:a.ans=none) (t:List Th24):writesC rd (.ask a::t)=([],.ask a::t):=by
 show (match a.ans with | none=>_ | some x=>_)=_
 rw [h]
theorem writes_some (rd:Bool) {a:Ask24} {x:List UInt8} (h:a.ans=some x) (t:List Th24):writesC rd (.ask a::t)=(writtenC a (decide (t=[]) && !rd) x++(writesC rd t).1,(writesC rd t).2):=by
 show (match a.ans with | none=>_ | some x=>_)=_
 rw [h]
theorem writes_two (rd:Bool):∀ l:List Th24,writesC rd (writesC rd l).2=([],(writesC rd l).2)
 | []=>rfl
 | .ref st::t=>writes_two rd t
 | .ask a::t=>by
  cases h:a.ans with
  | none=>rw [writes_none rd h];exact writes_none rd h t
  | some x=>rw [writes_some rd h];exact writes_two rd t
theorem write_two (s:Cst):writeC (writeC s)=writeC s:=by
 unfold writeC
 dsimp only
 rw [writes_two]
 simp
theorem writes_asks (rd:Bool):∀ (l:List Ev24) (i:Nat),writesC rd (asksC i l)=([],asksC i l)
 | [],_=>rfl
 | _::_,_=>rfl
theorem write_asks {s:Cst} {l:List Ev24} {i:Nat} (h:s.row=asksC i l):writeC s=s:=by
 unfold writeC
 rw [h,writes_asks]
 obtain ⟨a1,a2,a3,a4,a5,a6,a7,a8,a9,b1,b2,b3,b4⟩:=s
 dsimp only at h
 subst h
 simp
def putC (z:Cst):Cst:={ writeC z with evs:=[] }
theorem put_input {z:Cst} (hf:Fresh z) (p:List UInt8):inputC (putC z) p=(putC (allC z p),(allC z p).evs.drop z.evs.length)∧(allC z p).evs=z.evs++(inputC (putC z) p).2:=by
 by_cases hr:z.reads=true
 ·have hw:=write_asks (hf.few hr).1
  have e1:pushE z.evs (putC z)=z:=by
   unfold putC
   rw [hw]
   simp [pushE]
  have e2:allC z p=pushE z.evs (allC (putC z) p):=by rw [← all_push,e1]
  have e3:(writeC (allC (putC z) p)).evs=(allC (putC z) p).evs:=rfl
  refine ⟨?_,?_⟩
  ·unfold inputC
   dsimp only
   rw [show readsC p.length (putC z) p=allC (putC z) p from rfl,e2]
   refine Prod.ext ?_ ?_
   ·rfl
   ·show (writeC (allC (putC z) p)).evs=_
    simp [pushE,writeC]
  ·rw [e2];rfl
 ·have hr:z.reads=false:=by simpa using hr
  have e0:allC z p=z:=all_no p hr
  have e1:allC (putC z) p=putC z:=all_no p hr
  have e2:writeC (putC z)=putC z:=by
   unfold putC
   have:=write_two z
   unfold writeC at this ⊢
   dsimp only at this ⊢
   have h1:=congrArg Cst.out this
   have h2:=congrArg Cst.row this
   dsimp only at h1 h2
   rw [h1,h2]
  have e3:inputC (putC z) p=(putC z,[]):=by
   unfold inputC
   dsimp only
   rw [show readsC p.length (putC z) p=allC (putC z) p from rfl,e1,e2]
   rfl
  rw [e3,e0]
  exact ⟨by simp,by simp⟩
def TOk:Th24→Prop
 | .ref st=>100≤st∧st≤599
 | .ask a=>∀ x,a.ans=some x→x.length≤100
theorem refused_le (st:Int):(refusedC st).length≤40000:=by
 unfold refusedC
 have:=rsW_le st [(ctN,tpW),(clN,Lib.itoa (bodyR st).length),(cnN,clW)]
 have:=rea_len st
 have hb:(bodyR st).length≤101:=by unfold bodyR;simp;omega
 rw [List.length_append]
 omega
theorem written_le (t:Ask24) (on:Bool) (x:List UInt8) (h:x.length≤100):(writtenC t on x).length≤40000:=by
 unfold writtenC
 have:=rsW_le 200 (fieldsC t on x)
 rw [List.length_append]
 split
 ·simp;omega
 ·omega
theorem stepj_call {P:Program} {ops:Array Oper} {o:Oper} {a:Act} {K:Act→World→Prop} {Q:Exit→Act→World→Prop} {E:Prop} (x:Operand) {f:FuncId} {tx:TypeId}
  (ho:o.op=.call { callee:=.value (.func f),args:=#[x],argTypes:=#[tx] }) (hgd:o.guard=none) {xv:Value} {w:World} (hx:a.eval x=xv) (hcf:(callFunc f #[xv]).run P w=.ok (.enter f #[xv]) w) {R:Value→World→Prop} (hC:Calls P f #[xv] w (Ret R w)) (h:∀ v w',R v w'→Ext w w'→K (a.put o.dst v) w'):if Region.wanted o (yielded ops a.tmps)=true then Oper.wp P o a w K Q else E:=by
 have hw:Region.wanted o (yielded ops a.tmps)=true:=by simp [Region.wanted,hgd]
 rw [if_pos hw]
 have hr:(execOp a.eval o).run P w=.ok (.enter f #[xv]) w:=by
  have hf:a.eval (.func f)=.func (.func f) #[] #[]:=rfl
  simp only [execOp,ho,resolve,Deferred.ofValue,hf,List.map_toArray,List.map_cons,List.map_nil,hx]
  have e:(do let d ← (pure { target:=Target.fn (Fn.func f) #[],args:=#[]++#[xv] }:Sem Deferred);invoke d.target d.args:Sem Next).run P w=(callFunc f #[xv]).run P w:=by simp [invoke,go_sem]
  exact e.trans hcf
 unfold Oper.wp
 rw [hr,Oper.upon_enter]
 refine hC.mono ?_
 rintro e w' ⟨v,rfl,hR,he⟩
 exact h v w' hR he
theorem enter_refused (x:Value) (w:World):(callFunc 43 #[x]).run Tryz.prog w=.ok (.enter 43 #[x]) w:=by kernel_rfl
theorem meth_ref (st : Int) (w : World) : (method 332 85 (.int .i64 st) "gatehouse/conn.waits").run Tryz.prog w = .ok (189, .int .i64 st) w := by kernel_rfl
theorem meth_ask (p : Addr) (w : World) : (method 332 65 (.pointer (some p)) "gatehouse/conn.waits").run Tryz.prog w = .ok (188, .pointer (some p)) w := by kernel_rfl
theorem ta_rr (st:Int) (w:World):(Instr.typeAssert (.iface 85 (.int .i64 st)) 64 85 true).run Tryz.prog w=.ok (.tuple #[.int .i64 st,.bool true]) w:=by kernel_rfl
theorem ta_ra (st:Int) (w:World):(Instr.typeAssert (.iface 85 (.int .i64 st)) 64 65 true).run Tryz.prog w=.ok (.tuple #[.pointer none,.bool false]) w:=by kernel_rfl
theorem ta_ar (p:Addr) (w:World):(Instr.typeAssert (.iface 65 (.pointer (some p))) 64 85 true).run Tryz.prog w=.ok (.tuple #[.int .i64 0,.bool false]) w:=by kernel_rfl
theorem ta_aa (p:Addr) (w:World):(Instr.typeAssert (.iface 65 (.pointer (some p))) 64 65 true).run Tryz.prog w=.ok (.tuple #[.pointer (some p),.bool true]) w:=by kernel_rfl
theorem cut_row (g f n c:Nat) (h0:n+1≤c):∃ L',(∀ w',(Instr.slice 57 (.slice (some ⟨g,f,none⟩) (n+1) c) (some (.int .i64 1)) none none).run Tryz.prog w'=.ok (.slice L' n (c-1)) w')∧L'≠none ∧
  ∀ w o k xs,Sl w o k 1 (some ⟨g,f,none⟩) (n+1) c xs→Sl w o k 1 L' n (c-1) (xs.drop 1):=by
 refine ⟨if c=1 then some ⟨g,f,none⟩ else some ⟨g,f+1,none⟩,fun w'=>?_,?_,fun w o k xs h=>?_⟩
 ·have h2:(1:Int)≤((n+1:Nat):Int):=by omega
  have h4:(0:Int)≤((n+1:Nat):Int):=by omega
  have h5:((n+1:Nat):Int)≤(c:Int):=by omega
  have h6:(1:Int)≤(n:Int)+1:=by omega
  have h7:(0:Int)≤(n:Int)+1:=by omega
  have h8:(n:Int)+1≤(c:Int):=by omega
  have hz:∀ w',(Go.sizeOf 64).run Tryz.prog w'=.ok 1 w':=fun _=>rfl
  have hu:=Tryz.underlying57
  by_cases hc:c=1
  ·subst hc
   obtain rfl:n=0:=by omega
   simp [Instr.slice,Instr.sliceBounds,Instr.sliceBound,asIntOf,run_underlying hu,go_sem,hz]
  ·simp [Instr.slice,Instr.sliceBounds,Instr.sliceBound,asIntOf,run_underlying hu,go_sem,h2,h4,h5,h6,h7,h8,hz,hc,h0,Addr.add]
 ·split <;> simp
 ·have hd:=h.drop 1 (by omega)
  by_cases hc:c=1
  ·rw [if_pos hc]
   exact ⟨by have:=hd.len;simpa using this,by have:=hd.le;simpa using this,by have:=hd.max;exact this,.inl (by omega)⟩
  ·rw [if_neg hc]
   simpa using hd
theorem CnX.rowCut {w:World} {o:Ow} {k c:Nat} {s:Cst} {a:Cad} {t:Th24} {R:List Th24} (hk:0<k) (hk8:k<80) (h:CnX w o k c { s with row:=t::R } a) {L':Option Addr} (hL:L'≠none) (hS:∀ xs,Sl w o (k+1) 1 a.L (R.length+1) a.cl xs→Sl w o (k+1) 1 L' R.length (a.cl-1) (xs.drop 1)) :
  CnX (w.setCell ⟨c,16,none⟩ (.slice L' R.length (a.cl-1))) o k c { s with row:=R } { a with L:=L',cl:=a.cl-1 }:=by
 obtain ⟨ho,hr,hp⟩:=h
 have t1:Sto (fun i=>i=k) w o (w.setCell ⟨c,16,none⟩ (.slice L' R.length (a.cl-1))) o:=Sto.set c 16 _ (fun _=>ho)
 have hp1:=hp.cell hk ho 16 (.slice L' R.length (a.cl-1))
 obtain ⟨ts,ts1,ts2⟩:=hp.row
 obtain ⟨u,us,rfl,_,hus⟩:=ts2
 refine ⟨ho,hr.set 16 _ (by simp [Cst.cells]),hp1.hp,hp1.rd,hp1.r,hp1.got,hp1.evs,hp1.ez,⟨us,?_,?_⟩,fun e=>absurd e hL,hp1.out,hp1.oz⟩
 ·exact (hS _ ts1).sto t1 (by omega)
 ·exact hus.sto t1 (by omega) (fun a _=>by unfold KA;omega)
def rowN (c:Nat) (w:World):Nat:=match w.cell? ⟨c,16,none⟩ with
 | some (.slice _ n _)=>n
 | _=>0
theorem rowN_of {w:World} {c:Nat} {s:Cst} {a:Cad} (h:Crow w c s a):rowN c w=s.row.length:=by unfold rowN;rw [h.c16]
structure WrI (k c:Nat) (w:World) (o:Ow) (s:Cst) (wr:World) (X:List UInt8) (R:List Th24) (o':Ow) (a:Cad):Prop where
 x:CnX wr o' k c { s with out:=s.out++X,row:=R } a
 st:Sto (KC k) w o wr o'
 nx:a.nx=nxC s.inBody
 eq:writesC s.reads s.row=(X++(writesC s.reads R).1,(writesC s.reads R).2)
 ok:∀ t∈R,TOk t
 sz:(s.out++X).length+R.length*40000≤1099511627776
def WrL (k c:Nat) (w:World) (o:Ow) (s:Cst) (wr:World):Prop:=∃ X R o' a,WrI k c w o s wr X R o' a
theorem WrI.done {k c:Nat} {w:World} {o:Ow} {s:Cst} {wr:World} {X:List UInt8} {R:List Th24} {o':Ow} {a:Cad} (h:WrI k c w o s wr X R o' a) (hR:writesC s.reads R=([],R)):CnAt wr o' k c (writeC s):=by
 have e:writeC s={ s with out:=s.out++X,row:=R }:=by
  unfold writeC
  rw [h.eq,hR]
  simp
 rw [e]
 exact ⟨a,h.x,h.nx⟩
theorem nWrite_c (w0:World) (hL:Lb w0) (k c:Nat) (hk:0<k) (hk8:k<80) (s:Cst) (hok:∀ t∈s.row,TOk t) (hsz:s.out.length+s.row.length*40000≤1099511627776) (w:World) (o:Ow) (hO:Old w0 w o) (h:CnAt w o k c s) :
  Calls Tryz.prog 27 #[.pointer (some ⟨c,0,none⟩)] w fun e w'=>e=.returned (.tuple #[])∧∃ o',CnAt w' o' k c (writeC s)∧Sto (KC k) w o w' o':=by
 obtain ⟨a,hx,hnx⟩:=h
 have c16:w.cell? ⟨c,16,none⟩=some (.slice a.L s.row.length a.cl):=hx.row.c16
 have HI:=Hy (show WrL k c w o s w from ⟨[],s.row,o,a,by rw [List.append_nil];exact hx,Sto.rfl',hnx,by rw [List.nil_append],hok,by rw [List.append_nil];exact hsz⟩)
 have HO:=Hy hO
 obtain ⟨rn,hrn⟩:∃ n,n=s.row.length:=⟨_,rfl⟩
 rw [← hrn] at c16
 clear hx hnx hok hsz hO hrn
 go_enter Tryz.func27,Tryz.ntmps27
 go_wp2
 go_loopw [] (fun wr=>WrL k c w o s wr) (fun wr=>rowN c wr)
 case atStart=>exact HI.out
 case round =>
  obtain ⟨X,R,o',ad,hI⟩:=hrel
  have HII:=Hy hI
  have hx:=hI.x
  have d16:wr.cell? ⟨c,16,none⟩=some (.slice ad.L R.length ad.cl):=hx.row.c16
  obtain ⟨ts,ts1,ts2⟩:=hx.p.row
  cases R with
  | nil =>
   have d5:wr.cell? ⟨c,5,none⟩=some (.bool s.begun):=HII.out.x.row.c5
   have d3:wr.cell? ⟨c,3,none⟩=some (.int .i64 0):=(HII.out.x.row.at_ 3 _ rfl).1
   have f3:=HII.out.x.row.fz 3 (by decide)
   have d2:wr.cell? ⟨c,2,none⟩=some (.int .i64 0):=HII.out.x.row.c2
   have HF:=Hy (show ∀ wz,(wz=wr∨wz=wr.setCell ⟨c,3,none⟩ (.int .i64 0))→∃ o',CnAt wz o' k c (writeC s)∧Sto (KC k) w o wz o' from fun wz hz=>by
    have hd:=HII.out.done (rfl)
    rcases hz with rfl | rfl
    ·exact ⟨o',hd,HII.out.st⟩
    ·obtain ⟨a7,hx7,hn7⟩:=hd
     have hp7:=hx7.p.cell hk hx7.own 3 (.int .i64 0)
     exact ⟨o',⟨a7,⟨hx7.own,hx7.row.set 3 _ rfl,hp7⟩,hn7⟩,HII.out.st.tr (setC_sto 3 _ hx7.own hk8)⟩)
   obtain ⟨bg,hbg⟩:∃ b,b=s.begun:=⟨_,rfl⟩
   rw [← hbg] at d5
   clear hx ts1 ts2 hI hbg
   rw [show (([]:List Th24).length)=0 from rfl] at d16
   by_cases r0:rn=0
   ·subst r0
    go_wp2
    go_end0
    exact ⟨rfl,HF.out _ (.inl rfl)⟩
   ·have r1:(0:Int)<(rn:Int):=by omega
    cases bg with
    | true =>
     go_wp2
     go_end0
     exact ⟨rfl,HF.out _ (.inl rfl)⟩
    | false =>
     go_wp2
     go_end0
     exact ⟨rfl,HF.out _ (.inr rfl)⟩
  | cons t R =>
   obtain ⟨u,us,rfl,hu,hus⟩:=ts2
   obtain ⟨g,f,hL1,hgl,hgc⟩:∃ g f,ad.L=some ⟨g,f,none⟩∧g<wr.heap.size∧wr.cell? ⟨g,f,none⟩=some u:=by
    rcases ts1.at_ with h0 | ⟨g,f,hA,_,hl,hc,_⟩
    ·have:=ts1.le
     simp at this
     omega
    ·exact ⟨g,f,hA,hl,hc 0 u rfl⟩
   have HSL:=Hy ts1
   have HTL:=Hy hus
   rw [hL1] at d16
   have HL1:=Hy hL1
   have d16:wr.cell? ⟨c,16,none⟩=some (.slice (some ⟨g,f,none⟩) (R.length+1) ad.cl):=d16
   obtain ⟨rl,hrl⟩:∃ n,n=R.length:=⟨_,rfl⟩
   rw [← hrl] at d16
   have HRL:=Hy hrl
   have l0:(0:Int)<((rl+1:Nat):Int):=by omega
   have l1:(0:Int)<(rl:Int)+1:=by omega
   clear ts1 hus hL1 hrl hx
   cases t with
   | ref st =>
    have hu:u=.iface 85 (.int .i64 st):=hu
    subst hu
    have hm:=meth_ref st
    have h1:=ta_rr st
    obtain ⟨hs1,hs2⟩:=HII.out.ok _ List.mem_cons_self
    have CR:=Hy (fun (w':World) (e:Ext wr w')=>nRefused_c st hs1 hs2 w' (hL.pw.ext ((HO.out.sto HII.out.st (kc0 hk)).ext.tr e)) (hL.mx.ext ((HO.out.sto HII.out.st (kc0 hk)).ext.tr e)))
    have d18:wr.cell? ⟨c,18,none⟩=some (.slice ad.O (s.out++X).length ad.co):=HII.out.x.row.c18
    have HOL:=Hy (show (s.out++X).length≤1099511627776 from by have:=HII.out.sz;omega)
    obtain ⟨ol,hol⟩:∃ n,n=(s.out++X).length:=⟨_,rfl⟩
    rw [← hol] at d18
    have HOLE:=Hy hol
    clear hs1 hs2 hI hol
    go_upto_region 5 with (first
     | (go_at_call 189;refine (nRefW_c _ _).mono ?_;rintro e w2 ⟨rfl,rfl⟩))
    have hk18:=Hy (fun w' (e:Ext wr w')=>(show w'.cell? ⟨c,18,none⟩=some (.slice ad.O ol ad.co) from (e.cell (lt_of_cell d18)).trans d18))
    have e1:=d18
    go_region_law (first
     | (refine stepj_call (.tmp 42) rfl rfl rfl (enter_refused _ _) (CR.out _ Xq) ?_;rintro v w2 ⟨A2,c2,rfl,hr2⟩ hx2;have hxw2:Ext wr w2:=Xq;have e2:=hk18.out w2 hxw2;have HX2:=Hy (HII.out.x.ext hxw2);have HXW2:=Hy hxw2)
     | (refine stepj_put slt_u8 (.tmp 41) (.tmp 43) rfl rfl rfl rfl (show Sl _ o' (k+2) 1 ad.O ol ad.co (bc (s.out++X)) from by rw [HOLE.out];exact HX2.out.p.out.ext Xq) HX2.out.p.oz (Sl.src Tryz.underlying22 (hr2.ext Xq) (by rw [bc_len];omega) (by omega) (bc_one _) c2) (by have:=HOL.out;have:=refused_le st;have:=HOLE.out;omega) (by have:=HOL.out;have:=refused_le st;have:=HOLE.out;simp only [maxLen];omega) ?_;intro A5 c5 w5 o5 hs5 st5 hn5;have st5':Stp (fun i=>i=k+2) w2 o' w5 o5:=Stp.tr (Stp.ext Xq) st5;have r5:=(st5'.sto.keep c (row_lt HX2.out.row) (by rw [HX2.out.own];omega)).trans HX2.out.row;have y18:=(row_facts r5 18 _ rfl).1;have g18:=(row_facts r5 18 _ rfl).2;have HT:=Hy (HX2.out.outPut hk hk8 st5' (refusedC st) (by show Sl w5 o5 (k+2) 1 A5 ((s.out++X).length+(refusedC st).length) c5 (bc (s.out++X)++bc (refusedC st));rw [← HOLE.out];exact hs5) hn5);clear r5 hs5 st5 hn5 st5'))
    all_goals (
     obtain ⟨W7,hW7⟩:∃ W,W=w5.setCell ⟨c,18,none⟩ (.slice A5 (ol+(refusedC st).length) c5):=⟨_,rfl⟩
     rw [← hW7]
     have hT:=HT.out
     rw [show (({ s with out:=s.out++X,row:=Th24.ref st::R }:Cst).out.length+(refusedC st).length)=ol+(refusedC st).length from by rw [HOLE.out],← hW7] at hT
     have z16:W7.cell? ⟨c,16,none⟩=some (.slice (some ⟨g,f,none⟩) (rl+1) ad.cl):=by have h:=hT.1.row.c16;rw [show ({ ad with O:=A5,co:=c5 }:Cad).L=_ from HL1.out] at h;rw [HRL.out];exact h
     have zf:=hT.1.row.fz 16 (by decide)
     obtain ⟨L',hc1,hc2,hc3⟩:=cut_row g f rl ad.cl (by have:=HSL.out.le;rw [HRL.out];exact this)
     have hfin:=CnX.rowCut (s:={ s with out:=s.out++X++refusedC st }) (t:=.ref st) (R:=R) hk hk8 hT.1 hc2 (fun xs hs=>by
      have hs':Sl W7 o5 (k+1) 1 ad.L (R.length+1) ad.cl xs:=hs
      rw [HL1.out,← HRL.out] at hs'
      have h:=hc3 _ _ _ _ hs'
      rw [HRL.out] at h;exact h)
     have hst:=(HII.out.st.tr (Sto.ext HXW2.out)).tr hT.2.kc
     have hnx:=HII.out.nx
     have HZ:=Hy (show WrI k c w o s (W7.setCell ⟨c,16,none⟩ (.slice L' R.length (ad.cl-1))) (X++refusedC st) R o5 { { ad with O:=A5,co:=c5 } with L:=L',cl:=ad.cl-1 } from
      ⟨by rw [← List.append_assoc];exact hfin,hst.tr (setC_sto 16 _ hT.1.own hk8),hnx,by rw [HII.out.eq];simp [writesC],fun t ht=>HII.out.ok t (List.mem_cons_of_mem _ ht),by have h1:=HII.out.sz;have h2:=refused_le st;rw [List.length_cons,List.length_append] at h1;simp only [List.length_append];omega⟩)
     have HN:=Hy (show rowN c wr=R.length+1 from (rowN_of HII.out.x.row).trans rfl)
     have HN2:=Hy (show rowN c (W7.setCell ⟨c,16,none⟩ (.slice L' R.length (ad.cl-1)))=R.length from rowN_of hfin.row)
     rw [← HRL.out] at HZ HN HN2
     clear hT hfin hst hnx hc2 hc3 hW7 HT e1 e2 d18 y18 g18 hk18 d16 hgc h1 hm
     go_wp2
     go_roundw
     case rel=>exact ⟨_,_,_,_,HZ.out⟩
     case measure=>rw [HN.out,HN2.out];omega)
   | ask q =>
    obtain ⟨p,hu,hask⟩:=hu
    subst hu
    have hm:=meth_ask ⟨p,0,none⟩
    have h1:=ta_ar ⟨p,0,none⟩
    have h2:=ta_aa ⟨p,0,none⟩
    obtain ⟨ho6,A6,ca6,Q6,hrow6,_,hans6⟩:=id hask
    have k6:wr.cell? ⟨p,6,none⟩=some (.pointer Q6):=(row_facts hrow6 6 _ rfl).1
    cases hxs:q.ans with
    | none =>
     rw [hxs] at hans6
     obtain rfl:Q6=none:=hans6
     have d5:wr.cell? ⟨c,5,none⟩=some (.bool s.begun):=HII.out.x.row.c5
     have d3:wr.cell? ⟨c,3,none⟩=some (.int .i64 0):=(HII.out.x.row.at_ 3 _ rfl).1
     have f3:=HII.out.x.row.fz 3 (by decide)
     have d2:wr.cell? ⟨c,2,none⟩=some (.int .i64 0):=HII.out.x.row.c2
     have HF:=Hy (show ∀ wz,(wz=wr∨wz=wr.setCell ⟨c,3,none⟩ (.int .i64 0))→∃ o',CnAt wz o' k c (writeC s)∧Sto (KC k) w o wz o' from fun wz hz=>by
      have hd:=HII.out.done (writes_none s.reads hxs R)
      rcases hz with rfl | rfl
      ·exact ⟨o',hd,HII.out.st⟩
      ·obtain ⟨a7,hx7,hn7⟩:=hd
       have hp7:=hx7.p.cell hk hx7.own 3 (.int .i64 0)
       exact ⟨o',⟨a7,⟨hx7.own,hx7.row.set 3 _ rfl,hp7⟩,hn7⟩,HII.out.st.tr (setC_sto 3 _ hx7.own hk8)⟩)
     obtain ⟨bg,hbg⟩:∃ b,b=s.begun:=⟨_,rfl⟩
     rw [← hbg] at d5
     have n0:(((rl+1:Nat):Int) == 0)=false:=by rw [beq_eq_false_iff_ne];omega
     have n1:(((rl:Int)+1) == 0)=false:=by rw [beq_eq_false_iff_ne];omega
     clear hI hbg hask hrow6 hxs
     by_cases r0:rn=0
     ·subst r0
      go_wp2_with (go_at_call 188;refine (nAskW_yes _ _ k6).mono ?_;rintro e w2 ⟨rfl,rfl⟩)
      go_end0
      exact ⟨rfl,HF.out _ (.inl rfl)⟩
     ·have r1:(0:Int)<(rn:Int):=by omega
      go_wp2_with (go_at_call 188;refine (nAskW_yes _ _ k6).mono ?_;rintro e w2 ⟨rfl,rfl⟩)
      go_end0
      exact ⟨rfl,HF.out _ (.inl rfl)⟩
    | some x =>
     rw [hxs] at hans6
     obtain ⟨qa,B6,cb6,rfl,_⟩:=hans6
     have hx100:=HII.out.ok _ List.mem_cons_self x hxs
     have CW:=Hy (nWritten_c k c p (KA k q.id) { s with out:=s.out++X,row:=Th24.ask q::R } ad q x wr o' HII.out.x hask hxs hx100 (hL.pw.ext (HO.out.sto HII.out.st (kc0 hk)).ext) (hL.mx.ext (HO.out.sto HII.out.st (kc0 hk)).ext))
     obtain ⟨wb,hwb⟩:∃ b,b=writtenC q (decide (({ s with out:=s.out++X,row:=Th24.ask q::R }:Cst).row.length=1) && !({ s with out:=s.out++X,row:=Th24.ask q::R }:Cst).reads) x:=⟨_,rfl⟩
     rw [← hwb] at CW
     have HWL:=Hy (show wb.length≤40000 from by rw [hwb];exact written_le _ _ _ hx100)
     have HWB:=Hy hwb
     have HXS:=Hy hxs
     have HON:=Hy (show (decide (({ s with out:=s.out++X,row:=Th24.ask q::R }:Cst).row.length=1) && !({ s with out:=s.out++X,row:=Th24.ask q::R }:Cst).reads)=(decide (R=[]) && !s.reads) from by cases R <;> simp)
     have d18:wr.cell? ⟨c,18,none⟩=some (.slice ad.O (s.out++X).length ad.co):=HII.out.x.row.c18
     have HOL:=Hy (show (s.out++X).length≤1099511627776 from by have:=HII.out.sz;omega)
     obtain ⟨ol,hol⟩:∃ n,n=(s.out++X).length:=⟨_,rfl⟩
     rw [← hol] at d18
     have HOLE:=Hy hol
     clear hI hol hask hrow6 hxs hwb
     go_upto_region 14 with (first
      | (go_at_call 188;refine (nAskW_no _ _ _ k6).mono ?_;rintro e w2 ⟨rfl,rfl⟩)
      | (go_at_call 44;refine (CW.out).mono ?_;rintro e w8 ⟨v,rfl,⟨A8,c8,rfl,hr8⟩,hx8⟩;have e8:=(hx8.cell (lt_of_cell d18)).trans d18;have HX8:=Hy (HII.out.x.ext hx8);have HXW8:=Hy hx8)
      | (at_builtin;refine wpL_put slt_u8 (.tmp 74) (.tmp 75) rfl rfl rfl rfl (show Sl _ o' (k+2) 1 ad.O ol ad.co (bc (s.out++X)) from by rw [HOLE.out];exact HX8.out.p.out) HX8.out.p.oz (Sl.src Tryz.underlying22 hr8 (by rw [bc_len];omega) (by omega) (bc_one _) c8) (by have:=HOL.out;have:=HWL.out;have:=HOLE.out;omega) (by have:=HOL.out;have:=HWL.out;have:=HOLE.out;simp only [maxLen];omega) ?_;intro A5 c5 w5 o5 hs5 st5 hn5;have r5:=(st5.sto.keep c (row_lt HX8.out.row) (by rw [HX8.out.own];omega)).trans HX8.out.row;have y18:=(row_facts r5 18 _ rfl).1;have g18:=(row_facts r5 18 _ rfl).2;have HT:=Hy (HX8.out.outPut hk hk8 st5 wb (by show Sl w5 o5 (k+2) 1 A5 ((s.out++X).length+wb.length) c5 (bc (s.out++X)++bc wb);rw [← HOLE.out];exact hs5) hn5);clear r5 hs5 st5 hn5))
     obtain ⟨W7,hW7⟩:∃ W,W=w5.setCell ⟨c,18,none⟩ (.slice A5 (ol+wb.length) c5):=⟨_,rfl⟩
     rw [← hW7]
     have hT:=HT.out
     rw [show (({ s with out:=s.out++X,row:=Th24.ask q::R }:Cst).out.length+wb.length)=ol+wb.length from by rw [HOLE.out],← hW7] at hT
     have z16:W7.cell? ⟨c,16,none⟩=some (.slice (some ⟨g,f,none⟩) (rl+1) ad.cl):=by have h:=hT.1.row.c16;rw [show ({ ad with O:=A5,co:=c5 }:Cad).L=_ from HL1.out] at h;rw [HRL.out];exact h
     have zf:=hT.1.row.fz 16 (by decide)
     obtain ⟨L',hc1,hc2,hc3⟩:=cut_row g f rl ad.cl (by have:=HSL.out.le;rw [HRL.out];exact this)
     have hfin:=CnX.rowCut (s:={ s with out:=s.out++X++wb }) (t:=.ask q) (R:=R) hk hk8 hT.1 hc2 (fun xs hs=>by
      have hs':Sl W7 o5 (k+1) 1 ad.L (R.length+1) ad.cl xs:=hs
      rw [HL1.out,← HRL.out] at hs'
      have h:=hc3 _ _ _ _ hs'
      rw [HRL.out] at h;exact h)
     have hst:=(HII.out.st.tr (Sto.ext HXW8.out)).tr hT.2.kc
     have hnx:=HII.out.nx
     have HZ:=Hy (show WrI k c w o s (W7.setCell ⟨c,16,none⟩ (.slice L' R.length (ad.cl-1))) (X++wb) R o5 { { ad with O:=A5,co:=c5 } with L:=L',cl:=ad.cl-1 } from
      ⟨by rw [← List.append_assoc];exact hfin,hst.tr (setC_sto 16 _ hT.1.own hk8),hnx,by rw [HII.out.eq,writes_some s.reads HXS.out,← HON.out,← HWB.out];simp,fun t ht=>HII.out.ok t (List.mem_cons_of_mem _ ht),by have h1:=HII.out.sz;have h2:=HWL.out;rw [List.length_cons,List.length_append] at h1;simp only [List.length_append];omega⟩)
     have HN:=Hy (show rowN c wr=R.length+1 from (rowN_of HII.out.x.row).trans rfl)
     have HN2:=Hy (show rowN c (W7.setCell ⟨c,16,none⟩ (.slice L' R.length (ad.cl-1)))=R.length from rowN_of hfin.row)
     rw [← HRL.out] at HZ HN HN2
     clear hT hfin hst hnx hc2 hc3 hW7 HT d18 y18 g18 d16 hgc h1 h2 hm
     go_wp2
     go_roundw
     case rel=>exact ⟨_,_,_,_,HZ.out⟩
     case measure=>rw [HN.out,HN2.out];omega
theorem run_inv_go:∀ (l u:List UInt8) (s:Pst),HInv u s→s.done=false→(runP s l).2.2=0→(runP s l).1.done=false→∃ v,HInv v (runP s l).1
 | [],u,s,h,_,_,_=>⟨u,h⟩
 | c::l,u,s,h,h0,h1,h2=>by
  rw [run_cons] at h1 h2 ⊢
  by_cases k1:(takeP s c).2≠0
  ·rw [if_pos k1] at h1;exact absurd h1 k1
  ·rw [if_neg k1] at h1 h2 ⊢
   have hi:=take_inv (c:=c) h (by simpa using k1) h0
   by_cases k2:(takeP s c).1.done=true
   ·rw [if_pos k2] at h2;exact absurd k2 (by rw [h2];decide)
   ·rw [if_neg k2] at h1 h2 ⊢
    exact run_inv_go l (u++[c]) _ (hi.2 (by simpa using k2)) (by simpa using k2) h1 h2
theorem feed_inv {u:List UInt8} {s:Pst} (h:HInv u s) (hp:Pok s) (b:List UInt8) (h3:(feedP s b).2.2.2=0) :
  ((feedP s b).2.2.1=true→(∃ v,HEnd v (feedP s b).1)∧(feedP s b).1.done=true)∧((feedP s b).2.2.1=false→∃ v,HInv v (feedP s b).1):=by
 have hc:¬(s.done=true∨s.e≠0):=by rw [hp.d0,hp.e0];simp
 unfold feedP at h3 ⊢
 rw [if_neg hc] at h3 ⊢
 dsimp only at h3 ⊢
 rw [h3]
 refine ⟨fun hd=>?_,fun hd=>?_⟩
 ·have hd:(runP s b).1.done=true:=by simpa using hd
  have hi:=run_inv b u s h hp.d0 h3 hd
  exact ⟨⟨_,hi.ends,hi.tok,hi.tg,hi.lm,hi.lt,hi.flds⟩,hd⟩
 ·have hd:(runP s b).1.done=false:=by simpa using hd
  obtain ⟨v,hi⟩:=run_inv_go b u s h hp.d0 h3 hd
  exact ⟨v,hi.nx,hi.ends,hi.crU,hi.first,hi.ln,hi.flds⟩
def Rq8 (r:Rq24):Prop:=r.1.length≤8192∧r.2.1.length≤8192∧Fl8 r.2.2.2
theorem ask_8 {p:Pst} {v:List UInt8} (h:HEnd v p) (hf:p.fields.length≤100):Rq8 (askP p):=by
 unfold askP
 split
 ·exact ⟨h.lm,h.lt,hf,fun f hf=>⟨(h.flds f hf).2.2.2.1,(h.flds f hf).2.2.2.2⟩⟩
 ·exact ⟨Nat.zero_le _,Nat.zero_le _,Nat.zero_le _,fun f hf=>by cases hf⟩
theorem whole_r (s:Cst):(wholeC s).1.r=askP s.hp∧(wholeC s).1.hp=newP false:=by
 unfold wholeC
 dsimp only
 split
 ·exact ⟨rfl,rfl⟩
 ·split
  ·exact ⟨rfl,rfl⟩
  ·split
   ·exact ⟨rfl,rfl⟩
   ·split
    ·exact ⟨rfl,rfl⟩
    ·split
     ·exact ⟨rfl,rfl⟩
     ·split <;> exact ⟨rfl,rfl⟩
theorem bodies_hp (s:Cst) (b:List UInt8):(bodiesC s b).1.hp=s.hp∧(bodiesC s b).1.r=s.r∧((bodiesC s b).1.inBody=true→s.inBody=true):=by
 unfold bodiesC
 split
 ·exact ⟨rfl,rfl,id⟩
 ·dsimp only
  split
  ·exact ⟨rfl,rfl,id⟩
  ·split
   ·exact ⟨rfl,rfl,id⟩
   ·split
    ·exact ⟨rfl,rfl,fun e=>by cases e⟩
    ·exact ⟨rfl,rfl,id⟩
structure Cgo (s:Cst):Prop where
 ok:Cok s
 inv:∃ u,HInv u s.hp
 fl:s.inBody=true→Rq8 s.r
theorem done_8 {s:Cst} (hk:Cgo s) (b:List UInt8) (h2:(feedP s.hp b).2.2.1=true) (h3:(feedP s.hp b).2.2.2=0):Rq8 (askP (feedP s.hp b).1):=by
 obtain ⟨u,hu⟩:=hk.inv
 obtain ⟨⟨v,hv⟩,hd⟩:=(feed_inv hu hk.ok.hp b h3).1 h2
 exact ask_8 hv (feed_rf b s.hp hk.ok.hp.fl).2
theorem heads_go {s:Cst} (hk:Cgo s) (h0:s.inBody=false) (b:List UInt8) (hn:(headsC s b).2.1=none) :
  ((headsC s b).1.inBody=true→(headsC s b).1.hp=newP false∧Rq8 (headsC s b).1.r)∧((headsC s b).1.inBody=false→∃ u,HInv u (headsC s b).1.hp):=by
 refine ⟨fun hi=>?_,fun hi=>?_⟩
 ·obtain ⟨h1,h2⟩:=inBody_heads hi h0 hn
  have e:headsC s b=((wholeC (looksC { s with hp:=(feedP s.hp b).1 } (b.take (feedP s.hp b).2.1))).1,(wholeC (looksC { s with hp:=(feedP s.hp b).1 } (b.take (feedP s.hp b).2.1))).2,b.drop (feedP s.hp b).2.1):=by
   unfold headsC
   dsimp only
   rw [h1,h2]
   simp
  rw [e]
  obtain ⟨w1,w2⟩:=whole_r (looksC { s with hp:=(feedP s.hp b).1 } (b.take (feedP s.hp b).2.1))
  exact ⟨w2,by show Rq8 (wholeC _).1.r;rw [w1];exact done_8 hk b h1 h2⟩
 ·obtain ⟨u,hu⟩:=hk.inv
  by_cases h1:(feedP s.hp b).2.2.2=0
  ·cases h2:(feedP s.hp b).2.2.1 with
   | false =>
    have e:headsC s b=(looksC { s with hp:=(feedP s.hp b).1 } (b.take (feedP s.hp b).2.1),none,b.drop (feedP s.hp b).2.1):=by
     unfold headsC
     dsimp only
     rw [h1,h2]
     simp
    rw [e]
    exact (feed_inv hu hk.ok.hp b h1).2 h2
   | true =>
    exfalso
    have e:headsC s b=((wholeC (looksC { s with hp:=(feedP s.hp b).1 } (b.take (feedP s.hp b).2.1))).1,(wholeC (looksC { s with hp:=(feedP s.hp b).1 } (b.take (feedP s.hp b).2.1))).2,b.drop (feedP s.hp b).2.1):=by
     unfold headsC
     dsimp only
     rw [h1,h2]
     simp
    rw [e] at hi hn
    have:=(whole_ok (by exact hk.ok.mo) hn).2.2.1
    rw [show (wholeC (looksC { s with hp:=(feedP s.hp b).1 } (b.take (feedP s.hp b).2.1))).1.inBody=false from hi] at this
    cases this
  ·exfalso
   unfold headsC at hn
   dsimp only at hn
   split at hn
   ·cases hn
   ·cases hn
theorem read_go {s:Cst} (hk:Cgo s) {b:List UInt8} (hb:b≠[]) (h:(readC s b).1.reads=true):Cgo (readC s b).1:=by
 have hok:=(read_ok hk.ok hb h).1
 by_cases hi:s.inBody=true
 ·rw [read_b _ hi] at h hok ⊢
  obtain ⟨hn,he⟩:=end_reads h
  rw [he] at hok ⊢
  obtain ⟨p1,p2,p3⟩:=bodies_hp s b
  exact ⟨hok,by rw [p1];exact hk.inv,fun e=>by rw [p2];exact hk.fl hi⟩
 ·have hi:s.inBody=false:=by simpa using hi
  rw [read_h _ hi] at h hok ⊢
  by_cases hc:(headsC s b).2.1=none∧(headsC s b).1.inBody=true
  ·rw [if_pos hc] at h hok ⊢
   obtain ⟨hn,he⟩:=end_reads h
   rw [he] at hok ⊢
   obtain ⟨p1,p2,p3⟩:=bodies_hp (headsC s b).1 (headsC s b).2.2
   obtain ⟨g1,g2⟩:=(heads_go hk hi b hc.1).1 hc.2
   exact ⟨hok,by rw [p1,g1];exact ⟨_,newP_inv⟩,fun e=>by rw [p2];exact g2⟩
  ·rw [if_neg hc] at h hok ⊢
   obtain ⟨hn,he⟩:=end_reads h
   rw [he] at hok ⊢
   have hf:(headsC s b).1.inBody=false:=by
    cases hq:(headsC s b).1.inBody with
    | false=>rfl
    | true=>exact absurd ⟨hn,hq⟩ hc
   exact ⟨hok,(heads_go hk hi b hn).2 hf,fun e=>by rw [hf] at e;cases e⟩
theorem new_go {m:Nat} (h:m≤1048576):Cgo (newC m):=⟨new_cok h,⟨_,newP_inv⟩,fun e=>by cases e⟩
end Go.Proofs.YthbofilcnpdghaaGreatDoor
end
