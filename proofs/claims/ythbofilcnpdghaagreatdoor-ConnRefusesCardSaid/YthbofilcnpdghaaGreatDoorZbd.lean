/-
A client's connection: what was read before counts for nothing in what comes (plain law); the row while it reads; writing twice is writing once.
-/
import Derived.Test.YthbofilcnpdghaaGreatDoorZbc
import Derived.Test.YthbofilcnpdghaaGreatDoorZaq
import Derived.Test.YthbofilcnpdghaaGreatDoorZba
import Derived.Test.YthbofilcnpdghaaGreatDoorZbb
set_option maxRecDepth 100000
set_option maxHeartbeats 8000000
set_option linter.unusedVariables false
set_option linter.unusedSimpArgs false
section
namespace Go.Proofs.YthbofilcnpdghaaGreatDoor
open Go.RowKit
def pushE (e:List Ev24) (s:Cst):Cst:={ s with evs:=e ++ s.evs }
theorem whole_push (e:List Ev24) (s:Cst):wholeC (pushE e s)=(pushE e (wholeC s).1,(wholeC s).2):=by
 unfold wholeC
 dsimp only [pushE]
 split
 ·rfl
 ·split
  ·rfl
  ·split
   ·rfl
   ·split
    ·rfl
    ·split
     ·rfl
     ·split
      ·rfl
      ·rfl
theorem heads_push (e:List Ev24) (s:Cst) (b:List UInt8):headsC (pushE e s) b=(pushE e (headsC s b).1,(headsC s b).2):=by
 have hl:∀ (p:Pst) (a:List UInt8),looksC { pushE e s with hp:=p } a=pushE e (looksC { s with hp:=p } a):=fun _ _=>rfl
 have hp:(pushE e s).hp=s.hp:=rfl
 unfold headsC
 dsimp only
 rw [hp,hl,whole_push]
 split
 ·rfl
 ·split
  ·rfl
  ·split <;> rfl
theorem request_push (e:List Ev24) (s:Cst):requestC (pushE e s)=(pushE e (requestC s).1,(requestC s).2):=by
 unfold requestC
 simp [pushE,List.append_assoc]
theorem bodies_push (e:List Ev24) (s:Cst) (b:List UInt8):bodiesC (pushE e s) b=(pushE e (bodiesC s b).1,(bodiesC s b).2):=by
 have hr:(pushE e s).rd=s.rd:=rfl
 unfold bodiesC
 rw [hr]
 cases hq:s.rd with
 | none=>rfl
 | some r =>
  dsimp only
  have hx:({ pushE e s with rd:=some (feedF r b).1,got:=(pushE e s).got ++ (feedF r b).2.2.1 }:Cst)=pushE e { s with rd:=some (feedF r b).1,got:=s.got ++ (feedF r b).2.2.1 }:=rfl
  rw [hx,request_push]
  split
  ·rfl
  ·split
   ·rfl
   ·split <;> rfl
theorem end_push (e:List Ev24) (q:Sp24):endC (pushE e q.1,q.2)=(pushE e (endC q).1,(endC q).2):=by
 obtain ⟨s,st,r⟩:=q
 cases st <;> rfl
theorem read_push (e:List Ev24) (s:Cst) (b:List UInt8):readC (pushE e s) b=(pushE e (readC s b).1,(readC s b).2):=by
 by_cases hb:s.inBody=true
 ·rw [read_b _ hb,read_b (s:=pushE e s) _ hb,bodies_push,end_push]
 ·have hb:s.inBody=false:=by simpa using hb
  rw [read_h _ hb,read_h (s:=pushE e s) _ hb,heads_push]
  dsimp only
  rw [show (pushE e (headsC s b).1).inBody=(headsC s b).1.inBody from rfl,bodies_push]
  split
  ·exact end_push e (bodiesC (headsC s b).1 (headsC s b).2.2)
  ·exact end_push e (headsC s b)
theorem reads_push (e:List Ev24):∀ (n:Nat) (s:Cst) (b:List UInt8),readsC n (pushE e s) b=pushE e (readsC n s b)
 | 0,_,_=>rfl
 | n + 1,s,b=>by
  show (if _ then _ else _)=pushE e (if _ then _ else _)
  rw [show (pushE e s).reads=s.reads from rfl,read_push]
  split
  ·exact reads_push e n _ _
  ·rfl
theorem all_push (e:List Ev24) (s:Cst) (b:List UInt8):allC (pushE e s) b=pushE e (allC s b):=reads_push e _ _ _
def asksC:Nat → List Ev24 → List Th24
 | _,[]=>[]
 | i,e :: t=>.ask ⟨i,e.r,lastingC e.r,none⟩ :: asksC (i + 1) t
theorem asks_app:∀ (l m:List Ev24) (i:Nat),asksC i (l ++ m)=asksC i l ++ asksC (i + l.length) m
 | [],_,_=>rfl
 | e :: t,m,i=>by
  show _ :: asksC (i + 1) (t ++ m)=_ :: (asksC (i + 1) t ++ _)
  rw [asks_app t m (i + 1)]
  simp only [List.length_cons]
  rw [show i + 1 + t.length=i + (t.length + 1) from by omega]
theorem asks_len:∀ (l:List Ev24) (i:Nat),(asksC i l).length=l.length
 | [],_=>rfl
 | _ :: t,i=>congrArg (· + 1) (asks_len t (i + 1))
def idsC:Nat → List Ev24 → Prop
 | _,[]=>True
 | i,e :: t=>e.id=i∧idsC (i + 1) t
theorem ids_app:∀ (l m:List Ev24) (i:Nat),idsC i l → idsC (i + l.length) m → idsC i (l ++ m)
 | [],_,_,_,h=>h
 | e :: t,m,i,h,k=>⟨h.1,ids_app t m (i + 1) h.2 (by rw [show i + 1 + t.length=i + (e :: t).length from by simp; omega]; exact k)⟩
structure Fresh (s:Cst):Prop where
 nm:s.number=s.evs.length
 ids:idsC 0 s.evs
 row:(s.row=asksC 0 s.evs) ∨ (s.reads=false∧∃ st,s.row=asksC 0 s.evs ++ [.ref st])
 few:s.reads=true → s.row=asksC 0 s.evs∧s.evs.length < 64
 all:s.evs.length ≤ 64
theorem whole_same (s:Cst):(wholeC s).1.evs=s.evs∧(wholeC s).1.row=s.row∧(wholeC s).1.number=s.number∧(wholeC s).1.reads=s.reads:=by
 unfold wholeC
 dsimp only
 split
 ·exact ⟨rfl,rfl,rfl,rfl⟩
 ·split
  ·exact ⟨rfl,rfl,rfl,rfl⟩
  ·split
   ·exact ⟨rfl,rfl,rfl,rfl⟩
   ·split
    ·exact ⟨rfl,rfl,rfl,rfl⟩
    ·split
     ·exact ⟨rfl,rfl,rfl,rfl⟩
     ·split <;> exact ⟨rfl,rfl,rfl,rfl⟩
theorem heads_same (s:Cst) (b:List UInt8):(headsC s b).1.evs=s.evs∧(headsC s b).1.row=s.row∧(headsC s b).1.number=s.number∧(headsC s b).1.reads=s.reads:=by
 unfold headsC
 dsimp only
 split
 ·exact ⟨rfl,rfl,rfl,rfl⟩
 ·split
  ·exact ⟨rfl,rfl,rfl,rfl⟩
  ·split
   ·exact whole_same _
   ·exact ⟨rfl,rfl,rfl,rfl⟩
theorem Fresh.same {s z:Cst} (h:Fresh s) (e:z.evs=s.evs∧z.row=s.row∧z.number=s.number∧z.reads=s.reads):Fresh z:=by
 obtain ⟨e1,e2,e3,e4⟩:=e
 exact ⟨by rw [e3,e1]; exact h.nm,by rw [e1]; exact h.ids,by rw [e1,e2,e4]; exact h.row,by rw [e1,e2,e4]; exact h.few,by rw [e1]; exact h.all⟩
def Due (q:Sp24):Prop:=(q.2.1=none∧Fresh q.1) ∨ (q.2.1 ≠ none∧q.1.number=q.1.evs.length∧idsC 0 q.1.evs∧q.1.row=asksC 0 q.1.evs∧q.1.evs.length ≤ 64)
theorem due_of {s z:Cst} (h:Fresh s) (hr:s.reads=true) (e:z.evs=s.evs∧z.row=s.row∧z.number=s.number∧z.reads=s.reads) (st:Option Int) (r:List UInt8):Due (z,st,r):=by
 cases st with
 | none=>exact .inl ⟨rfl,h.same e⟩
 | some x =>
  obtain ⟨e1,e2,e3,e4⟩:=e
  exact .inr ⟨by simp,by show z.number=_; rw [e3,e1]; exact h.nm,by show idsC 0 z.evs; rw [e1]; exact h.ids,by show z.row=asksC 0 z.evs; rw [e1,e2]; exact (h.few hr).1,by show z.evs.length ≤ 64; rw [e1]; exact h.all⟩
theorem heads_due {s:Cst} (h:Fresh s) (hr:s.reads=true) (b:List UInt8):Due (headsC s b):=due_of h hr (heads_same s b) _ _
theorem request_due {s:Cst} (h:Fresh s) (hr:s.reads=true) (r:List UInt8):Due ((requestC s).1,(requestC s).2,r):=by
 obtain ⟨hw,hf⟩:=h.few hr
 have e1:asksC 0 (s.evs ++ [⟨s.number,s.r,s.got⟩])=s.row ++ [.ask ⟨s.number,s.r,lastingC s.r,none⟩]:=by
  rw [asks_app,hw,h.nm]
  simp [asksC]
 have e2:idsC 0 (s.evs ++ [⟨s.number,s.r,s.got⟩]):=ids_app _ _ _ h.ids ⟨by rw [h.nm]; simp,trivial⟩
 have e3:(s.row ++ [Th24.ask ⟨s.number,s.r,lastingC s.r,none⟩]).length=s.evs.length + 1:=by rw [hw]; simp [asks_len]
 unfold requestC
 dsimp only
 rw [e3]
 by_cases hc:lastingC s.r=true∧s.evs.length + 1=64
 ·rw [if_pos hc]
  exact .inr ⟨by simp,by simp [h.nm],e2,e1.symm,by simp; omega⟩
 ·rw [if_neg hc]
  refine .inl ⟨rfl,by simp [h.nm],e2,.inl e1.symm,fun hl=>⟨e1.symm,?_⟩,by simp; omega⟩
  have:lastingC s.r=true:=hl
  have h6:¬ s.evs.length + 1=64:=fun x=>hc ⟨this,x⟩
  show (s.evs ++ [_]).length < 64
  rw [List.length_append]
  show s.evs.length + 1 < 64
  omega
theorem bodies_due {s:Cst} (h:Fresh s) (hr:s.reads=true) (b:List UInt8):Due (bodiesC s b):=by
 unfold bodiesC
 split
 ·exact due_of h hr (by exact ⟨rfl,rfl,rfl,rfl⟩) _ _
 ·rename_i rd _
  dsimp only
  have hs:Fresh { s with rd:=some (feedF rd b).1,got:=s.got ++ (feedF rd b).2.2.1 }:=h.same ⟨rfl,rfl,rfl,rfl⟩
  split
  ·exact due_of h hr (by exact ⟨rfl,rfl,rfl,rfl⟩) _ _
  ·split
   ·exact due_of h hr (by exact ⟨rfl,rfl,rfl,rfl⟩) _ _
   ·split
    ·exact request_due hs hr _
    ·exact due_of h hr (by exact ⟨rfl,rfl,rfl,rfl⟩) _ _
theorem end_fresh {q:Sp24} (h:Due q):Fresh (endC q).1:=by
 obtain ⟨s,st,r⟩:=q
 rcases h with ⟨h1,h2⟩ | ⟨h1,h2,h3,h4,h5⟩
 ·dsimp only at h1; subst h1; exact h2
 ·cases st with
  | none=>exact absurd rfl h1
  | some x=>exact ⟨h2,h3,.inr ⟨rfl,x,congrArg (· ++ [Th24.ref x]) h4⟩,(fun e=>by cases e),h5⟩
theorem read_fresh {s:Cst} (h:Fresh s) (hr:s.reads=true) (b:List UInt8):Fresh (readC s b).1:=by
 by_cases hb:s.inBody=true
 ·rw [read_b _ hb]; exact end_fresh (bodies_due h hr b)
 ·rw [read_h _ (by simpa using hb)]
  split
  ·exact end_fresh (bodies_due (h.same (heads_same s b)) ((heads_same s b).2.2.2.trans hr) _)
  ·exact end_fresh (heads_due h hr b)
theorem reads_fresh:∀ (n:Nat) (s:Cst) (b:List UInt8),Fresh s → Fresh (readsC n s b)
 | 0,_,_,h=>h
 | n + 1,s,b,h=>by
  show Fresh (if _ then _ else _)
  split
  ·rename_i hc
   exact reads_fresh n _ _ (read_fresh h hc.1 b)
  ·exact h
theorem all_fresh {s:Cst} (h:Fresh s) (b:List UInt8):Fresh (allC s b):=reads_fresh _ _ _ h
theorem new_fresh (m:Nat):Fresh (newC m):=⟨rfl,trivial,.inl rfl,fun _=>⟨rfl,(by decide:(0:Nat) < 64)⟩,(by decide:(0:Nat) ≤ 64)⟩
theorem new_cok {m:Nat} (h:m ≤ 1048576):Cok (newC m):=⟨h,newP_ok false,rfl,fun e=>by cases e⟩
theorem writes_none (rd:Bool) {a:Ask24} (h:a.ans=none) (t:List Th24):writesC rd (.ask a :: t)=([],.ask a :: t):=by
 show (match a.ans with | none=>_ | some x=>_)=_
 rw [h]
theorem writes_some (rd:Bool) {a:Ask24} {x:List UInt8} (h:a.ans=some x) (t:List Th24):writesC rd (.ask a :: t)=(writtenC a (decide (t=[]) && !rd) x ++ (writesC rd t).1,(writesC rd t).2):=by
 show (match a.ans with | none=>_ | some x=>_)=_
 rw [h]
theorem writes_two (rd:Bool):∀ l:List Th24,writesC rd (writesC rd l).2=([],(writesC rd l).2)
 | []=>rfl
 | .ref st :: t=>writes_two rd t
 | .ask a :: t=>by
  cases h:a.ans with
  | none=>rw [writes_none rd h]; exact writes_none rd h t
  | some x=>rw [writes_some rd h]; exact writes_two rd t
theorem write_two (s:Cst):writeC (writeC s)=writeC s:=by
 unfold writeC
 dsimp only
 rw [writes_two]
 simp
theorem writes_asks (rd:Bool):∀ (l:List Ev24) (i:Nat),writesC rd (asksC i l)=([],asksC i l)
 | [],_=>rfl
 | _ :: _,_=>rfl
theorem write_asks {s:Cst} {l:List Ev24} {i:Nat} (h:s.row=asksC i l):writeC s=s:=by
 unfold writeC
 rw [h,writes_asks]
 obtain ⟨a1,a2,a3,a4,a5,a6,a7,a8,a9,b1,b2,b3,b4⟩:=s
 dsimp only at h
 subst h
 simp
def putC (z:Cst):Cst:={ writeC z with evs:=[] }
theorem put_input {z:Cst} (hf:Fresh z) (p:List UInt8):inputC (putC z) p=(putC (allC z p),(allC z p).evs.drop z.evs.length)∧(allC z p).evs=z.evs ++ (inputC (putC z) p).2:=by
 by_cases hr:z.reads=true
 ·have hw:=write_asks (hf.few hr).1
  have e1:pushE z.evs (putC z)=z:=by
   unfold putC
   rw [hw]
   simp [pushE]
  have e2:allC z p=pushE z.evs (allC (putC z) p):=by rw [← all_push,e1]
  have e3:(writeC (allC (putC z) p)).evs=(allC (putC z) p).evs:=rfl
  refine ⟨?_,?_⟩
  ·unfold inputC
   dsimp only
   rw [show readsC p.length (putC z) p=allC (putC z) p from rfl,e2]
   refine Prod.ext ?_ ?_
   ·rfl
   ·show (writeC (allC (putC z) p)).evs=_
    simp [pushE,writeC]
  ·rw [e2]; rfl
 ·have hr:z.reads=false:=by simpa using hr
  have e0:allC z p=z:=all_no p hr
  have e1:allC (putC z) p=putC z:=all_no p hr
  have e2:writeC (putC z)=putC z:=by
   unfold putC
   have:=write_two z
   unfold writeC at this ⊢
   dsimp only at this ⊢
   have h1:=congrArg Cst.out this
   have h2:=congrArg Cst.row this
   dsimp only at h1 h2
   rw [h1,h2]
  have e3:inputC (putC z) p=(putC z,[]):=by
   unfold inputC
   dsimp only
   rw [show readsC p.length (putC z) p=allC (putC z) p from rfl,e1,e2]
   rfl
  rw [e3,e0]
  exact ⟨by simp,by simp⟩
end Go.Proofs.YthbofilcnpdghaaGreatDoor
end
section
namespace Go.Proofs.YthbofilcnpdghaaGreatDoor
open Go.RowKit
theorem run_inv_go:∀ (l u:List UInt8) (s:Pst),HInv u s → s.done=false → (runP s l).2.2=0 → (runP s l).1.done=false → ∃ v,HInv v (runP s l).1
 | [],u,s,h,_,_,_=>⟨u,h⟩
 | c :: l,u,s,h,h0,h1,h2=>by
  rw [run_cons] at h1 h2 ⊢
  by_cases k1:(takeP s c).2 ≠ 0
  ·rw [if_pos k1] at h1; exact absurd h1 k1
  ·rw [if_neg k1] at h1 h2 ⊢
   have hi:=take_inv (c:=c) h (by simpa using k1) h0
   by_cases k2:(takeP s c).1.done=true
   ·rw [if_pos k2] at h2; exact absurd k2 (by rw [h2]; decide)
   ·rw [if_neg k2] at h1 h2 ⊢
    exact run_inv_go l (u ++ [c]) _ (hi.2 (by simpa using k2)) (by simpa using k2) h1 h2
theorem feed_inv {u:List UInt8} {s:Pst} (h:HInv u s) (hp:Pok s) (b:List UInt8) (h3:(feedP s b).2.2.2=0) :
  ((feedP s b).2.2.1=true → (∃ v,HEnd v (feedP s b).1)∧(feedP s b).1.done=true)∧((feedP s b).2.2.1=false → ∃ v,HInv v (feedP s b).1):=by
 have hc:¬ (s.done=true ∨ s.e ≠ 0):=by rw [hp.d0,hp.e0]; simp
 unfold feedP at h3 ⊢
 rw [if_neg hc] at h3 ⊢
 dsimp only at h3 ⊢
 rw [h3]
 refine ⟨fun hd=>?_,fun hd=>?_⟩
 ·have hd:(runP s b).1.done=true:=by simpa using hd
  have hi:=run_inv b u s h hp.d0 h3 hd
  exact ⟨⟨_,hi.ends,hi.tok,hi.tg,hi.lm,hi.lt,hi.flds⟩,hd⟩
 ·have hd:(runP s b).1.done=false:=by simpa using hd
  obtain ⟨v,hi⟩:=run_inv_go b u s h hp.d0 h3 hd
  exact ⟨v,hi.nx,hi.ends,hi.crU,hi.first,hi.ln,hi.flds⟩
def Rq8 (r:Rq24):Prop:=r.1.length ≤ 8192∧r.2.1.length ≤ 8192∧Fl8 r.2.2.2
theorem ask_8 {p:Pst} {v:List UInt8} (h:HEnd v p) (hf:p.fields.length ≤ 100):Rq8 (askP p):=by
 unfold askP
 split
 ·exact ⟨h.lm,h.lt,hf,fun f hf=>⟨(h.flds f hf).2.2.2.1,(h.flds f hf).2.2.2.2⟩⟩
 ·exact ⟨Nat.zero_le _,Nat.zero_le _,Nat.zero_le _,fun f hf=>by cases hf⟩
theorem whole_r (s:Cst):(wholeC s).1.r=askP s.hp∧(wholeC s).1.hp=newP false:=by
 unfold wholeC
 dsimp only
 split
 ·exact ⟨rfl,rfl⟩
 ·split
  ·exact ⟨rfl,rfl⟩
  ·split
   ·exact ⟨rfl,rfl⟩
   ·split
    ·exact ⟨rfl,rfl⟩
    ·split
     ·exact ⟨rfl,rfl⟩
     ·split <;> exact ⟨rfl,rfl⟩
theorem bodies_hp (s:Cst) (b:List UInt8):(bodiesC s b).1.hp=s.hp∧(bodiesC s b).1.r=s.r∧((bodiesC s b).1.inBody=true → s.inBody=true):=by
 unfold bodiesC
 split
 ·exact ⟨rfl,rfl,id⟩
 ·dsimp only
  split
  ·exact ⟨rfl,rfl,id⟩
  ·split
   ·exact ⟨rfl,rfl,id⟩
   ·split
    ·exact ⟨rfl,rfl,fun e=>by cases e⟩
    ·exact ⟨rfl,rfl,id⟩
structure Cgo (s:Cst):Prop where
 ok:Cok s
 inv:∃ u,HInv u s.hp
 fl:s.inBody=true → Rq8 s.r
theorem done_8 {s:Cst} (hk:Cgo s) (b:List UInt8) (h2:(feedP s.hp b).2.2.1=true) (h3:(feedP s.hp b).2.2.2=0):Rq8 (askP (feedP s.hp b).1):=by
 obtain ⟨u,hu⟩:=hk.inv
 obtain ⟨⟨v,hv⟩,hd⟩:=(feed_inv hu hk.ok.hp b h3).1 h2
 exact ask_8 hv (feed_rf b s.hp hk.ok.hp.fl).2
theorem heads_go {s:Cst} (hk:Cgo s) (h0:s.inBody=false) (b:List UInt8) (hn:(headsC s b).2.1=none) :
  ((headsC s b).1.inBody=true → (headsC s b).1.hp=newP false∧Rq8 (headsC s b).1.r)∧((headsC s b).1.inBody=false → ∃ u,HInv u (headsC s b).1.hp):=by
 refine ⟨fun hi=>?_,fun hi=>?_⟩
 ·obtain ⟨h1,h2⟩:=inBody_heads hi h0 hn
  have e:headsC s b=((wholeC (looksC { s with hp:=(feedP s.hp b).1 } (b.take (feedP s.hp b).2.1))).1,(wholeC (looksC { s with hp:=(feedP s.hp b).1 } (b.take (feedP s.hp b).2.1))).2,b.drop (feedP s.hp b).2.1):=by
   unfold headsC
   dsimp only
   rw [h1,h2]
   simp
  rw [e]
  obtain ⟨w1,w2⟩:=whole_r (looksC { s with hp:=(feedP s.hp b).1 } (b.take (feedP s.hp b).2.1))
  exact ⟨w2,by show Rq8 (wholeC _).1.r; rw [w1]; exact done_8 hk b h1 h2⟩
 ·obtain ⟨u,hu⟩:=hk.inv
  by_cases h1:(feedP s.hp b).2.2.2=0
  ·cases h2:(feedP s.hp b).2.2.1 with
   | false =>
    have e:headsC s b=(looksC { s with hp:=(feedP s.hp b).1 } (b.take (feedP s.hp b).2.1),none,b.drop (feedP s.hp b).2.1):=by
     unfold headsC
     dsimp only
     rw [h1,h2]
     simp
    rw [e]
    exact (feed_inv hu hk.ok.hp b h1).2 h2
   | true =>
    exfalso
    have e:headsC s b=((wholeC (looksC { s with hp:=(feedP s.hp b).1 } (b.take (feedP s.hp b).2.1))).1,(wholeC (looksC { s with hp:=(feedP s.hp b).1 } (b.take (feedP s.hp b).2.1))).2,b.drop (feedP s.hp b).2.1):=by
     unfold headsC
     dsimp only
     rw [h1,h2]
     simp
    rw [e] at hi hn
    have:=(whole_ok (by exact hk.ok.mo) hn).2.2.1
    rw [show (wholeC (looksC { s with hp:=(feedP s.hp b).1 } (b.take (feedP s.hp b).2.1))).1.inBody=false from hi] at this
    cases this
  ·exfalso
   unfold headsC at hn
   dsimp only at hn
   split at hn
   ·cases hn
   ·cases hn
theorem read_go {s:Cst} (hk:Cgo s) {b:List UInt8} (hb:b ≠ []) (h:(readC s b).1.reads=true):Cgo (readC s b).1:=by
 have hok:=(read_ok hk.ok hb h).1
 by_cases hi:s.inBody=true
 ·rw [read_b _ hi] at h hok ⊢
  obtain ⟨hn,he⟩:=end_reads h
  rw [he] at hok ⊢
  obtain ⟨p1,p2,p3⟩:=bodies_hp s b
  exact ⟨hok,by rw [p1]; exact hk.inv,fun e=>by rw [p2]; exact hk.fl hi⟩
 ·have hi:s.inBody=false:=by simpa using hi
  rw [read_h _ hi] at h hok ⊢
  by_cases hc:(headsC s b).2.1=none∧(headsC s b).1.inBody=true
  ·rw [if_pos hc] at h hok ⊢
   obtain ⟨hn,he⟩:=end_reads h
   rw [he] at hok ⊢
   obtain ⟨p1,p2,p3⟩:=bodies_hp (headsC s b).1 (headsC s b).2.2
   obtain ⟨g1,g2⟩:=(heads_go hk hi b hc.1).1 hc.2
   exact ⟨hok,by rw [p1,g1]; exact ⟨_,newP_inv⟩,fun e=>by rw [p2]; exact g2⟩
  ·rw [if_neg hc] at h hok ⊢
   obtain ⟨hn,he⟩:=end_reads h
   rw [he] at hok ⊢
   have hf:(headsC s b).1.inBody=false:=by
    cases hq:(headsC s b).1.inBody with
    | false=>rfl
    | true=>exact absurd ⟨hn,hq⟩ hc
   exact ⟨hok,(heads_go hk hi b hn).2 hf,fun e=>by rw [hf] at e; cases e⟩
theorem new_go {m:Nat} (h:m ≤ 1048576):Cgo (newC m):=⟨new_cok h,⟨_,newP_inv⟩,fun e=>by cases e⟩
end Go.Proofs.YthbofilcnpdghaaGreatDoor
end
section
namespace Go.Proofs.YthbofilcnpdghaaGreatDoor
open Go.RowKit
def AllB (s t:Rst):Prop:=t.all + s.body.length=t.body.length + s.all∧t.most=s.most
theorem AllB.rfl' (s:Rst):AllB s s:=⟨Nat.add_comm _ _,rfl⟩
theorem AllB.tr {a b c:Rst} (h:AllB a b) (k:AllB b c):AllB a c:=by
 obtain ⟨h1,h2⟩:=h
 obtain ⟨k1,k2⟩:=k
 exact ⟨by omega,k2.trans h2⟩
theorem text_allB (s:Rst) (c:UInt8):AllB s (textF s c).1:=by
 unfold textF
 split
 ·split <;> exact ⟨Nat.add_comm _ _,rfl⟩
 ·split
  ·exact ⟨Nat.add_comm _ _,rfl⟩
  ·split
   ·split <;> exact ⟨Nat.add_comm _ _,rfl⟩
   ·exact ⟨Nat.add_comm _ _,rfl⟩
theorem size_allB (s:Rst) (l:List UInt8):AllB s (sizeL s l).1:=by
 unfold sizeL
 split
 ·split <;> exact ⟨Nat.add_comm _ _,rfl⟩
 ·exact ⟨Nat.add_comm _ _,rfl⟩
theorem tail_allB (s:Rst) (l:List UInt8):AllB s (tailL s l).1:=by
 unfold tailL
 split
 ·exact ⟨Nat.add_comm _ _,rfl⟩
 ·split
  ·exact ⟨Nat.add_comm _ _,rfl⟩
  ·split <;> exact ⟨Nat.add_comm _ _,rfl⟩
theorem take_allB (s:Rst) (c:UInt8):AllB s (takeF s c).1:=by
 unfold takeF
 split
 ·unfold plainF
  split
  ·exact ⟨by simp; omega,rfl⟩
  ·exact AllB.rfl' s
 ·split
  ·unfold sizeF
   split
   ·rename_i h; have:=text_allB s c; rw [h] at this; exact this
   ·rename_i h; have:=text_allB s c; rw [h] at this; exact this.tr (size_allB _ _)
  ·split
   ·unfold dataF
    split
    ·exact ⟨by simp; omega,rfl⟩
    ·exact ⟨by simp; omega,rfl⟩
   ·split
    ·unfold behindF
     by_cases hc:c=(if s.left=2 then 13 else 10)
     ·rw [if_pos hc]
      by_cases h1:s.left=1
      ·rw [if_pos h1]; exact ⟨Nat.add_comm _ _,rfl⟩
      ·rw [if_neg h1]; exact ⟨Nat.add_comm _ _,rfl⟩
     ·rw [if_neg hc]; exact AllB.rfl' s
    ·unfold trailF
     split
     ·rename_i h; have:=text_allB s c; rw [h] at this; exact this
     ·rename_i h; have:=text_allB s c; rw [h] at this; exact this.tr (tail_allB _ _)
theorem run_allB:∀ (l:List UInt8) (s:Rst),AllB s (runF s l).1
 | [],s=>AllB.rfl' s
 | c :: l,s=>by
  rw [runF_cons]
  split
  ·exact AllB.rfl' s
  ·split
   ·exact take_allB s c
   ·exact (take_allB s c).tr (run_allB l _)
theorem go_allB (s:Rst) (b:List UInt8):AllB s (goF s b).1:=by
 have hr:AllB s (readyF s).1:=by
  unfold readyF
  split
  ·exact ⟨Nat.add_comm _ _,rfl⟩
  ·split
   ·split <;> exact ⟨Nat.add_comm _ _,rfl⟩
   ·exact AllB.rfl' s
 unfold goF
 split
 ·exact AllB.rfl' s
 ·dsimp only
  split
  ·exact hr
  ·exact hr.tr (run_allB b _)
def GotOk (s:Cst):Prop:=s.inBody=true → ∃ r,s.rd=some r∧Rok r∧r.body=[]∧s.got.length ≤ r.all
theorem feed_fits {r:Rst} (hr:Rok r) (hb:r.body=[]) (b:List UInt8):(feedF r b).2.2.1.length + r.all=(feedF r b).1.all∧(feedF r b).1.body=[]∧(feedF r b).1.most=r.most:=by
 have h:=go_allB r b
 unfold feedF
 dsimp only
 obtain ⟨h1,h2⟩:=h
 rw [hb] at h1
 exact ⟨by simp at h1; omega,rfl,h2⟩
theorem feed_all_le {r:Rst} (hr:Rok r) (b:List UInt8):(feedF r b).1.all ≤ r.most:=by
 show (goF r b).1.all ≤ _
 unfold goF
 split
 ·exact hr.al
 ·dsimp only
  have hok:=ready_okF hr
  have hm:(readyF r).1.most=r.most:=by
   unfold readyF
   split
   ·rfl
   ·split
    ·split <;> rfl
    ·rfl
  split
  ·show (readyF r).1.all ≤ _
   rw [← hm]; exact hok.al
  ·show (runF (readyF r).1 b).1.all ≤ _
   have:=(runF_ok b _ hok).al
   rw [← hm,← (run_allB b (readyF r).1).2]
   exact this
theorem bodies_got {s:Cst} (h:GotOk s) (hi:s.inBody=true) (b:List UInt8) (hn:(bodiesC s b).2.1=none):GotOk (bodiesC s b).1:=by
 obtain ⟨r,h1,hr,hb,hl⟩:=h hi
 obtain ⟨f1,f2,f3⟩:=feed_fits hr hb b
 intro hi2
 unfold bodiesC at hn hi2 ⊢
 rw [h1] at hn hi2 ⊢
 dsimp only at hn hi2 ⊢
 split at hn
 ·cases hn
 ·rename_i k1
  rw [if_neg k1] at hi2 ⊢
  split at hn
  ·cases hn
  ·rename_i k2
   rw [if_neg k2] at hi2 ⊢
   split at hn
   ·rename_i k3
    rw [if_pos k3] at hi2
    cases hi2
   ·rename_i k3
    rw [if_neg k3]
    by_cases hd:r.done=true
    ·exfalso
     apply k3
     show (goF r b).1.done=true
     unfold goF
     rw [if_pos (.inl hd)]; exact hd
    ·exact ⟨_,rfl,(rgo_feed hr (by simpa using hd) b (by simpa using k3) (by simpa using k2)).1,f2,by show (s.got ++ _).length ≤ _; rw [List.length_append]; omega⟩
theorem whole_got {s:Cst} (hm:s.most ≤ 1048576) (h:(wholeC s).2=none):GotOk (wholeC s).1:=by
 obtain ⟨_,_,h3,_,_,_,_,h8,r,hr,hok,hd⟩:=whole_ok hm h
 intro _
 refine ⟨r,hr,hok,?_,by rw [h8]; exact Nat.zero_le _⟩
 unfold wholeC at hr h
 dsimp only at hr h
 split at h
 ·cases h
 ·rename_i k1
  rw [if_neg k1] at hr
  split at h
  ·cases h
  ·rename_i k2
   rw [if_neg k2] at hr
   split at h
   ·cases h
   ·rename_i k3
    rw [if_neg k3] at hr
    split at h
    ·cases h
    ·rename_i k4
     rw [if_neg k4] at hr
     split at h
     ·cases h
     ·rename_i k5
      rw [if_neg k5] at hr
      split at h
      ·cases h
      ·rename_i k6
       rw [if_neg k6] at hr
       cases hr
       rfl
theorem heads_got {s:Cst} (hm:s.most ≤ 1048576) (h0:s.inBody=false) (b:List UInt8) (hn:(headsC s b).2.1=none):GotOk (headsC s b).1:=by
 intro hi
 obtain ⟨h1,h2⟩:=inBody_heads hi h0 hn
 have e:headsC s b=((wholeC (looksC { s with hp:=(feedP s.hp b).1 } (b.take (feedP s.hp b).2.1))).1,(wholeC (looksC { s with hp:=(feedP s.hp b).1 } (b.take (feedP s.hp b).2.1))).2,b.drop (feedP s.hp b).2.1):=by
  unfold headsC
  dsimp only
  rw [h1,h2]
  simp
 rw [e] at hi hn ⊢
 exact whole_got (by exact hm) hn hi
theorem read_got {s:Cst} (hk:Cgo s) (h:GotOk s) {b:List UInt8} (hr:(readC s b).1.reads=true):GotOk (readC s b).1:=by
 by_cases hi:s.inBody=true
 ·rw [read_b _ hi] at hr ⊢
  obtain ⟨hn,he⟩:=end_reads hr
  rw [he]
  exact bodies_got h hi b hn
 ·have hi:s.inBody=false:=by simpa using hi
  rw [read_h _ hi] at hr ⊢
  by_cases hc:(headsC s b).2.1=none∧(headsC s b).1.inBody=true
  ·rw [if_pos hc] at hr ⊢
   obtain ⟨hn,he⟩:=end_reads hr
   rw [he]
   exact bodies_got (heads_got hk.ok.mo hi b hc.1) hc.2 _ hn
  ·rw [if_neg hc] at hr ⊢
   obtain ⟨hn,he⟩:=end_reads hr
   rw [he]
   exact heads_got hk.ok.mo hi b hn
theorem new_got (m:Nat):GotOk (newC m):=fun e=>by cases e
end Go.Proofs.YthbofilcnpdghaaGreatDoor
end
section
namespace Go.Proofs.YthbofilcnpdghaaGreatDoor
open Go.RowKit
def RestV (q:Sp24) (e:Ending) (w':World) (o':Ow):Prop:=match q.2.1 with
 | none=>∃ B d,e=.returned (.slice B q.2.2.length d)∧q.2.2.length ≤ d∧Ro w' o' B (bc q.2.2)
 | some st=>e=.panicked [{ v:=.iface 85 (.int .i64 st),recovered:=false }]
def EndsS (K:Nat → Prop) (k:Nat) (w:World) (o:Ow) (c:Nat) (Q:Option Addr → Prop) (q:Sp24) (e:Ending) (w':World):Prop:=∃ o' R,CnAtR w' o' k c q.1 R∧Sto K w o w' o'∧RestV q e w' o'∧(q.2.1=none → Q R)
theorem cut_ro (ty el:TypeId) (hu:Tryz.prog.underlying ty=some (.slice el)) (hz:∀ w',(Go.sizeOf el).run Tryz.prog w'=.ok 1 w') (b:List UInt8) (B:Option Addr) (n c X:Nat) (x:Int) (hx:x=(X:Int)) (hl:n=b.length) (hX:X ≤ n) (hc:n ≤ c) :
  ∃ B',(∀ w',(Instr.slice ty (.slice B n c) (some (.int .i64 x)) none none).run Tryz.prog w'=.ok (.slice B' (n - X) (c - X)) w')∧∀ w' o',Ro w' o' B (bc b) → Ro w' o' B' (bc (b.drop X)):=by
 subst hx
 refine ⟨if c=X then B else B.map (·.add X),fun w'=>?_,fun w' o' hR=>?_⟩
 ·have h2:(X:Int) ≤ (n:Int):=by omega
  have h3:(0:Int) ≤ (X:Int):=by omega
  have h4:(0:Int) ≤ (n:Int):=by omega
  have h5:(n:Int) ≤ (c:Int):=by omega
  simp [Instr.slice,Instr.sliceBounds,Instr.sliceBound,asIntOf,run_underlying hu,go_sem,h2,h3,h4,h5,hz,hX,hc]
 ·by_cases h0:X=n
  ·exact .inl (by rw [h0,hl]; simp [bc])
  ·rw [if_neg (by omega)]
   rcases hR with h | ⟨g,f,rfl,hg,ho,hcc⟩
   ·refine .inl ?_
    have:b=[]:=by simpa [bc] using h
    rw [this]; simp [bc]
   ·refine .inr ⟨g,f + X,by simp [Addr.add,add_mk],hg,ho,fun j u hu=>?_⟩
    rw [Nat.add_assoc]
    exact hcc (X + j) u (by rw [← hu,bc,bc,List.map_drop,List.getElem?_drop])
theorem CnX.rdPut {w w2:World} {o o2:Ow} {k c R:Nat} {s:Cst} {a:Cad} (hk:0 < k) (hk8:k < 80) (h:CnX w o k c s a) (hR:a.R=some ⟨R,0,none⟩) (r:Rst) (st:Stp (KF (k + 9)) w o w2 o2) (hf:FsAt w2 o2 (k + 9) R r) :
  CnX w2 o2 k c { s with rd:=some r } a∧Sto (KC k) w o w2 o2:=by
 obtain ⟨ho,hr,hp⟩:=h
 have t:=st.sto
 have h0:¬ KF (k + 9) 0:=by unfold KF; omega
 refine ⟨⟨(t.own c (row_lt hr) (by rw [ho]; unfold KF; omega)).trans ho,hr.sto t (by rw [ho]; unfold KF; omega),?_⟩,t.mono fun i hi=>by unfold KF at hi; unfold KC; omega⟩
 exact ⟨hp.hp.sto t (by unfold KF; omega) (by unfold KF; omega) (by unfold KF; omega),⟨R,hR,hf⟩,hp.r.sto t h0,hp.got.sto t (by unfold KF; omega),hp.evsS t h0 (by unfold KF; omega),hp.ez,hp.rowS t h0 (by unfold KF; omega) (fun a _=>by unfold KF KA; omega),hp.lz,hp.out.sto t (by unfold KF; omega),hp.oz⟩
theorem nBodies_c (w0:World) (hL:Lb w0) (k c:Nat) (hk:0 < k) (hk8:k < 80) (s:Cst) (hi:s.inBody=true) (hg:GotOk s) (hf:Rq8 s.r) (he:s.evs.length ≤ 99) (hrow:s.row.length ≤ 100) (hnum:s.number ≤ 1000000) (b:List UInt8) (B:Option Addr) (n d:Nat) (hn:n=b.length) (hd:n ≤ d) (hnb:n ≤ 4611686018427387904) (w:World) (o:Ow) (hO:Old w0 w o) (RA:Option Addr) (h:CnAtR w o k c s RA) (hB:Ro w o B (bc b)) :
  Calls Tryz.prog 64 #[.pointer (some ⟨c,0,none⟩),.slice B n d] w (EndsS (KC k) k w o c (fun R'=>R'=RA) (bodiesC s b)):=by
 obtain ⟨a,hx,hnx⟩:=h
 obtain ⟨r,hrd,hrok,hrb,hrl⟩:=hg hi
 have hRd:=hx.p.rd
 rw [hrd] at hRd
 obtain ⟨R,hR,hfs⟩:=hRd
 have CF:=Lib.hid (fFeed_c (k + 9) R (by omega) r (.inr (.inr hrok)) b B n d hn hnb w o hfs (hO.glF hL) hB.rd (fun hne a ha hl=>by
  rcases hB with h0 | ⟨g,f,hA,_,hog,_⟩
  ·exact absurd (by simpa [bc] using h0) hne
  ·rw [hA] at ha; cases ha; show ¬ KF (k + 9) (o g); rw [hog]; unfold KF; omega))
 have c8:=hx.row.c8
 rw [hR] at c8
 have HQ:=Lib.hid (show bodiesC s b=(let q:=feedF r b; let s1:Cst:={ s with rd:=some q.1,got:=s.got ++ q.2.2.1 }; if q.2.2.2.2=6 then (s1,some 413,b.drop q.2.1) else if q.2.2.2.2 ≠ 0 then (s1,some 400,b.drop q.2.1) else if q.2.2.2.1=true then ((requestC s1).1,(requestC s1).2,b.drop q.2.1) else (s1,none,b.drop q.2.1)) from by unfold bodiesC; rw [hrd])
 obtain ⟨ff1,ff2,ff3⟩:=feed_fits hrok hrb b
 have ff4:=feed_all_le hrok b
 have hul:=usedF_le r b
 obtain ⟨⟨r2,u,bd,dn,er⟩,hq⟩:∃ q,q=feedF r b:=⟨_,rfl⟩
 rw [← hq] at CF HQ ff1 ff2 ff3 ff4 hul
 dsimp only at HQ ff1 ff2 ff3 ff4 hul
 have hgb:s.got.length + bd.length ≤ 1048576:=by have:=hrok.mo; omega
 obtain ⟨B',hcut,hcro⟩:=cut_ro 22 5 Tryz.underlying22 (fun _=>rfl) b B n d u (u:Int) rfl hn (by omega) hd
 have HCR:=Lib.hid hcro
 have HX:=Lib.hid hx
 have HNX:=Lib.hid hnx
 have HB:=Lib.hid hB
 have HF:=Lib.hid hf
 have HR:=Lib.hid hR
 have HN:=Lib.hid hn
 clear hx hnx hrd hrok hrb hrl hfs hq ff1 ff2 ff3 ff4 hcro hB hR hf hg hn hO
 go_enter Tryz.func64,Tryz.ntmps64
 go_upto_region 2 with (first
  | (go_at_call 36; refine (CF.out).mono ?_; rintro e w2 ⟨v,o2,rfl,⟨⟨C,g,rfl,hC⟩,hf2⟩,st2⟩; dsimp only at hC; obtain ⟨hX2,sto2⟩:=HX.out.rdPut hk hk8 HR.out r2 st2 hf2; have HC:=Lib.hid hC; have HX2:=Lib.hid hX2; have STO2:=Lib.hid sto2; clear hC hf2 st2 hX2 sto2))
 have hX2:=HX2.out
 have d14:w2.cell? ⟨c,14,none⟩=some (.slice a.B a.nb a.cb):=hX2.row.c14
 obtain ⟨e1,e2,e3⟩:=hX2.p.got hi
 dsimp only at e1 e2
 rw [e1] at d14
 have HG2:=Lib.hid (show Sl w2 o2 (k + 4) 1 a.B s.got.length a.cb (bc s.got) from by rw [← e1]; exact e2)
 have HB2:=Lib.hid (HB.out.sto STO2.out (kc0 hk))
 obtain ⟨gl,hgl⟩:∃ x,x=s.got.length:=⟨_,rfl⟩
 have HGL:=Lib.hid hgl
 rw [← hgl] at d14 HG2 hgb
 clear hX2 e1 e2 hgl CF c8
 go_cut [] (fun wx=>AtC k c w2 o2 { s with rd:=some r2,got:=s.got ++ bd } (nxC true,RA) wx)
 case first =>
  go_wp2_with (first
   | (at_builtin; refine wpL_put slt_u8 (.tmp 24) (.tmp 25) rfl rfl rfl rfl HG2.out e3 (Sl.src Tryz.underlying22 HC.out.rd (by rw [bc_len]; omega) (by omega) (bc_one bd) g) (by omega) (by simp only [maxLen]; omega) ?_; intro A5 c5 w5 o5 hs5 st5 hn5; have r5:=(st5.sto.keep c (row_lt HX2.out.row) (by rw [HX2.out.own]; omega)).trans HX2.out.row; have y14:=(row_facts r5 14 _ rfl).1; have g14:=(row_facts r5 14 _ rfl).2; have HT:=Lib.hid (HX2.out.gotPut hk hk8 st5 bd (A5:=A5) (c5:=c5) (by show Sl w5 o5 (k + 4) 1 A5 (s.got.length + bd.length) c5 (bc s.got ++ bc bd); rw [← HGL.out]; exact hs5) hn5); clear r5 hs5 st5 hn5))
  go_meet
  rw [HGL.out]
  exact ⟨o5,_,HT.out.1,HT.out.2,by rw [← hi]; exact HNX.out⟩
 case rest =>
  obtain ⟨o6,a6,hX6,st6,hn6⟩:=hcut
  have HB6:=Lib.hid (HB2.out.sto st6 (kc0 hk))
  have STO6:=Lib.hid (STO2.out.tr st6)
  obtain ⟨s1,hs1⟩:∃ s1:Cst,s1={ s with rd:=some r2,got:=s.got ++ bd }:=⟨_,rfl⟩
  rw [← hs1] at hX6 HQ
  have hq1:s1.inBody=true∧s1.evs=s.evs∧s1.row=s.row∧s1.number=s.number∧s1.r=s.r:=by rw [hs1]; exact ⟨hi,rfl,rfl,rfl,rfl⟩
  obtain ⟨q1,q2,q3,q4,q5⟩:=hq1
  have HA6:=Lib.hid (show CnAtR wc o6 k c s1 RA from ⟨a6,hX6,by rw [hn6,q1]⟩)
  have CR:=Lib.hid (nRequest_c k c hk hk8 s1 q1 (by rw [q5]; exact HF.out.2.2) (by rw [q2]; omega) (by rw [q3]; exact hrow) (by rw [q4]; exact hnum) wc o6 RA HA6.out)
  have HU:=Lib.hid (show (b.drop u).length=n - u from by rw [List.length_drop,HN.out])
  have hdu:n - u ≤ d - u:=by omega
  clear hX6 hs1 hn6 st6 q1 q2 q3 q4 q5 HX HX2 HB HB2 HC HG2 HNX STO2 HGL HR HF d14
  have HCR6:=Lib.hid (fun w' o' (t:Sto (KC k) wc o6 w' o')=>HCR.out w' o' (HB6.out.sto t (kc0 hk)))
  clear HCR HB6
  by_cases e6:er=6
  ·subst e6
   have HQ2:=Lib.hid (show bodiesC s b=(s1,some 413,b.drop u) from by rw [HQ.out]; rfl)
   clear HQ
   go_wp2_with (go_at_call 40; refine (nRefuse_c _ _).mono ?_; rintro e w9 ⟨rfl,rfl⟩)
   simp only [bodyPost]
   rw [HQ2.out]
   exact ⟨trivial,o6,RA,HA6.out,STO6.out,rfl,fun h=>by cases h⟩
  ·have k6:(er == 6)=false:=by rw [beq_eq_false_iff_ne]; exact e6
   by_cases e0:er=0
   ·subst e0
    cases dn with
    | false =>
     have HQ2:=Lib.hid (show bodiesC s b=(s1,none,b.drop u) from by rw [HQ.out]; rfl)
     clear HQ e6
     go_wp2
     go_ret
     rw [HQ2.out]
     exact ⟨o6,RA,HA6.out,STO6.out,⟨B',d - u,by rw [HU.out]; rfl,by rw [HU.out]; exact hdu,HCR6.out _ _ Sto.rfl'⟩,fun _=>rfl⟩
    | true =>
     have HQ2:=Lib.hid (show bodiesC s b=((requestC s1).1,(requestC s1).2,b.drop u) from by rw [HQ.out]; rfl)
     obtain ⟨⟨s2,st⟩,hq⟩:∃ q,q=requestC s1:=⟨_,rfl⟩
     rw [← hq] at CR HQ2
     clear HQ e6 hq
     cases st with
     | none =>
      have CR2:=Lib.hid (CR.out.mono (R':=fun e w'=>e=.returned (.tuple #[])∧∃ o' R',CnAtR w' o' k c s2 R'∧Sto (KC k) wc o6 w' o'∧(R'=RA)) (by rintro e w' ⟨rfl,o',R',h1,h2,h3⟩; exact ⟨rfl,o',R',h1,h2,h3 rfl⟩))
      clear CR
      go_wp2_with (go_at_call 91; refine (CR2.out).mono ?_; rintro e w7 ⟨rfl,o7,R7,hA7,st7,hR7⟩)
      go_ret
      rw [HQ2.out]
      exact ⟨o7,R7,hA7,STO6.out.tr st7,⟨B',d - u,by rw [HU.out]; rfl,by rw [HU.out]; exact hdu,HCR6.out _ _ st7⟩,fun _=>hR7⟩
     | some st =>
      have CR2:=Lib.hid (CR.out.mono (R':=fun e w'=>e=.panicked [{ v:=.iface 85 (.int .i64 st),recovered:=false }]∧∃ o' R',CnAtR w' o' k c s2 R'∧Sto (KC k) wc o6 w' o' ) (by rintro e w' ⟨rfl,o',R',h1,h2,h3⟩; exact ⟨rfl,o',R',h1,h2⟩))
      clear CR
      go_wp2_with (go_at_call 91; refine (CR2.out).mono ?_; rintro e w7 ⟨rfl,o7,R7,hA7,st7⟩)
      simp only [bodyPost]
      rw [HQ2.out]
      exact ⟨trivial,o7,R7,hA7,STO6.out.tr st7,rfl,fun h=>by cases h⟩
   ·have k0:(er != 0)=true:=by rw [bne_iff_ne]; exact e0
    have HQ2:=Lib.hid (show bodiesC s b=(s1,some 400,b.drop u) from by rw [HQ.out,if_neg e6,if_pos e0])
    clear HQ e6 e0
    go_wp2_with (go_at_call 40; refine (nRefuse_c _ _).mono ?_; rintro e w9 ⟨rfl,rfl⟩)
    simp only [bodyPost]
    rw [HQ2.out]
    exact ⟨trivial,o6,RA,HA6.out,STO6.out,rfl,fun h=>by cases h⟩
end Go.Proofs.YthbofilcnpdghaaGreatDoor
end
