/-
Head's parser as a thing with memory of its own; NewParser, clone.
-/
import Derived.Test.YthbofilcnpdghaaGreatDoorZae
import Derived.Test.YthbofilcnpdghaaGreatDoorZag
import Derived.Test.YthbofilcnpdghaaGreatDoorShelf
import Derived.Lib.SplitLaws
set_option maxRecDepth 100000
set_option maxHeartbeats 8000000
set_option linter.unusedVariables false
set_option linter.unusedSimpArgs false
section
namespace Go.Proofs.YthbofilcnpdghaaGreatDoor
open Go.RowKit
structure Pst where
 reply:Bool
 line:List UInt8
 cr:Bool
 done:Bool
 all:Nat
 empty:Nat
 e:Int
 nx:Nat
 meth:List UInt8
 targ:List UInt8
 minor:Int
 status:Int
 reason:List UInt8
 fields:List Fld
def Pst.cells (s:Pst) (p:Nat) (A:Option Addr) (c:Nat) (B:Option Addr) (d:Nat):Array Value :=
 #[.bool true,.bool s.reply,.slice A s.line.length c,.bool s.cr,.bool s.done,.int .i64 (s.all:Int),.int .i64 (s.empty:Int),.int .i64 s.e,.func (.func s.nx) #[.pointer (some ⟨p,0,none⟩)] #[],.string (str s.meth),.string (str s.targ),.int .i64 s.minor,.slice none 0 0,.int .i64 s.status,.string (str s.reason),.slice B s.fields.length d]
structure PsAt (w:World) (o:Ow) (k p:Nat) (s:Pst):Prop where
 own:o p=k
 at_:∃ A c B d,w.heap[p]?=some (.cells (s.cells p A c B d) 88 (0,0))∧Sl w o (k+1) 1 A s.line.length c (bc s.line)∧(A=none→c=0)∧Sl w o (k+2) 2 B s.fields.length d (fc s.fields)∧(B=none→d=0)
theorem PsAt.stp {K:Nat→Prop} {w w':World} {o o':Ow} {k p:Nat} {s:Pst} (h:PsAt w o k p s) (st:Stp K w o w' o') (h0:¬ K k) (h1:¬ K (k+1)) (h2:¬ K (k+2)):PsAt w' o' k p s:=by
 obtain ⟨A,c,B,d,hh,hs,hn,ht,hm⟩:=h.at_
 exact ⟨by rw [st.own p (row_lt hh)];exact h.own,A,c,B,d,by rw [st.keep p (row_lt hh) (by rw [h.own];exact h0)];exact hh,hs.stp st h1,hn,ht.stp st h2,hm⟩
theorem PsAt.ext {w w':World} {o:Ow} {k p:Nat} {s:Pst} (h:PsAt w o k p s) (e:Ext w w'):PsAt w' o k p s:=h.stp (K:=fun _=>False) (Stp.ext e) (fun x=>x) (fun x=>x) (fun x=>x)
def newP (r:Bool):Pst:=⟨r,[],false,false,0,0,0,if r then 38 else 37,[],[],0,0,[],[]⟩
theorem hNewParser_c (k:Nat) (r:Bool) (w:World) (o:Ow) :
  Calls Tryz.prog 22 #[.bool r] w (Turns (fun _=>False) w o fun v w' o'=>∃ p,v=.pointer (some ⟨p,0,none⟩)∧PsAt w' o' k p (newP r)∧w.heap.size≤p):=by
 cases r with
 | true =>
  go_enter Tryz.func22,Tryz.ntmps22
  go_wp2
  go_ret
  exact Turns.mk (fun b=>if b=w.heap.size then k else o b) rfl ⟨w.heap.size,rfl,⟨by simp,none,0,none,0,heap_alloc_new w _,Sl.nil_ _ _ _ _ _,fun _=>rfl,Sl.nil_ _ _ _ _ _,fun _=>rfl⟩,Nat.le_refl _⟩
   (Stp.ext2 Xq (fun b hb=>by rw [if_neg (by omega)]))
 | false =>
  go_enter Tryz.func22,Tryz.ntmps22
  go_wp2
  go_ret
  exact Turns.mk (fun b=>if b=w.heap.size then k else o b) rfl ⟨w.heap.size,rfl,⟨by simp,none,0,none,0,heap_alloc_new w _,Sl.nil_ _ _ _ _ _,fun _=>rfl,Sl.nil_ _ _ _ _ _,fun _=>rfl⟩,Nat.le_refl _⟩
   (Stp.ext2 Xq (fun b hb=>by rw [if_neg (by omega)]))
theorem fc_one (fs:List Fld):∀ u∈fc fs,u.oneCell'=true:=by
 intro u hu
 obtain ⟨p,_,hp⟩:=List.mem_flatMap.1 hu
 simp only [List.mem_cons,List.mem_nil_iff,or_false] at hp
 rcases hp with rfl | rfl <;> rfl
theorem hClone_c (j:Nat) (fs:List Fld) (B:Option Addr) (n d:Nat) (hn:n=fs.length) (hb:n≤1000000) (w:World) (o:Ow) (h:Rd w B (fc fs)) :
  Calls Tryz.prog 48 #[.slice B n d] w (Turns (fun _=>False) w o fun v w' o'=>∃ A c,v=.slice A fs.length c∧Sl w' o' j 2 A fs.length c (fc fs)∧(A=none→c=0)):=by
 subst hn
 have hms:maxLen=9223372036854775807:=rfl
 go_enter Tryz.func48,Tryz.ntmps48
 go_wp2_with (first
  | (at_builtin;refine wpL_fresh slt_fld (.const (.slice none 0 0)) (.tmp 3) rfl rfl (o:=o) j rfl rfl (Sl.src Tryz.underlying34 h (fc_len fs) (by omega) (fc_one fs) d) (by omega) (by omega) ?_;intro A5 c5 w5 o5 hs5 hst5 hn5))
 go_ret
 exact Turns.mk o5 rfl ⟨A5,c5,rfl,hs5,hn5⟩ hst5
def cutW (c:UInt8):List UInt8→Option (List UInt8 × List UInt8)
 | []=>none
 | b::l=>if b=c then some ([],l) else (cutW c l).map fun p=>(b::p.1,p.2)
theorem cutW_no {c:UInt8}:∀ {l:List UInt8},c∉l→cutW c l=none
 | [],_=>rfl
 | b::l,h=>by
  have h1:¬ b=c:=fun e=>h (by rw [e];exact List.mem_cons_self)
  have h2:=cutW_no (l:=l) (fun e=>h (List.mem_cons_of_mem _ e))
  unfold cutW
  rw [if_neg h1,h2];rfl
theorem cutW_at {c:UInt8}:∀ {a:List UInt8} (r:List UInt8),c∉a→cutW c (a++c::r)=some (a,r)
 | [],r,_=>by simp [cutW]
 | b::a,r,h=>by
  have h1:¬ b=c:=fun e=>h (by rw [e];exact List.mem_cons_self)
  have h2:=cutW_at (a:=a) r (fun e=>h (List.mem_cons_of_mem _ e))
  show cutW c (b::(a++c::r))=_
  unfold cutW
  rw [if_neg h1,h2];rfl
theorem cutW_some {c:UInt8}:∀ {l a r:List UInt8},cutW c l=some (a,r)→l=a++c::r∧c∉a
 | [],_,_,h=>by cases h
 | b::l,a,r,h=>by
  unfold cutW at h
  split at h
  ·rename_i hb
   cases h
   exact ⟨by rw [hb];rfl,by simp⟩
  ·rename_i hb
   cases hc:cutW c l with
   | none=>rw [hc] at h;cases h
   | some p =>
    rw [hc] at h
    cases h
    obtain ⟨h1,h2⟩:=cutW_some (l:=l) (a:=p.1) (r:=p.2) hc
    refine ⟨by rw [h1];rfl,?_⟩
    intro hm
    rcases List.mem_cons.1 hm with e | e
    ·exact hb e.symm
    ·exact h2 e
def w3 (l:List UInt8):Option (List UInt8 × List UInt8 × List UInt8) :=
 match cutW 32 l with
 | none=>none
 | some (a,r)=>match cutW 32 r with
  | none=>none
  | some (b,t)=>some (a,b,t)
theorem w3_yes {a b t:List UInt8} (h:32∉a) (h2:32∉b):w3 (a++32::(b++32::t))=some (a,b,t):=by unfold w3;rw [cutW_at _ h];dsimp only;rw [cutW_at t h2]
theorem w3_some {l a b t:List UInt8} (h:w3 l=some (a,b,t)):l=a++32::(b++32::t)∧32∉a∧32∉b:=by
 unfold w3 at h
 cases h1:cutW 32 l with
 | none=>rw [h1] at h;cases h
 | some p =>
  rw [h1] at h
  obtain ⟨a',r⟩:=p
  dsimp only at h
  cases h2:cutW 32 r with
  | none=>rw [h2] at h;cases h
  | some q =>
   rw [h2] at h
   obtain ⟨b',t'⟩:=q
   cases h
   obtain ⟨e1,n1⟩:=cutW_some h1
   obtain ⟨e2,n2⟩:=cutW_some h2
   exact ⟨by rw [e1,e2],n1,n2⟩
def tokL (l:List UInt8):Bool:=(l.all fun b=>tokB b.toNat) && decide (0<l.length)
def vlL (l:List UInt8):Bool:=(l.all fun b=>valB b.toNat) && endsB l
def stN (l:List UInt8):Int × Int:=numL 10 1000000000000000000 l
def reqG (p:List UInt8 × List UInt8 × List UInt8):Bool:=decide (p.1.length≤32) && tokL p.1 && tgH p.2.1 && (verH p.2.2).2
def rspG (p:List UInt8 × List UInt8 × List UInt8):Bool:=decide (p.2.1.length=3) && (verH p.1).2 && decide ((stN p.2.1).2=0) && decide (100≤(stN p.2.1).1) && decide ((stN p.2.1).1≤599)
def reqP (s:Pst) (l:List UInt8):Pst × Int :=
 if l=[]∧s.empty<4 then ({ s with empty:=s.empty+1 },0) else
 match w3 l with
 | none=>({ s with nx:=51 },43)
 | some p=>if reqG p=true then ({ s with nx:=51,meth:=p.1,targ:=p.2.1,minor:=(verH p.2.2).1 },0) else ({ s with nx:=51 },43)
def rspP (s:Pst) (l:List UInt8):Pst × Int :=
 match w3 l with
 | none=>({ s with nx:=51 },43)
 | some p=>if rspG p=true then ({ s with nx:=51,minor:=(verH p.1).1,status:=(stN p.2.1).1,reason:=p.2.2 },0) else ({ s with nx:=51 },43)
def fldV (l:List UInt8):Option Fld :=
 match cutW 58 l with
 | none=>none
 | some (a,r)=>if (tokL a && vlL (trimL r))=true then some (a,trimL r) else none
def fldP (s:Pst) (l:List UInt8):Pst × Int :=
 if l=[] then ({ s with done:=true },0) else
 match fldV l with
 | none=>(s,42)
 | some p=>if s.fields.length<100 then ({ s with fields:=s.fields++[p] },0) else (s,44)
def lineP (s:Pst) (l:List UInt8):Pst × Int:=if s.nx=37 then reqP s l else if s.nx=38 then rspP s l else fldP s l
def takeP (s0:Pst) (c:UInt8):Pst × Int :=
 if 32768≤s0.all then ({ s0 with all:=s0.all+1 },44) else
 if s0.cr=true then
  if c=10 then lineP { s0 with all:=s0.all+1,cr:=false,line:=[] } s0.line else ({ s0 with all:=s0.all+1,cr:=false },22)
 else if c=13 then ({ s0 with all:=s0.all+1,cr:=true },0)
 else if valB c.toNat=true then
  if s0.line.length<8192 then ({ s0 with all:=s0.all+1,line:=s0.line++[c] },0) else ({ s0 with all:=s0.all+1 },44)
 else ({ s0 with all:=s0.all+1 },22)
def runP (s:Pst):List UInt8→Pst × Nat × Int
 | []=>(s,0,0)
 | c::l=>let r:=takeP s c
  if r.2≠0 then (r.1,1,r.2) else if r.1.done=true then (r.1,1,0) else let q:=runP r.1 l;(q.1,q.2.1+1,q.2.2)
def feedP (s:Pst) (b:List UInt8):Pst × Nat × Bool × Int :=
 if s.done=true∨s.e≠0 then (s,0,s.done,s.e) else
 let r:=runP s b
 ({ r.1 with e:=r.2.2 },r.2.1,decide (r.2.2=0) && r.1.done,r.2.2)
structure Pok (s:Pst):Prop where
 e0:s.e=0
 d0:s.done=false
 al:s.all≤32768
 ln:s.line.length≤8192
 fl:s.fields.length≤100
 em:s.empty≤4
 nx:s.nx=37∨s.nx=38∨s.nx=51
theorem newP_ok (r:Bool):Pok (newP r):=⟨rfl,rfl,Nat.zero_le _,Nat.zero_le _,Nat.zero_le _,Nat.zero_le _,by cases r;exact .inl rfl;exact .inr (.inl rfl)⟩
theorem num_rf:(37:Nat)≠51:=by decide
theorem num_sf:(38:Nat)≠51:=by decide
theorem req_e (s:Pst) (l:List UInt8):(reqP s l).1.e=s.e:=by unfold reqP;split;rfl;split;rfl;split <;> rfl
theorem rsp_e (s:Pst) (l:List UInt8):(rspP s l).1.e=s.e:=by unfold rspP;split;rfl;split <;> rfl
theorem fld_e (s:Pst) (l:List UInt8):(fldP s l).1.e=s.e:=by unfold fldP;split;rfl;split;rfl;split <;> rfl
theorem line_e (s:Pst) (l:List UInt8):(lineP s l).1.e=s.e:=by
 unfold lineP
 split
 ·exact req_e s l
 ·split
  ·exact rsp_e s l
  ·exact fld_e s l
theorem take_e (s:Pst) (c:UInt8):(takeP s c).1.e=s.e:=by
 unfold takeP
 split
 ·rfl
 ·split
  ·split
   ·rw [line_e]
   ·rfl
  ·split
   ·rfl
   ·split
    ·split <;> rfl
    ·rfl
theorem run_cons (s:Pst) (c:UInt8) (l:List UInt8):runP s (c::l)=if (takeP s c).2≠0 then ((takeP s c).1,1,(takeP s c).2) else if (takeP s c).1.done=true then ((takeP s c).1,1,0) else ((runP (takeP s c).1 l).1,(runP (takeP s c).1 l).2.1+1,(runP (takeP s c).1 l).2.2):=rfl
theorem run_app:∀ (a b:List UInt8) (s:Pst),s.done=false→(runP s a).2.2=0→(runP s a).1.done=false →
  runP s (a++b)=((runP (runP s a).1 b).1,(runP s a).2.1+(runP (runP s a).1 b).2.1,(runP (runP s a).1 b).2.2)
 | [],b,s,_,_,_=>by simp [runP]
 | c::a,b,s,h0,h1,h2=>by
  show runP s (c::(a++b))=_
  rw [run_cons s c (a++b)]
  rw [run_cons s c a] at h1 h2 ⊢
  by_cases k1:(takeP s c).2≠0
  ·rw [if_pos k1] at h1;exact absurd h1 k1
  ·rw [if_neg k1] at h1 h2 ⊢
   rw [if_neg k1]
   by_cases k2:(takeP s c).1.done=true
   ·rw [if_pos k2] at h2;dsimp only at h2;rw [k2] at h2;cases h2
   ·rw [if_neg k2] at h1 h2 ⊢
    rw [if_neg k2]
    have ih:=run_app a b (takeP s c).1 (by simpa using k2) h1 h2
    rw [ih]
    simp only [Prod.mk.injEq,true_and,and_true]
    omega
theorem run_end:∀ (a b:List UInt8) (s:Pst),((runP s a).2.2≠0∨(runP s a).1.done=true)→s.done=false→runP s (a++b)=runP s a
 | [],b,s,h,h0=>by rcases h with h | h;exact absurd rfl h;rw [show (runP s []).1=s from rfl,h0] at h;cases h
 | c::a,b,s,h,h0=>by
  show runP s (c::(a++b))=_
  rw [run_cons s c (a++b)]
  rw [run_cons s c a] at h ⊢
  by_cases k1:(takeP s c).2≠0
  ·rw [if_pos k1,if_pos k1]
  ·rw [if_neg k1] at h ⊢
   rw [if_neg k1]
   by_cases k2:(takeP s c).1.done=true
   ·rw [if_pos k2,if_pos k2]
   ·rw [if_neg k2] at h ⊢
    rw [if_neg k2]
    rw [run_end a b (takeP s c).1 h (by simpa using k2)]
theorem run_le:∀ (a:List UInt8) (s:Pst),(runP s a).2.1≤a.length
 | [],_=>Nat.le_refl _
 | c::a,s=>by
  have ih:=run_le a (takeP s c).1
  rw [run_cons]
  split
  ·simp
  ·split
   ·simp
   ·simp only [List.length_cons];omega
theorem run_e:∀ (a:List UInt8) (s:Pst),(runP s a).1.e=s.e
 | [],_=>rfl
 | c::a,s=>by
  have ih:=run_e a (takeP s c).1
  rw [run_cons]
  split
  ·exact take_e s c
  ·split
   ·exact take_e s c
   ·exact ih.trans (take_e s c)
theorem feed_app (s:Pst) (h0:s.done=false) (h1:s.e=0) (a b:List UInt8) (h2:(feedP s a).2.2.1=false) (h3:(feedP s a).2.2.2=0) :
  feedP s (a++b)=((feedP (feedP s a).1 b).1,(feedP s a).2.1+(feedP (feedP s a).1 b).2.1,(feedP (feedP s a).1 b).2.2):=by
 have hc:¬(s.done=true∨s.e≠0):=by rw [h0,h1];simp
 unfold feedP at h2 h3
 rw [if_neg hc] at h2 h3
 dsimp only at h2 h3
 rw [h3] at h2
 have h4:(runP s a).1.done=false:=by simpa using h2
 have ha:=run_app a b s h0 h3 h4
 have e1:(feedP s a).1={ (runP s a).1 with e:=0 }:=by unfold feedP;rw [if_neg hc];dsimp only;rw [h3]
 have e2:(feedP s a).2.1=(runP s a).2.1:=by unfold feedP;rw [if_neg hc]
 have e3:(runP s a).1.e=0:=(run_e a s).trans h1
 have e4:(feedP s a).1=(runP s a).1:=by rw [e1,← e3]
 rw [e2,e4]
 have hc2:¬((runP s a).1.done=true∨(runP s a).1.e≠0):=by rw [h4,e3];simp
 unfold feedP
 rw [if_neg hc,if_neg hc2,ha]
theorem feed_end (s:Pst) (h0:s.done=false) (h1:s.e=0) (a b:List UInt8) (h2:(feedP s a).2.2.1=true∨(feedP s a).2.2.2≠0):feedP s (a++b)=feedP s a:=by
 have hc:¬(s.done=true∨s.e≠0):=by rw [h0,h1];simp
 unfold feedP at h2 ⊢
 rw [if_neg hc] at h2
 rw [if_neg hc,if_neg hc]
 dsimp only at h2
 rw [run_end a b s (by rcases h2 with h | h;exact .inr (by simpa using (Bool.and_eq_true .. ▸ h).2);exact .inl h) h0]
theorem req_ok {s:Pst} {l:List UInt8} (h:Pok s) (h0:(reqP s l).2=0):Pok (reqP s l).1:=by
 unfold reqP at h0 ⊢
 split
 ·rename_i hc;exact ⟨h.e0,h.d0,h.al,h.ln,h.fl,by have:=hc.2;dsimp only;omega,h.nx⟩
 ·rename_i hc
  rw [if_neg hc] at h0
  cases hw:w3 l with
  | none=>exact ⟨h.e0,h.d0,h.al,h.ln,h.fl,h.em,.inr (.inr rfl)⟩
  | some p=>dsimp only;split <;> exact ⟨h.e0,h.d0,h.al,h.ln,h.fl,h.em,.inr (.inr rfl)⟩
theorem rsp_ok {s:Pst} {l:List UInt8} (h:Pok s):Pok (rspP s l).1:=by
 unfold rspP
 cases hw:w3 l with
 | none=>exact ⟨h.e0,h.d0,h.al,h.ln,h.fl,h.em,.inr (.inr rfl)⟩
 | some p=>dsimp only;split <;> exact ⟨h.e0,h.d0,h.al,h.ln,h.fl,h.em,.inr (.inr rfl)⟩
theorem fld_ok {s:Pst} {l:List UInt8} (h:Pok s) (h0:(fldP s l).1.done=false):Pok (fldP s l).1:=by
 unfold fldP at h0 ⊢
 split
 ·rename_i hc;rw [if_pos hc] at h0;cases h0
 ·cases hw:fldV l with
  | none=>exact h
  | some p =>
   dsimp only
   split
   ·rename_i hf;exact ⟨h.e0,h.d0,h.al,h.ln,by dsimp only;rw [List.length_append];simp only [List.length_cons,List.length_nil];omega,h.em,h.nx⟩
   ·exact h
theorem line_ok {s:Pst} {l:List UInt8} (h:Pok s) (h0:(lineP s l).2=0) (h1:(lineP s l).1.done=false):Pok (lineP s l).1:=by
 unfold lineP at h0 h1 ⊢
 split
 ·rename_i hc;rw [if_pos hc] at h0;exact req_ok h h0
 ·rename_i hc
  rw [if_neg hc] at h0 h1
  split
  ·exact rsp_ok h
  ·rename_i hc2;rw [if_neg hc2] at h1;exact fld_ok h h1
theorem take_ok {s:Pst} {c:UInt8} (h:Pok s) (h0:(takeP s c).2=0) (h1:(takeP s c).1.done=false):Pok (takeP s c).1:=by
 unfold takeP at h0 h1 ⊢
 split
 ·rename_i hc;rw [if_pos hc] at h0;cases h0
 ·rename_i hc
  rw [if_neg hc] at h0 h1
  have hal:s.all+1≤32768:=by omega
  split
  ·rename_i k1
   rw [if_pos k1] at h0 h1
   split
   ·rename_i k2
    rw [if_pos k2] at h0 h1
    exact line_ok ⟨h.e0,h.d0,hal,Nat.zero_le _,h.fl,h.em,h.nx⟩ h0 h1
   ·rename_i k2;rw [if_neg k2] at h0;cases h0
  ·rename_i k1
   rw [if_neg k1] at h0 h1
   split
   ·exact ⟨h.e0,h.d0,hal,h.ln,h.fl,h.em,h.nx⟩
   ·rename_i k2
    rw [if_neg k2] at h0 h1
    split
    ·rename_i k3
     rw [if_pos k3] at h0 h1
     split
     ·exact ⟨h.e0,h.d0,hal,by dsimp only;rw [List.length_append];simp only [List.length_cons,List.length_nil];omega,h.fl,h.em,h.nx⟩
     ·rename_i k4;rw [if_neg k4] at h0;cases h0
    ·rename_i k3;rw [if_neg k3] at h0;cases h0
def KP (k:Nat):Nat→Prop:=fun i=>i=k∨i=k+1∨i=k+2
def GoneP (e:Int):Ending:=if e=0 then .returned (.tuple #[]) else .panicked [{ v:=.iface 25 (.int .i64 e),recovered:=false }]
def TurnsP (k:Nat) (w:World) (o:Ow) (P:Nat) (q:Pst × Int) (r:Ending) (w':World):Prop:=r=GoneP q.2∧∃ o',PsAt w' o' k P q.1∧Stp (KP k) w o w' o'
theorem gone_no {e:Int} (h:e≠0):GoneP e=.panicked [{ v:=.iface 25 (.int .i64 e),recovered:=false }]:=if_neg h
def Prow (w:World) (P:Nat) (s:Pst) (A:Option Addr) (c:Nat) (B:Option Addr) (d:Nat):Prop:=w.heap[P]?=some (.cells (s.cells P A c B d) 88 (0,0))
section
variable {w:World} {P:Nat} {s:Pst} {A B:Option Addr} {c d:Nat}
theorem Prow.c0 (h:Prow w P s A c B d):w.cell? ⟨P,0,none⟩=some (.bool true):=(row_facts h 0 _ rfl).1
theorem Prow.c1 (h:Prow w P s A c B d):w.cell? ⟨P,1,none⟩=some (.bool s.reply):=(row_facts h 1 _ rfl).1
theorem Prow.c2 (h:Prow w P s A c B d):w.cell? ⟨P,2,none⟩=some (.slice A s.line.length c):=(row_facts h 2 _ rfl).1
theorem Prow.c3 (h:Prow w P s A c B d):w.cell? ⟨P,3,none⟩=some (.bool s.cr):=(row_facts h 3 _ rfl).1
theorem Prow.c4 (h:Prow w P s A c B d):w.cell? ⟨P,4,none⟩=some (.bool s.done):=(row_facts h 4 _ rfl).1
theorem Prow.c5 (h:Prow w P s A c B d):w.cell? ⟨P,5,none⟩=some (.int .i64 (s.all:Int)):=(row_facts h 5 _ rfl).1
theorem Prow.c6 (h:Prow w P s A c B d):w.cell? ⟨P,6,none⟩=some (.int .i64 (s.empty:Int)):=(row_facts h 6 _ rfl).1
theorem Prow.c7 (h:Prow w P s A c B d):w.cell? ⟨P,7,none⟩=some (.int .i64 s.e):=(row_facts h 7 _ rfl).1
theorem Prow.c8 (h:Prow w P s A c B d):w.cell? ⟨P,8,none⟩=some (.func (.func s.nx) #[.pointer (some ⟨P,0,none⟩)] #[]):=(row_facts h 8 _ rfl).1
theorem Prow.c15 (h:Prow w P s A c B d):w.cell? ⟨P,15,none⟩=some (.slice B s.fields.length d):=(row_facts h 15 _ rfl).1
theorem Prow.fz (h:Prow w P s A c B d) (i:Nat) (hi:i<16):w.frozen? ⟨P,i,none⟩=false:=by
 obtain ⟨u,hu⟩:∃ u,(s.cells P A c B d)[i]?=some u:=⟨(s.cells P A c B d)[i]'(by simp [Pst.cells];omega),by simp⟩
 exact (row_facts h i u hu).2
theorem Prow.set (h:Prow w P s A c B d) (i:Nat) (u:Value) {s':Pst} {A' B':Option Addr} {c' d':Nat} (he:(s.cells P A c B d).setIfInBounds i u=s'.cells P A' c' B' d'):Prow (w.setCell ⟨P,i,none⟩ u) P s' A' c' B' d':=by
 unfold Prow
 rw [← he]
 exact row_set h i u
theorem Prow.ext {w':World} (h:Prow w P s A c B d) (e:Ext w w'):Prow w' P s A c B d:=(e.block P (row_lt h)).trans h
end
theorem set_stp {w:World} {o:Ow} {k P:Nat} (i:Nat) (u:Value) (h:o P=k):Stp (KP k) w o (w.setCell ⟨P,i,none⟩ u) o:=Stp.set P i u (fun _=>.inl h)
theorem PsAt.row {w:World} {o:Ow} {k P:Nat} {s:Pst} (h:PsAt w o k P s):∃ A c B d,Prow w P s A c B d∧Sl w o (k+1) 1 A s.line.length c (bc s.line)∧(A=none→c=0)∧Sl w o (k+2) 2 B s.fields.length d (fc s.fields)∧(B=none→d=0):=h.at_
theorem PsAt.of {w:World} {o:Ow} {k P:Nat} {s:Pst} {A B:Option Addr} {c d:Nat} (h:o P=k) (hr:Prow w P s A c B d) (h1:Sl w o (k+1) 1 A s.line.length c (bc s.line)) (h2:A=none→c=0) (h3:Sl w o (k+2) 2 B s.fields.length d (fc s.fields)) (h4:B=none→d=0):PsAt w o k P s:=⟨h,A,c,B,d,hr,h1,h2,h3,h4⟩
def Mx (w:World):Prop:=∃ m,w.cell? ⟨1,0,none⟩=some (.int .i64 m)
theorem Mx.ext {w w':World} (h:Mx w) (e:Ext w w'):Mx w':=h.elim fun m hm=>⟨m,(e.cell (lt_of_cell hm)).trans hm⟩
structure Gl (w:World) (o:Ow):Prop where
 mx:Mx w
 er:ErrR w
 o1:o 1=0
 o2:o 7=0
theorem Gl.stp {K:Nat→Prop} {w w':World} {o o':Ow} (h:Gl w o) (s:Stp K w o w' o') (h0:¬ K 0):Gl w' o':=by
 obtain ⟨⟨m,hm⟩,⟨t,p,he⟩,h1,h2⟩:=h
 exact ⟨⟨m,s.cell (by rw [h1];exact h0) hm⟩,⟨t,p,s.cell (by rw [h2];exact h0) he⟩,(s.own _ (lt_of_cell hm)).trans h1,(s.own _ (lt_of_cell he)).trans h2⟩
def wd3 (l:List UInt8):List (List UInt8) :=
 match cutW 32 l with
 | none=>[l]
 | some (a,r)=>match cutW 32 r with
  | none=>[a,r]
  | some (b,t)=>[a,b,t]
theorem wd3_no1 {l:List UInt8} (h:32∉l):wd3 l=[l]:=by unfold wd3;rw [cutW_no h]
theorem wd3_no2 {a r:List UInt8} (h:32∉a) (h2:32∉r):wd3 (a++32::r)=[a,r]:=by unfold wd3;rw [cutW_at r h];dsimp only;rw [cutW_no h2]
theorem wd3_yes {a b t:List UInt8} (h:32∉a) (h2:32∉b):wd3 (a++32::(b++32::t))=[a,b,t]:=by unfold wd3;rw [cutW_at _ h];dsimp only;rw [cutW_at t h2]
theorem spl_no {l:List UInt8} (k:Nat) (h:32∉l):Lib.splitB ⟨#[32]⟩ 0 k (str l)=[str l] :=
 Lib.splitB_miss _ _ _ _ ((Lib.index_one l 32).trans (idx_no h))
theorem spl_at {a r:List UInt8} (k:Nat) (h:32∉a):Lib.splitB ⟨#[32]⟩ 0 (k+1) (str (a++32::r))=str a::Lib.splitB ⟨#[32]⟩ 0 k (str r):=by
 have hx:Lib.indexB (str (a++32::r)) ⟨#[32]⟩=(a.length:Int):=(Lib.index_one _ 32).trans (idx_at h)
 have he:(str (a++32::r)).extract (a.length+(⟨#[32]⟩:ByteArray).size) (str (a++32::r)).size=str r:=by
  rw [show (⟨#[32]⟩:ByteArray).size=1 from rfl]
  apply ByteArray.ext
  apply Array.ext'
  simp [str]
  exact List.take_of_length_le (by simp [ByteArray.size];omega)
 have he2:(str (a++32::r)).extract 0 (a.length+0)=str a:=by
  apply ByteArray.ext
  apply Array.ext'
  simp [str]
 have hsp:=Lib.splitB_hit ⟨#[32]⟩ 0 k (str (a++32::r)) a.length hx
 rw [he,he2] at hsp
 exact hsp
theorem spl_wd3 (l:List UInt8):Lib.splitB ⟨#[32]⟩ 0 (min 3 (l.length+1)-1) (str l)=(wd3 l).map str:=by
 rcases cut_cases l 32 with h | ⟨a,r,rfl,h⟩
 ·rw [spl_no _ h,wd3_no1 h];rfl
 ·rcases cut_cases r 32 with h2 | ⟨b,t,rfl,h2⟩
  ·rw [wd3_no2 h h2]
   obtain ⟨k,hk⟩:∃ k,min 3 ((a++32::r).length+1)-1=k+1:=⟨min 3 ((a++32::r).length+1)-2,by simp;omega⟩
   rw [hk,spl_at _ h,spl_no _ h2];rfl
  ·rw [wd3_yes h h2]
   have hk:min 3 ((a++32::(b++32::t)).length+1)-1=1+1:=by simp;omega
   rw [hk,spl_at _ h,spl_at 0 h2];rfl
theorem SplitN_c (l:List UInt8) (hl:l.length≤4000000000) (w:World) (hM:Mx w) :
  Calls Tryz.prog 52 #[.string (str l),.string ⟨#[32]⟩,.int .i64 3] w fun e w'=>e=.returned (.slice (some ⟨w.heap.size,0,none⟩) (wd3 l).length (min 3 (l.length+1)))∧Ext w w'∧(∀ j (h:j<(wd3 l).length),w'.cell? ⟨w.heap.size,j,none⟩=some (.string (str (wd3 l)[j]))):=by
 obtain ⟨m,hm⟩:=hM
 have K:=Tryz.strings_SplitN (str l) ⟨#[32]⟩ 3 m w (by simp;omega) hm (by decide) (by decide) (by decide)
 have hz:(str l).size=l.length:=str_size l
 rw [hz,spl_wd3 l,List.length_map] at K
 refine K.mono fun e w' ⟨h3,h4⟩=>⟨h3,by rw [h4];exact (Ext.rfl' _).al _,fun j hj=>?_⟩
 rw [h4,World.cell?_alloc_at _ _ _ _ rfl]
 unfold Lib.cellsOf
 simp [List.getElem?_append,hj]
theorem w3_few {l:List UInt8} (h:w3 l=none):(wd3 l).length≠3:=by
 unfold w3 at h
 unfold wd3
 cases h1:cutW 32 l with
 | none=>simp
 | some p =>
  rw [h1] at h
  obtain ⟨a,r⟩:=p
  dsimp only at h ⊢
  cases h2:cutW 32 r with
  | none=>simp
  | some q=>rw [h2] at h;cases h
theorem w3_wd3 {l a b t:List UInt8} (h:w3 l=some (a,b,t)):wd3 l=[a,b,t]∧2≤l.length:=by
 obtain ⟨e,h1,h2⟩:=w3_some h
 rw [e]
 exact ⟨wd3_yes h1 h2,by simp;omega⟩
theorem SplitN_few (l:List UInt8) (hl:l.length≤4000000000) (hw:w3 l=none):∃ n:Nat,n≠3∧∀ w,Mx w→Calls Tryz.prog 52 #[.string (str l),.string ⟨#[32]⟩,.int .i64 3] w fun e w'=>e=.returned (.slice (some ⟨w.heap.size,0,none⟩) n (min 3 (l.length+1)))∧Ext w w' :=
 ⟨_,w3_few hw,fun w hM=>(SplitN_c l hl w hM).mono fun e w' h=>⟨h.1,h.2.1⟩⟩
theorem SplitN_three (l a b t:List UInt8) (hl:l.length≤4000000000) (hw:w3 l=some (a,b,t)) (w:World) (hM:Mx w) :
  Calls Tryz.prog 52 #[.string (str l),.string ⟨#[32]⟩,.int .i64 3] w fun e w'=>e=.returned (.slice (some ⟨w.heap.size,0,none⟩) 3 3)∧Ext w w'∧w'.cell? ⟨w.heap.size,0,none⟩=some (.string (str a))∧w'.cell? ⟨w.heap.size,1,none⟩=some (.string (str b))∧w'.cell? ⟨w.heap.size,2,none⟩=some (.string (str t)):=by
 obtain ⟨h1,h2⟩:=w3_wd3 hw
 have K:=SplitN_c l hl w hM
 refine K.mono ?_
 rintro e w' ⟨h3,h4,h5⟩
 have hm:min 3 (l.length+1)=3:=by omega
 simp only [h1,List.length_cons,List.length_nil,hm] at h3
 refine ⟨h3,h4,?_,?_,?_⟩
 ·have:=h5 0 (by rw [h1];simp);simpa only [h1,List.getElem_cons_zero] using this
 ·have:=h5 1 (by rw [h1];simp);simpa only [h1,List.getElem_cons_zero,List.getElem_cons_succ] using this
 ·have:=h5 2 (by rw [h1];simp);simpa only [h1,List.getElem_cons_zero,List.getElem_cons_succ] using this
theorem Token_h (l:List UInt8) (hs:l.length≤maxLen) (w:World):Calls Tryz.prog 54 #[.string (str l)] w (Gives (.bool (tokL l)) w):=by
 have h:=Token_c (str l) (by rw [str_size];exact hs) w
 rw [str_data,str_size] at h
 exact h
theorem PsAt.nxt {w:World} {o:Ow} {k P:Nat} {s:Pst} (h:PsAt w o k P s) (n:Nat):PsAt (w.setCell ⟨P,8,none⟩ (.func (.func n) #[.pointer (some ⟨P,0,none⟩)] #[])) o k P { s with nx:=n }:=by
 obtain ⟨A,c,B,d,hr,h1,h2,h3,h4⟩:=h.row
 exact PsAt.of h.own (hr.set 8 _ rfl) (h1.stp (Stp.set (K:=fun i=>i=k) P 8 _ (fun _=>h.own)) (by omega)) h2 (h3.stp (Stp.set (K:=fun i=>i=k) P 8 _ (fun _=>h.own)) (by omega)) h4
theorem PsAt.emp {w:World} {o:Ow} {k P:Nat} {s:Pst} (h:PsAt w o k P s):PsAt (w.setCell ⟨P,6,none⟩ (.int .i64 ((s.empty+1:Nat):Int))) o k P { s with empty:=s.empty+1 }:=by
 obtain ⟨A,c,B,d,hr,h1,h2,h3,h4⟩:=h.row
 exact PsAt.of h.own (hr.set 6 _ rfl) (h1.stp (Stp.set (K:=fun i=>i=k) P 6 _ (fun _=>h.own)) (by omega)) h2 (h3.stp (Stp.set (K:=fun i=>i=k) P 6 _ (fun _=>h.own)) (by omega)) h4
theorem hRequest_empty (k P:Nat) (s:Pst) (he:s.empty<4) (w:World) (o:Ow) (h:PsAt w o k P s) :
  Calls Tryz.prog 37 #[.pointer (some ⟨P,0,none⟩),.string (str [])] w (TurnsP k w o P (reqP s [])):=by
 obtain ⟨A,c,B,d,hr,h1,h2,h3,h4⟩:=h.row
 have c6:=hr.c6
 have f6:=hr.fz 6 (by decide)
 have HE:=Hy h
 have HQ:=Hy (show reqP s []=({ s with empty:=s.empty+1 },0) from if_pos ⟨rfl,he⟩)
 have he2:(s.empty:Int)<4:=by omega
 have s1:IntKind.i64.wrap ((s.empty:Int)+1)=((s.empty+1:Nat):Int):=by rw [IntKind.wrap_i64];omega
 clear hr h1 h2 h3 h4 h
 rw [show str ([]:List UInt8)=⟨#[]⟩ from rfl]
 go_enter Tryz.func37,Tryz.ntmps37
 go_wp2
 refine bodyPost_ret (results_none rfl _ _ _) rfl ?_
 rw [HQ.out]
 exact ⟨rfl,o,HE.out.emp,set_stp 6 _ HE.out.own⟩
theorem hRequest_few0 (k P:Nat) (hk:0<k) (s:Pst) (he:¬ s.empty<4) (w:World) (o:Ow) (h:PsAt w o k P s) (hG:Gl w o) :
  Calls Tryz.prog 37 #[.pointer (some ⟨P,0,none⟩),.string (str [])] w (TurnsP k w o P (reqP s [])):=by
 obtain ⟨A,c,B,d,hr,h1,h2,h3,h4⟩:=h.row
 have c6:=hr.c6
 have f8:=hr.fz 8 (by decide)
 have c8:=hr.c8
 have HE:=Hy h
 have HG:=Hy ((hG.stp (set_stp 8 (.func (.func 51) #[.pointer (some ⟨P,0,none⟩)] #[]) h.own) (by unfold KP;omega)).mx)
 have CS:=Hy (fun w hM=>SplitN_c [] (by decide) w hM)
 have HQ:=Hy (show reqP s []=({ s with nx:=51 },43) from by unfold reqP;rw [if_neg (by omega)];rfl)
 have he2:¬(s.empty:Int)<4:=by omega
 clear hr h1 h2 h3 h4 h hG
 rw [show str ([]:List UInt8)=⟨#[]⟩ from rfl] at CS ⊢
 go_enter Tryz.func37,Tryz.ntmps37
 go_wp2_with (first
  | (go_at_call 52;refine (CS.out _ HG.out).mono ?_;rintro e w2 ⟨rfl,hx2,hc2⟩;clear hc2)
  | (go_at_call 53;refine (demand_no _ _).mono ?_;rintro e w3 ⟨rfl,rfl⟩))
 simp only [bodyPost]
 rw [HQ.out]
 refine ⟨trivial,rfl,o,(HE.out.nxt _).ext Xq,(set_stp 8 _ HE.out.own).tr (Stp.ext Xq)⟩
theorem len_w3 {l a b t:List UInt8} (h:w3 l=some (a,b,t)) (n:Nat) (hl:l.length≤n):a.length≤n∧b.length≤n∧t.length≤n:=by
 obtain ⟨e,_,_⟩:=w3_some h
 have:=congrArg List.length e
 simp at this
 omega
theorem hRequest_few (k P:Nat) (hk:0<k) (s:Pst) (l:List UInt8) (hne:l≠[]) (hl:l.length≤8192) (hw:w3 l=none) (w:World) (o:Ow) (h:PsAt w o k P s) (hG:Gl w o) :
  Calls Tryz.prog 37 #[.pointer (some ⟨P,0,none⟩),.string (str l)] w (TurnsP k w o P (reqP s l)):=by
 obtain ⟨A,c,B,d,hr,h1,h2,h3,h4⟩:=h.row
 have c6:=hr.c6
 have f8:=hr.fz 8 (by decide)
 have c8:=hr.c8
 have HE:=Hy h
 have HZ:=Hy (show (w.setCell ⟨P,8,none⟩ (.func (.func 51) #[.pointer (some ⟨P,0,none⟩)] #[])).heap.size=w.heap.size from by simp)
 have HG:=Hy ((hG.stp (set_stp 8 (.func (.func 51) #[.pointer (some ⟨P,0,none⟩)] #[]) h.own) (by unfold KP;omega)).mx)
 have e1:l.isEmpty=false:=by rw [List.isEmpty_eq_false_iff];exact hne
 have e2:(str l).toList.isEmpty=false:=by rw [Lib.toList_data];exact e1
 have hl2:l.length≤4000000000:=by omega
 clear hr h1 h2 h3 h4 h hG
 have HQ:=Hy (show reqP s l=({ s with nx:=51 },43) from by unfold reqP;rw [if_neg (fun h=>hne h.1),hw])
 obtain ⟨n,hn,CS⟩:=SplitN_few l hl2 hw
 have d1:((n:Int) == 3)=false:=by rw [beq_eq_false_iff_ne];omega
 have CS:=Hy CS
 clear hw hne
 go_enter Tryz.func37,Tryz.ntmps37
 go_wp2_with (first
  | (go_at_call 52;refine (CS.out _ HG.out).mono ?_;rintro e w2 ⟨rfl,hx2⟩)
  | (go_at_call 53;refine (demand_no _ _).mono ?_;rintro e w3 ⟨rfl,rfl⟩))
 simp only [bodyPost]
 rw [HQ.out]
 refine ⟨trivial,rfl,o,(HE.out.nxt _).ext Xq,(set_stp 8 _ HE.out.own).tr (Stp.ext Xq)⟩
theorem hRequest_bad (k P:Nat) (hk:0<k) (s:Pst) (l a b t:List UInt8) (hne:l≠[]) (hl:l.length≤8192) (hw:w3 l=some (a,b,t)) (hbad:reqG (a,b,t)=false) (w:World) (o:Ow) (h:PsAt w o k P s) (hG:Gl w o) :
  Calls Tryz.prog 37 #[.pointer (some ⟨P,0,none⟩),.string (str l)] w (TurnsP k w o P (reqP s l)):=by
 obtain ⟨A,c,B,d,hr,h1,h2,h3,h4⟩:=h.row
 have c6:=hr.c6
 have f8:=hr.fz 8 (by decide)
 have c8:=hr.c8
 have HE:=Hy h
 have HZ:=Hy (show (w.setCell ⟨P,8,none⟩ (.func (.func 51) #[.pointer (some ⟨P,0,none⟩)] #[])).heap.size=w.heap.size from by simp)
 have HG:=Hy ((hG.stp (set_stp 8 (.func (.func 51) #[.pointer (some ⟨P,0,none⟩)] #[]) h.own) (by unfold KP;omega)).mx)
 have e1:l.isEmpty=false:=by rw [List.isEmpty_eq_false_iff];exact hne
 have e2:(str l).toList.isEmpty=false:=by rw [Lib.toList_data];exact e1
 have hl2:l.length≤4000000000:=by omega
 clear hr h1 h2 h3 h4 h hG
 have HQ:=Hy (show reqP s l=({ s with nx:=51 },43) from by unfold reqP;rw [if_neg (fun h=>hne h.1),hw];dsimp only;rw [hbad];rfl)
 have CS:=Hy (fun w hM=>SplitN_three l a b t hl2 hw w hM)
 obtain ⟨la,lb,lt⟩:=len_w3 hw 8192 hl
 have CT:=Hy (fun w=>Token_h a (by unfold maxLen;omega) w)
 have CG:=Hy (fun w=>hTarget_c b (by omega) w)
 have CV:=Hy (fun w=>hVersion_c t (by unfold maxLen;omega) w)
 clear hw hne hl hl2
 unfold reqG at hbad
 dsimp only at hbad
 obtain ⟨gt,hgt⟩:∃ g,g=tokL a:=⟨_,rfl⟩
 obtain ⟨gg,hgg⟩:∃ g,g=tgH b:=⟨_,rfl⟩
 obtain ⟨gv,hgv⟩:∃ g,g=(verH t).2:=⟨_,rfl⟩
 rw [← hgt] at CT hbad
 rw [← hgg] at CG hbad
 rw [← hgv] at CV hbad
 clear hgt hgg hgv
 by_cases k1:32<a.length
 ·have k2:¬(a.length:Int)≤32:=by omega
  clear hbad
  go_enter Tryz.func37,Tryz.ntmps37
  go_wp2_with (first
   | (go_at_call 52;refine (CS.out _ HG.out).mono ?_;rintro e w2 ⟨rfl,hx2,p0,p1,p2⟩;rw [HZ.out] at p0 p1 p2)
   | (go_at_call 54;refine (CT.out _).mono ?_;rintro e w3 ⟨rfl,hx3⟩;have q0:=(hx3.cell (lt_of_cell p0)).trans p0;have q1:=(hx3.cell (lt_of_cell p1)).trans p1;have q2:=(hx3.cell (lt_of_cell p2)).trans p2;clear p0 p1 p2)
   | (go_at_call 55;refine (CG.out _).mono ?_;rintro e w4 ⟨rfl,hx4⟩;have r0:=(hx4.cell (lt_of_cell q0)).trans q0;have r1:=(hx4.cell (lt_of_cell q1)).trans q1;have r2:=(hx4.cell (lt_of_cell q2)).trans q2;clear q0 q1 q2)
   | (go_at_call 56;refine (CV.out _).mono ?_;rintro e w5 ⟨rfl,rfl⟩)
   | (go_at_call 53;refine (demand_c _ _ _).mono ?_;rintro e w6 ⟨hy,hn,rfl⟩;first | (obtain rfl:=hy rfl;clear hy hn) | (obtain rfl:=hn rfl;clear hy hn)))
  simp only [bodyPost]
  rw [HQ.out]
  refine ⟨trivial,rfl,o,(HE.out.nxt _).ext Xq,(set_stp 8 _ HE.out.own).tr (Stp.ext Xq)⟩
 ·have k2:(a.length:Int)≤32:=by omega
  rw [decide_eq_true (by omega),Bool.true_and] at hbad
  cases gt with
  | false =>
   clear hbad
   go_enter Tryz.func37,Tryz.ntmps37
   go_wp2_with (first
    | (go_at_call 52;refine (CS.out _ HG.out).mono ?_;rintro e w2 ⟨rfl,hx2,p0,p1,p2⟩;rw [HZ.out] at p0 p1 p2)
    | (go_at_call 54;refine (CT.out _).mono ?_;rintro e w3 ⟨rfl,hx3⟩;have q0:=(hx3.cell (lt_of_cell p0)).trans p0;have q1:=(hx3.cell (lt_of_cell p1)).trans p1;have q2:=(hx3.cell (lt_of_cell p2)).trans p2;clear p0 p1 p2)
    | (go_at_call 55;refine (CG.out _).mono ?_;rintro e w4 ⟨rfl,hx4⟩;have r0:=(hx4.cell (lt_of_cell q0)).trans q0;have r1:=(hx4.cell (lt_of_cell q1)).trans q1;have r2:=(hx4.cell (lt_of_cell q2)).trans q2;clear q0 q1 q2)
    | (go_at_call 56;refine (CV.out _).mono ?_;rintro e w5 ⟨rfl,rfl⟩)
    | (go_at_call 53;refine (demand_c _ _ _).mono ?_;rintro e w6 ⟨hy,hn,rfl⟩;first | (obtain rfl:=hy rfl;clear hy hn) | (obtain rfl:=hn rfl;clear hy hn)))
   simp only [bodyPost]
   rw [HQ.out]
   refine ⟨trivial,rfl,o,(HE.out.nxt _).ext Xq,(set_stp 8 _ HE.out.own).tr (Stp.ext Xq)⟩
  | true =>
   rw [Bool.true_and] at hbad
   cases gg with
   | false =>
    clear hbad
    go_enter Tryz.func37,Tryz.ntmps37
    go_wp2_with (first
     | (go_at_call 52;refine (CS.out _ HG.out).mono ?_;rintro e w2 ⟨rfl,hx2,p0,p1,p2⟩;rw [HZ.out] at p0 p1 p2)
     | (go_at_call 54;refine (CT.out _).mono ?_;rintro e w3 ⟨rfl,hx3⟩;have q0:=(hx3.cell (lt_of_cell p0)).trans p0;have q1:=(hx3.cell (lt_of_cell p1)).trans p1;have q2:=(hx3.cell (lt_of_cell p2)).trans p2;clear p0 p1 p2)
     | (go_at_call 55;refine (CG.out _).mono ?_;rintro e w4 ⟨rfl,hx4⟩;have r0:=(hx4.cell (lt_of_cell q0)).trans q0;have r1:=(hx4.cell (lt_of_cell q1)).trans q1;have r2:=(hx4.cell (lt_of_cell q2)).trans q2;clear q0 q1 q2)
     | (go_at_call 56;refine (CV.out _).mono ?_;rintro e w5 ⟨rfl,rfl⟩)
     | (go_at_call 53;refine (demand_c _ _ _).mono ?_;rintro e w6 ⟨hy,hn,rfl⟩;first | (obtain rfl:=hy rfl;clear hy hn) | (obtain rfl:=hn rfl;clear hy hn)))
    simp only [bodyPost]
    rw [HQ.out]
    refine ⟨trivial,rfl,o,(HE.out.nxt _).ext Xq,(set_stp 8 _ HE.out.own).tr (Stp.ext Xq)⟩
   | true =>
    rw [Bool.true_and] at hbad
    subst hbad
    go_enter Tryz.func37,Tryz.ntmps37
    go_wp2_with (first
     | (go_at_call 52;refine (CS.out _ HG.out).mono ?_;rintro e w2 ⟨rfl,hx2,p0,p1,p2⟩;rw [HZ.out] at p0 p1 p2)
     | (go_at_call 54;refine (CT.out _).mono ?_;rintro e w3 ⟨rfl,hx3⟩;have q0:=(hx3.cell (lt_of_cell p0)).trans p0;have q1:=(hx3.cell (lt_of_cell p1)).trans p1;have q2:=(hx3.cell (lt_of_cell p2)).trans p2;clear p0 p1 p2)
     | (go_at_call 55;refine (CG.out _).mono ?_;rintro e w4 ⟨rfl,hx4⟩;have r0:=(hx4.cell (lt_of_cell q0)).trans q0;have r1:=(hx4.cell (lt_of_cell q1)).trans q1;have r2:=(hx4.cell (lt_of_cell q2)).trans q2;clear q0 q1 q2)
     | (go_at_call 56;refine (CV.out _).mono ?_;rintro e w5 ⟨rfl,rfl⟩)
     | (go_at_call 53;refine (demand_c _ _ _).mono ?_;rintro e w6 ⟨hy,hn,rfl⟩;first | (obtain rfl:=hy rfl;clear hy hn) | (obtain rfl:=hn rfl;clear hy hn)))
    simp only [bodyPost]
    rw [HQ.out]
    refine ⟨trivial,rfl,o,(HE.out.nxt _).ext Xq,(set_stp 8 _ HE.out.own).tr (Stp.ext Xq)⟩
end Go.Proofs.YthbofilcnpdghaaGreatDoor
end
