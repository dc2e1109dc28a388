/-
How a walk that answers true and leaves at most new memory gives a law's row: for any program.
-/
import Derived.Test.YthbofilcnpdghaaGreatDoorZab
import Derived.ProofKit
import Derived.OpenShut
import Derived.Deep.DeepHandedRow
import Derived.Deep.SlicePairs
import Derived.Lib.LaidTab
import Derived.SizedLaws
import Derived.Lib.SmallJoins
import Derived.WideKeyArgs
import Derived.SevenTiedAt
import Derived.Test.YthbofilcnpdghaaGreatDoorZaz
import Derived.Test.YthbofilcnpdghaaGreatDoorZao
set_option maxRecDepth 100000
set_option maxHeartbeats 8000000
set_option linter.unusedVariables false
set_option linter.unusedSimpArgs false
section
namespace Go.Proofs.YthbofilcnpdghaaGreatDoor
open Go.RowKit Go.ChangeShapes Go.WideShapes Go.Joins Go.Deep
section
variable {H:Type} {enc:TypeId × Value→H} {P:Program}
theorem trodAll_stays (hl:laidOutB P=true) {W W':World} (hx:Ext W W') {sp:Nat→Bool}:∀ {ts:List TypeId} {vs:List Value} {ds:List (DataW H)} {ps:List MemPlace},
  (∀ t∈ts,P.readableRec t=true∧t<P.types.size)→DataW.TrodAll enc P W 0 (fun _=>true) true ts vs ds ps→(∀ p∈ps,p.block<W.heap.size)→(∀ p∈ps,sp p.block=true) →
  DataW.TrodAll enc P W' 0 sp true ts vs ds ps
 | [],[],[],ps,_,h,_,_=>h
 | t::ts,v::vs,d::ds,ps,hr,h,hlt,hs=>by
  obtain ⟨p,q,h1,h2,rfl⟩:=h
  refine ⟨p,q,WideElems.Trod_stays hl (hr t (by simp)).1 (hr t (by simp)).2 h1 (fun x hm=>hx.same (hlt x (by simp [hm]))) (fun x hm=>hs x (by simp [hm])),?_,rfl⟩
  exact trodAll_stays hl hx (fun t ht=>hr t (by simp [ht])) h2 (fun x hm=>hlt x (by simp [hm])) (fun x hm=>hs x (by simp [hm]))
 | [],_::_,_,_,_,h,_,_=>by cases h
 | [],[],_::_,_,_,h,_,_=>by cases h
 | _::_,[],_,_,_,h,_,_=>by cases h
 | _::_,_::_,[],_,_,h,_,_=>by cases h
theorem law_post {f:Func} {s:ChangeSpec} {apart fresh:Bool} {W W':World} {args:Array Value} {ds gs:List (DataW H)} {before:List MemPlace} {tb:TypeId}
  (hrt:f.resultTypes=#[tb]) (hb4:P.underlying tb=some .bool) (hl:laidOutB P=true) (hpar:∀ t∈f.params.toList,P.readableRec t=true∧t<P.types.size) (hv:s.vars=[])
  (hW:DataW.Whole enc P f.params.toList s.vars apart W args.toList ds gs before)
  (hspec:(s.fn H (ds++gs)).results=[.lit (.bool true)]∧(s.fn H (ds++gs)).args=ds∧(s.fn H (ds++gs)).vars=[]) (hx:Ext W W') :
  s.post enc P f apart fresh false false W args (.bool true) W':=by
 have hW':=hW
 have hlt:∀ p∈before,p.block<W.heap.size:=fun p hp=>hW.lt p hp
 obtain ⟨p,q,hA,hV,rfl,hfz,hnd⟩:=hW
 rw [hv] at hV
 obtain ⟨rfl,rfl⟩:=trodVars_none hV
 obtain ⟨h1,h2,h3⟩:=hspec
 refine ⟨ds,[],p++[],[],p,[],hW',?_,?_,?_,hx.frame _,fun h=>by cases h⟩
 ·rw [h1,hrt]
  exact trodAll_mk1 (shut_bool hb4 true)
 ·rw [h2]
  exact trodAll_stays hl hx hpar hA (fun x hm=>hlt x (by simp [hm])) (fun x hm=>by have:=hlt x (by simp [hm]);simpa using this)
 ·rw [h3,hv];rfl
theorem bd_i64 {n:Int} (h:(Lit.int .i64 n).wf=true):-9223372036854775808≤n∧n≤9223372036854775807:=by
 simp only [Lit.wf,IntKind.min,IntKind.max,IntKind.signed,IntKind.bits,Bool.and_eq_true,decide_eq_true_eq,if_true] at h
 omega
end
end Go.Proofs.YthbofilcnpdghaaGreatDoor
end
section
namespace Go.Proofs.YthbofilcnpdghaaGreatDoor
open Go.RowKit Go.ChangeShapes Go.WideShapes Go.Deep Go.Joins
theorem mx_of {w:World} (h:w.ShapedOpen Tryz.prog):Mx w:=Tryz.laysM147.s1_3 w h
theorem spot_none6 {W:World} {a:Addr} {u:Value} (h:W.cell? a=some u):a.spot=none:=by
 unfold World.cell? at h
 cases hsp:a.spot with
 | none=>rfl
 | some z=>simp only [hsp,Option.isSome_some,if_true] at h;split at h <;> cases h
theorem rd_of6 {W:World} {a:Addr} {xs:List Value} (h:∀ i u,xs[i]?=some u→W.cell? (a.add i)=some u):Rd W (some a) xs:=by
 cases xs with
 | nil=>exact .inl rfl
 | cons x xs =>
  have h1:=h 0 x rfl
  have hs:=spot_none6 h1
  obtain ⟨b,f,sp⟩:=a
  have hs:sp=none:=by simpa [Addr.add] using hs
  subst hs
  exact .inr ⟨b,f,rfl,fun i u hu=>by have:=h i u hu;rwa [add_mk] at this⟩
section
variable {H:Type} {enc:TypeId × Value→H} {P:Program} {W:World} {base:Nat}
end
end Go.Proofs.YthbofilcnpdghaaGreatDoor
end
section
namespace Go.Proofs.YthbofilcnpdghaaGreatDoor
open Go.RowKit
theorem run_ok:∀ (l:List UInt8) (s:Pst),Pok s→(runP s l).2.2=0→(runP s l).1.done=false→Pok (runP s l).1
 | [],s,h,_,_=>h
 | c::l,s,h,h0,h1=>by
  rw [run_cons] at h0 h1 ⊢
  by_cases k1:(takeP s c).2≠0
  ·rw [if_pos k1] at h0;exact absurd h0 k1
  ·rw [if_neg k1] at h0 h1 ⊢
   by_cases k2:(takeP s c).1.done=true
   ·rw [if_pos k2] at h1;exact absurd (k2.symm.trans h1) (by decide)
   ·rw [if_neg k2] at h0 h1 ⊢
    exact run_ok l _ (take_ok h (by simpa using k1) (by simpa using k2)) h0 h1
theorem feed_go (s:Pst) (l:List UInt8) (h:Pgo s):Pgo (feedP s l).1:=by
 unfold feedP
 split
 ·exact h
 ·rename_i hc
  dsimp only
  rcases h with h | h | h
  ·exact absurd (.inl h) hc
  ·exact absurd (.inr h) hc
  ·by_cases h0:(runP s l).2.2=0
   ·rw [h0,pst_e ((run_e l s).trans h.e0)]
    by_cases h1:(runP s l).1.done=true
    ·exact .inl h1
    ·exact .inr (.inr (run_ok l s h h0 (by simpa using h1)))
   ·exact .inr (.inl h0)
def Rgo (r:Rst):Prop:=Rok r∧r.done=false∧readyF r=(r,0)
structure Cok (s:Cst):Prop where
 mo:s.most≤1048576
 hp:Pok s.hp
 rp:s.hp.reply=false
 bd:s.inBody=true→∃ r,s.rd=some r∧Rgo r
theorem rgo_feed {r:Rst} (hok:Rok r) (hd:r.done=false) (a:List UInt8) (h2:(feedF r a).2.2.2.1=false) (h3:(feedF r a).2.2.2.2=0):Rgo (feedF r a).1:=by
 obtain ⟨hr,e0,d0,hf⟩:=feed_onF hok hd a h2 h3
 obtain ⟨dn,hk,hm⟩:=ready_dn hr
 have ok1:=ready_okF hok
 obtain ⟨z,hz⟩:∃ z,z=(readyF r).1:=⟨_,rfl⟩
 rw [← hz] at e0 d0 hf dn hk hm ok1
 have hk0:z.kind≠0:=fun e=>by
  have:=dn.2 e
  rw [runF_done this] at d0
  rw [this] at d0;cases d0
 have dz:=run_dn a z ok1 hk0 dn e0
 have okz:=runF_ok a z ok1
 obtain ⟨k1,k2,k3⟩:=run_kd a z
 rw [hf]
 obtain ⟨y,hy⟩:∃ y,y=(runF z a).1:=⟨_,rfl⟩
 rw [← hy] at dz okz k1 k2 k3 d0 ⊢
 have o2:Rok { y with body:=[] }:=⟨okz.e0,okz.mo,okz.al,okz.kd,okz.nn,okz.st,okz.ck,okz.ln,okz.fl,Nat.zero_le _,okz.l2,okz.l3⟩
 refine ⟨o2,d0,ready_idem (s:={ y with body:=[] }) ⟨dz.1,dz.2⟩ d0 ?_⟩
 intro e
 show y.n≤y.most
 rw [k2,k3]
 exact hm (k1.symm.trans e)
theorem rgo_takes {r:Rst} (h:Rgo r) (c:UInt8) (l:List UInt8):0<(feedF r (c::l)).2.1:=by
 obtain ⟨hok,hd,hr⟩:=h
 show 0<(goF r (c::l)).2
 unfold goF
 rw [if_neg (by rw [hd,hok.e0];simp)]
 dsimp only
 rw [hr]
 dsimp only
 rw [if_neg (by simp),runF_cons,if_neg (by rw [hd];simp)]
 split
 ·exact Nat.one_pos
 ·exact Nat.succ_pos _
theorem pok_takes {s:Pst} (h:Pok s) (c:UInt8) (l:List UInt8):0<(feedP s (c::l)).2.1:=by
 unfold feedP
 rw [if_neg (by rw [h.d0,h.e0];simp)]
 dsimp only
 rw [run_cons]
 split
 ·exact Nat.one_pos
 ·split
  ·exact Nat.one_pos
  ·exact Nat.succ_pos _
theorem pok_feed {s:Pst} (h:Pok s) (a:List UInt8) (h2:(feedP s a).2.2.1=false) (h3:(feedP s a).2.2.2=0):Pok (feedP s a).1:=by
 have hc:¬(s.done=true∨s.e≠0):=by rw [h.d0,h.e0];simp
 have hg:=feed_go s a (.inr (.inr h))
 have hd:(feedP s a).1.done=false:=by
  unfold feedP at h2 h3 ⊢
  rw [if_neg hc] at h2 h3 ⊢
  dsimp only at h2 h3 ⊢
  rw [h3] at h2
  simpa using h2
 have he:(feedP s a).1.e=0:=by
  unfold feedP at h3 ⊢
  rw [if_neg hc] at h3 ⊢
  exact h3
 rcases hg with g | g | g
 ·rw [hd] at g;cases g
 ·exact absurd he g
 ·exact g
theorem lenV_le (vs:List (List UInt8)):0≤(lenV vs).1∧(lenV vs).1≤1048576:=by
 unfold lenV
 split
 ·exact ⟨by decide,by decide⟩
 ·split
  ·exact ⟨by decide,by decide⟩
  ·split
   ·exact ⟨by decide,by decide⟩
   ·split
    ·exact ⟨by decide,by decide⟩
    ·rename_i h
     exact ⟨numL_nn _ _ _,by have:=not_or.1 h;dsimp only;omega⟩
theorem reqV_ok {mi:Int} {fs:List Fld} (h:(reqV mi fs).2.2=0):0≤(reqV mi fs).1∧(reqV mi fs).1≤2∧0≤(reqV mi fs).2.1∧(reqV mi fs).2.1<9223372036854775808∧((reqV mi fs).2.1=0∨(reqV mi fs).1=1):=by
 unfold reqV at h ⊢
 split
 ·rename_i ht
  rw [if_pos ht] at h
  unfold reqL at h ⊢
  split
  ·refine ⟨?_,?_,?_,?_,?_⟩ <;> simp
  ·rename_i hc
   rw [if_neg hc] at h
   split
   ·rename_i he
    rw [if_pos he] at h
    exact absurd h he
   ·have:=lenV_le (valsH fs clN)
    exact ⟨(by decide:(0:Int)≤1),(by decide:(1:Int)≤2),this.1,by dsimp only;omega,.inr rfl⟩
 ·rename_i ht
  rw [if_neg ht] at h
  unfold reqT at h ⊢
  split
  ·rename_i hc
   rw [if_pos hc] at h;cases h
  ·rename_i hc
   rw [if_neg hc] at h
   split
   ·rename_i he
    rw [if_pos he] at h
    exact absurd h he
   ·refine ⟨?_,?_,?_,?_,?_⟩ <;> simp
theorem whole_ok {s:Cst} (hm:s.most≤1048576) (h:(wholeC s).2=none) :
  (wholeC s).1.most=s.most∧(wholeC s).1.hp=newP false∧(wholeC s).1.inBody=true∧(wholeC s).1.reads=s.reads∧(wholeC s).1.row=s.row∧(wholeC s).1.number=s.number∧(wholeC s).1.evs=s.evs∧(wholeC s).1.got=[] ∧
  ∃ r,(wholeC s).1.rd=some r∧Rok r∧r.done=false:=by
 unfold wholeC at h ⊢
 dsimp only at h ⊢
 split at h
 ·cases h
 ·rename_i h1
  rw [if_neg h1]
  split at h
  ·cases h
  ·rename_i h2
   rw [if_neg h2]
   split at h
   ·cases h
   ·rename_i h3
    rw [if_neg h3]
    split at h
    ·cases h
    ·rename_i h4
     rw [if_neg h4]
     split at h
     ·cases h
     ·rename_i h5
      rw [if_neg h5]
      split at h
      ·cases h
      ·rename_i h6
       rw [if_neg h6]
       obtain ⟨b1,b2,b3,b4,b5⟩:=reqV_ok (by simpa using h4)
       exact ⟨rfl,rfl,rfl,rfl,rfl,rfl,rfl,rfl,_,rfl,new_okF (by omega) (by omega) hm,rfl⟩
theorem inBody_heads {s:Cst} {b:List UInt8} (h:(headsC s b).1.inBody=true) (h0:s.inBody=false) (hn:(headsC s b).2.1=none) :
  (feedP s.hp b).2.2.1=true∧(feedP s.hp b).2.2.2=0:=by
 by_cases h1:(feedP s.hp b).2.2.2=0
 ·refine ⟨?_,h1⟩
  cases hq:(feedP s.hp b).2.2.1 with
  | true=>rfl
  | false =>
   unfold headsC at h
   dsimp only at h
   rw [h1,hq] at h
   simp only [looksC] at h
   rw [h0] at h
   simp at h
 ·unfold headsC at hn
  dsimp only at hn
  split at hn
  ·cases hn
  ·first
   | (rw [if_pos h1] at hn;cases hn)
   | cases hn
theorem read_b {s:Cst} (b:List UInt8) (h:s.inBody=true):readC s b=endC (bodiesC s b):=by
 unfold readC nextC
 rw [if_pos h]
 dsimp only
 rw [if_neg (by rw [h];simp)]
theorem read_h {s:Cst} (b:List UInt8) (h:s.inBody=false) :
  readC s b=if (headsC s b).2.1=none∧(headsC s b).1.inBody=true then endC (bodiesC (headsC s b).1 (headsC s b).2.2) else endC (headsC s b):=by
 have hn:nextC s b=headsC s b:=by unfold nextC;rw [if_neg (by rw [h];simp)]
 unfold readC
 rw [hn]
 dsimp only
 by_cases hc:(headsC s b).2.1=none∧(headsC s b).1.inBody=true
 ·rw [if_pos hc,if_pos ⟨hc.1,h,hc.2⟩]
  unfold nextC
  rw [if_pos hc.2]
 ·rw [if_neg hc,if_neg (fun x=>hc ⟨x.1,x.2.2⟩)]
theorem end_meets {q q':Sp24} {b:List UInt8} (h1:q'.1=q.1) (h2:q'.2.1=q.2.1) (h3:q'.2.2=q.2.2++b):(endC q').1=(endC q).1∧((endC q).1.reads=true→(endC q').2=(endC q).2++b):=by
 obtain ⟨s,st,r⟩:=q
 obtain ⟨s',st',r'⟩:=q'
 dsimp only at h1 h2 h3
 subst h1 h2 h3
 cases st' with
 | none=>exact ⟨rfl,fun _=>rfl⟩
 | some x=>exact ⟨rfl,fun h=>by cases h⟩
theorem end_none {q:Sp24} (h1:q.2.1=none) (h2:q.2.2=[]):endC q=(q.1,[]):=by
 obtain ⟨s,st,r⟩:=q
 dsimp only at h1 h2
 subst h1 h2
 rfl
theorem heads_whole {s:Cst} {b:List UInt8} (hm:s.most≤1048576) (h0:s.inBody=false) (hn:(headsC s b).2.1=none) (hi:(headsC s b).1.inBody=true) :
  ∃ r,(headsC s b).1.rd=some r∧Rok r∧r.done=false:=by
 obtain ⟨h1,h2⟩:=inBody_heads hi h0 hn
 have e:headsC s b=((wholeC (looksC { s with hp:=(feedP s.hp b).1 } (b.take (feedP s.hp b).2.1))).1,(wholeC (looksC { s with hp:=(feedP s.hp b).1 } (b.take (feedP s.hp b).2.1))).2,b.drop (feedP s.hp b).2.1):=by
  unfold headsC
  dsimp only
  rw [h1,h2]
  simp
 rw [e] at hn ⊢
 exact (whole_ok (by exact hm) hn).2.2.2.2.2.2.2.2
theorem heads_reads {s:Cst} {b:List UInt8} (hm:s.most≤1048576) (h0:s.inBody=false) (hn:(headsC s b).2.1=none) (hi:(headsC s b).1.inBody=true):(headsC s b).1.reads=s.reads:=by
 obtain ⟨h1,h2⟩:=inBody_heads hi h0 hn
 have e:headsC s b=((wholeC (looksC { s with hp:=(feedP s.hp b).1 } (b.take (feedP s.hp b).2.1))).1,(wholeC (looksC { s with hp:=(feedP s.hp b).1 } (b.take (feedP s.hp b).2.1))).2,b.drop (feedP s.hp b).2.1):=by
  unfold headsC
  dsimp only
  rw [h1,h2]
  simp
 rw [e] at hn ⊢
 exact (whole_ok (by exact hm) hn).2.2.2.1
theorem read_app {s:Cst} (hk:Cok s) (hr:s.reads=true) (a b:List UInt8) :
  ((readC s (a++b)).1=(readC s a).1∧((readC s a).1.reads=true→(readC s (a++b)).2=(readC s a).2++b)) ∨
  ((readC s a).2=[]∧(readC s a).1.reads=true∧readC s (a++b)=readC (readC s a).1 b):=by
 by_cases hb:s.inBody=true
 ·rw [read_b _ hb,read_b _ hb]
  obtain ⟨r,h1,hok,hd,_⟩:=hk.bd hb
  rcases bodies_app h1 hok hd a b with ⟨e1,e2,e3⟩ | ⟨e1,e2,e3,e4,e5⟩
  ·exact .inl (end_meets e1 e2 e3)
  ·rw [end_none e1 e2]
   exact .inr ⟨rfl,e4.trans hr,by rw [read_b _ (e3.trans hb),e5]⟩
 ·have hb:s.inBody=false:=by simpa using hb
  rcases heads_app hk.hp a b with ⟨e1,e2,e3⟩ | ⟨e1,e2,e3,e4,e5⟩
  ·rw [read_h _ hb,read_h _ hb,e1,e2,e3]
   by_cases hc:(headsC s a).2.1=none∧(headsC s a).1.inBody=true
   ·rw [if_pos hc,if_pos hc]
    obtain ⟨r,h1,hok,hd⟩:=heads_whole hk.mo hb hc.1 hc.2
    rcases bodies_app h1 hok hd (headsC s a).2.2 b with ⟨f1,f2,f3⟩ | ⟨f1,f2,f3,f4,f5⟩
    ·exact .inl (end_meets f1 f2 f3)
    ·rw [end_none f1 f2]
     exact .inr ⟨rfl,f4.trans ((heads_reads hk.mo hb hc.1 hc.2).trans hr),by rw [read_b _ (f3.trans hc.2),f5]⟩
   ·rw [if_neg hc,if_neg hc]
    exact .inl (end_meets e1 e2 e3)
  ·have hc:¬((headsC s a).2.1=none∧(headsC s a).1.inBody=true):=fun x=>by rw [e3,hb] at x;exact absurd x.2 (by simp)
   have ha:readC s a=((headsC s a).1,[]):=by rw [read_h _ hb,if_neg hc,end_none e1 e2]
   rw [ha]
   refine .inr ⟨rfl,e4.trans hr,?_⟩
   rw [read_h _ hb,read_h _ (e3.trans hb),e5]
theorem bodies_ok {s:Cst} {r:Rst} (hm:s.most≤1048576) (hp:Pok s.hp) (hr:s.hp.reply=false) (h:s.rd=some r) (hok:Rok r) (hd:r.done=false) (b:List UInt8) (hn:(bodiesC s b).2.1=none):Cok (bodiesC s b).1:=by
 unfold bodiesC at hn ⊢
 rw [h] at hn ⊢
 dsimp only at hn ⊢
 split at hn
 ·cases hn
 ·rename_i h1
  rw [if_neg h1]
  split at hn
  ·cases hn
  ·rename_i h2
   rw [if_neg h2]
   split at hn
   ·rename_i h3
    rw [if_pos h3]
    exact ⟨hm,hp,hr,fun e=>by cases e⟩
   ·rename_i h3
    rw [if_neg h3]
    exact ⟨hm,hp,hr,fun _=>⟨_,rfl,rgo_feed hok hd b (by simpa using h3) (by simpa using h2)⟩⟩
theorem bodies_most (s:Cst) (b:List UInt8):(bodiesC s b).2.2.length≤b.length:=by
 unfold bodiesC
 split
 ·exact Nat.le_refl _
 ·dsimp only
  split
  ·simp
  ·split
   ·simp
   ·split <;> simp
theorem bodies_less {s:Cst} {r:Rst} (h:s.rd=some r) (hg:Rgo r) {b:List UInt8} (hb:b≠[]):(bodiesC s b).2.2.length<b.length:=by
 obtain ⟨c,l,rfl⟩:∃ c l,b=c::l:=by cases b with
  | nil=>exact absurd rfl hb
  | cons c l=>exact ⟨c,l,rfl⟩
 have:=rgo_takes hg c l
 unfold bodiesC
 rw [h]
 dsimp only
 split
 ·simp only [List.length_drop,List.length_cons];omega
 ·split
  ·simp only [List.length_drop,List.length_cons];omega
  ·split <;> (simp only [List.length_drop,List.length_cons];omega)
theorem heads_less {s:Cst} (hp:Pok s.hp) {b:List UInt8} (hb:b≠[]):(headsC s b).2.2.length<b.length:=by
 obtain ⟨c,l,rfl⟩:∃ c l,b=c::l:=by cases b with
  | nil=>exact absurd rfl hb
  | cons c l=>exact ⟨c,l,rfl⟩
 have:=pok_takes hp c l
 unfold headsC
 dsimp only
 split
 ·simp only [List.length_drop,List.length_cons];omega
 ·split
  ·simp only [List.length_drop,List.length_cons];omega
  ·split <;> (simp only [List.length_drop,List.length_cons];omega)
theorem end_reads {q:Sp24} (h:(endC q).1.reads=true):q.2.1=none∧endC q=(q.1,q.2.2):=by
 obtain ⟨s,st,r⟩:=q
 cases st with
 | none=>exact ⟨rfl,rfl⟩
 | some x=>cases h
theorem read_ok {s:Cst} (hk:Cok s) {b:List UInt8} (hb:b≠[]) (h:(readC s b).1.reads=true):Cok (readC s b).1∧(readC s b).2.length<b.length:=by
 by_cases hi:s.inBody=true
 ·rw [read_b _ hi] at h ⊢
  obtain ⟨hn,he⟩:=end_reads h
  rw [he]
  obtain ⟨r,h1,hg⟩:=hk.bd hi
  exact ⟨bodies_ok hk.mo hk.hp hk.rp h1 hg.1 hg.2.1 b hn,bodies_less h1 hg hb⟩
 ·have hi:s.inBody=false:=by simpa using hi
  rw [read_h _ hi] at h ⊢
  have hl:=heads_less hk.hp hb
  by_cases hc:(headsC s b).2.1=none∧(headsC s b).1.inBody=true
  ·rw [if_pos hc] at h ⊢
   obtain ⟨hn,he⟩:=end_reads h
   rw [he]
   obtain ⟨r,h1,hok,hd⟩:=heads_whole hk.mo hi hc.1 hc.2
   obtain ⟨g1,g2⟩:=inBody_heads hc.2 hi hc.1
   have e:headsC s b=((wholeC (looksC { s with hp:=(feedP s.hp b).1 } (b.take (feedP s.hp b).2.1))).1,(wholeC (looksC { s with hp:=(feedP s.hp b).1 } (b.take (feedP s.hp b).2.1))).2,b.drop (feedP s.hp b).2.1):=by
    unfold headsC
    dsimp only
    rw [g1,g2]
    simp
   have hw:=hc.1
   rw [e] at hw
   obtain ⟨w1,w2,_⟩:=whole_ok (by exact hk.mo) hw
   have e1:(headsC s b).1.most=s.most:=by rw [e];exact w1
   have e2:(headsC s b).1.hp=newP false:=by rw [e];exact w2
   refine ⟨bodies_ok (by rw [e1];exact hk.mo) (by rw [e2];exact newP_ok false) (by rw [e2];rfl) h1 hok hd _ hn,?_⟩
   have:=bodies_most (headsC s b).1 (headsC s b).2.2
   show (bodiesC _ _).2.2.length<_
   omega
  ·rw [if_neg hc] at h ⊢
   obtain ⟨hn,he⟩:=end_reads h
   rw [he]
   refine ⟨?_,hl⟩
   have hnd:(feedP s.hp b).2.2.2=0∧(feedP s.hp b).2.2.1=false:=by
    by_cases h1:(feedP s.hp b).2.2.2=0
    ·refine ⟨h1,?_⟩
     cases hq:(feedP s.hp b).2.2.1 with
     | false=>rfl
     | true =>
      exfalso
      have e:headsC s b=((wholeC (looksC { s with hp:=(feedP s.hp b).1 } (b.take (feedP s.hp b).2.1))).1,(wholeC (looksC { s with hp:=(feedP s.hp b).1 } (b.take (feedP s.hp b).2.1))).2,b.drop (feedP s.hp b).2.1):=by
       unfold headsC
       dsimp only
       rw [h1,hq]
       simp
      refine hc ⟨hn,?_⟩
      have hw:=hn
      rw [e] at hw ⊢
      exact (whole_ok (by exact hk.mo) hw).2.2.1
    ·exfalso
     unfold headsC at hn
     dsimp only at hn
     split at hn
     ·cases hn
     ·cases hn
   have e:headsC s b=(looksC { s with hp:=(feedP s.hp b).1 } (b.take (feedP s.hp b).2.1),none,b.drop (feedP s.hp b).2.1):=by
    unfold headsC
    dsimp only
    rw [hnd.1,hnd.2]
    simp
   rw [e]
   exact ⟨hk.mo,pok_feed hk.hp b hnd.2 hnd.1,(feed_rf b s.hp hk.hp.fl).1.trans hk.rp,fun x=>by
    have:s.inBody=true:=x
    rw [hi] at this;cases this⟩
theorem reads_more:∀ (n:Nat) (s:Cst) (b:List UInt8),Cok s→b.length≤n→∀ m,b.length≤m→readsC n s b=readsC m s b
 | n,s,b,hk,hn,m,hm=>by
  by_cases hc:s.reads=true∧b≠[]
  ·have hl:0<b.length:=List.length_pos_iff.2 hc.2
   obtain ⟨n',rfl⟩:∃ n',n=n'+1:=⟨n-1,by omega⟩
   obtain ⟨m',rfl⟩:∃ m',m=m'+1:=⟨m-1,by omega⟩
   show (if _ then _ else _)=(if _ then _ else _)
   rw [if_pos hc,if_pos hc]
   by_cases hr:(readC s b).1.reads=true
   ·obtain ⟨h1,h2⟩:=read_ok hk hc.2 hr
    exact reads_more n' _ _ h1 (by omega) m' (by omega)
   ·have z:∀ k x,readsC k (readC s b).1 x=(readC s b).1:=fun k x=>by
     cases k with
     | zero=>rfl
     | succ k=>show (if _ then _ else _)=_;rw [if_neg (fun y=>hr y.1)]
    rw [z,z]
  ·have z:∀ k,readsC k s b=s:=fun k=>by
    cases k with
    | zero=>rfl
    | succ k=>show (if _ then _ else _)=_;rw [if_neg hc]
   rw [z,z]
 termination_by n=>n
def allC (s:Cst) (b:List UInt8):Cst:=readsC b.length s b
theorem all_no {s:Cst} (b:List UInt8) (h:s.reads=false):allC s b=s:=by
 unfold allC
 cases b with
 | nil=>rfl
 | cons c l=>show (if _ then _ else _)=_;rw [if_neg (by rw [h];simp)]
theorem all_step {s:Cst} (hk:Cok s) (hr:s.reads=true) {b:List UInt8} (hb:b≠[]):allC s b=if (readC s b).1.reads=true then allC (readC s b).1 (readC s b).2 else (readC s b).1:=by
 obtain ⟨c,l,rfl⟩:∃ c l,b=c::l:=by cases b with
  | nil=>exact absurd rfl hb
  | cons c l=>exact ⟨c,l,rfl⟩
 have e:allC s (c::l)=readsC l.length (readC s (c::l)).1 (readC s (c::l)).2:=by
  show (if _ then _ else _)=_
  rw [if_pos ⟨hr,hb⟩]
 rw [e]
 split
 ·rename_i h
  obtain ⟨h1,h2⟩:=read_ok hk hb h
  exact reads_more _ _ _ h1 (by simp only [List.length_cons] at h2;omega) _ (Nat.le_refl _)
 ·rename_i h
  cases hl:l.length with
  | zero=>rfl
  | succ k=>show (if _ then _ else _)=_;rw [if_neg (fun y=>h y.1)]
theorem all_app:∀ (n:Nat) (s:Cst) (a b:List UInt8),a.length≤n→Cok s→allC s (a++b)=allC (allC s a) b
 | n,s,a,b,hn,hk=>by
  by_cases hr:s.reads=true
  ·by_cases ha:a=[]
   ·subst ha;rfl
   ·by_cases hb:b=[]
    ·subst hb
     rw [List.append_nil]
     rfl
    ·have hl:0<a.length:=List.length_pos_iff.2 ha
     obtain ⟨n',rfl⟩:∃ n',n=n'+1:=⟨n-1,by omega⟩
     have hab:a++b≠[]:=by simp [ha]
     rw [all_step hk hr hab,all_step hk hr ha]
     rcases read_app hk hr a b with ⟨e1,e2⟩ | ⟨e1,e2,e3⟩
     ·rw [e1]
      by_cases h:(readC s a).1.reads=true
      ·rw [if_pos h,if_pos h,e2 h]
       obtain ⟨g1,g2⟩:=read_ok hk ha h
       exact all_app n' _ _ _ (by omega) g1
      ·rw [if_neg h,if_neg h,all_no b (by simpa using h)]
     ·rw [if_pos e2,e1,e3]
      obtain ⟨g1,_⟩:=read_ok hk ha e2
      show _=allC (readC s a).1 b
      rw [all_step g1 e2 hb]
  ·have hf:s.reads=false:=by simpa using hr
   rw [all_no _ hf,all_no _ hf,all_no _ hf]
 termination_by n=>n
end Go.Proofs.YthbofilcnpdghaaGreatDoor
end
