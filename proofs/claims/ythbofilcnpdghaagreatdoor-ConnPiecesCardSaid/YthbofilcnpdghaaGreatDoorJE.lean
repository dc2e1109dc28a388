/-
ConnPieces: a piece of what comes; two connections and what they told.
-/
import Derived.Test.YthbofilcnpdghaaGreatDoorJD
import Derived.Test.YthbofilcnpdghaaGreatDoorZaz
set_option maxRecDepth 100000
set_option maxHeartbeats 8000000
set_option linter.unusedVariables false
set_option linter.unusedSimpArgs false
namespace Go.Proofs.YthbofilcnpdghaaGreatDoor
open Go.RowKit
theorem end_evs (q:Sp24):(endC q).1.evs=q.1.evs:=by
 obtain ⟨s,st,r⟩:=q
 cases st <;> rfl
theorem bodies_8 {s:Cst} (h:Rq8 s.r) (he:∀ x∈s.evs,Rq8 x.r) (b:List UInt8):∀ x∈(bodiesC s b).1.evs,Rq8 x.r:=by
 unfold bodiesC
 split
 ·exact he
 ·dsimp only
  split
  ·exact he
  ·split
   ·exact he
   ·split
    ·intro x hx
     rcases List.mem_append.1 hx with hx | hx
     ·exact he x hx
     ·rw [List.mem_singleton.1 hx];exact h
    ·exact he
theorem read_8 {s:Cst} (hk:Cgo s) (he:∀ x∈s.evs,Rq8 x.r) (b:List UInt8):∀ x∈(readC s b).1.evs,Rq8 x.r:=by
 by_cases hb:s.inBody=true
 ·rw [read_b _ hb,end_evs];exact bodies_8 (hk.fl hb) he b
 ·have hb:s.inBody=false:=by simpa using hb
  rw [read_h _ hb]
  have hs:=heads_same s b
  split
  ·rename_i hc
   rw [end_evs]
   exact bodies_8 ((heads_go hk hb b hc.1).1 hc.2).2 (by rw [hs.1];exact he) _
  ·rw [end_evs,hs.1];exact he
theorem reads_8 {e:List Ev24}:∀ (n:Nat) (s:Cst) (b:List UInt8),InI e s→(∀ x∈s.evs,Rq8 x.r)→∀ x∈(readsC n s b).evs,Rq8 x.r
 | 0,_,_,_,h=>h
 | n+1,s,b,hi,h=>by
  show ∀ x∈(if s.reads=true∧b≠[] then readsC n (readC s b).1 (readC s b).2 else s).evs,Rq8 x.r
  split
  ·rename_i hc
   exact reads_8 n _ _ (hi.read hc.1 hc.2) (read_8 (hi.g hc.1).1 h b)
  ·exact h
theorem all_8 {m:Nat} (hm:m≤1048576) (b:List UInt8):∀ x∈(allC (newC m) b).evs,Rq8 x.r:=reads_8 _ _ _ (new_in hm) (fun x hx=>by cases hx)
theorem take_cut (b:List UInt8) {M T:Nat} (h:M≤T):b.take M++(b.take T).drop M=b.take T:=by
 have:=List.take_append_drop M (b.take T)
 rw [List.take_take,Nat.min_eq_left h] at this
 exact this
theorem mod1000 (z:Int):∃ M:Int,∃ k:Nat,wrap64 (z.tmod 1000+1000)=M∧M.tmod 1000=(k:Int)∧k<1000:=by
 obtain ⟨M,e1⟩:∃ M,wrap64 (z.tmod 1000+1000)=M:=⟨_,rfl⟩
 obtain ⟨Q,e2⟩:∃ Q,M.tmod 1000=Q:=⟨_,rfl⟩
 have hM:0≤M:=by
  have h1:z.tmod 1000=z-1000*z.tdiv 1000:=by have:=Int.mul_tdiv_add_tmod z 1000;omega
  have h2:=Int.tmod_lt_of_pos z (show (0:Int)<1000 by decide)
  have h3:-1000<z.tmod 1000:=by
   rcases Int.le_total 0 z with h | h
   ·have:=Int.tmod_nonneg 1000 h;omega
   ·have h4:=Int.tmod_nonneg 1000 (show 0≤-z by omega)
    have h5:=Int.tmod_lt_of_pos (-z) (show (0:Int)<1000 by decide)
    rw [Int.neg_tmod] at h4 h5
    omega
  rw [← e1]
  unfold wrap64
  omega
 have hQ:0≤Q∧Q<1000:=by rw [← e2];exact ⟨Int.tmod_nonneg _ hM,Int.tmod_lt_of_pos _ (by decide)⟩
 exact ⟨M,Q.toNat,e1,by rw [e2];omega,by omega⟩
theorem cut_partP (b:List UInt8) (B:Option Addr) (n c X Y:Nat) (w:World) (hR:Rd w B (bc b)) (hX:X≤Y) (hY:Y≤b.length) (hc:b.length≤c) :
  ∃ B',(∀ w',(Instr.slice 22 (.slice B n c) (some (.int .i64 (X:Int))) (some (.int .i64 (Y:Int))) none).run Tryz.prog w'=.ok (.slice B' (Y-X) (c-X)) w')∧Rd w B' (bc ((b.take Y).drop X)):=by
 have hl:((b.take Y).drop X).length=Y-X:=by rw [List.length_drop,List.length_take];omega
 have hz:∀ w',(Go.sizeOf 5).run Tryz.prog w'=.ok 1 w':=fun _=>rfl
 have hu:=Tryz.underlying22
 refine ⟨if c=X then B else B.map (·.add (X*1)),fun w'=>?_,?_⟩
 ·have h1:(0:Int)≤(Y:Int):=by omega
  have h2:(Y:Int)≤(c:Int):=by omega
  have h3:(0:Int)≤(X:Int):=by omega
  have h4:(X:Int)≤(Y:Int):=by omega
  simp [Instr.slice,Instr.sliceBounds,Instr.sliceBound,asIntOf,run_underlying hu,go_sem,h1,h2,h3,h4,hz,hX,(show Y≤c by omega)]
 ·by_cases h0:X=Y
  ·have h5:(b.take Y).drop X=[]:=List.eq_nil_of_length_eq_zero (by rw [hl];omega)
   exact .inl (by rw [h5];rfl)
  ·rw [if_neg (by omega)]
   obtain ⟨g,f,rfl,hg,hcc⟩:=hR.at_ (by rw [bc_len];omega)
   refine .inr ⟨g,f+X*1,by simp [Addr.add],fun j u hu=>?_⟩
   have hj:j<Y-X:=by have:=(List.getElem?_eq_some_iff.1 hu).1;rw [bc_len,hl] at this;exact this
   rw [Nat.mul_one,Nat.add_assoc]
   refine hcc (X+j) u ?_
   rw [← hu,← bc_drop,← bc_take,List.getElem?_drop,List.getElem?_take_of_lt (by omega)]
def cutP (n m:Nat) (ct:Int):Nat:=min n (m+(ct % ((n:Int)+1)).toNat)
theorem cutP_ok (n m:Nat) (ct:Int) (_hc:0≤ct) (hm:m≤n):m≤cutP n m ct∧cutP n m ct≤n∧0≤ct % ((n:Int)+1)∧ct % ((n:Int)+1)≤(n:Int)∧min (n:Int) ((m:Int)+ct % ((n:Int)+1))=(cutP n m ct:Int):=by
 have h1:0≤ct % ((n:Int)+1):=Int.emod_nonneg _ (by omega)
 have h2:ct % ((n:Int)+1)<(n:Int)+1:=Int.emod_lt_of_pos ct (by omega)
 unfold cutP
 refine ⟨by omega,by omega,h1,by omega,?_⟩
 omega
theorem int_atP {w:World} {C:Option Addr} {cs:List Int} (h:Rd w C (cs.map (Value.int .i64))) {t:Nat} (ht:t<cs.length):∃ g f,C=some ⟨g,f,none⟩∧w.cell? ⟨g,f+t,none⟩=some (.int .i64 cs[t]):=by
 obtain ⟨g,f,hC,_,hc⟩:=h.at_ (by rw [List.length_map];omega)
 exact ⟨g,f,hC,hc t _ (by simp [ht])⟩
theorem kc24:(∀ i,i<13→¬ KC 40 (20+i))∧∀ id,¬ KC 40 (KA 20 id):=kc_no (k:=40) (j:=20) (by decide) (by decide) (by decide)
theorem kc42:(∀ i,i<13→¬ KC 20 (40+i))∧∀ id,¬ KC 20 (KA 40 id):=kc_no (k:=20) (j:=40) (by decide) (by decide) (by decide)
structure PcE (w:World) (c D:Nat) (Z z:Cst) (A1:Option Addr) (n1 d1:Nat) (A2:Option Addr) (n2 d2:Nat) (wr:World) (o:Ow):Prop where
 i:InI [] z
 old:Old w wr o
 ol:∀ x,x<wr.heap.size→o x≠100
 cn:CnAt wr o 20 c (putC Z)
 dn:CnAt wr o 40 D (putC z)
 e1:∃ es,Sl wr o 95 6 A1 n1 d1 es∧EvL wr o Z.evs es
 e2:∃ es,Sl wr o 96 6 A2 n2 d2 es∧EvL wr o z.evs es
 h1:n1=Z.evs.length
 h2:n2=z.evs.length
 na:A2=none→d2=0
def MidR (w:World) (c D:Nat) (Z z2:Cst) (A1:Option Addr) (n1 d1:Nat) (A2:Option Addr) (n2 d2:Nat) (e:Ending) (w4:World):Prop :=
 ∃ A4 k4 c4 es es4 o4,e=.returned (.slice A4 k4 c4)∧Sl w4 o4 96 6 A2 n2 d2 es∧Rd w4 A4 es4∧es4.length=k4*6∧(∀ u∈es4,u.oneCell'=true)∧n2+k4≤64 ∧
  ∀ A7 c7 w7 o7,Sl w7 o7 96 6 A7 (n2+k4) c7 (es++es4)→Stp (fun i=>i=96) w4 o4 w7 o7→(A7=none→c7=0)→PcE w c D Z z2 A1 n1 d1 A7 (n2+k4) c7 w7 (o99 o7)
theorem piece_c {w:World} (hL:Lb w) {m c D:Nat} (hm:m≤1048576) {Z z:Cst} {A1:Option Addr} {n1 d1:Nat} {A2:Option Addr} {n2 d2:Nat} {wr:World} {o:Ow} (h:PcE w c D Z z A1 n1 d1 A2 n2 d2 wr o) {a:List UInt8} (hz:z=allC (newC m) a) (p:List UInt8) {Bp:Option Addr} {np dp:Nat} (hn:np=p.length) (hd:np≤dp) (hb:np≤4611686018427387904) (hB:Rd w Bp (bc p)) :
  Calls Tryz.prog 10 #[.pointer (some ⟨D,0,none⟩),.slice Bp np dp,.int .i64 0] wr (MidR w c D Z (allC (newC m) (a++p)) A1 n1 d1 A2 n2 d2):=by
 obtain ⟨h1,h2⟩:=put_more hm a p
 have i2:InI [] (allC (newC m) (a++p)):=all_in (new_in hm) _
 rw [← hz] at h1 h2
 obtain ⟨z2,hz2⟩:∃ x,x=allC (newC m) (a++p):=⟨_,rfl⟩
 obtain ⟨l2,hl2⟩:∃ l,l=(inputC (putC z) p).2:=⟨_,rfl⟩
 rw [← hz2,← hl2] at h1 h2
 rw [← hz2] at i2 ⊢
 refine (nInput_c w hL 97 40 D (by decide) (by decide) (by decide) z.evs (putC z) (in_any h.i) p Bp np dp hn hd hb wr o h.old h.ol h.dn (Ro.olds hB h.old)).mono ?_
 rw [h1]
 rintro e w4 ⟨v,o4,rfl,⟨⟨A4,c4,es4,rfl,hs4,_,he4⟩,hD4,hn4⟩,st4⟩
 obtain ⟨es,es1,es2⟩:=h.e2
 have f2:=i2.few
 rw [h2,List.length_append] at f2
 refine ⟨A4,l2.length,c4,es,es4,o4,rfl,es1.sto st4 (by unfold KC;omega),hs4.rd,hs4.len,he4.one,by rw [h.h2];exact f2.1,fun A7 c7 w7 o7 hs7 st7 hz7=>?_⟩
 have t:=no100 st7.sto hn4
 obtain ⟨f,fs1,fs2⟩:=h.e1
 have k0:¬ KC 40 0:=kc0 (by decide)
 refine ⟨i2,(h.old.sto st4 k0).sto t (by decide),fun x _=>o99_no o7 x,(h.cn.sto st4 k0 kc24.1 (fun a _=>kc24.2 a.id)).sto t (by decide) (fun i hi=>show ¬(20+i=96) by omega) (fun a _=>show ¬(KA 20 a.id=96) by unfold KA;omega),hD4.sto t (by decide) (fun i hi=>show ¬(40+i=96) by omega) (fun a _=>show ¬(KA 40 a.id=96) by unfold KA;omega),⟨f,(fs1.sto st4 (by unfold KC;omega)).sto t (by decide),(fs2.sto st4 k0).sto t (by decide)⟩,⟨es++es4,hs7.give (fun b _ hb=>(show (if o7 b=100 then 0 else o7 b)=96 from by rw [hb];rfl)),?_⟩,h.h1,by rw [h2,List.length_append,h.h2],hz7⟩
 rw [h2]
 exact ((es2.sto st4 k0).app he4).sto t (by decide)
structure PcS (w:World) (c D:Nat) (s s':Cst) (l:List Ev24) (A1:Option Addr) (d1:Nat) (A2:Option Addr) (d2:Nat) (wr:World) (o:Ow):Prop where
 old:Old w wr o
 ol:∀ x,x<wr.heap.size→o x≠100
 cn:CnAt wr o 20 c s
 dn:CnAt wr o 40 D s'
 e1:∃ es,Sl wr o 95 6 A1 l.length d1 es∧EvL wr o l es
 e2:∃ es,Sl wr o 96 6 A2 l.length d2 es∧EvL wr o l es
section
variable {w:World} {c D:Nat} {s s' s2:Cst} {l:List Ev24} {A1:Option Addr} {d1:Nat} {A2:Option Addr} {d2:Nat} {wr w':World} {o o':Ow}
theorem PcS.on20 (h:PcS w c D s s' l A1 d1 A2 d2 wr o) (t:Sto (KC 20) wr o w' o') (hc:CnAt w' o' 20 c s2):PcS w c D s2 s' l A1 d1 A2 d2 w' (o99 o'):=by
 have t2:=no100 t h.ol
 obtain ⟨x,x1,x2⟩:=h.e1
 obtain ⟨y,y1,y2⟩:=h.e2
 have k0:¬ KC 20 0:=kc0 (by decide)
 exact ⟨h.old.sto t2 k0,fun x _=>o99_no o' x,hc.o99 (by decide) (by decide),h.dn.sto t2 k0 kc42.1 (fun a _=>kc42.2 a.id),⟨x,x1.sto t2 (by unfold KC;omega),x2.sto t2 k0⟩,⟨y,y1.sto t2 (by unfold KC;omega),y2.sto t2 k0⟩⟩
theorem PcS.on40 (h:PcS w c D s s' l A1 d1 A2 d2 wr o) (t:Sto (KC 40) wr o w' o') (hc:CnAt w' o' 40 D s2):PcS w c D s s2 l A1 d1 A2 d2 w' (o99 o'):=by
 have t2:=no100 t h.ol
 obtain ⟨x,x1,x2⟩:=h.e1
 obtain ⟨y,y1,y2⟩:=h.e2
 have k0:¬ KC 40 0:=kc0 (by decide)
 exact ⟨h.old.sto t2 k0,fun x _=>o99_no o' x,h.cn.sto t2 k0 kc24.1 (fun a _=>kc24.2 a.id),hc.o99 (by decide) (by decide),⟨x,x1.sto t2 (by unfold KC;omega),x2.sto t2 k0⟩,⟨y,y1.sto t2 (by unfold KC;omega),y2.sto t2 k0⟩⟩
theorem PcS.oz (h:PcS w c D s s' l A1 d1 A2 d2 wr o) (e:Ext wr w'):PcS w c D s s' l A1 d1 A2 d2 w' (oz wr o):=by
 have t:Sto (fun _=>False) wr o w' (Go.Proofs.YthbofilcnpdghaaGreatDoor.oz wr o):=oz_sto e
 obtain ⟨x,x1,x2⟩:=h.e1
 obtain ⟨y,y1,y2⟩:=h.e2
 exact ⟨h.old.sto t (fun x=>x),oz_ol h.ol,h.cn.sto t (fun x=>x) (fun _ _ x=>x) (fun _ _ x=>x),h.dn.sto t (fun x=>x) (fun _ _ x=>x) (fun _ _ x=>x),⟨x,x1.sto t (fun x=>x),x2.sto t (fun x=>x)⟩,⟨y,y1.sto t (fun x=>x),y2.sto t (fun x=>x)⟩⟩
end
theorem ansC_c {w:World} (hL:Lb w) {c D:Nat} {s s':Cst} {l:List Ev24} {A1:Option Addr} {d1:Nat} {A2:Option Addr} {d2:Nat} {wr:World} {o:Ow} (h:PcS w c D s s' l A1 d1 A2 d2 wr o) {r:Bool} {t:List Th24} (ht:EndR t) {i:Nat} {e0:Ev24} {l':List Ev24} (hr:RefI r t i (e0::l') s) {x:List UInt8} (hx:x.length≤100) {B:Option Addr} {n d:Nat} (hn:n=x.length) (hB:Ro wr o B (bc x)) :
  Calls Tryz.prog 13 #[.pointer (some ⟨c,0,none⟩),.int .i64 (i:Int),.agg #[.int .i64 200,.slice none 0 0,.slice B n d]] wr fun e w'=>∃ o',e=.returned (.int .i64 0)∧PcS w c D (answerC s i x).1 s' l A1 d1 A2 d2 w' o'∧Sto (KC 20) wr o w' o':=by
 obtain ⟨h1,h2⟩:=hr.step ht x hx
 rw [hn]
 refine (nAnswer_c w hL 20 c (by decide) (by decide) s hr.ok hr.sz (hr.uni ht) i x hx B d wr o h.old h.cn hB).mono ?_
 rintro e w' ⟨v,o',rfl,⟨rfl,h4⟩,st⟩
 exact ⟨_,by rw [h2],h.on20 st h4,no100 st h.ol⟩
theorem ansD_c {w:World} (hL:Lb w) {c D:Nat} {s s':Cst} {l:List Ev24} {A1:Option Addr} {d1:Nat} {A2:Option Addr} {d2:Nat} {wr:World} {o:Ow} (h:PcS w c D s s' l A1 d1 A2 d2 wr o) {r:Bool} {t:List Th24} (ht:EndR t) {i:Nat} {e0:Ev24} {l':List Ev24} (hr:RefI r t i (e0::l') s') {x:List UInt8} (hx:x.length≤100) {B:Option Addr} {n d:Nat} (hn:n=x.length) (hB:Ro wr o B (bc x)) :
  Calls Tryz.prog 13 #[.pointer (some ⟨D,0,none⟩),.int .i64 (i:Int),.agg #[.int .i64 200,.slice none 0 0,.slice B n d]] wr fun e w'=>∃ o',e=.returned (.int .i64 0)∧PcS w c D s (answerC s' i x).1 l A1 d1 A2 d2 w' o':=by
 obtain ⟨h1,h2⟩:=hr.step ht x hx
 rw [hn]
 refine (nAnswer_c w hL 40 D (by decide) (by decide) s' hr.ok hr.sz (hr.uni ht) i x hx B d wr o h.old h.dn hB).mono ?_
 rintro e w' ⟨v,o',rfl,⟨rfl,h4⟩,st⟩
 exact ⟨_,by rw [h2],h.on40 st h4⟩
def PcL (w:World) (c D mo bn q:Nat) (Z:Cst) (b:List UInt8) (A1:Option Addr) (n1 d1:Nat) (v2 v3 v4:Value) (wr:World):Prop :=
 ∃ M t A2 n2 d2 o,v2=.slice A2 n2 d2∧v3=.int .i64 ((M:Nat):Int)∧v4=.int .i64 ((t:Nat):Int)∧t≤q+1∧(t=q+1→M=bn)∧M≤bn∧PcE w c D Z (allC (newC mo) (b.take M)) A1 n1 d1 A2 n2 d2 wr o
def PcM (w:World) (c D:Nat) (r:Bool) (t:List Th24) (l:List Ev24) (A1:Option Addr) (d1:Nat) (A2:Option Addr) (d2:Nat) (v:Value) (wr:World):Prop :=
 ∃ i m s o,v=.int .i64 ((i:Nat):Int)∧l.drop i=m∧i≤l.length∧RefI r t i m s∧PcS w c D s s l A1 d1 A2 d2 wr o
theorem ev_cells {w:World} {o:Ow} {k n c:Nat} {A:Option Addr} {es:List Value} {l:List Ev24} (h:Sl w o k 6 A n c es) (hn:n=l.length) (he:EvL w o l es) {i:Nat} {e0:Ev24} {mm:List Ev24} (hd:l.drop i=e0::mm) :
  ∃ g f F cf B cb,A=some ⟨g,f,none⟩∧(w.cell? ⟨g,f+i*6,none⟩=some (.int .i64 (e0.id:Int))∧w.cell? ⟨g,f+i*6+1,none⟩=some (.string (str e0.r.1))∧w.cell? ⟨g,f+i*6+2,none⟩=some (.string (str e0.r.2.1))∧w.cell? ⟨g,f+i*6+3,none⟩=some (.int .i64 e0.r.2.2.1)∧w.cell? ⟨g,f+i*6+4,none⟩=some (.slice F e0.r.2.2.2.length cf)∧w.cell? ⟨g,f+i*6+5,none⟩=some (.slice B e0.body.length cb))∧Ro w o F (fc e0.r.2.2.2)∧Ro w o B (bc e0.body):=by
 have hi:i<l.length:=by
  rcases Nat.lt_or_ge i l.length with h1 | h1
  ·exact h1
  ·rw [List.drop_eq_nil_of_le h1] at hd;cases hd
 have h0:=List.drop_eq_getElem_cons hi
 rw [hd] at h0
 injection h0 with h0 _
 obtain ⟨vs,⟨F,cf,B,cb,hv,h1,h2⟩,hu⟩:=he.at_ i hi
 rcases h.at_ with h3 | ⟨g,f,hA,_,_,hc,_⟩
 ·have:=h.le;omega
 ·have e:∀ j u,vs[j]?=some u→w.cell? ⟨g,f+i*6+j,none⟩=some u:=fun j u hj=>by
   rw [Nat.add_assoc];exact hc _ u (hu j u hj)
  have h0':e0=l[i]:=h0
  rw [← h0'] at hv h1 h2
  rw [hv] at e
  exact ⟨g,f,F,cf,B,cb,hA,⟨e 0 _ rfl,e 1 _ rfl,e 2 _ rfl,e 3 _ rfl,e 4 _ rfl,e 5 _ rfl⟩,h1,h2⟩
theorem drop_next {l:List Ev24} {i:Nat} {e0:Ev24} {mm:List Ev24} (hd:l.drop i=e0::mm):l.drop (i+1)=mm∧i<l.length∧e0∈l:=by
 have hi:i<l.length:=by
  rcases Nat.lt_or_ge i l.length with h1 | h1
  ·exact h1
  ·rw [List.drop_eq_nil_of_le h1] at hd;cases hd
 have h0:=List.drop_eq_getElem_cons hi
 rw [hd] at h0
 injection h0 with h0 h1
 exact ⟨h1.symm,hi,by rw [h0];exact List.getElem_mem hi⟩
def PcX (w:World) (c D:Nat) (s:Cst) (l:List Ev24) (A1:Option Addr) (d1:Nat) (A2:Option Addr) (d2:Nat) (x:List UInt8) (v:Value) (wx:World):Prop :=
 ∃ p B o',v=.pointer (some ⟨p,0,none⟩)∧wx.heap[p]?=some (.cells #[.int .i64 200,.slice none 0 0,.slice B 1 1] 41 (0,0))∧o' p=0∧Ro wx o' B (bc x)∧PcS w c D s s l A1 d1 A2 d2 wx o'
theorem PcX.mk {w:World} {c D:Nat} {s:Cst} {l:List Ev24} {A1:Option Addr} {d1:Nat} {A2:Option Addr} {d2:Nat} {wr wc:World} {o:Ow} (h:PcS w c D s s l A1 d1 A2 d2 wr o) (hx:Ext wr wc) {i:Nat} (hi:i<64) :
  PcX w c D s l A1 d1 A2 d2 [UInt8.ofNat i] (.pointer (some ⟨wc.heap.size+1,0,none⟩)) ((wc.alloc (.cells #[.int .u8 (i:Int)] 5)).alloc (.cells #[.int .i64 200,.slice none 0 0,.slice (some ⟨wc.heap.size,0,none⟩) 1 1] 41)):=by
 have e:Ext wr ((wc.alloc (.cells #[.int .u8 (i:Int)] 5)).alloc (.cells #[.int .i64 200,.slice none 0 0,.slice (some ⟨wc.heap.size,0,none⟩) 1 1] 41)):=(hx.al _).al _
 have hb:bc [UInt8.ofNat i]=#[Value.int .u8 (i:Int)].toList:=by
  have:(UInt8.ofNat i).toNat=i:=by rw [UInt8.toNat_ofNat'];omega
  simp [bc,this]
 have hs:=hx.size
 refine ⟨wc.heap.size+1,some ⟨wc.heap.size,0,none⟩,oz wr o,rfl,?_,oz_new wr o (by omega),?_,h.oz e⟩
 ·have:=heap_alloc_new (wc.alloc (.cells #[.int .u8 (i:Int)] 5)) (.cells #[.int .i64 200,.slice none 0 0,.slice (some ⟨wc.heap.size,0,none⟩) 1 1] 41)
  rw [show (wc.alloc (.cells #[.int .u8 (i:Int)] 5)).heap.size=wc.heap.size+1 from by simp] at this
  exact this
 ·refine Ro.new (w1:=wr) ?_ e (by intro a ha;cases ha;exact hs) (fun b hb=>oz_new wr o hb)
  rw [hb]
  exact (Rd.newZ wc #[.int .u8 (i:Int)] 5 (0,0)).ext (Ext.al (Ext.rfl' _) _)
theorem outC_c {w:World} {c D:Nat} {s s':Cst} {l:List Ev24} {A1:Option Addr} {d1:Nat} {A2:Option Addr} {d2:Nat} {wr:World} {o:Ow} (h:PcS w c D s s' l A1 d1 A2 d2 wr o) {k:Nat} (hk:k=s.out.length) :
  Calls Tryz.prog 14 #[.pointer (some ⟨c,0,none⟩)] wr fun e w'=>∃ A5 c5 o',e=.returned (.slice A5 k c5)∧PcS w c D { s with out:=[] } s' l A1 d1 A2 d2 w' o'∧Sl w' o' 97 1 A5 k c5 (bc s.out):=by
 refine (nOutput_c 97 20 c (by decide) (by decide) s wr o h.cn).mono ?_
 rw [hk]
 rintro e w' ⟨v,o',rfl,⟨⟨A5,c5,rfl,h1,_⟩,h2⟩,st⟩
 exact ⟨A5,c5,_,rfl,h.on20 st h2,h1.give (fun b _ hb=>(show (if o' b=100 then 0 else o' b)=97 from by rw [hb];rfl))⟩
theorem outD_c {w:World} {c D:Nat} {s s':Cst} {l:List Ev24} {A1:Option Addr} {d1:Nat} {A2:Option Addr} {d2:Nat} {wr:World} {o:Ow} (h:PcS w c D s s' l A1 d1 A2 d2 wr o) {k:Nat} (hk:k=s'.out.length) :
  Calls Tryz.prog 14 #[.pointer (some ⟨D,0,none⟩)] wr fun e w'=>∃ A5 c5 o',e=.returned (.slice A5 k c5)∧PcS w c D s { s' with out:=[] } l A1 d1 A2 d2 w' o'∧Sl w' o' 98 1 A5 k c5 (bc s'.out)∧Sto (KC 40) wr o w' o':=by
 refine (nOutput_c 98 40 D (by decide) (by decide) s' wr o h.dn).mono ?_
 rw [hk]
 rintro e w' ⟨v,o',rfl,⟨⟨A5,c5,rfl,h1,_⟩,h2⟩,st⟩
 exact ⟨A5,c5,_,rfl,h.on40 st h2,h1.give (fun b _ hb=>(show (if o' b=100 then 0 else o' b)=98 from by rw [hb];rfl)),no100 st h.ol⟩
theorem wpAnyJ_mono {P:Program} {ops:Array Oper} {Q:Exit→Act→World→Prop} {md:Region.Mode} {S S':World→Prop} (hS:∀ w,S' w→S w):∀ {fuel:Nat} {listed:Array Bool} {a:Act} {w:World},wpAnyH P md ops Q S' fuel listed a w→wpAnyH P md ops Q S fuel listed a w
 | 0,_,_,_,h=>h
 | _+1,_,_,_,h=>⟨h.1,fun i hi=>wpOp_mono (fun _ _ h'=>⟨hS _ h'.1,wpAnyJ_mono hS h'.2⟩) (h.2 i hi)⟩
end Go.Proofs.YthbofilcnpdghaaGreatDoor
