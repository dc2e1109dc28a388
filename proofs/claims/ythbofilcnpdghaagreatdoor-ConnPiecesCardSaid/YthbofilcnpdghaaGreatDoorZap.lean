/-
Steps that may give memory away: what K owns may be turned, and may change its owner; all else stays as it was. Where nothing of the beginning is turned.
-/
import Derived.Test.YthbofilcnpdghaaGreatDoorZab
import Derived.Test.YthbofilcnpdghaaGreatDoorZak
import Derived.Test.YthbofilcnpdghaaGreatDoorZao
import Derived.Test.YthbofilcnpdghaaGreatDoorZae
import Derived.RangeFuncNested
import Derived.RangeFuncBound
import Derived.RangeFuncCalls
import Derived.RangeFuncLeaves
import Derived.RangeFuncBox
import Derived.Shelf.Abstract
import Derived.Shelf.RegionOpen
import Derived.OwnWalkIn
import Derived.TacticsInMore
import Derived.LoopNIn
import Derived.LoopIn
import Derived.Test.YthbofilcnpdghaaGreatDoorZad
set_option maxRecDepth 100000
set_option maxHeartbeats 8000000
set_option linter.unusedVariables false
set_option linter.unusedSimpArgs false
section
namespace Go.Proofs.YthbofilcnpdghaaGreatDoor
open Go.RowKit
structure Sto (K:Nat→Prop) (w:World) (o:Ow) (w':World) (o':Ow):Prop where
 os:w'.os=w.os
 tape:w'.tape=w.tape
 output:w'.output=w.output
 size:w.heap.size≤w'.heap.size
 own:∀ b,b<w.heap.size→¬ K (o b)→o' b=o b
 keep:∀ b,b<w.heap.size→¬ K (o b)→w'.heap[b]?=w.heap[b]?
section
variable {K L:Nat→Prop} {w w' w'':World} {o o' o'':Ow}
theorem Stp.sto (h:Stp K w o w' o'):Sto K w o w' o':=⟨h.os,h.tape,h.output,h.size,fun b hb _=>h.own b hb,h.keep⟩
theorem Sto.rfl':Sto K w o w o:=Stp.rfl'.sto
theorem Sto.tr (h:Sto K w o w' o') (k:Sto K w' o' w'' o''):Sto K w o w'' o'' :=
 ⟨k.os.trans h.os,k.tape.trans h.tape,k.output.trans h.output,Nat.le_trans h.size k.size,
  fun b hb hk=>(k.own b (Nat.lt_of_lt_of_le hb h.size) (by rw [h.own b hb hk];exact hk)).trans (h.own b hb hk),
  fun b hb hk=>(k.keep b (Nat.lt_of_lt_of_le hb h.size) (by rw [h.own b hb hk];exact hk)).trans (h.keep b hb hk)⟩
theorem Sto.mono (h:Sto K w o w' o') (hm:∀ i,K i→L i):Sto L w o w' o' :=
 ⟨h.os,h.tape,h.output,h.size,fun b hb hk=>h.own b hb fun x=>hk (hm _ x),fun b hb hk=>h.keep b hb fun x=>hk (hm _ x)⟩
theorem Sto.ext (h:Ext w w'):Sto K w o w' o:=(Stp.ext h).sto
theorem Sto.ext2 (h:Ext w w') (ho:∀ b,b<w.heap.size→¬ K (o b)→o' b=o b):Sto K w o w' o':=⟨h.os,h.tape,h.output,h.size,ho,fun b hb _=>h.block b hb⟩
theorem Sto.cell (h:Sto K w o w' o') {a:Addr} {u:Value} (hb:¬ K (o a.block)) (hc:w.cell? a=some u):w'.cell? a=some u:=by
 rw [← hc];exact World.cell?_of_block (h.keep _ (lt_of_cell hc) hb)
theorem Sto.set (b off:Nat) (u:Value) (hk:b<w.heap.size→K (o b)):Sto K w o (w.setCell ⟨b,off,none⟩ u) o:=(Stp.set b off u hk).sto
theorem Sto.give (ho:∀ b,b<w.heap.size→¬ K (o b)→o' b=o b):Sto K w o w o':=Sto.ext2 (Ext.rfl' w) ho
theorem Sl.sto {k size n c:Nat} {A:Option Addr} {xs:List Value} (h:Sl w o k size A n c xs) (s:Sto K w o w' o') (hk:¬ K k):Sl w' o' k size A n c xs:=by
 refine ⟨h.len,h.le,h.max,?_⟩
 rcases h.at_ with h0 | ⟨g,f,hA,ho,hl,hc,hr⟩
 ·exact .inl h0
 ·have hg:w'.heap[g]?=w.heap[g]?:=s.keep g hl (by rw [ho];exact hk)
  refine .inr ⟨g,f,hA,by rw [s.own g hl (by rw [ho];exact hk)];exact ho,Nat.lt_of_lt_of_le hl s.size,fun j u hu=>?_,fun j hj=>?_⟩
  ·rw [World.cell?_of_block (a:=⟨g,f+j,none⟩) hg];exact hc j u hu
  ·rw [World.cell?_of_block (a:=⟨g,f+j,none⟩) hg,World.frozen?_of_block (a:=⟨g,f+j,none⟩) hg];exact hr j hj
theorem Sl.give {k j size n c:Nat} {A:Option Addr} {xs:List Value} (h:Sl w o k size A n c xs) (ho:∀ b,b<w.heap.size→o b=k→o' b=j):Sl w o' j size A n c xs:=by
 refine ⟨h.len,h.le,h.max,?_⟩
 rcases h.at_ with h0 | ⟨g,f,hA,hg,hl,hc,hr⟩
 ·exact .inl h0
 ·exact .inr ⟨g,f,hA,ho g hl hg,hl,hc,hr⟩
theorem FsAt.sto {k p:Nat} {s:Rst} (h:FsAt w o k p s) (st:Sto K w o w' o') (h0:¬ K k) (h1:¬ K (k+1)) (h2:¬ K (k+2)) (h3:¬ K (k+3)):FsAt w' o' k p s:=by
 obtain ⟨A,c,B,d,C,g,hh,hs,hn,ht,hm,hu,hv⟩:=h.row
 have hk:¬ K (o p):=by rw [h.own];exact h0
 exact ⟨by rw [st.own p (row_lt hh) hk];exact h.own,A,c,B,d,C,g,(st.keep p (row_lt hh) hk).trans hh,hs.sto st h1,hn,ht.sto st h2,hm,hu.sto st h3,hv⟩
theorem PsAt.sto {k p:Nat} {s:Pst} (h:PsAt w o k p s) (st:Sto K w o w' o') (h0:¬ K k) (h1:¬ K (k+1)) (h2:¬ K (k+2)):PsAt w' o' k p s:=by
 obtain ⟨A,c,B,d,hh,hs,hn,ht,hm⟩:=h.row
 have hk:¬ K (o p):=by rw [h.own];exact h0
 exact PsAt.of (by rw [st.own p (row_lt hh) hk];exact h.own) ((st.keep p (row_lt hh) hk).trans hh) (hs.sto st h1) hn (ht.sto st h2) hm
end
def Ro (w:World) (o:Ow) (A:Option Addr) (xs:List Value):Prop:=xs=[]∨∃ g f,A=some ⟨g,f,none⟩∧g<w.heap.size∧o g=0∧∀ j u,xs[j]?=some u→w.cell? ⟨g,f+j,none⟩=some u
section
variable {K:Nat→Prop} {w w':World} {o o':Ow} {A:Option Addr} {xs:List Value}
theorem Ro.rd (h:Ro w o A xs):Rd w A xs:=h.elim .inl fun ⟨g,f,hA,_,_,hc⟩=>.inr ⟨g,f,hA,hc⟩
theorem Ro.sto (h:Ro w o A xs) (s:Sto K w o w' o') (h0:¬ K 0):Ro w' o' A xs:=by
 rcases h with h | ⟨g,f,hA,hl,ho,hc⟩
 ·exact .inl h
 ·have hk:¬ K (o g):=by rw [ho];exact h0
  exact .inr ⟨g,f,hA,Nat.lt_of_lt_of_le hl s.size,(s.own g hl hk).trans ho,fun j u hu=>s.cell (a:=⟨g,f+j,none⟩) hk (hc j u hu)⟩
theorem Ro.ext (h:Ro w o A xs) (e:Ext w w'):Ro w' o A xs:=h.sto (K:=fun _=>False) (Sto.ext e) (fun x=>x)
theorem Ro.old {w0:World} (h:Rd w0 A xs) (x:Ext w0 w) (ho:∀ b,b<w0.heap.size→o b=0):Ro w o A xs:=by
 rcases h.ext x with h1 | ⟨g,f,hA,hc⟩
 ·exact .inl h1
 ·rcases h with h2 | ⟨g',f',hA',hc'⟩
  ·exact .inl h2
  ·cases hA.symm.trans hA'
   cases xs with
   | nil=>exact .inl rfl
   | cons u t =>
    have hl:g<w0.heap.size:=lt_of_cell (hc' 0 u rfl)
    exact .inr ⟨g,f,hA,Nat.lt_of_lt_of_le hl x.size,ho g hl,hc⟩
theorem Ro.new {w1:World} (h:Rd w' A xs) (e:Ext w1 w') (hb:∀ a,A=some a→w1.heap.size≤a.block) (ho:∀ b,w1.heap.size≤b→o' b=0):Ro w' o' A xs:=by
 rcases h with h | ⟨g,f,hA,hc⟩
 ·exact .inl h
 ·cases xs with
  | nil=>exact .inl rfl
  | cons u t=>exact .inr ⟨g,f,hA,lt_of_cell (hc 0 u rfl),ho g (hb _ hA),hc⟩
theorem Sl.ro {k size n c:Nat} (h:Sl w o k size A n c xs) (ho:∀ b,b<w.heap.size→o b=k→o' b=0):Ro w o' A xs:=by
 rcases h.at_ with h0 | ⟨g,f,hA,hg,hl,hc,_⟩
 ·have:=h.len;have:=h.le
  obtain rfl:n=0:=by omega
  exact .inl (List.eq_nil_of_length_eq_zero (by omega))
 ·exact .inr ⟨g,f,hA,hl,ho g hl hg,hc⟩
end
structure Old (w0 w:World) (o:Ow):Prop where
 ext:Ext w0 w
 own:∀ b,b<w0.heap.size→o b=0
theorem Old.sto {K:Nat→Prop} {w0 w w':World} {o o':Ow} (h:Old w0 w o) (s:Sto K w o w' o') (h0:¬ K 0):Old w0 w' o' :=
 ⟨⟨s.os.trans h.ext.os,s.tape.trans h.ext.tape,s.output.trans h.ext.output,Nat.le_trans h.ext.size s.size,fun b hb=>(s.keep b (by have:=h.ext.size;omega) (by rw [h.own b hb];exact h0)).trans (h.ext.block b hb)⟩,
  fun b hb=>(s.own b (by have:=h.ext.size;omega) (by rw [h.own b hb];exact h0)).trans (h.own b hb)⟩
theorem Old.exto {w0 w w':World} {o:Ow} (h:Old w0 w o) (e:Ext w w'):Old w0 w' o:=h.sto (K:=fun _=>False) (Sto.ext e) (fun x=>x)
theorem Old.start (w:World):Old w w (fun _=>0):=⟨Ext.rfl' w,fun _ _=>rfl⟩
theorem Ro.olds {w0 w:World} {o:Ow} {A:Option Addr} {xs:List Value} (h:Rd w0 A xs) (x:Old w0 w o):Ro w o A xs:=Ro.old h x.ext x.own
structure Lb (w:World):Prop where
 mx:Mx w
 er:ErrR w
 pw:Pow w
theorem Lb.ext {w w':World} (h:Lb w) (e:Ext w w'):Lb w':=⟨h.mx.ext e,h.er.ext e,h.pw.ext e⟩
theorem Old.gl {w0 w:World} {o:Ow} (x:Old w0 w o) (h:Lb w0):Gl w o:=by
 obtain ⟨m,hm⟩:=h.mx
 obtain ⟨t,p,he⟩:=h.er
 exact ⟨h.mx.ext x.ext,h.er.ext x.ext,x.own _ (lt_of_cell hm),x.own _ (lt_of_cell he)⟩
theorem Old.glF {w0 w:World} {o:Ow} (x:Old w0 w o) (h:Lb w0):GlF w o:=by
 obtain ⟨t,p,he⟩:=h.er
 exact ⟨h.er.ext x.ext,x.own _ (lt_of_cell he)⟩
def TurnsO (K:Nat→Prop) (w:World) (o:Ow) (R:Value→World→Ow→Prop) (e:Ending) (w':World):Prop:=∃ v o',e=.returned v∧R v w' o'∧Sto K w o w' o'
theorem TurnsO.mk {K:Nat→Prop} {w:World} {o:Ow} {R:Value→World→Ow→Prop} {e:Ending} {w':World} {v:Value} (o':Ow) (he:e=.returned v) (h:R v w' o') (s:Sto K w o w' o'):TurnsO K w o R e w':=⟨v,o',he,h,s⟩
end Go.Proofs.YthbofilcnpdghaaGreatDoor
end
section
namespace Go.Proofs.YthbofilcnpdghaaGreatDoor
open Go.RowKit Go.Shelf
def toksL (l:List UInt8):List (List UInt8) × Int:=if (splitL 44 l).all tokL12=true then ((splitL 44 l).map lowL,0) else ([],42)
def chkN:List UInt8:=[99,104,117,110,107,101,100]
def toksA (vs:List (List UInt8)):List (List UInt8):=vs.flatMap fun v=>(toksL v).1
def codV (vs:List (List UInt8)):Int :=
 if vs.any (fun v=>decide ((toksL v).2≠0))=true then 45 else
 if (toksA vs).any (fun c=>!(c == chkN))=true then 46 else if (toksA vs).length≠1 then 45 else 0
theorem toks_len (l:List UInt8):(toksL l).1.length≤l.length+1:=by
 unfold toksL
 have:=splitL_len 44 l
 split
 ·rw [List.length_map];exact this
 ·simp
theorem toksA_take (vs:List (List UInt8)) (k:Nat) (h:k<vs.length):toksA (vs.take (k+1))=toksA (vs.take k)++(toksL vs[k]).1:=by
 unfold toksA
 rw [List.take_succ_eq_append_getElem h,List.flatMap_append]
 simp
theorem toksA_le (vs:List (List UInt8)) (k:Nat):(toksA (vs.take k)).length≤(toksA vs).length:=by
 have h:=List.take_append_drop k vs
 conv=>rhs;rw [← h]
 unfold toksA
 rw [List.flatMap_append,List.length_append]
 omega
theorem grown_extT {a b:World} (h:Ext a b):a.grownBy b none:=⟨h.os,h.tape,h.output,h.size,fun k hk _=>h.block k hk⟩
def KpE (n c:Nat) (W W':World):Prop:=Below n W W'∧W'.heap[c]?=W.heap[c]?∧W'.heap[c+1]?=W.heap[c+1]?
theorem kpE_t {n c:Nat} {A B C:World} (h:KpE n c A B) (k:KpE n c B C):KpE n c A C:=⟨h.1.trans k.1,k.2.1.trans h.2.1,k.2.2.trans h.2.2⟩
theorem kpE_b {n c:Nat} {w:World} (hn:n≤w.heap.size) (hc:c+2≤w.heap.size) (W:World) (l:Nat) (o o':Obj) (hl:w.heap.size≤l) (h:W.heap[l]?=some o) (h1:o.isCells=false) (h2:o.isWalk=false):KpE n c W (W.putObj l o') :=
 ⟨belowK_b hn W l o o' hl h h1 h2,World.putObj_heap_other (by omega),World.putObj_heap_other (by omega)⟩
end Go.Proofs.YthbofilcnpdghaaGreatDoor
end
section
namespace Go.Proofs.YthbofilcnpdghaaGreatDoor
open Go.RowKit
theorem piece_len (sep:UInt8):∀ (l q:List UInt8),q∈pieces sep l→q.length≤l.length
 | [],q,h=>by simp only [pieces,List.mem_singleton] at h;rw [h];exact Nat.le_refl _
 | b::t,q,h=>by
  unfold pieces at h
  split at h
  ·rcases List.mem_cons.1 h with rfl | h
   ·exact Nat.zero_le _
   ·exact Nat.le_succ_of_le (piece_len sep t q h)
  ·split at h
   ·simp only [List.mem_singleton] at h
    rw [h];simp
   ·rename_i p ps he
    rcases List.mem_cons.1 h with rfl | h
    ·have:=piece_len sep t p (by rw [he];exact List.mem_cons_self)
     simp only [List.length_cons];omega
    ·exact Nat.le_succ_of_le (piece_len sep t q (by rw [he];exact List.mem_cons_of_mem _ h))
theorem keep_len {l p:List UInt8} (h:p∈splitL 44 l):p.length≤l.length:=by
 unfold splitL keepS at h
 rw [List.mem_filter] at h
 obtain ⟨q,hq,rfl⟩:=List.mem_map.1 h.1
 exact Nat.le_trans (trim_len q) (piece_len 44 l q hq)
end Go.Proofs.YthbofilcnpdghaaGreatDoor
end
section
namespace Go.Proofs.YthbofilcnpdghaaGreatDoor
open Go.RowKit Go.Shelf
attribute [local go_sem] Oper.semAt_some
theorem es_nil:str []=(⟨#[]⟩:ByteArray):=rfl
def kdV:Array Value:=#[.bool false,.bool false,.func (.func 128) #[] #[]]
abbrev Sm:={x:List UInt8 // x.length≤1099511627776}
def encE (x:Sm):Array Value:=#[.string (str x.1)]
def unS (l:List Sm):List (List UInt8):=l.map (·.1)
theorem unS_app (l:List Sm) (x:Sm):unS (l++[x])=unS l++[x.1]:=by unfold unS;simp
theorem unS_len (l:List Sm):(unS l).length=l.length:=by unfold unS;simp
theorem elem_in (l Sn Kn:Nat) (Kp:World→World→Prop) (s:List UInt8) (hs:s.length≤1099511627776) (J Jx:List Sm→World→Prop)
  (hJ:∀ pre W W',J pre W→Ext W W'→J pre W')
  (hKp:∀ W W',Kp W W'→W'.heap[Sn]?=W.heap[Sn]?∧W'.heap[Kn]?=W.heap[Kn]?)
  (hY:∀ pre (x:Sm) W,J pre W→pre.length<(splitL 44 s).length→YieldAt Fence.wide 6 Tryz.prog l (encE x) W fun e W' =>
   (e=.returned (.bool true)∧J (pre++[x]) W'∧Kp W W')∨(e=.returned (.bool false)∧Jx (pre++[x]) W'))
  (W:World) (hS:W.cell? ⟨Sn,0,none⟩=some (.string (str s))) (hK0:W.cell? ⟨Kn,0,none⟩=some (.bool false)) (hK1:W.cell? ⟨Kn,1,none⟩=some (.bool false)) (h0:J [] W) :
  CallsIn Fence.wide 7 Tryz.prog 166 #[.func (.yield l) #[] #[],.pointer (some ⟨Sn,0,none⟩),.pointer (some ⟨Kn,0,none⟩)] W fun e W'=>(∃ v,e=.returned v) ∧
   ((∃ ys,unS ys=splitL 44 s∧J ys W')∨(∃ pre,unS pre <+: splitL 44 s∧Jx pre W')):=by
 have HKP:=Hy hKp
 have HS:=Hy hS
 have HK0:=Hy hK0
 have HK1:=Hy hK1
 clear hKp hS hK0 hK1
 refine callsIn_of_wp Tryz.func166 rfl trivial ?_ rfl
 simp only [Tryz.ntmps166,List.size_toArray,List.length_cons,List.length_nil,Nat.reduceAdd,Nat.reduceSub,Array.replicate_succ,Array.replicate_zero,List.push_toArray,List.append_toArray,List.nil_append,List.cons_append]
 gi_wp2
 gi_loopw [4,5,6] (fun iv fv nv wr=>∃ pre f i,iv=.bool false∧fv=.int .i64 ((f:Nat):Int)∧nv=.int .i64 ((i:Nat):Int)∧f≤i∧i≤s.length∧(∀ j,f≤j→j<i→s[j]?≠some 44)∧splitL 44 s=unS pre++splitL 44 (s.drop f)∧J pre wr∧wr.heap[Sn]?=W.heap[Sn]?∧wr.heap[Kn]?=W.heap[Kn]?)
  (fun _ _ nv _=>s.length-(intOf nv).toNat)
 case atStart=>exact ⟨[],0,0,rfl,rfl,rfl,Nat.le_refl _,Nat.zero_le _,fun j _ h=>by omega,rfl,h0,rfl,rfl⟩
 case round =>
  obtain ⟨pre,f,i,rfl,rfl,rfl,hfi,hil,hno,hinv,hj,he1,he2⟩:=hrel
  have c0:wr.cell? ⟨Sn,0,none⟩=some (.string (str s)):=(World.cell?_of_block he1).trans HS.out
  have c1:wr.cell? ⟨Kn,0,none⟩=some (.bool false):=(World.cell?_of_block he2).trans HK0.out
  have c2:wr.cell? ⟨Kn,1,none⟩=some (.bool false):=(World.cell?_of_block he2).trans HK1.out
  have HE1:=Hy he1
  have HE2:=Hy he2
  have HNO:=Hy hno
  have HI:=Hy hinv
  have HJ:=Hy hj
  clear he1 he2 hno hinv hj
  by_cases hlt:i<s.length
  ·by_cases hc:s[i]=44
   ·have HCC:=Hy (show s[i]?=some 44 from by rw [List.getElem?_eq_getElem hlt,hc])
    have hsa:=splitL_at 44 s f i hfi HCC.out HNO.out
    have hb1:((s[i].toNat:Int) == 44)=true:=by rw [hc];rfl
    have hb2:((s[i].toNat:Int) == 34)=false:=by rw [hc];rfl
    have hb3:((s[i].toNat:Int) == 92)=false:=by rw [hc];rfl
    clear hc
    have hno2:∀ j,i+1≤j→j<i+1→s[j]?≠some 44:=fun j _ h=>by omega
    have HN2:=Hy hno2
    clear hno2
    by_cases hp:trimL ((s.take i).drop f)=[]
    ·rw [if_pos hp,List.nil_append] at hsa
     have HSA:=Hy hsa
     have HP:=Hy hp
     clear hsa hp
     gi_wp2_with (first
      | (refine ⟨trivial,?_⟩;gi_at_call 79;refine (callsIn_wide.2 (Trim_c ((s.take i).drop f) (by simp only [List.length_drop,List.length_take];unfold maxLen;omega) _)).mono ?_;rintro e w1 ⟨rfl,hx1⟩;rw [HP.out,es_nil];skip))
     refine ⟨fun f h=>(nomatch h),?_⟩
     gi_wp2
     go_roundw
     case rel=>exact ⟨pre,i+1,i+1,rfl,by go_num,by go_num,Nat.le_refl _,by omega,HN2.out,by rw [HI.out,HSA.out],hJ _ _ _ HJ.out hx1,(hx1.block _ (lt_of_cell c0)).trans HE1.out,(hx1.block _ (lt_of_cell c1)).trans HE2.out⟩
     case measure=>simp [intOf];omega
    ·rw [if_neg hp] at hsa
     obtain ⟨q,hq⟩:∃ q,q=trimL ((s.take i).drop f):=⟨_,rfl⟩
     rw [← hq] at hsa
     have hlt2:pre.length<(splitL 44 s).length:=by rw [HI.out,hsa];simp [unS]
     have hq40:q.length≤1099511627776:=by rw [hq];have:=trim_len ((s.take i).drop f);simp only [List.length_drop,List.length_take] at this;omega
     have HSA:=Hy hsa
     have HQ:=Hy hq
     have hqn:q.isEmpty=false:=by
      cases hh:q with
      | nil=>exact absurd (hq.symm.trans hh) hp
      | cons _ _=>rfl
     clear hsa hp hq
     gi_wp2_with (first
      | (refine ⟨trivial,?_⟩;gi_at_call 79;refine (callsIn_wide.2 (Trim_c ((s.take i).drop f) (by simp only [List.length_drop,List.length_take];unfold maxLen;omega) _)).mono ?_;rintro e w1 ⟨rfl,hx1⟩;rw [← HQ.out];obtain ⟨fn,tmps,assign,body,hy,hR⟩:=hY pre ⟨q,hq40⟩ w1 (hJ _ _ _ HJ.out hx1) hlt2;dsimp only [encE] at hy))
     refine hR.mono ?_
     rintro e W3 (⟨rfl,hJ3,hk3⟩ | ⟨rfl,hJx3⟩)
     ·obtain ⟨k1,k2⟩:=HKP.out _ _ hk3
      have E1:=Hy (k1.trans ((hx1.block _ (lt_of_cell c0)).trans HE1.out))
      have E2:=Hy (k2.trans ((hx1.block _ (lt_of_cell c1)).trans HE2.out))
      clear k1 k2 c0 c1 c2
      gi_wp2
      go_roundw
      case rel=>exact ⟨pre++[⟨q,hq40⟩],i+1,i+1,rfl,by go_num,by go_num,Nat.le_refl _,by omega,HN2.out,by rw [HI.out,HSA.out,unS_app];simp,hJ3,E1.out,E2.out⟩
      case measure=>simp [intOf];omega
     ·gi_wp2
      refine bodyPost_ret (results_none rfl _ _ _) rfl ?_
      exact ⟨⟨_,rfl⟩,.inr ⟨pre++[⟨q,hq40⟩],⟨splitL 44 (s.drop (i+1)),by rw [HI.out,HSA.out,unS_app];simp⟩,hJx3⟩⟩
   ·have hb:((s[i].toNat:Int) == 44)=false:=by rw [beq_eq_false_iff_ne];intro e;exact hc (UInt8.toNat_inj.1 (by show s[i].toNat=44;omega))
    have HC:=Hy hc
    clear hc
    gi_wp2
    all_goals go_roundw
    all_goals first
     | (simp [intOf];omega)
     | (
       refine ⟨pre,f,i+1,rfl,rfl,by go_num,by omega,by omega,fun j h1 h2=>?_,HI.out,HJ.out,HE1.out,HE2.out⟩
       rcases Nat.lt_or_ge j i with h | h
       ·exact HNO.out j h1 h
       ·obtain rfl:j=i:=by omega
        rw [List.getElem?_eq_getElem hlt]
        intro e
        exact HC.out (Option.some.inj e))
  ·have hie:i=s.length:=by omega
   have hlt0:¬(i:Int)<(s.length:Int):=by omega
   have hsa:=splitL_end 44 s f (by rw [← hie];exact HNO.out)
   have hfs:(f:Int)≤(s.length:Int):=by omega
   have HIE:=Hy hie
   clear hie
   by_cases hp:trimL (s.drop f)=[]
   ·rw [if_pos hp] at hsa
    have HSA:=Hy hsa
    have HP:=Hy hp
    clear hsa hp
    gi_wp2_with (first
     | (refine ⟨trivial,?_⟩;gi_at_call 79;refine (callsIn_wide.2 (Trim_c (s.drop f) (by simp only [List.length_drop,List.length_take];unfold maxLen;omega) _)).mono ?_;rintro e w1 ⟨rfl,hx1⟩;rw [HP.out,es_nil];skip))
    refine bodyPost_end (results_none rfl _ _ _) rfl ?_
    exact ⟨⟨_,rfl⟩,.inl ⟨pre,by rw [HI.out,HSA.out,List.append_nil],hJ _ _ _ HJ.out hx1⟩⟩
   ·rw [if_neg hp] at hsa
    obtain ⟨q,hq⟩:∃ q,q=trimL (s.drop f):=⟨_,rfl⟩
    rw [← hq] at hsa
    have hlt2:pre.length<(splitL 44 s).length:=by rw [HI.out,hsa];simp [unS]
    have hq40:q.length≤1099511627776:=by rw [hq];have:=trim_len (s.drop f);simp only [List.length_drop] at this;omega
    have HSA:=Hy hsa
    have HQ:=Hy hq
    have hqn:q.isEmpty=false:=by
     cases hh:q with
     | nil=>exact absurd (hq.symm.trans hh) hp
     | cons _ _=>rfl
    clear hsa hp hq
    gi_wp2_with (first
     | (refine ⟨trivial,?_⟩;gi_at_call 79;refine (callsIn_wide.2 (Trim_c (s.drop f) (by simp only [List.length_drop,List.length_take];unfold maxLen;omega) _)).mono ?_;rintro e w1 ⟨rfl,hx1⟩;rw [← HQ.out];obtain ⟨fn,tmps,assign,body,hy,hR⟩:=hY pre ⟨q,hq40⟩ w1 (hJ _ _ _ HJ.out hx1) hlt2;dsimp only [encE] at hy))
    refine hR.mono ?_
    rintro e W3 (⟨rfl,hJ3,hk3⟩ | ⟨rfl,hJx3⟩)
    ·gi_wp2
     refine bodyPost_end (results_none rfl _ _ _) rfl ?_
     exact ⟨⟨_,rfl⟩,.inl ⟨pre++[⟨q,hq40⟩],by rw [HI.out,HSA.out,unS_app],hJ3⟩⟩
    ·gi_wp2
     refine bodyPost_end (results_none rfl _ _ _) rfl ?_
     exact ⟨⟨_,rfl⟩,.inr ⟨pre++[⟨q,hq40⟩],by rw [HI.out,HSA.out,unS_app];exact List.prefix_rfl,hJx3⟩⟩
theorem elem_stops (n c:Nat) (s:List UInt8) (hs:s.length≤1099511627776) (w:World) (hc:c+1<w.heap.size) (hS:w.cell? ⟨c+1,0,none⟩=some (.string (str s))) (hK0:w.cell? ⟨c,0,none⟩=some (.bool false)) (hK1:w.cell? ⟨c,1,none⟩=some (.bool false)) :
  SeqStopsK Fence.wide 7 Tryz.prog 166 #[.pointer (some ⟨c+1,0,none⟩),.pointer (some ⟨c,0,none⟩)] encE (KpE n c) (fun ys=>unS ys=splitL 44 s) (fun pre=>unS pre <+: splitL 44 s) (splitL 44 s).length w:=fun l J Jx W hW hJ _ hY h0 =>
 elem_in l (c+1) c (KpE n c) s hs J Jx (fun pre A B hj hx=>hJ pre A B none hj (grown_extT hx) (fun r e=>by cases e)) (fun A B h=>⟨h.2.2,h.2.1⟩) hY W ((hW.cell (p:=⟨c+1,0,none⟩) hc).trans hS) ((hW.cell (p:=⟨c,0,none⟩) (by show c<_;omega)).trans hK0) ((hW.cell (p:=⟨c,1,none⟩) (by show c<_;omega)).trans hK1) h0
theorem fElems_c (s:List UInt8) (w:World) :
  Calls Tryz.prog 150 #[.agg kdV,.string (str s)] w fun e w'=>e=.returned (.func (.func 166) #[] #[.pointer (some ⟨w.heap.size+1,0,none⟩),.pointer (some ⟨w.heap.size,0,none⟩)])∧w'=(w.alloc (.cells kdV 179)).alloc (.cells #[.string (str s)] 9):=by
 unfold kdV
 go_enter Tryz.func150,Tryz.ntmps150
 go_wp2
 go_ret
 exact ⟨rfl,rfl⟩
attribute [local go_sem] Oper.semAt_some
theorem tok_str (x:List UInt8):(((str x).data.toList.all fun b=>tokB b.toNat) && decide (0<(str x).size))=tokL12 x:=by
 rw [str_data,str_size];rfl
theorem fToksOne_c (x:List UInt8) (hx:x.length≤maxLen) (w:World) :
  Calls Tryz.prog 128 #[.string (str x)] w (Gives (.tuple #[.string (str (lowL x)),.bool (tokL12 x)]) w):=by
 have C1:=Hy (fun w=>Lower_c x hx w)
 have C2:=fun w=>Token_c (str x) (by rw [str_size];exact hx) w
 rw [tok_str] at C2
 have C2:=Hy C2
 obtain ⟨t,ht⟩:∃ t,t=tokL12 x:=⟨_,rfl⟩
 rw [← ht] at C2 ⊢
 obtain ⟨sl,hsl⟩:∃ t,t=str (lowL x):=⟨_,rfl⟩
 rw [← hsl] at C1 ⊢
 obtain ⟨sx,hsx⟩:∃ t,t=str x:=⟨_,rfl⟩
 rw [← hsx] at C1 C2 ⊢
 clear ht hsl hsx
 go_enter Tryz.func128,Tryz.ntmps128
 go_wp2_with (first
  | (go_at_call 89;refine (C1.out _).mono ?_;rintro e w1 ⟨rfl,x1⟩)
  | (go_at_call 54;refine (C2.out _).mono ?_;rintro e w2 ⟨rfl,x2⟩))
 refine bodyPost_ret (v:=.tuple #[.string sl,.bool t]) (by simp [results,Tryz.results128,go_sem]) rfl ?_
 exact ⟨rfl,Xq⟩
theorem pure_ownT {β:Type} (p:β→Prop):_root_.Go.Own (fun s (_:World)=>p s):=fun _ _ _ _ hs _ _=>hs
theorem own_andT {β:Type} {I J:β→World→Prop} (h:_root_.Go.Own I) (k:_root_.Go.Own J):_root_.Go.Own (fun s W=>I s W∧J s W):=fun s A B row hs hg hr=>⟨h s A B row hs.1 hg hr,k s A B row hs.2 hg hr⟩
theorem own_setT {W:World} {B base k size:Nat} {e:TypeId} {v:Value} {xs:List Value} (u':Value) (h:W.ownsRow base e size v k xs) (hlt:B<base):(W.setCell ⟨B,0,none⟩ u').ownsRow base e size v k xs :=
 h.kept (grownBy_setCell' W B u') (.inr (fun e=>by have:=(h.lt _ e).1;omega))
theorem own_monoT {W:World} {base base' k size:Nat} {e:TypeId} {v:Value} {xs:List Value} (h:W.ownsRow base e size v k xs) (hb:base'≤base):W.ownsRow base' e size v k xs:=by
 refine ⟨h.1,?_⟩
 rcases h.2 with h2 | ⟨g,cap,cur,hv,hg,r⟩
 ·exact .inl h2
 ·exact .inr ⟨g,cap,cur,hv,by omega,r⟩
theorem box_keptT {W w1:World} {B base k size:Nat} {t e:TypeId} {u v:Value} {xs:List Value} {tmp:Obj} (hb:Boxed W B t u) (h:W.ownsRow base e size v k xs) (hlt:B<base) (hg:(W.alloc tmp).grownBy w1 v.ownBlock):Boxed w1 B t u :=
 (hb.alloc tmp).kept hg (fun e=>by have:=(h.lt _ e.symm).1;omega)
theorem kpE_ext {n c:Nat} {W W':World} (h:Ext W W') (hn:n≤W.heap.size) (hc:c+2≤W.heap.size):KpE n c W W':=⟨h.mono hn,h.block _ (by omega),h.block _ (by omega)⟩
theorem kpE_grown {n c:Nat} {W W':World} {row:Option Nat} (h:W.grownBy W' row) (hn:n≤c+2) (hs:c+2≤W.heap.size) (hr:∀ k,row=some k→c+2≤k):KpE n c W W' :=
 ⟨(Below.refl n W).grown h (by omega) (fun k e=>by have:=hr k e;omega),h.block _ (by omega) (fun e=>by have:=hr _ e.symm;omega),h.block _ (by omega) (fun e=>by have:=hr _ e.symm;omega)⟩
theorem kpE_set {n c B:Nat} (W:World) (u:Value) (hn:n≤B) (hb:B<c):KpE n c W (W.setCell ⟨B,0,none⟩ u) :=
 ⟨(Below.refl n W).setCell (p:=⟨B,0,none⟩) hn u,Below.heap_setCell _ _ _ _ (by show c≠B;omega),Below.heap_setCell _ _ _ _ (by show c+1≠B;omega)⟩
theorem keeps_extT {W W':World} (h:Ext W W'):KeepsOthers W W':=KeepsOthers.of_grownBy (grown_extT h) (fun _ _ e _=>(by cases e))
abbrev w1T (w:World):World:=w.alloc (.cells kdV 179)
def TkI (w:World) (t:ByteArray) (pre:List Sm) (W:World):Prop :=
 ((∃ v,Boxed W (w.heap.size+1+1+1) 49 v∧W.ownsRow (w.heap.size+1+1+1+1+1+1) 9 1 v ((unS pre).map lowL).length (sc ((unS pre).map lowL))∧True)∧(unS pre).all tokL12=true ∧
  Boxed W (w.heap.size+1) 49 (.slice none 0 0)∧Boxed W (w.heap.size+1+1) 25 (.int .i64 0)∧Boxed W (w.heap.size+1+1+1+1+1) 9 (.string t))∧Below (w.heap.size+1) (w1T w) W
def TkX (w:World) (c:Code) (pre:List Sm) (W:World):Prop :=
 ((c=.ret∧(unS pre).all tokL12=false)∧Boxed W (w.heap.size+1) 49 (.slice none 0 0)∧Boxed W (w.heap.size+1+1) 25 (.int .i64 42))∧Below (w.heap.size+1) (w1T w) W
theorem TkI_own (w:World) (t:ByteArray) (B:Nat) (hB:w.heap.size+1≤B):OwnFrom B (TkI w t):=by
 refine OwnFrom.and (_root_.Go.Own.from (own_andT (holdsRow_own (w.heap.size+1+1+1+1+1+1) (w.heap.size+1+1+1) 49 9 1 (fun pre:List Sm=>((unS pre).map lowL).length) (fun pre=>sc ((unS pre).map lowL)) (fun _ _=>True)) (own_andT (pure_ownT _) (own_andT (boxed_own _ _ (fun _=>.slice none 0 0)) (own_andT (boxed_own _ _ (fun _=>.int .i64 0)) (boxed_own _ _ (fun _=>.string t)))))) _) (ownFrom_below (by simp) hB)
theorem TkX_own (w:World) (B:Nat) (hB:w.heap.size+1≤B) (c:Code):OwnFrom B (TkX w c) :=
 OwnFrom.and (_root_.Go.Own.from (own_andT (pure_ownT _) (own_andT (boxed_own _ _ (fun _=>.slice none 0 0)) (boxed_own _ _ (fun _=>.int .i64 42)))) _) (ownFrom_below (by simp) hB)
theorem toks_res {T:Array Value} {W:World} {p q:Addr} {u v:Value} (h2:T.getD 4 undef=.pointer (some p)) (h3:T.getD 5 undef=.pointer (some q)) (hp:W.cell? p=some u) (hq:W.cell? q=some v) :
  (results Tryz.f127 T).run Tryz.prog W=.ok (.tuple #[u,v]) W:=by
 have h2':T[4]?.getD undef=.pointer (some p):=by simpa using h2
 have h3':T[5]?.getD undef=.pointer (some q):=by simpa using h3
 simp [results,Tryz.results127,go_sem,h2,h3,h2',h3',hp,hq]
theorem toks_ext {w W:World} (h:Below (w.heap.size+1) (w1T w) W):Ext w W:=((Ext.rfl' w).al _).trans (h.mono (Nat.le_succ _))
theorem rd_putT {W:World} {A:Option Addr} {xs:List Value} {D:Nat} {o:Obj} (h:Rd W A xs) (hK:W.heap[D]?=some o) (o':Obj) (ho:o.isCells=false:=by rfl):Rd (W.putObj D o') A xs:=by
 rcases h with h | ⟨b,f,hA,hc⟩
 ·exact .inl h
 ·exact .inr ⟨b,f,hA,fun j u hu=>cell_kept (hc j u hu) (grownBy_putObj' _ D o') (fun r e=>by cases e;exact ⟨_,hK,ho⟩)⟩
theorem rd_ownT {W:World} {base e n c:Nat} {A:Option Addr} {xs:List Value} (h:W.ownsRow base e 1 (.slice A n c) n xs):Rd W A xs:=by
 obtain ⟨A',c',e,_,_,hr,_⟩:=Rd.of_own h
 cases e
 exact hr
def IsTks (r:List (List UInt8) × Int) (v:Value) (w:World):Prop:=∃ A c,v=.tuple #[.slice A r.1.length c,.int .i64 r.2]∧Rd w A (sc r.1)
theorem toks_in (s:List UInt8) (hs:s.length≤1099511627776) (w:World) :
  CallsIn Fence.wide 8 Tryz.prog 127 #[.string (str s),.agg kdV] w (Ret (IsTks (toksL s)) w):=by
 have hms:maxLen=9223372036854775807:=rfl
 unfold kdV
 refine callsIn_of_wp_marks Tryz.func127 rfl trivial ?_ rfl
 simp only [Tryz.ntmps127,List.size_toArray,List.length_cons,List.length_nil,Nat.reduceAdd,Nat.reduceSub,Array.replicate_succ,Array.replicate_zero,List.push_toArray,List.append_toArray,List.nil_append,List.cons_append]
 gi_wp2_with (first
  | (refine ⟨trivial,?_⟩;gi_at_call 150;refine (callsIn_wide.2 (fElems_c s _)).mono ?_;rintro e w1 ⟨rfl,rfl⟩))
 obtain ⟨i0,hi,hz0,hz1,hz2⟩:=info_parts slt_str.2.1
 have b0:=Boxed.new (w1T w) 49 (.slice none 0 0)
 have b1:=Boxed.new ((w1T w).alloc (.cells #[.slice none 0 0] 49)) 25 (.int .i64 0)
 have b2:=Boxed.new (((w1T w).alloc (.cells #[.slice none 0 0] 49)).alloc (.cells #[.int .i64 0] 25)) 49 (.slice none 0 0)
 have k0:=World.alloc_heap_new ((((w1T w).alloc (.cells #[.slice none 0 0] 49)).alloc (.cells #[.int .i64 0] 25)).alloc (.cells #[.slice none 0 0] 49)) (.cells kdV 179)
 have b4:=Boxed.new (((((w1T w).alloc (.cells #[.slice none 0 0] 49)).alloc (.cells #[.int .i64 0] 25)).alloc (.cells #[.slice none 0 0] 49)).alloc (.cells kdV 179)) 9 (.string (str s))
 simp only [w1T,World.size_alloc] at b0 b1 b2 k0 b4
 have k1:=((Ext.rfl' (((((w1T w).alloc (.cells #[.slice none 0 0] 49)).alloc (.cells #[.int .i64 0] 25)).alloc (.cells #[.slice none 0 0] 49)).alloc (.cells kdV 179))).al (.cells #[.string (str s)] 9)).block (w.heap.size+1+1+1+1) (by simp)
 have k2:=k1.trans k0
 refine' wpIn_rangeFunc_ownG rfl (by omega) (gf:=166) (lb:=#[.pointer (some ⟨w.heap.size+1+1+1+1+1,0,none⟩),.pointer (some ⟨w.heap.size+1+1+1+1,0,none⟩)]) rfl trivial (enters_of Tryz.func166 (by kernel_rfl) rfl)
  (elem_stops (w.heap.size+1) (w.heap.size+1+1+1+1) s hs _ (by simp) b4.cell (row_facts k2 0 _ rfl).1 (row_facts k2 1 _ rfl).1) kpE_t (kpE_b (by simp) (by simp)) (Below.refl _ _) (fun _=>rfl)
  (TkI w (str s)) (TkX w) (TkI_own w _ _ (by simp)) (fun c=>TkX_own w _ (by simp) c)
  ⟨⟨⟨_,(b2.alloc _).alloc _,World.ownsRow_nil _ _ _ _,trivial⟩,rfl,((((b0.alloc _).alloc _).alloc _).alloc _),(((b1.alloc _).alloc _).alloc _),b4⟩,(show Ext (w1T w) _ from Xq).mono (by simp)⟩ _ ?assign ?body ?done ?stop
 case assign =>
  intro lp x W K hK
  dsimp only [encE]
  gi_wp2
  exact hK
 case body =>
  rintro lp pre ⟨x,hx40⟩ W ⟨⟨⟨v,hv,hrow,_⟩,hall,hR0,hR1,hR4⟩,hB⟩ hlt
  have hWs:w.heap.size+1+1+1+1+2≤W.heap.size:=by have:=hR4.lt;omega
  have kW:=(hB.block w.heap.size (by omega)).trans (World.alloc_heap_new w _)
  have cK:W.cell? ⟨w.heap.size,2,none⟩=some (.func (.func 128) #[] #[]):=(row_facts kW 2 _ rfl).1
  have hR0c:=hR0.cell
  have hR0f:=hR0.frozen
  have hR1c:=hR1.cell
  have hR1f:=hR1.frozen
  have hx:x.length≤maxLen:=by rw [hms];omega
  have C1:=Hy (fun w=>fToksOne_c x hx w)
  obtain ⟨v0,c0,rfl,hnc,hcm,hr,_⟩:=Rd.of_own hrow
  have hc:=hv.cell
  have hf:=hv.frozen
  obtain ⟨n,hn⟩:∃ n,n=((unS pre).map lowL).length:=⟨_,rfl⟩
  have hn40:n≤1099511627777:=by rw [hn,List.length_map,unS_len];have:=splitL_len 44 s;omega
  rw [← hn] at hnc hc hv hrow
  obtain ⟨sl,hsl⟩:∃ z,z=str (lowL x):=⟨_,rfl⟩
  have HSL:=Hy hsl
  have HN:=Hy hn
  have HR2:=Hy hrow
  have HALL:=Hy hall
  obtain ⟨sx,hsx⟩:∃ z,z=str x:=⟨_,rfl⟩
  rw [← hsx,← hsl] at C1
  obtain ⟨tk,htk⟩:∃ z,z=tokL12 x:=⟨_,rfl⟩
  rw [← htk] at C1
  have HTK2:=Hy (show [x].all tokL12=tk from by simp [htk])
  clear hx hrow hr hn hsl htk hall kW
  simp only [← hsx]
  clear hsx
  cases tk with
  | false =>
   gi_wp2_with (first
    | (refine ⟨trivial,?_⟩;gi_at_call 128;refine (callsIn_wide.2 (C1.out _)).mono ?_;rintro e w1 ⟨rfl,hx1⟩;have R01:=hR0.kept (grown_extT hx1) (by simp);have R11:=hR1.kept (grown_extT hx1) (by simp);have r1:=R01.cell;have r2:=R01.frozen;have r3:=R11.cell;have r4:=R11.frozen))
   exact ⟨((keeps_extT hx1).trans ((KeepsOthers.setCell _ _ _).trans (KeepsOthers.setCell _ _ _))).from _,⟨⟨rfl,by rw [unS_app,List.all_append,HTK2.out];simp⟩,(R01.set _).other (by omega) _,(R11.other (by omega) _).set _⟩,
    ((hB.trans (hx1.mono (by have:=hR1.lt;omega))).setCell (p:=⟨w.heap.size+1,0,none⟩) (Nat.le_refl _) _).setCell (p:=⟨w.heap.size+1+1,0,none⟩) (Nat.le_succ _) _⟩
  | true =>
   gi_wp2_with (first
    | (refine ⟨trivial,?_⟩;gi_at_call 128;refine (callsIn_wide.2 (C1.out _)).mono ?_;rintro e w1 ⟨rfl,hx1⟩;have V1:=hv.kept (grown_extT hx1) (by simp);have vc:=V1.cell;have vf:=V1.frozen;have RW:=Hy (own_ext HR2.out hx1))
    | (gi_at_builtin;refine wpListIn_append_own _ rfl _ _ 49 rfl (w.heap.size+1+1+1+1+1+1) 9 i0 (.string ⟨#[]⟩) 1 16 Tryz.underlying49 hi hz0 hz1 hz2 rfl (by decide) _ _ _ rfl (RW.out.alloc _) ⟨w1.heap.size,0,none⟩ 1 1 [.string sl] rfl rfl (cell_one_new _ _ _) (by simp [Value.oneCell']) (by unfold maxLen;omega) (by omega) (by have:=hx1.size;simp;omega) ?_;intro v' w5 hown' hgrow _;obtain ⟨g',cap',rfl⟩:=ownsRow_succ hown';obtain ⟨hv1,hv2,hr2,hk2,hb2⟩:=V1.appended (n₀:=w.heap.size+1) (by decide) (own_monoT RW.out (by omega)) (by have:=V1.lt;omega) (by omega) (own_monoT hown' (by omega)) hgrow;have hc1:=hv1.cell;have hf1:=hv1.frozen))
   have hcW:w.heap.size+1+1+1+1+2≤W.heap.size:=hWs
   have R01:=box_keptT (hR0.kept (grown_extT hx1) (by simp)) RW.out (by omega) hgrow
   have R11:=box_keptT (hR1.kept (grown_extT hx1) (by simp)) RW.out (by omega) hgrow
   have R41:=box_keptT (hR4.kept (grown_extT hx1) (by simp)) RW.out (by omega) hgrow
   refine ⟨((keeps_extT hx1).trans hk2).from _,?_,⟨⟨_,hv2,?_,trivial⟩,by rw [unS_app,List.all_append,HALL.out,HTK2.out];rfl,R01.other (by omega) _,R11.other (by omega) _,R41.other (by omega) _⟩,(hB.trans (hx1.mono (by omega))).trans hb2⟩
   ·refine kpE_t (kpE_ext hx1 (by omega) hcW) (kpE_t (kpE_ext ((Ext.rfl' w1).al _) (by have:=hx1.size;omega) (by have:=hx1.size;omega)) (kpE_t (kpE_grown hgrow (by omega) (by have:=hx1.size;simp;omega) (fun k e=>by have:=(RW.out.lt k e).1;omega)) (kpE_set w5 _ (by omega) (by omega))))
   ·rw [unS_app,List.map_append,List.length_append,← HN.out,sc_app]
    show World.ownsRow _ _ _ _ _ (n+1) (_++[.string (str (lowL x))])
    rw [← HSL.out]
    exact own_setT _ hown' (by omega)
 case done =>
  rintro D ys W hD hys ⟨⟨⟨v,hv,hrow,_⟩,hall,hR0,hR1,hR4⟩,hB⟩ hK
  rw [hys] at hrow hall
  have htk:toksL s=((splitL 44 s).map lowL,0):=by unfold toksL;rw [if_pos hall]
  have HT:=Hy htk
  obtain ⟨L,hL⟩:∃ L,L=(splitL 44 s).map lowL:=⟨_,rfl⟩
  rw [← hL] at hrow
  have HLL:=Hy hL
  have hrw:=hrow
  obtain ⟨A,c,rfl,hnc,hcm,hr,_⟩:=Rd.of_own hrow
  have HRW:=Hy hrw
  have hc:=hv.cell
  have hR0c:=hR0.cell
  have hR0f:=hR0.frozen
  have hR1c:=hR1.cell
  have hR1f:=hR1.frozen
  clear hrow hrw hall htk hL hys hr
  gi_wp2
  have hK2:=((KeepsOthers.setCell W ⟨w.heap.size+1,0,none⟩ (.slice A L.length c)).trans (KeepsOthers.setCell _ ⟨w.heap.size+1+1,0,none⟩ (.int .i64 0))).same D _ hK rfl
  have B0:=(hR0.set (.slice A L.length c)).other (B':=w.heap.size+1+1) (by omega) (.int .i64 0)
  have B1:=(hR1.other (B':=w.heap.size+1) (by omega) (.slice A L.length c)).set (.int .i64 0)
  have hc5:=cell_kept B0.cell (grownBy_putObj' _ D (.deferred none)) (fun r e=>by cases e;exact ⟨_,hK2,rfl⟩)
  have hc6:=cell_kept B1.cell (grownBy_putObj' _ D (.deferred none)) (fun r e=>by cases e;exact ⟨_,hK2,rfl⟩)
  have hrd:=rd_putT (rd_ownT (own_setT (B:=w.heap.size+1+1) (.int .i64 0) (own_setT (B:=w.heap.size+1) (.slice A L.length c) HRW.out (by omega)) (by omega))) hK2 (.deferred none)
  refine ⟨by simp,.inl ⟨_,_,rfl,run_takeDeferred hK2,?_⟩⟩
  refine ⟨.tuple #[.slice A L.length c,.int .i64 0],?_,?_⟩
  ·exact toks_res rfl rfl hc5 hc6
  ·rw [HT.out,← HLL.out]
   exact Ret.mk ⟨A,c,rfl,hrd⟩ ((((toks_ext hB).setCell (p:=⟨w.heap.size+1,0,none⟩) (Nat.le_succ _) _).setCell (p:=⟨w.heap.size+1+1,0,none⟩) (by show w.heap.size≤w.heap.size+1+1;omega) _).trans (belowK_b (w:=w) (Nat.le_refl _) _ D _ _ (by simp at hD;omega) hK2 rfl rfl))
 case stop =>
  rintro D c pre W hD hpre ⟨⟨⟨rfl,hbad⟩,hR0,hR1⟩,hB⟩ hK
  have htk:toksL s=([],42):=by
   unfold toksL
   rw [if_neg]
   intro h
   rw [List.all_eq_true] at h
   obtain ⟨x,hx,hb⟩:=List.all_eq_false.1 hbad
   exact hb (h x (hpre.subset hx))
  rw [htk]
  clear htk hbad hpre
  gi_wp2
  refine ⟨by simp,.inl ⟨_,_,rfl,run_takeDeferred hK,?_⟩⟩
  have hc5:=cell_kept hR0.cell (grownBy_putObj' _ D (.deferred none)) (fun r e=>by cases e;exact ⟨_,hK,rfl⟩)
  have hc6:=cell_kept hR1.cell (grownBy_putObj' _ D (.deferred none)) (fun r e=>by cases e;exact ⟨_,hK,rfl⟩)
  refine ⟨.tuple #[.slice none 0 0,.int .i64 42],?_,Ret.mk ⟨none,0,rfl,.inl rfl⟩ ((toks_ext hB).trans (belowK_b (w:=w) (Nat.le_refl _) W D _ _ (by simp at hD;omega) hK rfl rfl))⟩
  exact toks_res rfl rfl hc5 hc6
theorem fTokens_c (s:List UInt8) (hs:s.length≤1099511627776) (w:World):Calls Tryz.prog 97 #[.string (str s)] w (Ret (IsTks (toksL s)) w):=by
 have C:=Hy (fun w=>callsIn_wide.1 (toks_in s hs w))
 unfold kdV at C
 obtain ⟨r,hr⟩:∃ r,r=toksL s:=⟨_,rfl⟩
 rw [← hr] at C ⊢
 clear hr
 go_enter Tryz.func97,Tryz.ntmps97
 go_wp2_with (go_at_call 127;refine (C.out _).mono ?_;rintro e w1 ⟨v,rfl,⟨A,c,rfl,hrd⟩,x1⟩)
 refine bodyPost_ret (v:=.tuple #[.slice A r.1.length c,.int .i64 r.2]) (by simp [results,Tryz.results97,go_sem]) rfl ?_
 exact Ret.mk ⟨A,c,rfl,hrd.ext Xq⟩ Xq
end Go.Proofs.YthbofilcnpdghaaGreatDoor
end
