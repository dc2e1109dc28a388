/-
Paths: their parts, and what is left without what leads around: plain words and laws. No program in sight.
-/
import Derived.Test.YthbofilcnpdghaaGreatDoorZas
import Derived.Test.YthbofilcnpdghaaGreatDoorZag
import Derived.RangeFuncNested
import Derived.RangeFuncBound
import Derived.RangeFuncCalls
import Derived.RangeFuncLeaves
import Derived.RangeFuncBox
import Derived.Shelf.Abstract
import Derived.Shelf.RegionOpen
import Derived.OwnWalkIn
import Derived.TacticsInMore
import Derived.LoopNIn
import Derived.LoopIn
import Derived.Test.YthbofilcnpdghaaGreatDoorZad
import Derived.Lib.Join
import Derived.Test.YthbofilcnpdghaaGreatDoorZae
set_option maxRecDepth 100000
set_option maxHeartbeats 8000000
set_option linter.unusedVariables false
set_option linter.unusedSimpArgs false
section
namespace Go.Proofs.YthbofilcnpdghaaGreatDoor
open Go.RowKit
end Go.Proofs.YthbofilcnpdghaaGreatDoor
end
section
namespace Go.Proofs.YthbofilcnpdghaaGreatDoor
open Go.RowKit Go.Shelf
attribute [local go_sem] Oper.semAt_some
attribute [local go_sem] Oper.semAt_some
end Go.Proofs.YthbofilcnpdghaaGreatDoor
end
section
namespace Go.Proofs.YthbofilcnpdghaaGreatDoor
open Go.RowKit
theorem tw_eq (p:UInt8→Bool):∀ (l:List UInt8) (k:Nat),k≤l.length→(l.take k).all p=true→(∀ h:k<l.length,p l[k]=false)→l.takeWhile p=l.take k
 | [],k,_,_,_=>by simp
 | b::l,0,_,_,h=>by
  have:=h (by simp)
  simp only [List.getElem_cons_zero] at this
  simp [List.takeWhile_cons,this]
 | b::l,k+1,hk,ha,h=>by
  simp only [List.take_succ_cons,List.all_cons,Bool.and_eq_true] at ha
  rw [List.takeWhile_cons,ha.1]
  simp only [if_true,List.take_succ_cons]
  rw [tw_eq p l k (by simpa using hk) ha.2 (fun h'=>h (Nat.succ_lt_succ h'))]
theorem tw_all (p:UInt8→Bool) (l:List UInt8):(l.takeWhile p).all p=true:=by
 induction l with
 | nil=>rfl
 | cons b l ih =>
  rw [List.takeWhile_cons]
  split
  ·rename_i h;simp only [List.all_cons,h,ih,Bool.and_self]
  ·rfl
theorem tw_len (p:UInt8→Bool) (l:List UInt8):(l.takeWhile p).length≤l.length:=(List.takeWhile_prefix p).length_le
theorem tw_take (p:UInt8→Bool) (l:List UInt8):l.take (l.takeWhile p).length=l.takeWhile p:=(List.prefix_iff_eq_take.1 (List.takeWhile_prefix p)).symm
theorem tw_stop (p:UInt8→Bool):∀ (l:List UInt8) (h:(l.takeWhile p).length<l.length),p l[(l.takeWhile p).length]=false
 | [],h=>by simp at h
 | b::l,h=>by
  by_cases hb:p b=true
  ·have e:(b::l).takeWhile p=b::l.takeWhile p:=by rw [List.takeWhile_cons,if_pos hb]
   simp only [e,List.length_cons,List.getElem_cons_succ] at h ⊢
   exact tw_stop p l (by simpa using h)
  ·have e:(b::l).takeWhile p=[]:=by rw [List.takeWhile_cons,if_neg hb]
   simp only [e,List.length_nil,List.getElem_cons_zero]
   simpa using hb
def plnB (b:UInt8):Bool:=alB b.toNat || (b == 45 || b == 46 || b == 95 || b == 126)
def adrB (b:UInt8):Bool:=isDig 16 (lowB b) || (b == 58 || b == 46)
def nameL (l:List UInt8):Nat :=
 if l.head?=some 91 then
  let a:=(l.tail.takeWhile adrB).length
  if l.tail[a]?=some 93∧2≤a∧a≤60 then a+2 else 0
 else
  let n:=(l.takeWhile plnB).length
  if n≤255 then n else 0
def portL (h r:List UInt8):List UInt8 × Int × Int :=
 if r=[] then (lowL h,-1,0)
 else if r.head?=some 58∧(numL 10 1000000000000000000 r.tail).2=0∧r.tail.length≤5∧(numL 10 1000000000000000000 r.tail).1≤65535 then (lowL h,(numL 10 1000000000000000000 r.tail).1,0)
 else ([],0,40)
def hostL (l:List UInt8):List UInt8 × Int × Int:=if nameL l=0 then ([],0,40) else portL (l.take (nameL l)) (l.drop (nameL l))
theorem adr_93:adrB 93=false:=by decide
theorem pln_58:plnB 58=false:=by decide
theorem name_br {l:List UInt8} (h:l.head?=some 91) (i:Nat) (hi:i<l.length) (h1:1≤i) (hb:l[i]=93) (hno:∀ j (hj:j<i),l[j]'(by omega)≠93) :
  nameL l=if (3≤i∧i≤61)∧((l.take i).tail.all adrB)=true then i+1 else 0:=by
 unfold nameL
 rw [if_pos h]
 have ht:l.tail.length=l.length-1:=List.length_tail
 have hti:l.tail[i-1]?=some 93:=by
  rw [List.getElem?_tail,show i-1+1=i by omega,List.getElem?_eq_getElem hi,hb]
 have htt:(l.take i).tail=l.tail.take (i-1):=by
  cases l with
  | nil=>simp
  | cons a l=>cases i with | zero=>omega | succ i=>simp
 rw [htt]
 have htg:∀ (hk:i-1<l.tail.length),l.tail[i-1]=93:=fun hk=>by
  rw [List.getElem?_eq_getElem hk] at hti;exact Option.some.inj hti
 by_cases ha:(l.tail.take (i-1)).all adrB=true
 ·have e:l.tail.takeWhile adrB=l.tail.take (i-1):=tw_eq adrB l.tail (i-1) (by omega) ha (fun hk=>by rw [htg hk];exact adr_93)
  have e2:(l.tail.takeWhile adrB).length=i-1:=by rw [e,List.length_take];omega
  dsimp only
  rw [e2,hti,ha]
  by_cases hc:3≤i∧i≤61
  ·rw [if_pos ⟨rfl,by omega,by omega⟩,if_pos ⟨hc,rfl⟩];omega
  ·rw [if_neg (by intro h;omega),if_neg (fun h=>hc h.1)]
 ·have e0:(if (3≤i∧i≤61)∧((l.tail.take (i-1)).all adrB)=true then i+1 else 0)=0:=if_neg (fun h=>ha h.2)
  rw [e0]
  dsimp only
  rw [if_neg]
  rintro ⟨h93,_,_⟩
  have hlt:=(List.getElem?_eq_some_iff.1 h93).1
  have hv:=(List.getElem?_eq_some_iff.1 h93).2
  have hge:i-1≤(l.tail.takeWhile adrB).length:=by
   refine Classical.byContradiction fun hlt2=>?_
   refine hno ((l.tail.takeWhile adrB).length+1) (by omega) ?_
   rw [List.getElem_tail] at hv;exact hv
  refine ha ?_
  have:=tw_all adrB l.tail
  rw [← tw_take] at this
  rw [List.all_eq_true] at this ⊢
  intro x hx
  refine this x ?_
  have e:l.tail.take (i-1)=(l.tail.take (l.tail.takeWhile adrB).length).take (i-1):=by rw [List.take_take,Nat.min_eq_left hge]
  rw [e] at hx
  exact List.mem_of_mem_take hx
theorem name_br0 {l:List UInt8} (h:l.head?=some 91) (hno:93∉l):nameL l=0:=by
 unfold nameL
 rw [if_pos h]
 dsimp only
 rw [if_neg]
 rintro ⟨h93,_⟩
 exact hno (List.mem_of_mem_tail (List.mem_of_getElem? h93))
theorem name_pl {l:List UInt8} (h:l.head?≠some 91) (n:Nat) (hn:n≤l.length) (hb:∀ h:n<l.length,l[n]=58) (ha:(l.take n).all plnB=true):nameL l=if n≤255 then n else 0:=by
 unfold nameL
 rw [if_neg h]
 have e:l.takeWhile plnB=l.take n:=tw_eq plnB l n hn ha (fun hk=>by rw [hb hk];exact pln_58)
 have e2:(l.takeWhile plnB).length=n:=by rw [e,List.length_take];omega
 dsimp only
 rw [e2]
theorem host_pl_bad {l:List UInt8} (h:l.head?≠some 91) (n:Nat) (hn:n≤l.length) (hno:58∉l.take n) (ha:(l.take n).all plnB=false):hostL l=([],0,40):=by
 have hlt:(l.takeWhile plnB).length<n:=by
  refine Classical.byContradiction fun hge=>?_
  rw [Bool.eq_false_iff] at ha
  refine ha ?_
  have:=tw_all plnB l
  rw [← tw_take] at this
  rw [List.all_eq_true] at this ⊢
  intro x hx
  refine this x ?_
  have e:l.take n=(l.take (l.takeWhile plnB).length).take n:=by rw [List.take_take,Nat.min_eq_left (by omega)]
  rw [e] at hx
  exact List.mem_of_mem_take hx
 have hm:nameL l=(if (l.takeWhile plnB).length≤255 then (l.takeWhile plnB).length else 0):=by unfold nameL;rw [if_neg h]
 unfold hostL
 by_cases h0:nameL l=0
 ·rw [if_pos h0]
 ·rw [if_neg h0]
  have he:nameL l=(l.takeWhile plnB).length:=by rw [hm] at h0 ⊢;split at h0 <;> simp_all
  unfold portL
  have hd:(l.drop (nameL l))≠[]:=by
   intro e
   have:=congrArg List.length e
   rw [List.length_drop,he] at this
   simp at this;omega
  rw [if_neg hd,if_neg]
  rintro ⟨h58,_⟩
  rw [List.head?_drop,he] at h58
  refine hno ?_
  have hg:=List.getElem?_eq_some_iff.1 h58
  rw [← hg.2]
  exact List.mem_take_iff_getElem.2 ⟨_,by omega,rfl⟩
end Go.Proofs.YthbofilcnpdghaaGreatDoor
end
