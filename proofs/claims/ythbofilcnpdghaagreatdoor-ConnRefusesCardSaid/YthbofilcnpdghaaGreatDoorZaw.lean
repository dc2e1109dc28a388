/-
The program's Clean: a loop over the parts of a path.
-/
import Derived.Test.YthbofilcnpdghaaGreatDoorZav
import Derived.Test.YthbofilcnpdghaaGreatDoorZad
import Derived.Lib.Join
import Derived.Test.YthbofilcnpdghaaGreatDoorZae
import Derived.Test.YthbofilcnpdghaaGreatDoorZag
import Derived.Stop.LaidErr
import Derived.LaidLaws
set_option maxRecDepth 100000
set_option maxHeartbeats 8000000
set_option linter.unusedVariables false
set_option linter.unusedSimpArgs false
section
namespace Go.Proofs.YthbofilcnpdghaaGreatDoor
open Go.RowKit Go.Shelf
attribute [local go_sem] Oper.semAt_some
end Go.Proofs.YthbofilcnpdghaaGreatDoor
end
section
namespace Go.Proofs.YthbofilcnpdghaaGreatDoor
open Go.RowKit
end Go.Proofs.YthbofilcnpdghaaGreatDoor
end
section
namespace Go.Proofs.YthbofilcnpdghaaGreatDoor
open Go.RowKit
theorem tw_eq (p:UInt8 → Bool):∀ (l:List UInt8) (k:Nat),k ≤ l.length → (l.take k).all p=true → (∀ h:k < l.length,p l[k]=false) → l.takeWhile p=l.take k
 | [],k,_,_,_=>by simp
 | b :: l,0,_,_,h=>by
  have:=h (by simp)
  simp only [List.getElem_cons_zero] at this
  simp [List.takeWhile_cons,this]
 | b :: l,k + 1,hk,ha,h=>by
  simp only [List.take_succ_cons,List.all_cons,Bool.and_eq_true] at ha
  rw [List.takeWhile_cons,ha.1]
  simp only [if_true,List.take_succ_cons]
  rw [tw_eq p l k (by simpa using hk) ha.2 (fun h'=>h (Nat.succ_lt_succ h'))]
theorem tw_all (p:UInt8 → Bool) (l:List UInt8):(l.takeWhile p).all p=true:=by
 induction l with
 | nil=>rfl
 | cons b l ih =>
  rw [List.takeWhile_cons]
  split
  ·rename_i h; simp only [List.all_cons,h,ih,Bool.and_self]
  ·rfl
theorem tw_len (p:UInt8 → Bool) (l:List UInt8):(l.takeWhile p).length ≤ l.length:=(List.takeWhile_prefix p).length_le
theorem tw_take (p:UInt8 → Bool) (l:List UInt8):l.take (l.takeWhile p).length=l.takeWhile p:=(List.prefix_iff_eq_take.1 (List.takeWhile_prefix p)).symm
theorem tw_stop (p:UInt8 → Bool):∀ (l:List UInt8) (h:(l.takeWhile p).length < l.length),p l[(l.takeWhile p).length]=false
 | [],h=>by simp at h
 | b :: l,h=>by
  by_cases hb:p b=true
  ·have e:(b :: l).takeWhile p=b :: l.takeWhile p:=by rw [List.takeWhile_cons,if_pos hb]
   simp only [e,List.length_cons,List.getElem_cons_succ] at h ⊢
   exact tw_stop p l (by simpa using h)
  ·have e:(b :: l).takeWhile p=[]:=by rw [List.takeWhile_cons,if_neg hb]
   simp only [e,List.length_nil,List.getElem_cons_zero]
   simpa using hb
def plnB (b:UInt8):Bool:=alB b.toNat || (b == 45 || b == 46 || b == 95 || b == 126)
def adrB (b:UInt8):Bool:=isDig 16 (lowB b) || (b == 58 || b == 46)
def nameL (l:List UInt8):Nat :=
 if l.head?=some 91 then
  let a:=(l.tail.takeWhile adrB).length
  if l.tail[a]?=some 93∧2 ≤ a∧a ≤ 60 then a + 2 else 0
 else
  let n:=(l.takeWhile plnB).length
  if n ≤ 255 then n else 0
def portL (h r:List UInt8):List UInt8 × Int × Int :=
 if r=[] then (lowL h,-1,0)
 else if r.head?=some 58∧(numL 10 1000000000000000000 r.tail).2=0∧r.tail.length ≤ 5∧(numL 10 1000000000000000000 r.tail).1 ≤ 65535 then (lowL h,(numL 10 1000000000000000000 r.tail).1,0)
 else ([],0,40)
def hostL (l:List UInt8):List UInt8 × Int × Int:=if nameL l=0 then ([],0,40) else portL (l.take (nameL l)) (l.drop (nameL l))
theorem adr_93:adrB 93=false:=by decide
theorem pln_58:plnB 58=false:=by decide
theorem name_br {l:List UInt8} (h:l.head?=some 91) (i:Nat) (hi:i < l.length) (h1:1 ≤ i) (hb:l[i]=93) (hno:∀ j (hj:j < i),l[j]'(by omega) ≠ 93) :
  nameL l=if (3 ≤ i∧i ≤ 61)∧((l.take i).tail.all adrB)=true then i + 1 else 0:=by
 unfold nameL
 rw [if_pos h]
 have ht:l.tail.length=l.length - 1:=List.length_tail
 have hti:l.tail[i - 1]?=some 93:=by
  rw [List.getElem?_tail,show i - 1 + 1=i by omega,List.getElem?_eq_getElem hi,hb]
 have htt:(l.take i).tail=l.tail.take (i - 1):=by
  cases l with
  | nil=>simp
  | cons a l=>cases i with | zero=>omega | succ i=>simp
 rw [htt]
 have htg:∀ (hk:i - 1 < l.tail.length),l.tail[i - 1]=93:=fun hk=>by
  rw [List.getElem?_eq_getElem hk] at hti; exact Option.some.inj hti
 by_cases ha:(l.tail.take (i - 1)).all adrB=true
 ·have e:l.tail.takeWhile adrB=l.tail.take (i - 1):=tw_eq adrB l.tail (i - 1) (by omega) ha (fun hk=>by rw [htg hk]; exact adr_93)
  have e2:(l.tail.takeWhile adrB).length=i - 1:=by rw [e,List.length_take]; omega
  dsimp only
  rw [e2,hti,ha]
  by_cases hc:3 ≤ i∧i ≤ 61
  ·rw [if_pos ⟨rfl,by omega,by omega⟩,if_pos ⟨hc,rfl⟩]; omega
  ·rw [if_neg (by intro h; omega),if_neg (fun h=>hc h.1)]
 ·have e0:(if (3 ≤ i∧i ≤ 61)∧((l.tail.take (i - 1)).all adrB)=true then i + 1 else 0)=0:=if_neg (fun h=>ha h.2)
  rw [e0]
  dsimp only
  rw [if_neg]
  rintro ⟨h93,_,_⟩
  have hlt:=(List.getElem?_eq_some_iff.1 h93).1
  have hv:=(List.getElem?_eq_some_iff.1 h93).2
  have hge:i - 1 ≤ (l.tail.takeWhile adrB).length:=by
   refine Classical.byContradiction fun hlt2=>?_
   refine hno ((l.tail.takeWhile adrB).length + 1) (by omega) ?_
   rw [List.getElem_tail] at hv; exact hv
  refine ha ?_
  have:=tw_all adrB l.tail
  rw [← tw_take] at this
  rw [List.all_eq_true] at this ⊢
  intro x hx
  refine this x ?_
  have e:l.tail.take (i - 1)=(l.tail.take (l.tail.takeWhile adrB).length).take (i - 1):=by rw [List.take_take,Nat.min_eq_left hge]
  rw [e] at hx
  exact List.mem_of_mem_take hx
theorem name_br0 {l:List UInt8} (h:l.head?=some 91) (hno:93 ∉ l):nameL l=0:=by
 unfold nameL
 rw [if_pos h]
 dsimp only
 rw [if_neg]
 rintro ⟨h93,_⟩
 exact hno (List.mem_of_mem_tail (List.mem_of_getElem? h93))
theorem name_pl {l:List UInt8} (h:l.head? ≠ some 91) (n:Nat) (hn:n ≤ l.length) (hb:∀ h:n < l.length,l[n]=58) (ha:(l.take n).all plnB=true):nameL l=if n ≤ 255 then n else 0:=by
 unfold nameL
 rw [if_neg h]
 have e:l.takeWhile plnB=l.take n:=tw_eq plnB l n hn ha (fun hk=>by rw [hb hk]; exact pln_58)
 have e2:(l.takeWhile plnB).length=n:=by rw [e,List.length_take]; omega
 dsimp only
 rw [e2]
theorem host_pl_bad {l:List UInt8} (h:l.head? ≠ some 91) (n:Nat) (hn:n ≤ l.length) (hno:58 ∉ l.take n) (ha:(l.take n).all plnB=false):hostL l=([],0,40):=by
 have hlt:(l.takeWhile plnB).length < n:=by
  refine Classical.byContradiction fun hge=>?_
  rw [Bool.eq_false_iff] at ha
  refine ha ?_
  have:=tw_all plnB l
  rw [← tw_take] at this
  rw [List.all_eq_true] at this ⊢
  intro x hx
  refine this x ?_
  have e:l.take n=(l.take (l.takeWhile plnB).length).take n:=by rw [List.take_take,Nat.min_eq_left (by omega)]
  rw [e] at hx
  exact List.mem_of_mem_take hx
 have hm:nameL l=(if (l.takeWhile plnB).length ≤ 255 then (l.takeWhile plnB).length else 0):=by unfold nameL; rw [if_neg h]
 unfold hostL
 by_cases h0:nameL l=0
 ·rw [if_pos h0]
 ·rw [if_neg h0]
  have he:nameL l=(l.takeWhile plnB).length:=by rw [hm] at h0 ⊢; split at h0 <;> simp_all
  unfold portL
  have hd:(l.drop (nameL l)) ≠ []:=by
   intro e
   have:=congrArg List.length e
   rw [List.length_drop,he] at this
   simp at this; omega
  rw [if_neg hd,if_neg]
  rintro ⟨h58,_⟩
  rw [List.head?_drop,he] at h58
  refine hno ?_
  have hg:=List.getElem?_eq_some_iff.1 h58
  rw [← hg.2]
  exact List.mem_take_iff_getElem.2 ⟨_,by omega,rfl⟩
end Go.Proofs.YthbofilcnpdghaaGreatDoor
end
section
namespace Go.Proofs.YthbofilcnpdghaaGreatDoor
open Go.RowKit
theorem idx_pln0:∀ b:Fin 256,decide (0 ≤ Lib.indexByte [45,46,95,126] b.val.toUInt8)=(b.val.toUInt8 == 45 || b.val.toUInt8 == 46 || b.val.toUInt8 == 95 || b.val.toUInt8 == 126):=by decide +kernel
theorem idx_pln (b:UInt8):decide (0 ≤ Lib.indexByte [45,46,95,126] b)=(b == 45 || b == 46 || b == 95 || b == 126):=by
 have:=idx_pln0 ⟨b.toNat,UInt8.toNat_lt b⟩; simpa using this
def adrT:List UInt8:=[48,49,50,51,52,53,54,55,56,57,97,98,99,100,101,102,65,66,67,68,69,70,58,46]
theorem idx_adr0:∀ b:Fin 256,decide (0 ≤ Lib.indexByte adrT b.val.toUInt8)=adrB b.val.toUInt8:=by decide +kernel
theorem idx_adr (b:UInt8):decide (0 ≤ Lib.indexByte adrT b)=adrB b:=by
 have:=idx_adr0 ⟨b.toNat,UInt8.toNat_lt b⟩; simpa using this
theorem IndexByteK_c (l:List UInt8) (b:UInt8) (z:Int) (h:Lib.indexByte l b=z) (w:World) :
  Calls Tryz.prog 109 #[.string ⟨l.toArray⟩,.int .u8 (b.toNat:Int)] w fun e w'=>e=.returned (.int .i64 z)∧w=w' :=
 IndexByteS_c l (b.toNat:Int) z (by simpa using h) w
theorem uplain_c (b:UInt8) (w:World):Calls Tryz.prog 113 #[.int .u8 (b.toNat:Int)] w fun e w'=>e=.returned (.bool (plnB b))∧w=w':=by
 obtain ⟨z,hz⟩:∃ z,Lib.indexByte [45,46,95,126] b=z:=⟨_,rfl⟩
 have HZ:=Lib.hid hz
 clear hz
 obtain ⟨x,hx⟩:∃ x:Int,x=(b.toNat:Int):=⟨_,rfl⟩
 have hc:=al_cases b.toNat
 obtain ⟨v,hv⟩:∃ v,v=alB b.toNat:=⟨_,rfl⟩
 rw [← hv] at hc
 have HV:=Lib.hid hv
 clear hv hx x
 go_enter Tryz.func113,Tryz.ntmps113
 rcases hc with ⟨rfl,c1,c2,c3⟩ | ⟨rfl,c1,c2,c3,c4⟩ | ⟨rfl,c1,c2,c3,c4⟩ | ⟨rfl,c1,c2,c3⟩ | ⟨rfl,c1,c2,c3,c4,c5⟩ | ⟨rfl,c1,c2⟩ | ⟨rfl,c1,c2,c3,c4,c5,c6⟩
 ·go_wp2_with (go_at_call 109; refine (IndexByteK_c _ _ _ HZ.out _).mono ?_; rintro e w1 ⟨rfl,rfl⟩)
  go_ret
  exact ⟨ret_bool (by unfold plnB; rw [← HV.out,← idx_pln,HZ.out]; rfl),rfl⟩
 ·go_wp2
  go_ret
  exact ⟨ret_bool (by unfold plnB; rw [← HV.out]; rfl),rfl⟩
 ·go_wp2_with (go_at_call 109; refine (IndexByteK_c _ _ _ HZ.out _).mono ?_; rintro e w1 ⟨rfl,rfl⟩)
  go_ret
  exact ⟨ret_bool (by unfold plnB; rw [← HV.out,← idx_pln,HZ.out]; rfl),rfl⟩
 ·go_wp2
  go_ret
  exact ⟨ret_bool (by unfold plnB; rw [← HV.out]; rfl),rfl⟩
 ·go_wp2_with (go_at_call 109; refine (IndexByteK_c _ _ _ HZ.out _).mono ?_; rintro e w1 ⟨rfl,rfl⟩)
  go_ret
  exact ⟨ret_bool (by unfold plnB; rw [← HV.out,← idx_pln,HZ.out]; rfl),rfl⟩
 ·go_wp2
  go_ret
  exact ⟨ret_bool (by unfold plnB; rw [← HV.out]; rfl),rfl⟩
 ·go_wp2_with (go_at_call 109; refine (IndexByteK_c _ _ _ HZ.out _).mono ?_; rintro e w1 ⟨rfl,rfl⟩)
  go_ret
  exact ⟨ret_bool (by unfold plnB; rw [← HV.out,← idx_pln,HZ.out]; rfl),rfl⟩
theorem uaddress_c (b:UInt8) (w:World):Calls Tryz.prog 112 #[.int .u8 (b.toNat:Int)] w fun e w'=>e=.returned (.bool (adrB b))∧w=w':=by
 obtain ⟨z,hz⟩:∃ z,Lib.indexByte adrT b=z:=⟨_,rfl⟩
 have HZ:=Lib.hid hz
 clear hz
 go_enter Tryz.func112,Tryz.ntmps112
 go_wp2_with (go_at_call 109; refine (IndexByteK_c _ _ _ HZ.out _).mono ?_; rintro e w1 ⟨rfl,rfl⟩)
 go_ret
 exact ⟨ret_bool (by rw [← idx_adr,HZ.out]),rfl⟩
end Go.Proofs.YthbofilcnpdghaaGreatDoor
end
section
namespace Go.Proofs.YthbofilcnpdghaaGreatDoor
open Go.RowKit Go.ChangeShapes
theorem star_es : "*" ++ "errors.errorString" = "*errors.errorString" := by decide
theorem row_es (u : TypeId) (h : Tryz.prog.typeName? 3 u = some "*errors.errorString") : u = 217 :=
 typeName_ptr_named (nm := "errors.errorString") (by rw [star_es]; kernel_rfl) (by kernel_rfl) (by decide) u (by rw [star_es]; exact h)
theorem gErr_n : Tryz.prog.globalNamed "strconv.ErrRange" = some 7 := by kernel_rfl
theorem gErr_t:(Tryz.prog.globals[7]?).map (·.type)=some 154:=by kernel_rfl
theorem cells_es:Tryz.prog.cellsOf 219=1:=by kernel_rfl
theorem cells_str:Tryz.prog.cellsOf 9=1:=by kernel_rfl
theorem errR_of {text : List UInt8} {r : List (String × DataW Unit)} {W : World} (h : laidMet Tryz.prog (("strconv.ErrRange", .iface "*errors.errorString" (.ptr (.agg [.lit (.string text)]))) :: r) W) : ErrR W := by
 obtain ⟨a,s,hv,_⟩:=laid_sentinel h gErr_n gErr_t Tryz.underlying154 row_es Tryz.underlying217 Tryz.underlying219 rfl rfl Tryz.underlying9 cells_es cells_str
 exact ⟨_,_,World.var?_cell gErr_n hv 0⟩
end Go.Proofs.YthbofilcnpdghaaGreatDoor
end
section
namespace Go.Proofs.YthbofilcnpdghaaGreatDoor
open Go.RowKit
end Go.Proofs.YthbofilcnpdghaaGreatDoor
end
section
namespace Go.Proofs.YthbofilcnpdghaaGreatDoor
open Go.RowKit
end Go.Proofs.YthbofilcnpdghaaGreatDoor
end
section
namespace Go.Proofs.YthbofilcnpdghaaGreatDoor
open Go.RowKit
def mayB (q:Bool) (b:UInt8):Bool :=
 (decide (33 ≤ b.toNat) && decide (b.toNat ≤ 126)) && (!(b == 34 || b == 35 || b == 60 || b == 62 || b == 92 || b == 94 || b == 96 || b == 123 || b == 124 || b == 125) && (b != 63 || q))
def localL (r:List UInt8):Option (List UInt8 × List UInt8 × Bool) :=
 let p:=r.takeWhile (fun b=>b != 63)
 if p.all (mayB false)=true∧(r.drop (p.length + 1)).all (mayB true)=true then some (p,r.drop (p.length + 1),decide (p.length < r.length)) else none
abbrev TgtT:=Int × List UInt8 × Int × List UInt8 × List UInt8 × Bool
def badT:TgtT × Int:=((0,[],0,[],[],false),40)
def finT (form:Int) (host:List UInt8) (port:Int) (r:List UInt8):TgtT × Int :=
 match localL r with
 | none=>badT
 | some (p,q,a)=>((form,host,port,if p=[] then [47] else p,q,a),0)
def httpU:List UInt8:=[104,116,116,112,58,47,47]
def authL (r:List UInt8):Nat:=(r.takeWhile fun b=>!(b == 47 || b == 63)).length
def tgtL (m t:List UInt8):TgtT × Int :=
 if 8192 < t.length ∨ t=[] then badT
 else if m=[67,79,78,78,69,67,84] then (if (hostL t).2.2=0∧0 ≤ (hostL t).2.1 then ((3,(hostL t).1,(hostL t).2.1,[],[],false),0) else badT)
 else if m=[79,80,84,73,79,78,83]∧t=[42] then ((4,[],-1,[],[],false),0)
 else if 7 ≤ t.length∧lowL (t.take 7)=httpU then
  (if (hostL ((t.drop 7).take (authL (t.drop 7)))).2.2=0 then finT 2 (hostL ((t.drop 7).take (authL (t.drop 7)))).1 (hostL ((t.drop 7).take (authL (t.drop 7)))).2.1 ((t.drop 7).drop (authL (t.drop 7))) else badT)
 else if t.head?=some 47 then finT 1 [] (-1) t
 else badT
end Go.Proofs.YthbofilcnpdghaaGreatDoor
end
