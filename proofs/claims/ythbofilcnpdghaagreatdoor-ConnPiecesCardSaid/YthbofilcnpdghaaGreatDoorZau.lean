/-
Which bytes may stand in hosts: the program's and the reference's; a digit's worth.
-/
import Derived.Test.YthbofilcnpdghaaGreatDoorZag
import Derived.Test.YthbofilcnpdghaaGreatDoorZat
import Derived.Test.YthbofilcnpdghaaGreatDoorZaf
import Derived.Stop.LaidErr
import Derived.LaidLaws
import Derived.Test.YthbofilcnpdghaaGreatDoorZae
import Derived.Test.YthbofilcnpdghaaGreatDoorZad
set_option maxRecDepth 100000
set_option maxHeartbeats 8000000
set_option linter.unusedVariables false
set_option linter.unusedSimpArgs false
section
namespace Go.Proofs.YthbofilcnpdghaaGreatDoor
open Go.RowKit
theorem idx_pln0:∀ b:Fin 256,decide (0≤Lib.indexByte [45,46,95,126] b.val.toUInt8)=(b.val.toUInt8 == 45 || b.val.toUInt8 == 46 || b.val.toUInt8 == 95 || b.val.toUInt8 == 126):=by decide +kernel
theorem idx_pln (b:UInt8):decide (0≤Lib.indexByte [45,46,95,126] b)=(b == 45 || b == 46 || b == 95 || b == 126):=by
 have:=idx_pln0 ⟨b.toNat,UInt8.toNat_lt b⟩;simpa using this
def adrT:List UInt8:=[48,49,50,51,52,53,54,55,56,57,97,98,99,100,101,102,65,66,67,68,69,70,58,46]
theorem idx_adr0:∀ b:Fin 256,decide (0≤Lib.indexByte adrT b.val.toUInt8)=adrB b.val.toUInt8:=by decide +kernel
theorem idx_adr (b:UInt8):decide (0≤Lib.indexByte adrT b)=adrB b:=by
 have:=idx_adr0 ⟨b.toNat,UInt8.toNat_lt b⟩;simpa using this
theorem IndexByteK_c (l:List UInt8) (b:UInt8) (z:Int) (h:Lib.indexByte l b=z) (w:World) :
  Calls Tryz.prog 109 #[.string ⟨l.toArray⟩,.int .u8 (b.toNat:Int)] w fun e w'=>e=.returned (.int .i64 z)∧w=w' :=
 IndexByteS_c l (b.toNat:Int) z (by simpa using h) w
theorem uplain_c (b:UInt8) (w:World):Calls Tryz.prog 113 #[.int .u8 (b.toNat:Int)] w fun e w'=>e=.returned (.bool (plnB b))∧w=w':=by
 obtain ⟨z,hz⟩:∃ z,Lib.indexByte [45,46,95,126] b=z:=⟨_,rfl⟩
 have HZ:=Hy hz
 clear hz
 obtain ⟨x,hx⟩:∃ x:Int,x=(b.toNat:Int):=⟨_,rfl⟩
 have hc:=al_cases b.toNat
 obtain ⟨v,hv⟩:∃ v,v=alB b.toNat:=⟨_,rfl⟩
 rw [← hv] at hc
 have HV:=Hy hv
 clear hv hx x
 go_enter Tryz.func113,Tryz.ntmps113
 rcases hc with ⟨rfl,c1,c2,c3⟩ | ⟨rfl,c1,c2,c3,c4⟩ | ⟨rfl,c1,c2,c3,c4⟩ | ⟨rfl,c1,c2,c3⟩ | ⟨rfl,c1,c2,c3,c4,c5⟩ | ⟨rfl,c1,c2⟩ | ⟨rfl,c1,c2,c3,c4,c5,c6⟩
 ·go_wp2_with (go_at_call 109;refine (IndexByteK_c _ _ _ HZ.out _).mono ?_;rintro e w1 ⟨rfl,rfl⟩)
  go_ret
  exact ⟨ret_bool (by unfold plnB;rw [← HV.out,← idx_pln,HZ.out];rfl),rfl⟩
 ·go_wp2
  go_ret
  exact ⟨ret_bool (by unfold plnB;rw [← HV.out];rfl),rfl⟩
 ·go_wp2_with (go_at_call 109;refine (IndexByteK_c _ _ _ HZ.out _).mono ?_;rintro e w1 ⟨rfl,rfl⟩)
  go_ret
  exact ⟨ret_bool (by unfold plnB;rw [← HV.out,← idx_pln,HZ.out];rfl),rfl⟩
 ·go_wp2
  go_ret
  exact ⟨ret_bool (by unfold plnB;rw [← HV.out];rfl),rfl⟩
 ·go_wp2_with (go_at_call 109;refine (IndexByteK_c _ _ _ HZ.out _).mono ?_;rintro e w1 ⟨rfl,rfl⟩)
  go_ret
  exact ⟨ret_bool (by unfold plnB;rw [← HV.out,← idx_pln,HZ.out];rfl),rfl⟩
 ·go_wp2
  go_ret
  exact ⟨ret_bool (by unfold plnB;rw [← HV.out];rfl),rfl⟩
 ·go_wp2_with (go_at_call 109;refine (IndexByteK_c _ _ _ HZ.out _).mono ?_;rintro e w1 ⟨rfl,rfl⟩)
  go_ret
  exact ⟨ret_bool (by unfold plnB;rw [← HV.out,← idx_pln,HZ.out];rfl),rfl⟩
theorem uaddress_c (b:UInt8) (w:World):Calls Tryz.prog 112 #[.int .u8 (b.toNat:Int)] w fun e w'=>e=.returned (.bool (adrB b))∧w=w':=by
 obtain ⟨z,hz⟩:∃ z,Lib.indexByte adrT b=z:=⟨_,rfl⟩
 have HZ:=Hy hz
 clear hz
 go_enter Tryz.func112,Tryz.ntmps112
 go_wp2_with (go_at_call 109;refine (IndexByteK_c _ _ _ HZ.out _).mono ?_;rintro e w1 ⟨rfl,rfl⟩)
 go_ret
 exact ⟨ret_bool (by rw [← idx_adr,HZ.out]),rfl⟩
end Go.Proofs.YthbofilcnpdghaaGreatDoor
end
section
namespace Go.Proofs.YthbofilcnpdghaaGreatDoor
open Go.RowKit Go.ChangeShapes
theorem star_es : "*" ++ "errors.errorString" = "*errors.errorString" := by decide
theorem row_es (u : TypeId) (h : Tryz.prog.typeName? 3 u = some "*errors.errorString") : u = 217 :=
 typeName_ptr_named (nm := "errors.errorString") (by rw [star_es]; kernel_rfl) (by kernel_rfl) (by decide) u (by rw [star_es]; exact h)
theorem gErr_n : Tryz.prog.globalNamed "strconv.ErrRange" = some 7 := by kernel_rfl
theorem gErr_t:(Tryz.prog.globals[7]?).map (·.type)=some 154:=by kernel_rfl
theorem cells_es:Tryz.prog.cellsOf 219=1:=by kernel_rfl
theorem cells_str:Tryz.prog.cellsOf 9=1:=by kernel_rfl
theorem errR_of {text : List UInt8} {r : List (String × DataW Unit)} {W : World} (h : laidMet Tryz.prog (("strconv.ErrRange", .iface "*errors.errorString" (.ptr (.agg [.lit (.string text)]))) :: r) W) : ErrR W := by
 obtain ⟨a,s,hv,_⟩:=laid_sentinel h gErr_n gErr_t Tryz.underlying154 row_es Tryz.underlying217 Tryz.underlying219 rfl rfl Tryz.underlying9 cells_es cells_str
 exact ⟨_,_,World.var?_cell gErr_n hv 0⟩
end Go.Proofs.YthbofilcnpdghaaGreatDoor
end
section
namespace Go.Proofs.YthbofilcnpdghaaGreatDoor
open Go.RowKit
def mayB (q:Bool) (b:UInt8):Bool :=
 (decide (33≤b.toNat) && decide (b.toNat≤126)) && (!(b == 34 || b == 35 || b == 60 || b == 62 || b == 92 || b == 94 || b == 96 || b == 123 || b == 124 || b == 125) && (b != 63 || q))
def localL (r:List UInt8):Option (List UInt8 × List UInt8 × Bool) :=
 let p:=r.takeWhile (fun b=>b != 63)
 if p.all (mayB false)=true∧(r.drop (p.length+1)).all (mayB true)=true then some (p,r.drop (p.length+1),decide (p.length<r.length)) else none
abbrev TgtT:=Int × List UInt8 × Int × List UInt8 × List UInt8 × Bool
def badT:TgtT × Int:=((0,[],0,[],[],false),40)
def finT (form:Int) (host:List UInt8) (port:Int) (r:List UInt8):TgtT × Int :=
 match localL r with
 | none=>badT
 | some (p,q,a)=>((form,host,port,if p=[] then [47] else p,q,a),0)
def httpU:List UInt8:=[104,116,116,112,58,47,47]
def authL (r:List UInt8):Nat:=(r.takeWhile fun b=>!(b == 47 || b == 63)).length
def tgtL (m t:List UInt8):TgtT × Int :=
 if 8192<t.length∨t=[] then badT
 else if m=[67,79,78,78,69,67,84] then (if (hostL t).2.2=0∧0≤(hostL t).2.1 then ((3,(hostL t).1,(hostL t).2.1,[],[],false),0) else badT)
 else if m=[79,80,84,73,79,78,83]∧t=[42] then ((4,[],-1,[],[],false),0)
 else if 7≤t.length∧lowL (t.take 7)=httpU then
  (if (hostL ((t.drop 7).take (authL (t.drop 7)))).2.2=0 then finT 2 (hostL ((t.drop 7).take (authL (t.drop 7)))).1 (hostL ((t.drop 7).take (authL (t.drop 7)))).2.1 ((t.drop 7).drop (authL (t.drop 7))) else badT)
 else if t.head?=some 47 then finT 1 [] (-1) t
 else badT
theorem all_plain (l:List UInt8) (hs:l.length≤140737488355328) (w:World) :
  Calls Tryz.prog 87 #[.string (str l),(.func (.func 113) #[] #[])] w fun e w'=>e=.returned (.bool (l.all plnB))∧w=w':=by
 obtain ⟨v,hv⟩:∃ v,v=l.all plnB:=⟨_,rfl⟩
 rw [← hv]
 have HV:=Hy hv
 clear hv
 go_enter Tryz.func87,Tryz.ntmps87
 go_wp2
 go_loopw [8] (fun i wr=>∃ k:Nat,i=.int .i64 (k:Nat)∧k≤l.length∧(l.take k).all plnB=true∧w=wr) (fun i _=>l.length-(intOf i).toNat)
 case atStart=>exact ⟨0,rfl,Nat.zero_le _,rfl,rfl⟩
 case round =>
  obtain ⟨k,rfl,hk,hall,rfl⟩:=hrel
  have HA:=Hy hall
  clear hall
  by_cases hlt:k<l.length
  ·have HS:=Hy (all_succ_l l plnB k hlt)
   have hki:(k:Int)+1≤9223372036854775807:=by omega
   by_cases hp:plnB l[k]=true
   ·have HP:=Hy hp
    clear hp
    go_wp2_with (go_at_call 113;refine (uplain_c _ _).mono ?_;rintro e w1 ⟨rfl,rfl⟩;rw [HP.out])
    go_roundw
    case rel=>exact ⟨k+1,by go_num,by omega,by rw [HS.out,HA.out,HP.out];rfl,by trivial⟩
    case measure=>simp [intOf];omega
   ·have HP:=Hy (show plnB l[k]=false by simpa using hp)
    have HN:=Hy (show v=false by rw [HV.out,List.all_eq_false];exact ⟨l[k],List.getElem_mem hlt,by rw [HP.out];simp⟩)
    clear hp
    go_wp2_with (go_at_call 113;refine (uplain_c _ _).mono ?_;rintro e w1 ⟨rfl,rfl⟩;rw [HP.out])
    go_ret
    exact ⟨ret_bool (by rw [HN.out]),rfl⟩
  ·obtain rfl:k=l.length:=by omega
   have HN:=Hy (show v=true by rw [HV.out];have:=HA.out;rwa [List.take_length] at this)
   go_wp2
   go_ret
   exact ⟨ret_bool (by rw [HN.out]),rfl⟩
theorem all_addr (l:List UInt8) (hs:l.length≤140737488355328) (w:World) :
  Calls Tryz.prog 87 #[.string (str l),(.func (.func 112) #[] #[])] w fun e w'=>e=.returned (.bool (l.all adrB))∧w=w':=by
 obtain ⟨v,hv⟩:∃ v,v=l.all adrB:=⟨_,rfl⟩
 rw [← hv]
 have HV:=Hy hv
 clear hv
 go_enter Tryz.func87,Tryz.ntmps87
 go_wp2
 go_loopw [8] (fun i wr=>∃ k:Nat,i=.int .i64 (k:Nat)∧k≤l.length∧(l.take k).all adrB=true∧w=wr) (fun i _=>l.length-(intOf i).toNat)
 case atStart=>exact ⟨0,rfl,Nat.zero_le _,rfl,rfl⟩
 case round =>
  obtain ⟨k,rfl,hk,hall,rfl⟩:=hrel
  have HA:=Hy hall
  clear hall
  by_cases hlt:k<l.length
  ·have HS:=Hy (all_succ_l l adrB k hlt)
   have hki:(k:Int)+1≤9223372036854775807:=by omega
   by_cases hp:adrB l[k]=true
   ·have HP:=Hy hp
    clear hp
    go_wp2_with (go_at_call 112;refine (uaddress_c _ _).mono ?_;rintro e w1 ⟨rfl,rfl⟩;rw [HP.out])
    go_roundw
    case rel=>exact ⟨k+1,by go_num,by omega,by rw [HS.out,HA.out,HP.out];rfl,by trivial⟩
    case measure=>simp [intOf];omega
   ·have HP:=Hy (show adrB l[k]=false by simpa using hp)
    have HN:=Hy (show v=false by rw [HV.out,List.all_eq_false];exact ⟨l[k],List.getElem_mem hlt,by rw [HP.out];simp⟩)
    clear hp
    go_wp2_with (go_at_call 112;refine (uaddress_c _ _).mono ?_;rintro e w1 ⟨rfl,rfl⟩;rw [HP.out])
    go_ret
    exact ⟨ret_bool (by rw [HN.out]),rfl⟩
  ·obtain rfl:k=l.length:=by omega
   have HN:=Hy (show v=true by rw [HV.out];have:=HA.out;rwa [List.take_length] at this)
   go_wp2
   go_ret
   exact ⟨ret_bool (by rw [HN.out]),rfl⟩
theorem all_nil (f:Value) (w:World):Calls Tryz.prog 87 #[.string ⟨#[]⟩,f] w fun e w'=>e=.returned (.bool true)∧w=w':=by
 go_enter Tryz.func87,Tryz.ntmps87
 go_wp2
 go_loopw [8] (fun i wr=>i=.int .i64 0∧w=wr) (fun i _=>0)
 case atStart=>exact ⟨rfl,rfl⟩
 case round =>
  obtain ⟨rfl,rfl⟩:=hrel
  go_wp2
  go_ret
  exact ⟨rfl,rfl⟩
theorem upath_c (m:ByteArray) (w:World) :
  Calls Tryz.prog 88 #[.string m] w fun e w'=>e=.returned (.func (.func 118) #[] #[.pointer (some ⟨w.heap.size,0,none⟩)])∧w'=w.alloc (.cells #[.string m] 9):=by
 go_enter Tryz.func88,Tryz.ntmps88
 go_wp2
 go_ret
 exact ⟨rfl,rfl⟩
theorem six {w w':World} {b:Nat} {x0 x1 x2 x3 x4 x5:Value} {t:TypeId} (h:w.heap[b]?=some (.cells #[x0,x1,x2,x3,x4,x5] t (0,0))) (x:Ext w w') :
  (w'.cell? ⟨b,0,none⟩=some x0∧w'.cell? ⟨b,1,none⟩=some x1∧w'.cell? ⟨b,2,none⟩=some x2∧w'.cell? ⟨b,3,none⟩=some x3∧w'.cell? ⟨b,4,none⟩=some x4∧w'.cell? ⟨b,5,none⟩=some x5) ∧
  (w'.frozen? ⟨b,0,none⟩=false∧w'.frozen? ⟨b,1,none⟩=false∧w'.frozen? ⟨b,2,none⟩=false∧w'.frozen? ⟨b,3,none⟩=false∧w'.frozen? ⟨b,4,none⟩=false∧w'.frozen? ⟨b,5,none⟩=false):=by
 have hb:w'.heap[b]?=some (.cells #[x0,x1,x2,x3,x4,x5] t (0,0)):=(x.block b (Array.getElem?_eq_some_iff.1 h).1).trans h
 refine ⟨⟨?_,?_,?_,?_,?_,?_⟩,?_,?_,?_,?_,?_,?_⟩
 all_goals simp [World.cell?,World.frozen?,hb]
theorem three (w:World) (o1 o2 o3:Obj):(((w.alloc o1).alloc o2).alloc o3).heap[w.heap.size]?=some o1∧(((w.alloc o1).alloc o2).alloc o3).heap[w.heap.size+1+1]?=some o3:=by
 refine ⟨?_,?_⟩
 ·rw [Below.heap_alloc _ _ _ (by simp;omega),Below.heap_alloc _ _ _ (by simp)];exact heap_alloc_new w o1
 ·have:=heap_alloc_new ((w.alloc o1).alloc o2) o3
  simpa using this
theorem heap_next {w:World} {o:Obj} {b:Nat} (h:b<w.heap.size):(w.alloc o).heap[b]?=w.heap[b]?:=Below.heap_alloc w o b h
theorem port_hd (h:List UInt8) (c:UInt8) (q:List UInt8):portL h (c::q)=if c=58∧(numL 10 1000000000000000000 q).2=0∧q.length≤5∧(numL 10 1000000000000000000 q).1≤65535 then (lowL h,(numL 10 1000000000000000000 q).1,0) else ([],0,40):=by
 unfold portL
 rw [if_neg (by simp)]
 simp only [List.head?_cons,Option.some.injEq,List.tail_cons]
theorem port_nil (h:List UInt8):portL h []=(lowL h,-1,0):=by unfold portL;rw [if_pos rfl]
def hostV (x:List UInt8 × Int × Int):Value:=.tuple #[.string (str x.1),.int .i64 x.2.1,.int .i64 x.2.2]
theorem CutPrefix_y (q:List UInt8) (w:World):Calls Tryz.prog 83 #[.string (str (58::q)),.string ⟨#[58]⟩] w fun e w'=>e=.returned (.tuple #[.string (str q),.bool true])∧w=w':=by
 refine (Tryz.strings_CutPrefix _ _ w).mono ?_
 rintro e w' ⟨rfl,rfl⟩
 have h1:Lib.hasPrefix (str (58::q)).data.toList (⟨#[58]⟩:ByteArray).data.toList=true:=by
  show Lib.hasPrefix (58::q) [58]=true
  simp [Lib.hasPrefix]
 have h2:Lib.trimPrefix (str (58::q)).data.toList (⟨#[58]⟩:ByteArray).data.toList=q:=by
  show Lib.trimPrefix (58::q) [58]=q
  simp [Lib.trimPrefix,Lib.hasPrefix]
 rw [h1,h2]
 exact ⟨rfl,rfl⟩
theorem CutPrefix_n (r:List UInt8) (h:¬ r.head?=some 58) (w:World):Calls Tryz.prog 83 #[.string (str r),.string ⟨#[58]⟩] w fun e w'=>e=.returned (.tuple #[.string (str r),.bool false])∧w=w':=by
 refine (Tryz.strings_CutPrefix _ _ w).mono ?_
 rintro e w' ⟨rfl,rfl⟩
 have h1:Lib.hasPrefix (str r).data.toList (⟨#[58]⟩:ByteArray).data.toList=false:=pre_no h
 have h2:Lib.trimPrefix (str r).data.toList (⟨#[58]⟩:ByteArray).data.toList=r:=by
  have h3:Lib.hasPrefix r [58]=false:=pre_no h
  show Lib.trimPrefix r [58]=r
  simp [Lib.trimPrefix,h3]
 rw [h1,h2]
 exact ⟨rfl,rfl⟩
theorem host_pl {l:List UInt8} (h:l.head?≠some 91) (n:Nat) (hn:n≤l.length) (hb:∀ h:n<l.length,l[n]=58) (hno:58∉l.take n) :
  hostL l=if (1≤n∧n≤255)∧(l.take n).all plnB=true then portL (l.take n) (l.drop n) else ([],0,40):=by
 by_cases ha:(l.take n).all plnB=true
 ·have h1:=name_pl h n hn hb ha
  unfold hostL
  rw [h1]
  by_cases h2:n≤255
  ·rw [if_pos h2]
   by_cases h3:n=0
   ·rw [if_pos h3,if_neg (by omega)]
   ·rw [if_neg h3,if_pos ⟨⟨by omega,h2⟩,ha⟩]
  ·rw [if_neg h2,if_pos rfl,if_neg (by omega)]
 ·rw [host_pl_bad h n hn hno (by simpa using ha),if_neg (fun h=>ha h.2)]
theorem uHost_no (l:List UInt8) (hs:l.length≤140737488355328) (h91:l.head?≠some 91) (h58:58∉l) (w:World) (hE:ErrR w) :
  Calls Tryz.prog 85 #[.string (str l)] w (Gives (hostV (hostL l)) w):=by
 have HE:=Hy hE
 clear hE
 have P1:=Hy (fun w=>HasPrefix_c l [91] false (pre_no h91) w)
 have P2:=Hy (fun w=>IndexByteS_c l 58 (-1) (idx_no h58) w)
 have hh:=host_pl h91 l.length (Nat.le_refl _) (fun h=>by omega) (by rw [List.take_length];exact h58)
 rw [List.take_length,List.drop_length,port_nil] at hh
 rw [hh]
 have P3:=fun w=>all_plain l (by omega) w
 have P6:=Hy (fun w=>Lower_c l (by unfold maxLen;omega) w)
 clear h91 h58 hh
 by_cases g1:1≤l.length
 ·have d1:decide ((l.length:Int)<1)=false:=by rw [decide_eq_false_iff_not];omega
  by_cases g2:l.length≤255
  ·have d2:decide ((255:Int)<(l.length:Int))=false:=by rw [decide_eq_false_iff_not];omega
   by_cases g3:l.all plnB=true
   ·rw [g3] at P3
    rw [if_pos ⟨⟨g1,g2⟩,g3⟩]
    have P3:=Hy P3
    clear g3
    go_enter Tryz.func85,Tryz.ntmps85
    go_wp2_with (first
     | (go_at_call 111;refine (P1.out _).mono ?_;rintro e w1 ⟨rfl,rfl⟩)
     | (go_at_call 109;refine (P2.out _).mono ?_;rintro e w1 ⟨rfl,rfl⟩))
    go_quiet (fail)
    go_wp2_with (first
     | (go_at_call 87;refine (P3.out _).mono ?_;rintro e w1 ⟨rfl,rfl⟩)
     | (go_at_call 83;refine (P4.out _).mono ?_;rintro e w1 ⟨rfl,rfl⟩)
     | (go_at_call 57;refine (P5.out _ (HE.out.ext Xq)).mono ?_;rintro e w1 ⟨rfl,hx1⟩)
     | (go_at_call 89;refine (P6.out _).mono ?_;rintro e w2 ⟨rfl,hx2⟩))
    go_ret3
    exact ⟨rfl,Xq⟩
   ·rw [show l.all plnB=false by simpa using g3] at P3
    rw [if_neg (fun h=>g3 h.2)]
    have P3:=Hy P3
    clear g3
    go_enter Tryz.func85,Tryz.ntmps85
    go_wp2_with (first
     | (go_at_call 111;refine (P1.out _).mono ?_;rintro e w1 ⟨rfl,rfl⟩)
     | (go_at_call 109;refine (P2.out _).mono ?_;rintro e w1 ⟨rfl,rfl⟩))
    go_quiet (fail)
    go_wp2_with (first
     | (go_at_call 87;refine (P3.out _).mono ?_;rintro e w1 ⟨rfl,rfl⟩)
     | (go_at_call 83;refine (P4.out _).mono ?_;rintro e w1 ⟨rfl,rfl⟩)
     | (go_at_call 57;refine (P5.out _ (HE.out.ext Xq)).mono ?_;rintro e w1 ⟨rfl,hx1⟩)
     | (go_at_call 89;refine (P6.out _).mono ?_;rintro e w2 ⟨rfl,hx2⟩))
    go_ret3
    exact ⟨rfl,Xq⟩
  ·have d2:decide ((255:Int)<(l.length:Int))=true:=by rw [decide_eq_true_eq];omega
   rw [if_neg (fun h=>g2 h.1.2)]
   go_enter Tryz.func85,Tryz.ntmps85
   go_wp2_with (first
    | (go_at_call 111;refine (P1.out _).mono ?_;rintro e w1 ⟨rfl,rfl⟩)
    | (go_at_call 109;refine (P2.out _).mono ?_;rintro e w1 ⟨rfl,rfl⟩))
   go_quiet (fail)
   go_wp2_with (first
    | (go_at_call 87;refine (P3.out _).mono ?_;rintro e w1 ⟨rfl,rfl⟩)
    | (go_at_call 83;refine (P4.out _).mono ?_;rintro e w1 ⟨rfl,rfl⟩)
    | (go_at_call 57;refine (P5.out _ (HE.out.ext Xq)).mono ?_;rintro e w1 ⟨rfl,hx1⟩)
    | (go_at_call 89;refine (P6.out _).mono ?_;rintro e w2 ⟨rfl,hx2⟩))
   go_ret3
   exact ⟨rfl,Xq⟩
 ·have d1:decide ((l.length:Int)<1)=true:=by rw [decide_eq_true_eq];omega
  rw [if_neg (fun h=>g1 h.1.1)]
  go_enter Tryz.func85,Tryz.ntmps85
  go_wp2_with (first
   | (go_at_call 111;refine (P1.out _).mono ?_;rintro e w1 ⟨rfl,rfl⟩)
   | (go_at_call 109;refine (P2.out _).mono ?_;rintro e w1 ⟨rfl,rfl⟩))
  go_quiet (fail)
  go_wp2_with (first
   | (go_at_call 87;refine (P3.out _).mono ?_;rintro e w1 ⟨rfl,rfl⟩)
   | (go_at_call 83;refine (P4.out _).mono ?_;rintro e w1 ⟨rfl,rfl⟩)
   | (go_at_call 57;refine (P5.out _ (HE.out.ext Xq)).mono ?_;rintro e w1 ⟨rfl,hx1⟩)
   | (go_at_call 89;refine (P6.out _).mono ?_;rintro e w2 ⟨rfl,hx2⟩))
  go_ret3
  exact ⟨rfl,Xq⟩
end Go.Proofs.YthbofilcnpdghaaGreatDoor
end
