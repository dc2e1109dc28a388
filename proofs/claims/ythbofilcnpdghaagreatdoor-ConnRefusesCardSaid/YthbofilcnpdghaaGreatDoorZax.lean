/-
What must come: the known answers of Host, Parse and Clean.
-/
import Derived.Test.YthbofilcnpdghaaGreatDoorZaw
set_option maxRecDepth 100000
set_option maxHeartbeats 8000000
set_option linter.unusedVariables false
set_option linter.unusedSimpArgs false
section
namespace Go.Proofs.YthbofilcnpdghaaGreatDoor
open Go.RowKit
theorem all_plain (l:List UInt8) (hs:l.length ≤ 140737488355328) (w:World) :
  Calls Tryz.prog 87 #[.string (str l),(.func (.func 113) #[] #[])] w fun e w'=>e=.returned (.bool (l.all plnB))∧w=w':=by
 obtain ⟨v,hv⟩:∃ v,v=l.all plnB:=⟨_,rfl⟩
 rw [← hv]
 have HV:=Lib.hid hv
 clear hv
 go_enter Tryz.func87,Tryz.ntmps87
 go_wp2
 go_loopw [8] (fun i wr=>∃ k:Nat,i=.int .i64 (k:Nat)∧k ≤ l.length∧(l.take k).all plnB=true∧w=wr) (fun i _=>l.length - (intOf i).toNat)
 case atStart=>exact ⟨0,rfl,Nat.zero_le _,rfl,rfl⟩
 case round =>
  obtain ⟨k,rfl,hk,hall,rfl⟩:=hrel
  have HA:=Lib.hid hall
  clear hall
  by_cases hlt:k < l.length
  ·have HS:=Lib.hid (all_succ_l l plnB k hlt)
   have hki:(k:Int) + 1 ≤ 9223372036854775807:=by omega
   by_cases hp:plnB l[k]=true
   ·have HP:=Lib.hid hp
    clear hp
    go_wp2_with (go_at_call 113; refine (uplain_c _ _).mono ?_; rintro e w1 ⟨rfl,rfl⟩; rw [HP.out])
    go_roundw
    case rel=>exact ⟨k + 1,by go_num,by omega,by rw [HS.out,HA.out,HP.out]; rfl,by trivial⟩
    case measure=>simp [intOf]; omega
   ·have HP:=Lib.hid (show plnB l[k]=false by simpa using hp)
    have HN:=Lib.hid (show v=false by rw [HV.out,List.all_eq_false]; exact ⟨l[k],List.getElem_mem hlt,by rw [HP.out]; simp⟩)
    clear hp
    go_wp2_with (go_at_call 113; refine (uplain_c _ _).mono ?_; rintro e w1 ⟨rfl,rfl⟩; rw [HP.out])
    go_ret
    exact ⟨ret_bool (by rw [HN.out]),rfl⟩
  ·obtain rfl:k=l.length:=by omega
   have HN:=Lib.hid (show v=true by rw [HV.out]; have:=HA.out; rwa [List.take_length] at this)
   go_wp2
   go_ret
   exact ⟨ret_bool (by rw [HN.out]),rfl⟩
theorem all_addr (l:List UInt8) (hs:l.length ≤ 140737488355328) (w:World) :
  Calls Tryz.prog 87 #[.string (str l),(.func (.func 112) #[] #[])] w fun e w'=>e=.returned (.bool (l.all adrB))∧w=w':=by
 obtain ⟨v,hv⟩:∃ v,v=l.all adrB:=⟨_,rfl⟩
 rw [← hv]
 have HV:=Lib.hid hv
 clear hv
 go_enter Tryz.func87,Tryz.ntmps87
 go_wp2
 go_loopw [8] (fun i wr=>∃ k:Nat,i=.int .i64 (k:Nat)∧k ≤ l.length∧(l.take k).all adrB=true∧w=wr) (fun i _=>l.length - (intOf i).toNat)
 case atStart=>exact ⟨0,rfl,Nat.zero_le _,rfl,rfl⟩
 case round =>
  obtain ⟨k,rfl,hk,hall,rfl⟩:=hrel
  have HA:=Lib.hid hall
  clear hall
  by_cases hlt:k < l.length
  ·have HS:=Lib.hid (all_succ_l l adrB k hlt)
   have hki:(k:Int) + 1 ≤ 9223372036854775807:=by omega
   by_cases hp:adrB l[k]=true
   ·have HP:=Lib.hid hp
    clear hp
    go_wp2_with (go_at_call 112; refine (uaddress_c _ _).mono ?_; rintro e w1 ⟨rfl,rfl⟩; rw [HP.out])
    go_roundw
    case rel=>exact ⟨k + 1,by go_num,by omega,by rw [HS.out,HA.out,HP.out]; rfl,by trivial⟩
    case measure=>simp [intOf]; omega
   ·have HP:=Lib.hid (show adrB l[k]=false by simpa using hp)
    have HN:=Lib.hid (show v=false by rw [HV.out,List.all_eq_false]; exact ⟨l[k],List.getElem_mem hlt,by rw [HP.out]; simp⟩)
    clear hp
    go_wp2_with (go_at_call 112; refine (uaddress_c _ _).mono ?_; rintro e w1 ⟨rfl,rfl⟩; rw [HP.out])
    go_ret
    exact ⟨ret_bool (by rw [HN.out]),rfl⟩
  ·obtain rfl:k=l.length:=by omega
   have HN:=Lib.hid (show v=true by rw [HV.out]; have:=HA.out; rwa [List.take_length] at this)
   go_wp2
   go_ret
   exact ⟨ret_bool (by rw [HN.out]),rfl⟩
theorem all_nil (f:Value) (w:World):Calls Tryz.prog 87 #[.string ⟨#[]⟩,f] w fun e w'=>e=.returned (.bool true)∧w=w':=by
 go_enter Tryz.func87,Tryz.ntmps87
 go_wp2
 go_loopw [8] (fun i wr=>i=.int .i64 0∧w=wr) (fun i _=>0)
 case atStart=>exact ⟨rfl,rfl⟩
 case round =>
  obtain ⟨rfl,rfl⟩:=hrel
  go_wp2
  go_ret
  exact ⟨rfl,rfl⟩
theorem upath_c (m:ByteArray) (w:World) :
  Calls Tryz.prog 88 #[.string m] w fun e w'=>e=.returned (.func (.func 118) #[] #[.pointer (some ⟨w.heap.size,0,none⟩)])∧w'=w.alloc (.cells #[.string m] 9):=by
 go_enter Tryz.func88,Tryz.ntmps88
 go_wp2
 go_ret
 exact ⟨rfl,rfl⟩
theorem six {w w':World} {b:Nat} {x0 x1 x2 x3 x4 x5:Value} {t:TypeId} (h:w.heap[b]?=some (.cells #[x0,x1,x2,x3,x4,x5] t (0,0))) (x:Ext w w') :
  (w'.cell? ⟨b,0,none⟩=some x0∧w'.cell? ⟨b,1,none⟩=some x1∧w'.cell? ⟨b,2,none⟩=some x2∧w'.cell? ⟨b,3,none⟩=some x3∧w'.cell? ⟨b,4,none⟩=some x4∧w'.cell? ⟨b,5,none⟩=some x5) ∧
  (w'.frozen? ⟨b,0,none⟩=false∧w'.frozen? ⟨b,1,none⟩=false∧w'.frozen? ⟨b,2,none⟩=false∧w'.frozen? ⟨b,3,none⟩=false∧w'.frozen? ⟨b,4,none⟩=false∧w'.frozen? ⟨b,5,none⟩=false):=by
 have hb:w'.heap[b]?=some (.cells #[x0,x1,x2,x3,x4,x5] t (0,0)):=(x.block b (Array.getElem?_eq_some_iff.1 h).1).trans h
 refine ⟨⟨?_,?_,?_,?_,?_,?_⟩,?_,?_,?_,?_,?_,?_⟩
 all_goals simp [World.cell?,World.frozen?,hb]
theorem three (w:World) (o1 o2 o3:Obj):(((w.alloc o1).alloc o2).alloc o3).heap[w.heap.size]?=some o1∧(((w.alloc o1).alloc o2).alloc o3).heap[w.heap.size + 1 + 1]?=some o3:=by
 refine ⟨?_,?_⟩
 ·rw [Below.heap_alloc _ _ _ (by simp; omega),Below.heap_alloc _ _ _ (by simp)]; exact heap_alloc_new w o1
 ·have:=heap_alloc_new ((w.alloc o1).alloc o2) o3
  simpa using this
theorem heap_next {w:World} {o:Obj} {b:Nat} (h:b < w.heap.size):(w.alloc o).heap[b]?=w.heap[b]?:=Below.heap_alloc w o b h
end Go.Proofs.YthbofilcnpdghaaGreatDoor
end
section
namespace Go.Proofs.YthbofilcnpdghaaGreatDoor
open Go.RowKit
end Go.Proofs.YthbofilcnpdghaaGreatDoor
end
section
namespace Go.Proofs.YthbofilcnpdghaaGreatDoor
open Go.RowKit
theorem port_hd (h:List UInt8) (c:UInt8) (q:List UInt8):portL h (c :: q)=if c=58∧(numL 10 1000000000000000000 q).2=0∧q.length ≤ 5∧(numL 10 1000000000000000000 q).1 ≤ 65535 then (lowL h,(numL 10 1000000000000000000 q).1,0) else ([],0,40):=by
 unfold portL
 rw [if_neg (by simp)]
 simp only [List.head?_cons,Option.some.injEq,List.tail_cons]
theorem port_nil (h:List UInt8):portL h []=(lowL h,-1,0):=by unfold portL; rw [if_pos rfl]
def hostV (x:List UInt8 × Int × Int):Value:=.tuple #[.string (str x.1),.int .i64 x.2.1,.int .i64 x.2.2]
end Go.Proofs.YthbofilcnpdghaaGreatDoor
end
section
namespace Go.Proofs.YthbofilcnpdghaaGreatDoor
open Go.RowKit
theorem CutPrefix_y (q:List UInt8) (w:World):Calls Tryz.prog 83 #[.string (str (58 :: q)),.string ⟨#[58]⟩] w fun e w'=>e=.returned (.tuple #[.string (str q),.bool true])∧w=w':=by
 refine (Tryz.strings_CutPrefix _ _ w).mono ?_
 rintro e w' ⟨rfl,rfl⟩
 have h1:Lib.hasPrefix (str (58 :: q)).data.toList (⟨#[58]⟩:ByteArray).data.toList=true:=by
  show Lib.hasPrefix (58 :: q) [58]=true
  simp [Lib.hasPrefix]
 have h2:Lib.trimPrefix (str (58 :: q)).data.toList (⟨#[58]⟩:ByteArray).data.toList=q:=by
  show Lib.trimPrefix (58 :: q) [58]=q
  simp [Lib.trimPrefix,Lib.hasPrefix]
 rw [h1,h2]
 exact ⟨rfl,rfl⟩
theorem CutPrefix_n (r:List UInt8) (h:¬ r.head?=some 58) (w:World):Calls Tryz.prog 83 #[.string (str r),.string ⟨#[58]⟩] w fun e w'=>e=.returned (.tuple #[.string (str r),.bool false])∧w=w':=by
 refine (Tryz.strings_CutPrefix _ _ w).mono ?_
 rintro e w' ⟨rfl,rfl⟩
 have h1:Lib.hasPrefix (str r).data.toList (⟨#[58]⟩:ByteArray).data.toList=false:=pre_no h
 have h2:Lib.trimPrefix (str r).data.toList (⟨#[58]⟩:ByteArray).data.toList=r:=by
  have h3:Lib.hasPrefix r [58]=false:=pre_no h
  show Lib.trimPrefix r [58]=r
  simp [Lib.trimPrefix,h3]
 rw [h1,h2]
 exact ⟨rfl,rfl⟩
theorem host_pl {l:List UInt8} (h:l.head? ≠ some 91) (n:Nat) (hn:n ≤ l.length) (hb:∀ h:n < l.length,l[n]=58) (hno:58 ∉ l.take n) :
  hostL l=if (1 ≤ n∧n ≤ 255)∧(l.take n).all plnB=true then portL (l.take n) (l.drop n) else ([],0,40):=by
 by_cases ha:(l.take n).all plnB=true
 ·have h1:=name_pl h n hn hb ha
  unfold hostL
  rw [h1]
  by_cases h2:n ≤ 255
  ·rw [if_pos h2]
   by_cases h3:n=0
   ·rw [if_pos h3,if_neg (by omega)]
   ·rw [if_neg h3,if_pos ⟨⟨by omega,h2⟩,ha⟩]
  ·rw [if_neg h2,if_pos rfl,if_neg (by omega)]
 ·rw [host_pl_bad h n hn hno (by simpa using ha),if_neg (fun h=>ha h.2)]
theorem uHost_no (l:List UInt8) (hs:l.length ≤ 140737488355328) (h91:l.head? ≠ some 91) (h58:58 ∉ l) (w:World) (hE:ErrR w) :
  Calls Tryz.prog 85 #[.string (str l)] w (Gives (hostV (hostL l)) w):=by
 have HE:=Lib.hid hE
 clear hE
 have P1:=Lib.hid (fun w=>HasPrefix_c l [91] false (pre_no h91) w)
 have P2:=Lib.hid (fun w=>IndexByteS_c l 58 (-1) (idx_no h58) w)
 have hh:=host_pl h91 l.length (Nat.le_refl _) (fun h=>by omega) (by rw [List.take_length]; exact h58)
 rw [List.take_length,List.drop_length,port_nil] at hh
 rw [hh]
 have P3:=fun w=>all_plain l (by omega) w
 have P6:=Lib.hid (fun w=>Lower_c l (by unfold maxLen; omega) w)
 clear h91 h58 hh
 by_cases g1:1 ≤ l.length
 ·have d1:decide ((l.length:Int) < 1)=false:=by rw [decide_eq_false_iff_not]; omega
  by_cases g2:l.length ≤ 255
  ·have d2:decide ((255:Int) < (l.length:Int))=false:=by rw [decide_eq_false_iff_not]; omega
   by_cases g3:l.all plnB=true
   ·rw [g3] at P3
    rw [if_pos ⟨⟨g1,g2⟩,g3⟩]
    have P3:=Lib.hid P3
    clear g3
    go_enter Tryz.func85,Tryz.ntmps85
    go_wp2_with (first
     | (go_at_call 111; refine (P1.out _).mono ?_; rintro e w1 ⟨rfl,rfl⟩)
     | (go_at_call 109; refine (P2.out _).mono ?_; rintro e w1 ⟨rfl,rfl⟩))
    go_quiet (fail)
    go_wp2_with (first
     | (go_at_call 87; refine (P3.out _).mono ?_; rintro e w1 ⟨rfl,rfl⟩)
     | (go_at_call 83; refine (P4.out _).mono ?_; rintro e w1 ⟨rfl,rfl⟩)
     | (go_at_call 57; refine (P5.out _ (HE.out.ext (by (repeat first | exact Ex0 | assumption | refine Ex1 ?_ | refine Ex2 ?_ | refine Ex3 ?_ | refine Ex4 ?_ | refine Ex5 ?_)))).mono ?_; rintro e w1 ⟨rfl,hx1⟩)
     | (go_at_call 89; refine (P6.out _).mono ?_; rintro e w2 ⟨rfl,hx2⟩))
    go_ret3
    exact ⟨rfl,by (repeat first | exact Ex0 | assumption | refine Ex1 ?_ | refine Ex2 ?_ | refine Ex3 ?_ | refine Ex4 ?_ | refine Ex5 ?_)⟩
   ·rw [show l.all plnB=false by simpa using g3] at P3
    rw [if_neg (fun h=>g3 h.2)]
    have P3:=Lib.hid P3
    clear g3
    go_enter Tryz.func85,Tryz.ntmps85
    go_wp2_with (first
     | (go_at_call 111; refine (P1.out _).mono ?_; rintro e w1 ⟨rfl,rfl⟩)
     | (go_at_call 109; refine (P2.out _).mono ?_; rintro e w1 ⟨rfl,rfl⟩))
    go_quiet (fail)
    go_wp2_with (first
     | (go_at_call 87; refine (P3.out _).mono ?_; rintro e w1 ⟨rfl,rfl⟩)
     | (go_at_call 83; refine (P4.out _).mono ?_; rintro e w1 ⟨rfl,rfl⟩)
     | (go_at_call 57; refine (P5.out _ (HE.out.ext (by (repeat first | exact Ex0 | assumption | refine Ex1 ?_ | refine Ex2 ?_ | refine Ex3 ?_ | refine Ex4 ?_ | refine Ex5 ?_)))).mono ?_; rintro e w1 ⟨rfl,hx1⟩)
     | (go_at_call 89; refine (P6.out _).mono ?_; rintro e w2 ⟨rfl,hx2⟩))
    go_ret3
    exact ⟨rfl,by (repeat first | exact Ex0 | assumption | refine Ex1 ?_ | refine Ex2 ?_ | refine Ex3 ?_ | refine Ex4 ?_ | refine Ex5 ?_)⟩
  ·have d2:decide ((255:Int) < (l.length:Int))=true:=by rw [decide_eq_true_eq]; omega
   rw [if_neg (fun h=>g2 h.1.2)]
   go_enter Tryz.func85,Tryz.ntmps85
   go_wp2_with (first
    | (go_at_call 111; refine (P1.out _).mono ?_; rintro e w1 ⟨rfl,rfl⟩)
    | (go_at_call 109; refine (P2.out _).mono ?_; rintro e w1 ⟨rfl,rfl⟩))
   go_quiet (fail)
   go_wp2_with (first
    | (go_at_call 87; refine (P3.out _).mono ?_; rintro e w1 ⟨rfl,rfl⟩)
    | (go_at_call 83; refine (P4.out _).mono ?_; rintro e w1 ⟨rfl,rfl⟩)
    | (go_at_call 57; refine (P5.out _ (HE.out.ext (by (repeat first | exact Ex0 | assumption | refine Ex1 ?_ | refine Ex2 ?_ | refine Ex3 ?_ | refine Ex4 ?_ | refine Ex5 ?_)))).mono ?_; rintro e w1 ⟨rfl,hx1⟩)
    | (go_at_call 89; refine (P6.out _).mono ?_; rintro e w2 ⟨rfl,hx2⟩))
   go_ret3
   exact ⟨rfl,by (repeat first | exact Ex0 | assumption | refine Ex1 ?_ | refine Ex2 ?_ | refine Ex3 ?_ | refine Ex4 ?_ | refine Ex5 ?_)⟩
 ·have d1:decide ((l.length:Int) < 1)=true:=by rw [decide_eq_true_eq]; omega
  rw [if_neg (fun h=>g1 h.1.1)]
  go_enter Tryz.func85,Tryz.ntmps85
  go_wp2_with (first
   | (go_at_call 111; refine (P1.out _).mono ?_; rintro e w1 ⟨rfl,rfl⟩)
   | (go_at_call 109; refine (P2.out _).mono ?_; rintro e w1 ⟨rfl,rfl⟩))
  go_quiet (fail)
  go_wp2_with (first
   | (go_at_call 87; refine (P3.out _).mono ?_; rintro e w1 ⟨rfl,rfl⟩)
   | (go_at_call 83; refine (P4.out _).mono ?_; rintro e w1 ⟨rfl,rfl⟩)
   | (go_at_call 57; refine (P5.out _ (HE.out.ext (by (repeat first | exact Ex0 | assumption | refine Ex1 ?_ | refine Ex2 ?_ | refine Ex3 ?_ | refine Ex4 ?_ | refine Ex5 ?_)))).mono ?_; rintro e w1 ⟨rfl,hx1⟩)
   | (go_at_call 89; refine (P6.out _).mono ?_; rintro e w2 ⟨rfl,hx2⟩))
  go_ret3
  exact ⟨rfl,by (repeat first | exact Ex0 | assumption | refine Ex1 ?_ | refine Ex2 ?_ | refine Ex3 ?_ | refine Ex4 ?_ | refine Ex5 ?_)⟩
end Go.Proofs.YthbofilcnpdghaaGreatDoor
end
section
namespace Go.Proofs.YthbofilcnpdghaaGreatDoor
open Go.RowKit
theorem uHost_at (l:List UInt8) (hs:l.length ≤ 140737488355328) (h91:l.head? ≠ some 91) (n:Nat) (hz:Lib.indexByte l 58=(n:Int)) (hlt:n < l.length) (hk:l[n]?=some 58) (hno:∀ j,j < n → l[j]? ≠ some 58) (w:World) (hE:ErrR w) :
  Calls Tryz.prog 85 #[.string (str l)] w (Gives (hostV (hostL l)) w):=by
 have HE:=Lib.hid hE
 clear hE
 have P1:=Lib.hid (fun w=>HasPrefix_c l [91] false (pre_no h91) w)
 have P2:=Lib.hid (fun w=>IndexByteS_c l 58 (n:Int) hz w)
 have hg:l[n]=58:=(List.getElem?_eq_some_iff.1 hk).2
 have hh:=host_pl h91 n (by omega) (fun _=>hg) (fun hm=>by
  obtain ⟨j,hj,hj2⟩:=List.getElem_of_mem hm
  have hj3:j < n:=by rw [List.length_take] at hj; omega
  refine hno j hj3 ?_
  rw [List.getElem_take] at hj2
  rw [List.getElem?_eq_getElem (by omega),hj2])
 rw [List.drop_eq_getElem_cons hlt,hg,port_hd] at hh
 rw [hh]
 obtain ⟨q,hq⟩:∃ q,q=l.drop (n + 1):=⟨_,rfl⟩
 have hql:q.length=l.length - (n + 1):=by rw [hq,List.length_drop]
 have P5:=fun w hE=>Decimal_c q (by omega) w hE
 obtain ⟨v,hv⟩:∃ v,v=(numL 10 1000000000000000000 q).1:=⟨_,rfl⟩
 obtain ⟨e,he⟩:∃ e,e=(numL 10 1000000000000000000 q).2:=⟨_,rfl⟩
 rw [← hq,← hv,← he]
 rw [← hv,← he] at P5
 have P5:=Lib.hid P5
 clear hv he
 have P4:=fun w=>CutPrefix_y q w
 obtain ⟨R,hR⟩:∃ R,R=58 :: q:=⟨_,rfl⟩
 have hre:str (l.drop n)=str R:=by rw [List.drop_eq_getElem_cons hlt,hg,hR,hq]
 have r1:(str R).toList.isEmpty=false:=by rw [Lib.toList_data,hR]; rfl
 have r2:R.isEmpty=false:=by rw [hR]; rfl
 have r3:¬ R=[]:=by rw [hR]; simp
 rw [← hR] at P4
 have P4:=Lib.hid P4
 have P3:=fun w=>all_plain (l.take n) (by rw [List.length_take]; omega) w
 have P6:=fun w=>Lower_c (l.take n) (by unfold maxLen; rw [List.length_take]; omega) w
 obtain ⟨A,hA⟩:∃ A,A=l.take n:=⟨_,rfl⟩
 have hae:str (l.take n)=str A:=by rw [hA]
 rw [← hA]
 rw [← hA] at P3 P6
 have P6:=Lib.hid P6
 have n1:(n:Int) ≤ (l.length:Int):=by omega
 have n2:(0:Int) ≤ (n:Int):=by omega
 have n3:decide ((n:Int) < 0)=false:=by rw [decide_eq_false_iff_not]; omega
 clear h91 hh hno hk hg hz hq hR hA
 by_cases g1:1 ≤ n
 ·have d1:decide ((n:Int) < 1)=false:=by rw [decide_eq_false_iff_not]; omega
  by_cases g2:n ≤ 255
  ·have d2:decide ((255:Int) < (n:Int))=false:=by rw [decide_eq_false_iff_not]; omega
   by_cases g3:A.all plnB=true
   ·rw [g3] at P3
    rw [if_pos ⟨⟨g1,g2⟩,g3⟩]
    have P3:=Lib.hid P3
    clear g3
    by_cases c2:e=0
    ·subst c2
     by_cases c3:q.length ≤ 5
     ·have t3:decide ((5:Int) < (q.length:Int))=false:=by rw [decide_eq_false_iff_not]; omega
      by_cases c4:v ≤ 65535
      ·have t4:decide ((65535:Int) < v)=false:=by rw [decide_eq_false_iff_not]; omega
       rw [if_pos ⟨rfl,rfl,c3,c4⟩]
       go_enter Tryz.func85,Tryz.ntmps85
       go_wp2_with (first
        | (go_at_call 111; refine (P1.out _).mono ?_; rintro e w1 ⟨rfl,rfl⟩)
        | (go_at_call 109; refine (P2.out _).mono ?_; rintro e w1 ⟨rfl,rfl⟩))
       go_quiet (fail)
       go_wp2_with (first
        | (go_at_call 87; refine (P3.out _).mono ?_; rintro e w1 ⟨rfl,rfl⟩)
        | (go_at_call 83; refine (P4.out _).mono ?_; rintro e w1 ⟨rfl,rfl⟩)
        | (go_at_call 57; refine (P5.out _ (HE.out.ext (by (repeat first | exact Ex0 | assumption | refine Ex1 ?_ | refine Ex2 ?_ | refine Ex3 ?_ | refine Ex4 ?_ | refine Ex5 ?_)))).mono ?_; rintro e w1 ⟨rfl,hx1⟩)
        | (go_at_call 89; refine (P6.out _).mono ?_; rintro e w2 ⟨rfl,hx2⟩))
       go_ret3
       exact ⟨rfl,by (repeat first | exact Ex0 | assumption | refine Ex1 ?_ | refine Ex2 ?_ | refine Ex3 ?_ | refine Ex4 ?_ | refine Ex5 ?_)⟩
      ·have t4:decide ((65535:Int) < v)=true:=by rw [decide_eq_true_eq]; omega
       rw [if_neg (fun h=>c4 h.2.2.2)]
       go_enter Tryz.func85,Tryz.ntmps85
       go_wp2_with (first
        | (go_at_call 111; refine (P1.out _).mono ?_; rintro e w1 ⟨rfl,rfl⟩)
        | (go_at_call 109; refine (P2.out _).mono ?_; rintro e w1 ⟨rfl,rfl⟩))
       go_quiet (fail)
       go_wp2_with (first
        | (go_at_call 87; refine (P3.out _).mono ?_; rintro e w1 ⟨rfl,rfl⟩)
        | (go_at_call 83; refine (P4.out _).mono ?_; rintro e w1 ⟨rfl,rfl⟩)
        | (go_at_call 57; refine (P5.out _ (HE.out.ext (by (repeat first | exact Ex0 | assumption | refine Ex1 ?_ | refine Ex2 ?_ | refine Ex3 ?_ | refine Ex4 ?_ | refine Ex5 ?_)))).mono ?_; rintro e w1 ⟨rfl,hx1⟩)
        | (go_at_call 89; refine (P6.out _).mono ?_; rintro e w2 ⟨rfl,hx2⟩))
       go_ret3
       exact ⟨rfl,by (repeat first | exact Ex0 | assumption | refine Ex1 ?_ | refine Ex2 ?_ | refine Ex3 ?_ | refine Ex4 ?_ | refine Ex5 ?_)⟩
     ·have t3:decide ((5:Int) < (q.length:Int))=true:=by rw [decide_eq_true_eq]; omega
      rw [if_neg (fun h=>c3 h.2.2.1)]
      go_enter Tryz.func85,Tryz.ntmps85
      go_wp2_with (first
       | (go_at_call 111; refine (P1.out _).mono ?_; rintro e w1 ⟨rfl,rfl⟩)
       | (go_at_call 109; refine (P2.out _).mono ?_; rintro e w1 ⟨rfl,rfl⟩))
      go_quiet (fail)
      go_wp2_with (first
       | (go_at_call 87; refine (P3.out _).mono ?_; rintro e w1 ⟨rfl,rfl⟩)
       | (go_at_call 83; refine (P4.out _).mono ?_; rintro e w1 ⟨rfl,rfl⟩)
       | (go_at_call 57; refine (P5.out _ (HE.out.ext (by (repeat first | exact Ex0 | assumption | refine Ex1 ?_ | refine Ex2 ?_ | refine Ex3 ?_ | refine Ex4 ?_ | refine Ex5 ?_)))).mono ?_; rintro e w1 ⟨rfl,hx1⟩)
       | (go_at_call 89; refine (P6.out _).mono ?_; rintro e w2 ⟨rfl,hx2⟩))
      go_ret3
      exact ⟨rfl,by (repeat first | exact Ex0 | assumption | refine Ex1 ?_ | refine Ex2 ?_ | refine Ex3 ?_ | refine Ex4 ?_ | refine Ex5 ?_)⟩
    ·have t2:(e != 0)=true:=by rw [bne_iff_ne]; exact c2
     rw [if_neg (fun h=>c2 h.2.1)]
     clear c2
     go_enter Tryz.func85,Tryz.ntmps85
     go_wp2_with (first
      | (go_at_call 111; refine (P1.out _).mono ?_; rintro e w1 ⟨rfl,rfl⟩)
      | (go_at_call 109; refine (P2.out _).mono ?_; rintro e w1 ⟨rfl,rfl⟩))
     go_quiet (fail)
     go_wp2_with (first
      | (go_at_call 87; refine (P3.out _).mono ?_; rintro e w1 ⟨rfl,rfl⟩)
      | (go_at_call 83; refine (P4.out _).mono ?_; rintro e w1 ⟨rfl,rfl⟩)
      | (go_at_call 57; refine (P5.out _ (HE.out.ext (by (repeat first | exact Ex0 | assumption | refine Ex1 ?_ | refine Ex2 ?_ | refine Ex3 ?_ | refine Ex4 ?_ | refine Ex5 ?_)))).mono ?_; rintro e w1 ⟨rfl,hx1⟩)
      | (go_at_call 89; refine (P6.out _).mono ?_; rintro e w2 ⟨rfl,hx2⟩))
     go_ret3
     exact ⟨rfl,by (repeat first | exact Ex0 | assumption | refine Ex1 ?_ | refine Ex2 ?_ | refine Ex3 ?_ | refine Ex4 ?_ | refine Ex5 ?_)⟩
   ·rw [show A.all plnB=false by simpa using g3] at P3
    rw [if_neg (fun h=>g3 h.2)]
    have P3:=Lib.hid P3
    clear g3
    go_enter Tryz.func85,Tryz.ntmps85
    go_wp2_with (first
     | (go_at_call 111; refine (P1.out _).mono ?_; rintro e w1 ⟨rfl,rfl⟩)
     | (go_at_call 109; refine (P2.out _).mono ?_; rintro e w1 ⟨rfl,rfl⟩))
    go_quiet (fail)
    go_wp2_with (first
     | (go_at_call 87; refine (P3.out _).mono ?_; rintro e w1 ⟨rfl,rfl⟩)
     | (go_at_call 83; refine (P4.out _).mono ?_; rintro e w1 ⟨rfl,rfl⟩)
     | (go_at_call 57; refine (P5.out _ (HE.out.ext (by (repeat first | exact Ex0 | assumption | refine Ex1 ?_ | refine Ex2 ?_ | refine Ex3 ?_ | refine Ex4 ?_ | refine Ex5 ?_)))).mono ?_; rintro e w1 ⟨rfl,hx1⟩)
     | (go_at_call 89; refine (P6.out _).mono ?_; rintro e w2 ⟨rfl,hx2⟩))
    go_ret3
    exact ⟨rfl,by (repeat first | exact Ex0 | assumption | refine Ex1 ?_ | refine Ex2 ?_ | refine Ex3 ?_ | refine Ex4 ?_ | refine Ex5 ?_)⟩
  ·have d2:decide ((255:Int) < (n:Int))=true:=by rw [decide_eq_true_eq]; omega
   rw [if_neg (fun h=>g2 h.1.2)]
   go_enter Tryz.func85,Tryz.ntmps85
   go_wp2_with (first
    | (go_at_call 111; refine (P1.out _).mono ?_; rintro e w1 ⟨rfl,rfl⟩)
    | (go_at_call 109; refine (P2.out _).mono ?_; rintro e w1 ⟨rfl,rfl⟩))
   go_quiet (fail)
   go_wp2_with (first
    | (go_at_call 87; refine (P3.out _).mono ?_; rintro e w1 ⟨rfl,rfl⟩)
    | (go_at_call 83; refine (P4.out _).mono ?_; rintro e w1 ⟨rfl,rfl⟩)
    | (go_at_call 57; refine (P5.out _ (HE.out.ext (by (repeat first | exact Ex0 | assumption | refine Ex1 ?_ | refine Ex2 ?_ | refine Ex3 ?_ | refine Ex4 ?_ | refine Ex5 ?_)))).mono ?_; rintro e w1 ⟨rfl,hx1⟩)
    | (go_at_call 89; refine (P6.out _).mono ?_; rintro e w2 ⟨rfl,hx2⟩))
   go_ret3
   exact ⟨rfl,by (repeat first | exact Ex0 | assumption | refine Ex1 ?_ | refine Ex2 ?_ | refine Ex3 ?_ | refine Ex4 ?_ | refine Ex5 ?_)⟩
 ·have d1:decide ((n:Int) < 1)=true:=by rw [decide_eq_true_eq]; omega
  rw [if_neg (fun h=>g1 h.1.1)]
  go_enter Tryz.func85,Tryz.ntmps85
  go_wp2_with (first
   | (go_at_call 111; refine (P1.out _).mono ?_; rintro e w1 ⟨rfl,rfl⟩)
   | (go_at_call 109; refine (P2.out _).mono ?_; rintro e w1 ⟨rfl,rfl⟩))
  go_quiet (fail)
  go_wp2_with (first
   | (go_at_call 87; refine (P3.out _).mono ?_; rintro e w1 ⟨rfl,rfl⟩)
   | (go_at_call 83; refine (P4.out _).mono ?_; rintro e w1 ⟨rfl,rfl⟩)
   | (go_at_call 57; refine (P5.out _ (HE.out.ext (by (repeat first | exact Ex0 | assumption | refine Ex1 ?_ | refine Ex2 ?_ | refine Ex3 ?_ | refine Ex4 ?_ | refine Ex5 ?_)))).mono ?_; rintro e w1 ⟨rfl,hx1⟩)
   | (go_at_call 89; refine (P6.out _).mono ?_; rintro e w2 ⟨rfl,hx2⟩))
  go_ret3
  exact ⟨rfl,by (repeat first | exact Ex0 | assumption | refine Ex1 ?_ | refine Ex2 ?_ | refine Ex3 ?_ | refine Ex4 ?_ | refine Ex5 ?_)⟩
end Go.Proofs.YthbofilcnpdghaaGreatDoor
end
