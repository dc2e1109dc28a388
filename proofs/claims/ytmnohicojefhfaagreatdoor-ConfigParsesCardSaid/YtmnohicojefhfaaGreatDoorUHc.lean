/-
What must come: the known answers of Host, Parse and Clean.
-/
import Derived.Test.YtmnohicojefhfaaGreatDoorUHb
import Derived.Test.YtmnohicojefhfaaGreatDoorNUa
set_option maxRecDepth 100000
set_option maxHeartbeats 8000000
set_option linter.unusedVariables false
set_option linter.unusedSimpArgs false
section
namespace Go.Proofs.YtmnohicojefhfaaGreatDoor
open Go.RowKit
theorem all_plain (l:List UInt8) (hs:l.length ≤ 140737488355328) (w:World) :
  Calls Tryz.prog 150 #[.string (str l),(.func (.func 152) #[] #[])] w fun e w'=>e=.returned (.bool (l.all plnB))∧w=w':=by
 obtain ⟨v,hv⟩:∃ v,v=l.all plnB:=⟨_,rfl⟩
 rw [← hv]
 have HV:=Lib.hid hv
 clear hv
 go_enter Tryz.func150,Tryz.ntmps150
 go_wp2
 go_loopw [8] (fun i wr=>∃ k:Nat,i=.int .i64 (k:Nat)∧k ≤ l.length∧(l.take k).all plnB=true∧w=wr) (fun i _=>l.length - (intOf i).toNat)
 case atStart=>exact ⟨0,rfl,Nat.zero_le _,rfl,rfl⟩
 case round =>
  obtain ⟨k,rfl,hk,hall,rfl⟩:=hrel
  have HA:=Lib.hid hall
  clear hall
  by_cases hlt:k < l.length
  ·have HS:=Lib.hid (all_succ_l l plnB k hlt)
   have hki:(k:Int) + 1 ≤ 9223372036854775807:=by omega
   by_cases hp:plnB l[k]=true
   ·have HP:=Lib.hid hp
    clear hp
    go_wp2_with (go_at_call 152; refine (uplain_c _ _).mono ?_; rintro e w1 ⟨rfl,rfl⟩; rw [HP.out])
    go_roundw
    case rel=>exact ⟨k + 1,by go_num,by omega,by rw [HS.out,HA.out,HP.out]; rfl,by trivial⟩
    case measure=>simp [intOf]; omega
   ·have HP:=Lib.hid (show plnB l[k]=false by simpa using hp)
    have HN:=Lib.hid (show v=false by rw [HV.out,List.all_eq_false]; exact ⟨l[k],List.getElem_mem hlt,by rw [HP.out]; simp⟩)
    clear hp
    go_wp2_with (go_at_call 152; refine (uplain_c _ _).mono ?_; rintro e w1 ⟨rfl,rfl⟩; rw [HP.out])
    go_ret
    exact ⟨ret_bool (by rw [HN.out]),rfl⟩
  ·obtain rfl:k=l.length:=by omega
   have HN:=Lib.hid (show v=true by rw [HV.out]; have:=HA.out; rwa [List.take_length] at this)
   go_wp2
   go_ret
   exact ⟨ret_bool (by rw [HN.out]),rfl⟩
theorem all_addr (l:List UInt8) (hs:l.length ≤ 140737488355328) (w:World) :
  Calls Tryz.prog 150 #[.string (str l),(.func (.func 151) #[] #[])] w fun e w'=>e=.returned (.bool (l.all adrB))∧w=w':=by
 obtain ⟨v,hv⟩:∃ v,v=l.all adrB:=⟨_,rfl⟩
 rw [← hv]
 have HV:=Lib.hid hv
 clear hv
 go_enter Tryz.func150,Tryz.ntmps150
 go_wp2
 go_loopw [8] (fun i wr=>∃ k:Nat,i=.int .i64 (k:Nat)∧k ≤ l.length∧(l.take k).all adrB=true∧w=wr) (fun i _=>l.length - (intOf i).toNat)
 case atStart=>exact ⟨0,rfl,Nat.zero_le _,rfl,rfl⟩
 case round =>
  obtain ⟨k,rfl,hk,hall,rfl⟩:=hrel
  have HA:=Lib.hid hall
  clear hall
  by_cases hlt:k < l.length
  ·have HS:=Lib.hid (all_succ_l l adrB k hlt)
   have hki:(k:Int) + 1 ≤ 9223372036854775807:=by omega
   by_cases hp:adrB l[k]=true
   ·have HP:=Lib.hid hp
    clear hp
    go_wp2_with (go_at_call 151; refine (uaddress_c _ _).mono ?_; rintro e w1 ⟨rfl,rfl⟩; rw [HP.out])
    go_roundw
    case rel=>exact ⟨k + 1,by go_num,by omega,by rw [HS.out,HA.out,HP.out]; rfl,by trivial⟩
    case measure=>simp [intOf]; omega
   ·have HP:=Lib.hid (show adrB l[k]=false by simpa using hp)
    have HN:=Lib.hid (show v=false by rw [HV.out,List.all_eq_false]; exact ⟨l[k],List.getElem_mem hlt,by rw [HP.out]; simp⟩)
    clear hp
    go_wp2_with (go_at_call 151; refine (uaddress_c _ _).mono ?_; rintro e w1 ⟨rfl,rfl⟩; rw [HP.out])
    go_ret
    exact ⟨ret_bool (by rw [HN.out]),rfl⟩
  ·obtain rfl:k=l.length:=by omega
   have HN:=Lib.hid (show v=true by rw [HV.out]; have:=HA.out; rwa [List.take_length] at this)
   go_wp2
   go_ret
   exact ⟨ret_bool (by rw [HN.out]),rfl⟩
theorem all_nil (f:Value) (w:World):Calls Tryz.prog 150 #[.string ⟨#[]⟩,f] w fun e w'=>e=.returned (.bool true)∧w=w':=by
 go_enter Tryz.func150,Tryz.ntmps150
 go_wp2
 go_loopw [8] (fun i wr=>i=.int .i64 0∧w=wr) (fun i _=>0)
 case atStart=>exact ⟨rfl,rfl⟩
 case round =>
  obtain ⟨rfl,rfl⟩:=hrel
  go_wp2
  go_ret
  exact ⟨rfl,rfl⟩
theorem three (w:World) (o1 o2 o3:Obj):(((w.alloc o1).alloc o2).alloc o3).heap[w.heap.size]?=some o1∧(((w.alloc o1).alloc o2).alloc o3).heap[w.heap.size + 1 + 1]?=some o3:=by
 refine ⟨?_,?_⟩
 ·rw [Below.heap_alloc _ _ _ (by simp; omega),Below.heap_alloc _ _ _ (by simp)]; exact heap_alloc_new w o1
 ·have:=heap_alloc_new ((w.alloc o1).alloc o2) o3
  simpa using this
end Go.Proofs.YtmnohicojefhfaaGreatDoor
end
section
namespace Go.Proofs.YtmnohicojefhfaaGreatDoor
open Go.RowKit
theorem tl_take (l:List UInt8) (k:Nat):(l.take k).tail=l.tail.take (k - 1):=by
 cases l with
 | nil=>simp
 | cons a l=>cases k with | zero=>simp | succ i=>simp
theorem name_bad {l:List UInt8} (h:l.head?=some 91) (k:Nat) (hk:k < l.length) (h1:1 ≤ k) (ha:(l.take k).tail.all adrB=true) (hn:adrB l[k]=false) (h93:l[k] ≠ 93):nameL l=0:=by
 unfold nameL
 rw [if_pos h]
 have ht:l.tail.length=l.length - 1:=List.length_tail
 rw [tl_take] at ha
 have hg:∀ (hk':k - 1 < l.tail.length),l.tail[k - 1]=l[k]:=fun hk'=>by
  rw [List.getElem_tail]; congr 1; omega
 have e:=tw_eq adrB l.tail (k - 1) (by omega) ha (fun hk'=>by rw [hg hk']; exact hn)
 have e2:(l.tail.takeWhile adrB).length=k - 1:=by rw [e,List.length_take]; omega
 dsimp only
 rw [e2,if_neg]
 rintro ⟨h93',_⟩
 rw [List.getElem?_eq_getElem (by omega),hg (by omega)] at h93'
 exact h93 (Option.some.inj h93')
theorem no93 {l:List UInt8} (h:l.head?=some 91) (k:Nat) (hk:k ≤ l.length) (ha:(l.take k).tail.all adrB=true):∀ j (hj:j < k),l[j]'(by omega) ≠ 93:=by
 intro j hj e
 rw [tl_take,List.all_eq_true] at ha
 cases j with
 | zero=>rw [List.head?_eq_getElem?,List.getElem?_eq_getElem (by omega),e] at h; exact absurd h (by decide)
 | succ j =>
  have hm:l[j + 1] ∈ l.tail.take (k - 1):=List.mem_take_iff_getElem.2 ⟨j,(by rw [List.length_tail]; show j < min (k - 1) (l.length - 1); omega),by rw [List.getElem_tail]⟩
  have:=ha _ hm
  rw [e,adr_93] at this
  cases this
theorem all_tl_succ (l:List UInt8) (p:UInt8 → Bool) (k:Nat) (h:k < l.length) (h1:1 ≤ k):(l.take (k + 1)).tail.all p=((l.take k).tail.all p && p l[k]):=by
 have e:l.take (k + 1)=l.take k ++ [l[k]]:=(List.take_append_getElem h).symm
 rw [e,List.tail_append_of_ne_nil (by intro h0; have:=congrArg List.length h0; rw [List.length_take,List.length_nil] at this; omega),List.all_append]
 simp
theorem name_eq {l:List UInt8} (h:l.head? ≠ some 91) (k:Nat) (hk:k ≤ l.length) (ha:(l.take k).all plnB=true) (hs:∀ h:k < l.length,plnB l[k]=false):nameL l=if k ≤ 255 then k else 0:=by
 unfold nameL
 rw [if_neg h]
 have e:l.takeWhile plnB=l.take k:=tw_eq plnB l k hk ha hs
 have e2:(l.takeWhile plnB).length=k:=by rw [e,List.length_take]; omega
 dsimp only
 rw [e2]
theorem urname_b (l:List UInt8) (hs:l.length ≤ 140737488355328) (h91:l.head?=some 91) (w:World) :
  Calls Tryz.prog 168 #[.string (str l)] w (Gives (.int .i64 (nameL l:Nat)) w):=by
 have hl0:0 < l.length:=by cases l with | nil=>cases h91 | cons a l=>simp
 have hb0:l[0]=91:=by rw [List.head?_eq_getElem?,List.getElem?_eq_getElem hl0] at h91; exact Option.some.inj h91
 have hb1:((l[0].toNat:Int) == 91)=true:=by rw [hb0]; rfl
 have HH:=Lib.hid h91
 clear h91 hb0
 obtain ⟨n,hn⟩:∃ n,n=nameL l:=⟨_,rfl⟩
 rw [← hn]
 have HN:=Lib.hid hn
 clear hn
 go_enter Tryz.func168,Tryz.ntmps168
 go_wp2
 clear hb1
 go_loopw [3] (fun i wr=>∃ k:Nat,i=.int .i64 (k:Nat)∧1 ≤ k∧k ≤ l.length∧(l.take k).tail.all adrB=true∧Ext w wr) (fun i _=>l.length - (intOf i).toNat)
 case atStart=>exact ⟨1,rfl,Nat.le_refl _,hl0,by rw [tl_take]; simp,Ext.rfl' _⟩
 case round =>
  obtain ⟨k,rfl,h1,hk,hall,hext⟩:=hrel
  have HA:=Lib.hid hall
  clear hall
  by_cases hlt:k < l.length
  ·have HS:=Lib.hid (all_tl_succ l adrB k hlt h1)
   have hki:IntKind.i64.wrap ((k:Int) + 1)=(k:Int) + 1:=by rw [IntKind.wrap_i64]; omega
   by_cases hb:l[k]=93
   ·have hb1:((l[k].toNat:Int) == 93)=true:=by rw [hb]; rfl
    have HR:=name_br HH.out k hlt h1 hb (no93 HH.out k hk HA.out)
    rw [HA.out,← HN.out] at HR
    by_cases hc:3 ≤ k∧k ≤ 61
    ·rw [if_pos ⟨hc,rfl⟩] at HR
     have HR:=Lib.hid HR
     have c1:decide ((k:Int) < 3)=false:=by rw [decide_eq_false_iff_not]; omega
     have c2:decide ((61:Int) < (k:Int))=false:=by rw [decide_eq_false_iff_not]; omega
     clear hb hc
     go_wp2
     go_ret
     exact ⟨ret_val (by rw [HR.out]; rfl),hext⟩
    ·rw [if_neg (fun h=>hc h.1)] at HR
     have HR:=Lib.hid HR
     by_cases c1:k < 3
     ·have c2:decide ((k:Int) < 3)=true:=by rw [decide_eq_true_eq]; omega
      clear hb hc
      go_wp2
      go_ret
      exact ⟨ret_val (by rw [HR.out]; rfl),hext⟩
     ·have c2:decide ((k:Int) < 3)=false:=by rw [decide_eq_false_iff_not]; omega
      have c3:decide ((61:Int) < (k:Int))=true:=by rw [decide_eq_true_eq]; omega
      clear hb hc
      go_wp2
      go_ret
      exact ⟨ret_val (by rw [HR.out]; rfl),hext⟩
   ·have hb1:((l[k].toNat:Int) == 93)=false:=by
     rw [beq_eq_false_iff_ne]; intro h; exact hb (UInt8.toNat_inj.1 (by show l[k].toNat=93; omega))
    have hgo:∀ (hp:adrB l[k]=true),(l.take (k + 1)).tail.all adrB=true:=fun hp=>by rw [HS.out,HA.out,hp]; rfl
    have hstop:∀ (hp:adrB l[k]=false),n=0:=fun hp=>by rw [HN.out]; exact name_bad HH.out k hlt h1 HA.out hp hb
    have HGO:=Lib.hid hgo
    have HST:=Lib.hid hstop
    clear hb hgo hstop
    by_cases hd:isDig 16 (lowB l[k])=true
    ·have HR:=Lib.hid (HGO.out (by unfold adrB; rw [hd]; rfl))
     have v1:=wr_dig hd
     obtain ⟨x,hx⟩:∃ x:Nat,x=digV (lowB l[k]):=⟨_,rfl⟩
     rw [← hx] at v1
     have V1:=Lib.hid v1
     clear hd hx v1
     go_wp2_with (go_at_call 189; refine (urworth_c _ _).mono ?_; rintro e w1 ⟨rfl,hx1⟩; rw [V1.out])
     go_roundw
     case rel=>exact ⟨k + 1,by go_num,by omega,by omega,HR.out,by (repeat first | exact Ex0 | assumption | refine Ex1 ?_ | refine Ex2 ?_ | refine Ex3 ?_ | refine Ex4 ?_ | refine Ex5 ?_)⟩
     case measure=>simp [intOf]; omega
    ·have V1:=Lib.hid (wr_no hd)
     by_cases h58:l[k]=58
     ·have e58:((l[k].toNat:Int) != 58)=false:=by rw [h58]; rfl
      have HR:=Lib.hid (HGO.out (by unfold adrB; rw [h58]; rfl))
      clear h58 hd
      go_wp2_with (go_at_call 189; refine (urworth_c _ _).mono ?_; rintro e w1 ⟨rfl,hx1⟩; rw [V1.out])
      go_roundw
      case rel=>exact ⟨k + 1,by go_num,by omega,by omega,HR.out,by (repeat first | exact Ex0 | assumption | refine Ex1 ?_ | refine Ex2 ?_ | refine Ex3 ?_ | refine Ex4 ?_ | refine Ex5 ?_)⟩
      case measure=>simp [intOf]; omega
     ·have e58:((l[k].toNat:Int) != 58)=true:=by
       rw [bne_iff_ne]; intro h; exact h58 (UInt8.toNat_inj.1 (by show l[k].toNat=58; omega))
      by_cases h46:l[k]=46
      ·have e46:((l[k].toNat:Int) != 46)=false:=by rw [h46]; rfl
       have HR:=Lib.hid (HGO.out (by unfold adrB; rw [h46]; rfl))
       clear h58 h46 hd
       go_wp2_with (go_at_call 189; refine (urworth_c _ _).mono ?_; rintro e w1 ⟨rfl,hx1⟩; rw [V1.out])
       go_roundw
       case rel=>exact ⟨k + 1,by go_num,by omega,by omega,HR.out,by (repeat first | exact Ex0 | assumption | refine Ex1 ?_ | refine Ex2 ?_ | refine Ex3 ?_ | refine Ex4 ?_ | refine Ex5 ?_)⟩
       case measure=>simp [intOf]; omega
      ·have e46:((l[k].toNat:Int) != 46)=true:=by
        rw [bne_iff_ne]; intro h; exact h46 (UInt8.toNat_inj.1 (by show l[k].toNat=46; omega))
       have HR:=Lib.hid (HST.out (by unfold adrB; simp [hd,h58,h46]))
       clear h58 h46 hd
       go_wp2_with (go_at_call 189; refine (urworth_c _ _).mono ?_; rintro e w1 ⟨rfl,hx1⟩; rw [V1.out])
       go_ret
       exact ⟨ret_val (by rw [HR.out]; rfl),by (repeat first | exact Ex0 | assumption | refine Ex1 ?_ | refine Ex2 ?_ | refine Ex3 ?_ | refine Ex4 ?_ | refine Ex5 ?_)⟩
  ·obtain rfl:k=l.length:=by omega
   have HR:=Lib.hid (show n=0 by
    rw [HN.out]
    refine name_br0 HH.out (fun hm=>?_)
    obtain ⟨j,hj,hj2⟩:=List.getElem_of_mem hm
    exact no93 HH.out l.length (Nat.le_refl _) HA.out j hj hj2)
   go_wp2
   go_ret
   exact ⟨ret_val (by rw [HR.out]; rfl),hext⟩
theorem urname_p (l:List UInt8) (hs:l.length ≤ 140737488355328) (h91:l.head? ≠ some 91) (w:World) :
  Calls Tryz.prog 168 #[.string (str l)] w (Gives (.int .i64 (nameL l:Nat)) w):=by
 obtain ⟨n,hn⟩:∃ n,n=nameL l:=⟨_,rfl⟩
 rw [← hn]
 have HN:=Lib.hid hn
 clear hn
 have HH:=Lib.hid h91
 by_cases hl0:0 < l.length
 ·have hb0:l[0] ≠ 91:=fun e=>h91 (by rw [List.head?_eq_getElem?,List.getElem?_eq_getElem hl0,e])
  have hb1:((l[0].toNat:Int) == 91)=false:=by
   rw [beq_eq_false_iff_ne]; intro h; exact hb0 (UInt8.toNat_inj.1 (by show l[0].toNat=91; omega))
  clear h91 hb0
  go_enter Tryz.func168,Tryz.ntmps168
  go_wp2
  clear hb1
  ·go_loopw [4] (fun i wr=>∃ k:Nat,i=.int .i64 (k:Nat)∧k ≤ l.length∧(l.take k).all plnB=true∧w=wr) (fun i _=>l.length - (intOf i).toNat)
   case atStart=>exact ⟨0,rfl,Nat.zero_le _,rfl,rfl⟩
   case round =>
    obtain ⟨k,rfl,hk,hall,rfl⟩:=hrel
    have HA:=Lib.hid hall
    clear hall
    by_cases hc:k < l.length∧(∀ h:k < l.length,plnB l[k]=true)
    ·have hlt:=hc.1
     have HP:=Lib.hid (hc.2 hlt)
     have HR:=Lib.hid (show (l.take (k + 1)).all plnB=true by rw [all_succ_l l plnB k hlt,HA.out,HP.out]; rfl)
     clear hc
     have hki:IntKind.i64.wrap ((k:Int) + 1)=(k:Int) + 1:=by rw [IntKind.wrap_i64]; omega
     go_wp2_with (go_at_call 190; refine (urplain_c _ _).mono ?_; rintro e w1 ⟨rfl,rfl⟩; rw [HP.out])
     go_roundw
     case rel=>exact ⟨k + 1,by go_num,by omega,HR.out,by trivial⟩
     case measure=>simp [intOf]; omega
    ·have hst:∀ h:k < l.length,plnB l[k]=false:=fun h=>by
      cases hp:plnB l[k] with
      | false=>rfl
      | true=>exact absurd ⟨h,fun _=>hp⟩ hc
     have HR:=name_eq HH.out k hk HA.out hst
     rw [← HN.out] at HR
     clear hc
     by_cases h255:k ≤ 255
     ·rw [if_pos h255] at HR
      have c2:decide ((255:Int) < (k:Int))=false:=by rw [decide_eq_false_iff_not]; omega
      have HR:=Lib.hid HR
      by_cases hlt:k < l.length
      ·have HP:=Lib.hid (hst hlt)
       clear hst
       go_wp2_with (go_at_call 190; refine (urplain_c _ _).mono ?_; rintro e w1 ⟨rfl,rfl⟩; rw [HP.out])
       go_ret
       exact ⟨ret_val (by rw [HR.out]; rfl),Ext.rfl' _⟩
      ·clear hst
       obtain rfl:k=l.length:=by omega
       go_wp2
       go_ret
       exact ⟨ret_val (by rw [HR.out]; rfl),Ext.rfl' _⟩
     ·rw [if_neg h255] at HR
      have c2:decide ((255:Int) < (k:Int))=true:=by rw [decide_eq_true_eq]; omega
      have HR:=Lib.hid HR
      by_cases hlt:k < l.length
      ·have HP:=Lib.hid (hst hlt)
       clear hst
       go_wp2_with (go_at_call 190; refine (urplain_c _ _).mono ?_; rintro e w1 ⟨rfl,rfl⟩; rw [HP.out])
       go_ret
       exact ⟨ret_val (by rw [HR.out]; rfl),Ext.rfl' _⟩
      ·clear hst
       obtain rfl:k=l.length:=by omega
       go_wp2
       go_ret
       exact ⟨ret_val (by rw [HR.out]; rfl),Ext.rfl' _⟩
 ·obtain rfl:l=[]:=by cases l with | nil=>rfl | cons a l=>simp at hl0
  clear h91 hl0
  have HR:=Lib.hid (show n=0 by rw [HN.out]; rfl)
  go_enter Tryz.func168,Tryz.ntmps168
  go_wp2
  go_loopw [4] (fun i wr=>i=.int .i64 0∧w=wr) (fun i _=>0)
  case atStart=>exact ⟨rfl,rfl⟩
  case round =>
   obtain ⟨rfl,rfl⟩:=hrel
   go_wp2
   go_ret
   exact ⟨ret_val (by rw [HR.out]; rfl),Ext.rfl' _⟩
theorem urname_c (l:List UInt8) (hs:l.length ≤ 140737488355328) (w:World):Calls Tryz.prog 168 #[.string (str l)] w (Gives (.int .i64 (nameL l:Nat)) w):=by
 by_cases h:l.head?=some 91
 ·exact urname_b l hs h w
 ·exact urname_p l hs h w
end Go.Proofs.YtmnohicojefhfaaGreatDoor
end
section
namespace Go.Proofs.YtmnohicojefhfaaGreatDoor
open Go.RowKit
theorem port_hd (h:List UInt8) (c:UInt8) (q:List UInt8):portL h (c :: q)=if c=58∧(numL 10 1000000000000000000 q).2=0∧q.length ≤ 5∧(numL 10 1000000000000000000 q).1 ≤ 65535 then (lowL h,(numL 10 1000000000000000000 q).1,0) else ([],0,40):=by
 unfold portL
 rw [if_neg (by simp)]
 simp only [List.head?_cons,Option.some.injEq,List.tail_cons]
theorem port_nil (h:List UInt8):portL h []=(lowL h,-1,0):=by unfold portL; rw [if_pos rfl]
def hostV (x:List UInt8 × Int × Int):Value:=.tuple #[.string (str x.1),.int .i64 x.2.1,.int .i64 x.2.2]
theorem urHost_c (l:List UInt8) (hs:l.length ≤ 140737488355328) (w:World) :
  Calls Tryz.prog 139 #[.string (str l)] w (Gives (hostV (hostL l)) w):=by
 have CN:=Lib.hid (urname_c l hs)
 have hle:=name_le l
 have hh:hostL l=if nameL l=0 then ([],0,40) else portL (l.take (nameL l)) (l.drop (nameL l)):=rfl
 rw [hh]
 clear hh
 obtain ⟨n,hn⟩:∃ n,n=nameL l:=⟨_,rfl⟩
 rw [← hn] at CN hle ⊢
 clear hn
 by_cases h0:n=0
 ·subst h0
  rw [if_pos rfl]
  go_enter Tryz.func139,Tryz.ntmps139
  go_wp2_with (go_at_call 168; refine (CN.out _).mono ?_; rintro e w1 ⟨rfl,hx1⟩)
  go_ret3
  exact ⟨rfl,by (repeat first | exact Ex0 | assumption | refine Ex1 ?_ | refine Ex2 ?_ | refine Ex3 ?_ | refine Ex4 ?_ | refine Ex5 ?_)⟩
 ·rw [if_neg h0]
  have hnp:0 < n:=by omega
  have d0:((n:Int) == 0)=false:=by rw [beq_eq_false_iff_ne]; omega
  have CL:=fun w=>rLower_c (l.take n) (by unfold maxLen; rw [List.length_take]; omega) w
  by_cases hlt:n=l.length
  ·subst hlt
   rw [List.drop_length,port_nil]
   simp only [List.take_length] at CL ⊢
   have CL:=Lib.hid CL
   go_enter Tryz.func139,Tryz.ntmps139
   go_wp2_with (first
    | (go_at_call 168; refine (CN.out _).mono ?_; rintro e w1 ⟨rfl,hx1⟩)
    | (go_at_call 169; refine (CL.out _).mono ?_; rintro e w2 ⟨rfl,hx2⟩))
   go_ret3
   exact ⟨rfl,by (repeat first | exact Ex0 | assumption | refine Ex1 ?_ | refine Ex2 ?_ | refine Ex3 ?_ | refine Ex4 ?_ | refine Ex5 ?_)⟩
  ·have hlt2:n < l.length:=by omega
   rw [List.drop_eq_getElem_cons hlt2,port_hd]
   obtain ⟨q,hq⟩:∃ q,q=l.drop (n + 1):=⟨_,rfl⟩
   have hql:q.length=l.length - (n + 1):=by rw [hq,List.length_drop]
   have hqe:str (l.drop (n + 1))=str q:=by rw [hq]
   rw [← hq]
   clear hq
   have CL:=Lib.hid CL
   have CD:=fun w=>rDecimal_c q (by unfold maxLen; omega) w
   obtain ⟨v,hv⟩:∃ v,v=(numL 10 1000000000000000000 q).1:=⟨_,rfl⟩
   obtain ⟨e,he⟩:∃ e,e=(numL 10 1000000000000000000 q).2:=⟨_,rfl⟩
   rw [← hv,← he] at CD ⊢
   have CD:=Lib.hid CD
   clear hv he
   have i1:IntKind.i64.wrap ((n:Int) + 1)=(n:Int) + 1:=by rw [IntKind.wrap_i64]; omega
   have i2:((n:Int) + 1).toNat=n + 1:=by omega
   have i3:(0:Int) ≤ (n:Int) + 1:=by omega
   have i4:(n:Int) + 1 ≤ (l.length:Int):=by omega
   have i5:((n:Int) == (l.length:Int))=false:=by rw [beq_eq_false_iff_ne]; omega
   obtain ⟨b,hb⟩:∃ b,b=l[n]:=⟨_,rfl⟩
   rw [← hb]
   have HC:∀ (c:Bool),((l[n].toNat:Int) != 58)=c ↔ (decide (b ≠ 58))=c:=by
    intro c
    subst hb
    by_cases h:l[n]=58
    ·rw [h]; simp
    ·have:((l[n].toNat:Int) != 58)=true:=by
      rw [bne_iff_ne]; intro h'; exact h (UInt8.toNat_inj.1 (by show l[n].toNat=58; omega))
     rw [this,decide_eq_true h]
   have HC:=Lib.hid HC
   clear hb hql
   by_cases c1:b=58
   ·have d1:=(HC.out false).2 (by simp [c1])
    by_cases c2:e=0
    ·subst c2
     by_cases c3:q.length ≤ 5
     ·have d3:decide ((5:Int) < (q.length:Int))=false:=by rw [decide_eq_false_iff_not]; omega
      by_cases c4:v ≤ 65535
      ·have d4:decide ((65535:Int) < v)=false:=by rw [decide_eq_false_iff_not]; omega
       rw [if_pos ⟨c1,rfl,c3,c4⟩]
       clear c1
       go_enter Tryz.func139,Tryz.ntmps139
       go_wp2_with (first
        | (go_at_call 168; refine (CN.out _).mono ?_; rintro e w1 ⟨rfl,hx1⟩)
        | (go_at_call 169; refine (CL.out _).mono ?_; rintro e w2 ⟨rfl,hx2⟩)
        | (go_at_call 137; refine (CD.out _).mono ?_; rintro e w2 ⟨rfl,hx3⟩))
       go_ret3
       exact ⟨rfl,by (repeat first | exact Ex0 | assumption | refine Ex1 ?_ | refine Ex2 ?_ | refine Ex3 ?_ | refine Ex4 ?_ | refine Ex5 ?_)⟩
      ·have d4:decide ((65535:Int) < v)=true:=by rw [decide_eq_true_eq]; omega
       rw [if_neg (fun h=>c4 h.2.2.2)]
       clear c1
       go_enter Tryz.func139,Tryz.ntmps139
       go_wp2_with (first
        | (go_at_call 168; refine (CN.out _).mono ?_; rintro e w1 ⟨rfl,hx1⟩)
        | (go_at_call 169; refine (CL.out _).mono ?_; rintro e w2 ⟨rfl,hx2⟩)
        | (go_at_call 137; refine (CD.out _).mono ?_; rintro e w2 ⟨rfl,hx3⟩))
       go_ret3
       exact ⟨rfl,by (repeat first | exact Ex0 | assumption | refine Ex1 ?_ | refine Ex2 ?_ | refine Ex3 ?_ | refine Ex4 ?_ | refine Ex5 ?_)⟩
     ·have d3:decide ((5:Int) < (q.length:Int))=true:=by rw [decide_eq_true_eq]; omega
      rw [if_neg (fun h=>c3 h.2.2.1)]
      clear c1
      go_enter Tryz.func139,Tryz.ntmps139
      go_wp2_with (first
       | (go_at_call 168; refine (CN.out _).mono ?_; rintro e w1 ⟨rfl,hx1⟩)
       | (go_at_call 169; refine (CL.out _).mono ?_; rintro e w2 ⟨rfl,hx2⟩)
       | (go_at_call 137; refine (CD.out _).mono ?_; rintro e w2 ⟨rfl,hx3⟩))
      go_ret3
      exact ⟨rfl,by (repeat first | exact Ex0 | assumption | refine Ex1 ?_ | refine Ex2 ?_ | refine Ex3 ?_ | refine Ex4 ?_ | refine Ex5 ?_)⟩
    ·have d2:(e != 0)=true:=by rw [bne_iff_ne]; exact c2
     rw [if_neg (fun h=>c2 h.2.1)]
     clear c1 c2
     go_enter Tryz.func139,Tryz.ntmps139
     go_wp2_with (first
      | (go_at_call 168; refine (CN.out _).mono ?_; rintro e w1 ⟨rfl,hx1⟩)
      | (go_at_call 169; refine (CL.out _).mono ?_; rintro e w2 ⟨rfl,hx2⟩)
      | (go_at_call 137; refine (CD.out _).mono ?_; rintro e w2 ⟨rfl,hx3⟩))
     go_ret3
     exact ⟨rfl,by (repeat first | exact Ex0 | assumption | refine Ex1 ?_ | refine Ex2 ?_ | refine Ex3 ?_ | refine Ex4 ?_ | refine Ex5 ?_)⟩
   ·have d1:=(HC.out true).2 (by simp [c1])
    rw [if_neg (fun h=>c1 h.1)]
    clear c1
    go_enter Tryz.func139,Tryz.ntmps139
    go_wp2_with (first
     | (go_at_call 168; refine (CN.out _).mono ?_; rintro e w1 ⟨rfl,hx1⟩)
     | (go_at_call 169; refine (CL.out _).mono ?_; rintro e w2 ⟨rfl,hx2⟩)
     | (go_at_call 137; refine (CD.out _).mono ?_; rintro e w2 ⟨rfl,hx3⟩))
    go_ret3
    exact ⟨rfl,by (repeat first | exact Ex0 | assumption | refine Ex1 ?_ | refine Ex2 ?_ | refine Ex3 ?_ | refine Ex4 ?_ | refine Ex5 ?_)⟩
end Go.Proofs.YtmnohicojefhfaaGreatDoor
end
section
namespace Go.Proofs.YtmnohicojefhfaaGreatDoor
open Go.RowKit
theorem CutPrefix_y (q:List UInt8) (w:World):Calls Tryz.prog 153 #[.string (str (58 :: q)),.string ⟨#[58]⟩] w fun e w'=>e=.returned (.tuple #[.string (str q),.bool true])∧w=w':=by
 refine (Tryz.strings_CutPrefix _ _ w).mono ?_
 rintro e w' ⟨rfl,rfl⟩
 have h1:Lib.hasPrefix (str (58 :: q)).data.toList (⟨#[58]⟩:ByteArray).data.toList=true:=by
  show Lib.hasPrefix (58 :: q) [58]=true
  simp [Lib.hasPrefix]
 have h2:Lib.trimPrefix (str (58 :: q)).data.toList (⟨#[58]⟩:ByteArray).data.toList=q:=by
  show Lib.trimPrefix (58 :: q) [58]=q
  simp [Lib.trimPrefix,Lib.hasPrefix]
 rw [h1,h2]
 exact ⟨rfl,rfl⟩
theorem CutPrefix_n (r:List UInt8) (h:¬ r.head?=some 58) (w:World):Calls Tryz.prog 153 #[.string (str r),.string ⟨#[58]⟩] w fun e w'=>e=.returned (.tuple #[.string (str r),.bool false])∧w=w':=by
 refine (Tryz.strings_CutPrefix _ _ w).mono ?_
 rintro e w' ⟨rfl,rfl⟩
 have h1:Lib.hasPrefix (str r).data.toList (⟨#[58]⟩:ByteArray).data.toList=false:=pre_no h
 have h2:Lib.trimPrefix (str r).data.toList (⟨#[58]⟩:ByteArray).data.toList=r:=by
  have h3:Lib.hasPrefix r [58]=false:=pre_no h
  show Lib.trimPrefix r [58]=r
  simp [Lib.trimPrefix,h3]
 rw [h1,h2]
 exact ⟨rfl,rfl⟩
theorem host_pl {l:List UInt8} (h:l.head? ≠ some 91) (n:Nat) (hn:n ≤ l.length) (hb:∀ h:n < l.length,l[n]=58) (hno:58 ∉ l.take n) :
  hostL l=if (1 ≤ n∧n ≤ 255)∧(l.take n).all plnB=true then portL (l.take n) (l.drop n) else ([],0,40):=by
 by_cases ha:(l.take n).all plnB=true
 ·have h1:=name_pl h n hn hb ha
  unfold hostL
  rw [h1]
  by_cases h2:n ≤ 255
  ·rw [if_pos h2]
   by_cases h3:n=0
   ·rw [if_pos h3,if_neg (by omega)]
   ·rw [if_neg h3,if_pos ⟨⟨by omega,h2⟩,ha⟩]
  ·rw [if_neg h2,if_pos rfl,if_neg (by omega)]
 ·rw [host_pl_bad h n hn hno (by simpa using ha),if_neg (fun h=>ha h.2)]
theorem uHost_no (l:List UInt8) (hs:l.length ≤ 140737488355328) (h91:l.head? ≠ some 91) (h58:58 ∉ l) (w:World) (hE:ErrR w) :
  Calls Tryz.prog 121 #[.string (str l)] w (Gives (hostV (hostL l)) w):=by
 have HE:=Lib.hid hE
 clear hE
 have P1:=Lib.hid (fun w=>HasPrefix_c l [91] false (pre_no h91) w)
 have P2:=Lib.hid (fun w=>IndexByteS_c l 58 (-1) (idx_no h58) w)
 have hh:=host_pl h91 l.length (Nat.le_refl _) (fun h=>by omega) (by rw [List.take_length]; exact h58)
 rw [List.take_length,List.drop_length,port_nil] at hh
 rw [hh]
 have P3:=fun w=>all_plain l (by omega) w
 have P6:=Lib.hid (fun w=>Lower_c l (by unfold maxLen; omega) w)
 clear h91 h58 hh
 by_cases g1:1 ≤ l.length
 ·have d1:decide ((l.length:Int) < 1)=false:=by rw [decide_eq_false_iff_not]; omega
  by_cases g2:l.length ≤ 255
  ·have d2:decide ((255:Int) < (l.length:Int))=false:=by rw [decide_eq_false_iff_not]; omega
   by_cases g3:l.all plnB=true
   ·rw [g3] at P3
    rw [if_pos ⟨⟨g1,g2⟩,g3⟩]
    have P3:=Lib.hid P3
    clear g3
    go_enter Tryz.func121,Tryz.ntmps121
    go_wp2_with (first
     | (go_at_call 148; refine (P1.out _).mono ?_; rintro e w1 ⟨rfl,rfl⟩)
     | (go_at_call 104; refine (P2.out _).mono ?_; rintro e w1 ⟨rfl,rfl⟩))
    go_quiet (fail)
    go_wp2_with (first
     | (go_at_call 150; refine (P3.out _).mono ?_; rintro e w1 ⟨rfl,rfl⟩)
     | (go_at_call 153; refine (P4.out _).mono ?_; rintro e w1 ⟨rfl,rfl⟩)
     | (go_at_call 103; refine (P5.out _ (HE.out.ext (by (repeat first | exact Ex0 | assumption | refine Ex1 ?_ | refine Ex2 ?_ | refine Ex3 ?_ | refine Ex4 ?_ | refine Ex5 ?_)))).mono ?_; rintro e w1 ⟨rfl,hx1⟩)
     | (go_at_call 154; refine (P6.out _).mono ?_; rintro e w2 ⟨rfl,hx2⟩))
    go_ret3
    exact ⟨rfl,by (repeat first | exact Ex0 | assumption | refine Ex1 ?_ | refine Ex2 ?_ | refine Ex3 ?_ | refine Ex4 ?_ | refine Ex5 ?_)⟩
   ·rw [show l.all plnB=false by simpa using g3] at P3
    rw [if_neg (fun h=>g3 h.2)]
    have P3:=Lib.hid P3
    clear g3
    go_enter Tryz.func121,Tryz.ntmps121
    go_wp2_with (first
     | (go_at_call 148; refine (P1.out _).mono ?_; rintro e w1 ⟨rfl,rfl⟩)
     | (go_at_call 104; refine (P2.out _).mono ?_; rintro e w1 ⟨rfl,rfl⟩))
    go_quiet (fail)
    go_wp2_with (first
     | (go_at_call 150; refine (P3.out _).mono ?_; rintro e w1 ⟨rfl,rfl⟩)
     | (go_at_call 153; refine (P4.out _).mono ?_; rintro e w1 ⟨rfl,rfl⟩)
     | (go_at_call 103; refine (P5.out _ (HE.out.ext (by (repeat first | exact Ex0 | assumption | refine Ex1 ?_ | refine Ex2 ?_ | refine Ex3 ?_ | refine Ex4 ?_ | refine Ex5 ?_)))).mono ?_; rintro e w1 ⟨rfl,hx1⟩)
     | (go_at_call 154; refine (P6.out _).mono ?_; rintro e w2 ⟨rfl,hx2⟩))
    go_ret3
    exact ⟨rfl,by (repeat first | exact Ex0 | assumption | refine Ex1 ?_ | refine Ex2 ?_ | refine Ex3 ?_ | refine Ex4 ?_ | refine Ex5 ?_)⟩
  ·have d2:decide ((255:Int) < (l.length:Int))=true:=by rw [decide_eq_true_eq]; omega
   rw [if_neg (fun h=>g2 h.1.2)]
   go_enter Tryz.func121,Tryz.ntmps121
   go_wp2_with (first
    | (go_at_call 148; refine (P1.out _).mono ?_; rintro e w1 ⟨rfl,rfl⟩)
    | (go_at_call 104; refine (P2.out _).mono ?_; rintro e w1 ⟨rfl,rfl⟩))
   go_quiet (fail)
   go_wp2_with (first
    | (go_at_call 150; refine (P3.out _).mono ?_; rintro e w1 ⟨rfl,rfl⟩)
    | (go_at_call 153; refine (P4.out _).mono ?_; rintro e w1 ⟨rfl,rfl⟩)
    | (go_at_call 103; refine (P5.out _ (HE.out.ext (by (repeat first | exact Ex0 | assumption | refine Ex1 ?_ | refine Ex2 ?_ | refine Ex3 ?_ | refine Ex4 ?_ | refine Ex5 ?_)))).mono ?_; rintro e w1 ⟨rfl,hx1⟩)
    | (go_at_call 154; refine (P6.out _).mono ?_; rintro e w2 ⟨rfl,hx2⟩))
   go_ret3
   exact ⟨rfl,by (repeat first | exact Ex0 | assumption | refine Ex1 ?_ | refine Ex2 ?_ | refine Ex3 ?_ | refine Ex4 ?_ | refine Ex5 ?_)⟩
 ·have d1:decide ((l.length:Int) < 1)=true:=by rw [decide_eq_true_eq]; omega
  rw [if_neg (fun h=>g1 h.1.1)]
  go_enter Tryz.func121,Tryz.ntmps121
  go_wp2_with (first
   | (go_at_call 148; refine (P1.out _).mono ?_; rintro e w1 ⟨rfl,rfl⟩)
   | (go_at_call 104; refine (P2.out _).mono ?_; rintro e w1 ⟨rfl,rfl⟩))
  go_quiet (fail)
  go_wp2_with (first
   | (go_at_call 150; refine (P3.out _).mono ?_; rintro e w1 ⟨rfl,rfl⟩)
   | (go_at_call 153; refine (P4.out _).mono ?_; rintro e w1 ⟨rfl,rfl⟩)
   | (go_at_call 103; refine (P5.out _ (HE.out.ext (by (repeat first | exact Ex0 | assumption | refine Ex1 ?_ | refine Ex2 ?_ | refine Ex3 ?_ | refine Ex4 ?_ | refine Ex5 ?_)))).mono ?_; rintro e w1 ⟨rfl,hx1⟩)
   | (go_at_call 154; refine (P6.out _).mono ?_; rintro e w2 ⟨rfl,hx2⟩))
  go_ret3
  exact ⟨rfl,by (repeat first | exact Ex0 | assumption | refine Ex1 ?_ | refine Ex2 ?_ | refine Ex3 ?_ | refine Ex4 ?_ | refine Ex5 ?_)⟩
end Go.Proofs.YtmnohicojefhfaaGreatDoor
end
section
namespace Go.Proofs.YtmnohicojefhfaaGreatDoor
open Go.RowKit
theorem uHost_at (l:List UInt8) (hs:l.length ≤ 140737488355328) (h91:l.head? ≠ some 91) (n:Nat) (hz:Lib.indexByte l 58=(n:Int)) (hlt:n < l.length) (hk:l[n]?=some 58) (hno:∀ j,j < n → l[j]? ≠ some 58) (w:World) (hE:ErrR w) :
  Calls Tryz.prog 121 #[.string (str l)] w (Gives (hostV (hostL l)) w):=by
 have HE:=Lib.hid hE
 clear hE
 have P1:=Lib.hid (fun w=>HasPrefix_c l [91] false (pre_no h91) w)
 have P2:=Lib.hid (fun w=>IndexByteS_c l 58 (n:Int) hz w)
 have hg:l[n]=58:=(List.getElem?_eq_some_iff.1 hk).2
 have hh:=host_pl h91 n (by omega) (fun _=>hg) (fun hm=>by
  obtain ⟨j,hj,hj2⟩:=List.getElem_of_mem hm
  have hj3:j < n:=by rw [List.length_take] at hj; omega
  refine hno j hj3 ?_
  rw [List.getElem_take] at hj2
  rw [List.getElem?_eq_getElem (by omega),hj2])
 rw [List.drop_eq_getElem_cons hlt,hg,port_hd] at hh
 rw [hh]
 obtain ⟨q,hq⟩:∃ q,q=l.drop (n + 1):=⟨_,rfl⟩
 have hql:q.length=l.length - (n + 1):=by rw [hq,List.length_drop]
 have P5:=fun w hE=>Decimal_c q (by omega) w hE
 obtain ⟨v,hv⟩:∃ v,v=(numL 10 1000000000000000000 q).1:=⟨_,rfl⟩
 obtain ⟨e,he⟩:∃ e,e=(numL 10 1000000000000000000 q).2:=⟨_,rfl⟩
 rw [← hq,← hv,← he]
 rw [← hv,← he] at P5
 have P5:=Lib.hid P5
 clear hv he
 have P4:=fun w=>CutPrefix_y q w
 obtain ⟨R,hR⟩:∃ R,R=58 :: q:=⟨_,rfl⟩
 have hre:str (l.drop n)=str R:=by rw [List.drop_eq_getElem_cons hlt,hg,hR,hq]
 have r1:(str R).toList.isEmpty=false:=by rw [Lib.toList_data,hR]; rfl
 have r2:R.isEmpty=false:=by rw [hR]; rfl
 have r3:¬ R=[]:=by rw [hR]; simp
 rw [← hR] at P4
 have P4:=Lib.hid P4
 have P3:=fun w=>all_plain (l.take n) (by rw [List.length_take]; omega) w
 have P6:=fun w=>Lower_c (l.take n) (by unfold maxLen; rw [List.length_take]; omega) w
 obtain ⟨A,hA⟩:∃ A,A=l.take n:=⟨_,rfl⟩
 have hae:str (l.take n)=str A:=by rw [hA]
 rw [← hA]
 rw [← hA] at P3 P6
 have P6:=Lib.hid P6
 have n1:(n:Int) ≤ (l.length:Int):=by omega
 have n2:(0:Int) ≤ (n:Int):=by omega
 have n3:decide ((n:Int) < 0)=false:=by rw [decide_eq_false_iff_not]; omega
 clear h91 hh hno hk hg hz hq hR hA
 by_cases g1:1 ≤ n
 ·have d1:decide ((n:Int) < 1)=false:=by rw [decide_eq_false_iff_not]; omega
  by_cases g2:n ≤ 255
  ·have d2:decide ((255:Int) < (n:Int))=false:=by rw [decide_eq_false_iff_not]; omega
   by_cases g3:A.all plnB=true
   ·rw [g3] at P3
    rw [if_pos ⟨⟨g1,g2⟩,g3⟩]
    have P3:=Lib.hid P3
    clear g3
    by_cases c2:e=0
    ·subst c2
     by_cases c3:q.length ≤ 5
     ·have t3:decide ((5:Int) < (q.length:Int))=false:=by rw [decide_eq_false_iff_not]; omega
      by_cases c4:v ≤ 65535
      ·have t4:decide ((65535:Int) < v)=false:=by rw [decide_eq_false_iff_not]; omega
       rw [if_pos ⟨rfl,rfl,c3,c4⟩]
       go_enter Tryz.func121,Tryz.ntmps121
       go_wp2_with (first
        | (go_at_call 148; refine (P1.out _).mono ?_; rintro e w1 ⟨rfl,rfl⟩)
        | (go_at_call 104; refine (P2.out _).mono ?_; rintro e w1 ⟨rfl,rfl⟩))
       go_quiet (fail)
       go_wp2_with (first
        | (go_at_call 150; refine (P3.out _).mono ?_; rintro e w1 ⟨rfl,rfl⟩)
        | (go_at_call 153; refine (P4.out _).mono ?_; rintro e w1 ⟨rfl,rfl⟩)
        | (go_at_call 103; refine (P5.out _ (HE.out.ext (by (repeat first | exact Ex0 | assumption | refine Ex1 ?_ | refine Ex2 ?_ | refine Ex3 ?_ | refine Ex4 ?_ | refine Ex5 ?_)))).mono ?_; rintro e w1 ⟨rfl,hx1⟩)
        | (go_at_call 154; refine (P6.out _).mono ?_; rintro e w2 ⟨rfl,hx2⟩))
       go_ret3
       exact ⟨rfl,by (repeat first | exact Ex0 | assumption | refine Ex1 ?_ | refine Ex2 ?_ | refine Ex3 ?_ | refine Ex4 ?_ | refine Ex5 ?_)⟩
      ·have t4:decide ((65535:Int) < v)=true:=by rw [decide_eq_true_eq]; omega
       rw [if_neg (fun h=>c4 h.2.2.2)]
       go_enter Tryz.func121,Tryz.ntmps121
       go_wp2_with (first
        | (go_at_call 148; refine (P1.out _).mono ?_; rintro e w1 ⟨rfl,rfl⟩)
        | (go_at_call 104; refine (P2.out _).mono ?_; rintro e w1 ⟨rfl,rfl⟩))
       go_quiet (fail)
       go_wp2_with (first
        | (go_at_call 150; refine (P3.out _).mono ?_; rintro e w1 ⟨rfl,rfl⟩)
        | (go_at_call 153; refine (P4.out _).mono ?_; rintro e w1 ⟨rfl,rfl⟩)
        | (go_at_call 103; refine (P5.out _ (HE.out.ext (by (repeat first | exact Ex0 | assumption | refine Ex1 ?_ | refine Ex2 ?_ | refine Ex3 ?_ | refine Ex4 ?_ | refine Ex5 ?_)))).mono ?_; rintro e w1 ⟨rfl,hx1⟩)
        | (go_at_call 154; refine (P6.out _).mono ?_; rintro e w2 ⟨rfl,hx2⟩))
       go_ret3
       exact ⟨rfl,by (repeat first | exact Ex0 | assumption | refine Ex1 ?_ | refine Ex2 ?_ | refine Ex3 ?_ | refine Ex4 ?_ | refine Ex5 ?_)⟩
     ·have t3:decide ((5:Int) < (q.length:Int))=true:=by rw [decide_eq_true_eq]; omega
      rw [if_neg (fun h=>c3 h.2.2.1)]
      go_enter Tryz.func121,Tryz.ntmps121
      go_wp2_with (first
       | (go_at_call 148; refine (P1.out _).mono ?_; rintro e w1 ⟨rfl,rfl⟩)
       | (go_at_call 104; refine (P2.out _).mono ?_; rintro e w1 ⟨rfl,rfl⟩))
      go_quiet (fail)
      go_wp2_with (first
       | (go_at_call 150; refine (P3.out _).mono ?_; rintro e w1 ⟨rfl,rfl⟩)
       | (go_at_call 153; refine (P4.out _).mono ?_; rintro e w1 ⟨rfl,rfl⟩)
       | (go_at_call 103; refine (P5.out _ (HE.out.ext (by (repeat first | exact Ex0 | assumption | refine Ex1 ?_ | refine Ex2 ?_ | refine Ex3 ?_ | refine Ex4 ?_ | refine Ex5 ?_)))).mono ?_; rintro e w1 ⟨rfl,hx1⟩)
       | (go_at_call 154; refine (P6.out _).mono ?_; rintro e w2 ⟨rfl,hx2⟩))
      go_ret3
      exact ⟨rfl,by (repeat first | exact Ex0 | assumption | refine Ex1 ?_ | refine Ex2 ?_ | refine Ex3 ?_ | refine Ex4 ?_ | refine Ex5 ?_)⟩
    ·have t2:(e != 0)=true:=by rw [bne_iff_ne]; exact c2
     rw [if_neg (fun h=>c2 h.2.1)]
     clear c2
     go_enter Tryz.func121,Tryz.ntmps121
     go_wp2_with (first
      | (go_at_call 148; refine (P1.out _).mono ?_; rintro e w1 ⟨rfl,rfl⟩)
      | (go_at_call 104; refine (P2.out _).mono ?_; rintro e w1 ⟨rfl,rfl⟩))
     go_quiet (fail)
     go_wp2_with (first
      | (go_at_call 150; refine (P3.out _).mono ?_; rintro e w1 ⟨rfl,rfl⟩)
      | (go_at_call 153; refine (P4.out _).mono ?_; rintro e w1 ⟨rfl,rfl⟩)
      | (go_at_call 103; refine (P5.out _ (HE.out.ext (by (repeat first | exact Ex0 | assumption | refine Ex1 ?_ | refine Ex2 ?_ | refine Ex3 ?_ | refine Ex4 ?_ | refine Ex5 ?_)))).mono ?_; rintro e w1 ⟨rfl,hx1⟩)
      | (go_at_call 154; refine (P6.out _).mono ?_; rintro e w2 ⟨rfl,hx2⟩))
     go_ret3
     exact ⟨rfl,by (repeat first | exact Ex0 | assumption | refine Ex1 ?_ | refine Ex2 ?_ | refine Ex3 ?_ | refine Ex4 ?_ | refine Ex5 ?_)⟩
   ·rw [show A.all plnB=false by simpa using g3] at P3
    rw [if_neg (fun h=>g3 h.2)]
    have P3:=Lib.hid P3
    clear g3
    go_enter Tryz.func121,Tryz.ntmps121
    go_wp2_with (first
     | (go_at_call 148; refine (P1.out _).mono ?_; rintro e w1 ⟨rfl,rfl⟩)
     | (go_at_call 104; refine (P2.out _).mono ?_; rintro e w1 ⟨rfl,rfl⟩))
    go_quiet (fail)
    go_wp2_with (first
     | (go_at_call 150; refine (P3.out _).mono ?_; rintro e w1 ⟨rfl,rfl⟩)
     | (go_at_call 153; refine (P4.out _).mono ?_; rintro e w1 ⟨rfl,rfl⟩)
     | (go_at_call 103; refine (P5.out _ (HE.out.ext (by (repeat first | exact Ex0 | assumption | refine Ex1 ?_ | refine Ex2 ?_ | refine Ex3 ?_ | refine Ex4 ?_ | refine Ex5 ?_)))).mono ?_; rintro e w1 ⟨rfl,hx1⟩)
     | (go_at_call 154; refine (P6.out _).mono ?_; rintro e w2 ⟨rfl,hx2⟩))
    go_ret3
    exact ⟨rfl,by (repeat first | exact Ex0 | assumption | refine Ex1 ?_ | refine Ex2 ?_ | refine Ex3 ?_ | refine Ex4 ?_ | refine Ex5 ?_)⟩
  ·have d2:decide ((255:Int) < (n:Int))=true:=by rw [decide_eq_true_eq]; omega
   rw [if_neg (fun h=>g2 h.1.2)]
   go_enter Tryz.func121,Tryz.ntmps121
   go_wp2_with (first
    | (go_at_call 148; refine (P1.out _).mono ?_; rintro e w1 ⟨rfl,rfl⟩)
    | (go_at_call 104; refine (P2.out _).mono ?_; rintro e w1 ⟨rfl,rfl⟩))
   go_quiet (fail)
   go_wp2_with (first
    | (go_at_call 150; refine (P3.out _).mono ?_; rintro e w1 ⟨rfl,rfl⟩)
    | (go_at_call 153; refine (P4.out _).mono ?_; rintro e w1 ⟨rfl,rfl⟩)
    | (go_at_call 103; refine (P5.out _ (HE.out.ext (by (repeat first | exact Ex0 | assumption | refine Ex1 ?_ | refine Ex2 ?_ | refine Ex3 ?_ | refine Ex4 ?_ | refine Ex5 ?_)))).mono ?_; rintro e w1 ⟨rfl,hx1⟩)
    | (go_at_call 154; refine (P6.out _).mono ?_; rintro e w2 ⟨rfl,hx2⟩))
   go_ret3
   exact ⟨rfl,by (repeat first | exact Ex0 | assumption | refine Ex1 ?_ | refine Ex2 ?_ | refine Ex3 ?_ | refine Ex4 ?_ | refine Ex5 ?_)⟩
 ·have d1:decide ((n:Int) < 1)=true:=by rw [decide_eq_true_eq]; omega
  rw [if_neg (fun h=>g1 h.1.1)]
  go_enter Tryz.func121,Tryz.ntmps121
  go_wp2_with (first
   | (go_at_call 148; refine (P1.out _).mono ?_; rintro e w1 ⟨rfl,rfl⟩)
   | (go_at_call 104; refine (P2.out _).mono ?_; rintro e w1 ⟨rfl,rfl⟩))
  go_quiet (fail)
  go_wp2_with (first
   | (go_at_call 150; refine (P3.out _).mono ?_; rintro e w1 ⟨rfl,rfl⟩)
   | (go_at_call 153; refine (P4.out _).mono ?_; rintro e w1 ⟨rfl,rfl⟩)
   | (go_at_call 103; refine (P5.out _ (HE.out.ext (by (repeat first | exact Ex0 | assumption | refine Ex1 ?_ | refine Ex2 ?_ | refine Ex3 ?_ | refine Ex4 ?_ | refine Ex5 ?_)))).mono ?_; rintro e w1 ⟨rfl,hx1⟩)
   | (go_at_call 154; refine (P6.out _).mono ?_; rintro e w2 ⟨rfl,hx2⟩))
  go_ret3
  exact ⟨rfl,by (repeat first | exact Ex0 | assumption | refine Ex1 ?_ | refine Ex2 ?_ | refine Ex3 ?_ | refine Ex4 ?_ | refine Ex5 ?_)⟩
end Go.Proofs.YtmnohicojefhfaaGreatDoor
end
section
namespace Go.Proofs.YtmnohicojefhfaaGreatDoor
open Go.RowKit
theorem host_br (a r:List UInt8) (h91:(a ++ 93 :: r).head?=some 91) (hna:93 ∉ a) :
  1 ≤ a.length∧hostL (a ++ 93 :: r)=if (3 ≤ a.length∧a.length ≤ 61)∧a.tail.all adrB=true then portL (a ++ [93]) r else ([],0,40):=by
 have h1:1 ≤ a.length:=by
  cases a with
  | nil=>exact absurd (Option.some.inj h91) (by decide)
  | cons b a=>simp
 refine ⟨h1,?_⟩
 have hn:=name_br h91 a.length (by simp) h1 (by simp) (fun j hj e=>hna (by rw [List.getElem_append_left hj] at e; rw [← e]; exact List.getElem_mem hj))
 rw [List.take_left] at hn
 unfold hostL
 rw [hn]
 by_cases hc:(3 ≤ a.length∧a.length ≤ 61)∧a.tail.all adrB=true
 ·rw [if_pos hc,if_pos hc,if_neg (by omega)]
  congr 1
  ·rw [List.take_append]; simp [List.take_of_length_le]
  ·rw [List.drop_append]; simp [List.drop_eq_nil_of_le]
 ·rw [if_neg hc,if_neg hc,if_pos rfl]
theorem port_no (h r:List UInt8) (h1:¬ r=[]) (h2:¬ r.head?=some 58):portL h r=([],0,40):=by
 unfold portL
 rw [if_neg h1,if_neg (fun h=>h2 h.1)]
theorem uHost_bn (l:List UInt8) (h91:l.head?=some 91) (h93:93 ∉ l) (w:World) :
  Calls Tryz.prog 121 #[.string (str l)] w (Gives (hostV (hostL l)) w):=by
 have P1:=Lib.hid (fun w=>HasPrefix_c l [91] true (pre_yes h91) w)
 have P2:=Lib.hid (fun w=>Cut_no l 93 h93 w)
 have hh:hostL l=([],0,40):=by unfold hostL; rw [name_br0 h91 h93,if_pos rfl]
 rw [hh]
 clear h91 h93 hh
 go_enter Tryz.func121,Tryz.ntmps121
 go_wp2_with (first
  | (go_at_call 148; refine (P1.out _).mono ?_; rintro e w1 ⟨rfl,rfl⟩)
  | (go_at_call 149; refine (P2.out _).mono ?_; rintro e w1 ⟨rfl,rfl⟩))
 go_ret3
 exact ⟨rfl,by (repeat first | exact Ex0 | assumption | refine Ex1 ?_ | refine Ex2 ?_ | refine Ex3 ?_ | refine Ex4 ?_ | refine Ex5 ?_)⟩
theorem uHost_br (a r:List UInt8) (hs:(a ++ 93 :: r).length ≤ 140737488355328) (h91:(a ++ 93 :: r).head?=some 91) (hna:93 ∉ a) (w:World) (hE:ErrR w) :
  Calls Tryz.prog 121 #[.string (str (a ++ 93 :: r))] w (Gives (hostV (hostL (a ++ 93 :: r))) w):=by
 have HE:=Lib.hid hE
 clear hE
 rw [List.length_append,List.length_cons] at hs
 have P1:=fun w=>HasPrefix_c (a ++ 93 :: r) [91] true (pre_yes h91) w
 have P2:=fun w=>Cut_at a r 93 hna (by unfold maxLen; omega) w
 obtain ⟨h1,hh⟩:=host_br a r h91 hna
 rw [hh]
 clear hh h91 hna
 obtain ⟨s,hs2⟩:∃ s,s=str (a ++ 93 :: r):=⟨_,rfl⟩
 rw [← hs2] at P1 P2 ⊢
 have P1:=Lib.hid P1
 clear hs2
 have P3:=fun w=>all_addr a.tail (by rw [List.length_tail]; omega) w
 obtain ⟨T,hT⟩:∃ T,T=a.tail:=⟨_,rfl⟩
 have f1:str a.tail=str T:=by rw [hT]
 have f2:str (a.drop 1)=str T:=by rw [hT,List.drop_one]
 rw [← hT] at P3 ⊢
 clear hT
 have P6:=fun w=>Lower_c (a ++ [93]) (by unfold maxLen; rw [List.length_append]; show _ + 1 ≤ _; omega) w
 obtain ⟨s1,hs1⟩:∃ s1,s1=str (a ++ [93]):=⟨_,rfl⟩
 have cc1:∀ w,(Op.stringOp .add (str a) ⟨#[93]⟩).run Tryz.prog w=.ok (.string s1) w:=fun w=>by
  rw [hs1,cat_ok _ _ (by rw [str_size]; show _ + 1 ≤ _; omega)]; simp
 rw [← hs1] at P6
 clear hs1
 obtain ⟨A,hA⟩:∃ A,A=a ++ [93]:=⟨_,rfl⟩
 rw [← hA] at P6 ⊢
 clear hA
 have P6:=Lib.hid P6
 have n1:(1:Int) ≤ (a.length:Int):=by omega
 by_cases g1:3 ≤ a.length
 ·have d1:decide ((a.length:Int) < 3)=false:=by rw [decide_eq_false_iff_not]; omega
  by_cases g2:a.length ≤ 61
  ·have d2:decide ((61:Int) < (a.length:Int))=false:=by rw [decide_eq_false_iff_not]; omega
   by_cases g3:T.all adrB=true
   ·rw [g3] at P3
    rw [if_pos ⟨⟨g1,g2⟩,g3⟩]
    have P3:=Lib.hid P3
    clear g3
    by_cases r0:r=[]
    ·subst r0
     rw [show str ([]:List UInt8)=⟨#[]⟩ from rfl] at P2
     have P2:=Lib.hid P2
     rw [port_nil]
     go_enter Tryz.func121,Tryz.ntmps121
     go_wp2_with (first
      | (go_at_call 148; refine (P1.out _).mono ?_; rintro e w1 ⟨rfl,rfl⟩)
      | (go_at_call 149; refine (P2.out _).mono ?_; rintro e w1 ⟨rfl,nq1,rfl⟩)
      | (go_at_call 150; refine (P3.out _).mono ?_; rintro e w1 ⟨rfl,rfl⟩)
      | (go_at_call 153; refine (P4.out _).mono ?_; rintro e w1 ⟨rfl,rfl⟩)
      | (go_at_call 103; refine (P5.out _ (HE.out.ext (by (repeat first | exact Ex0 | assumption | refine Ex1 ?_ | refine Ex2 ?_ | refine Ex3 ?_ | refine Ex4 ?_ | refine Ex5 ?_)))).mono ?_; rintro e w1 ⟨rfl,hx1⟩)
      | (go_at_call 154; refine (P6.out _).mono ?_; rintro e w2 ⟨rfl,hx2⟩))
     go_ret3
     exact ⟨rfl,by (repeat first | exact Ex0 | assumption | refine Ex1 ?_ | refine Ex2 ?_ | refine Ex3 ?_ | refine Ex4 ?_ | refine Ex5 ?_)⟩
    ·have r2:r.isEmpty=false:=by rw [List.isEmpty_eq_false_iff]; exact r0
     have r1:(str r).toList.isEmpty=false:=by rw [Lib.toList_data]; exact r2
     have P2:=Lib.hid P2
     by_cases hc:r.head?=some 58
     ·obtain ⟨q,hq⟩:∃ q,r=58 :: q:=by
       cases r with
       | nil=>cases hc
       | cons b q=>exact ⟨q,by rw [Option.some.inj hc]⟩
      have hql:q.length + 1=r.length:=by rw [hq]; rfl
      have P5:=fun w hE=>Decimal_c q (by omega) w hE
      have hp:=port_hd A 58 q
      rw [← hq] at hp
      rw [hp]
      clear hp
      obtain ⟨v,hv⟩:∃ v,v=(numL 10 1000000000000000000 q).1:=⟨_,rfl⟩
      obtain ⟨e,he⟩:∃ e,e=(numL 10 1000000000000000000 q).2:=⟨_,rfl⟩
      rw [← hv,← he]
      rw [← hv,← he] at P5
      have P5:=Lib.hid P5
      clear hv he
      have P4:=fun w=>CutPrefix_y q w
      rw [← hq] at P4
      have P4:=Lib.hid P4
      clear hq hc
      by_cases c2:e=0
      ·subst c2
       by_cases c3:q.length ≤ 5
       ·have t3:decide ((5:Int) < (q.length:Int))=false:=by rw [decide_eq_false_iff_not]; omega
        by_cases c4:v ≤ 65535
        ·have t4:decide ((65535:Int) < v)=false:=by rw [decide_eq_false_iff_not]; omega
         rw [if_pos ⟨rfl,rfl,c3,c4⟩]
         go_enter Tryz.func121,Tryz.ntmps121
         go_wp2_with (first
          | (go_at_call 148; refine (P1.out _).mono ?_; rintro e w1 ⟨rfl,rfl⟩)
          | (go_at_call 149; refine (P2.out _).mono ?_; rintro e w1 ⟨rfl,nq1,rfl⟩)
          | (go_at_call 150; refine (P3.out _).mono ?_; rintro e w1 ⟨rfl,rfl⟩)
          | (go_at_call 153; refine (P4.out _).mono ?_; rintro e w1 ⟨rfl,rfl⟩)
          | (go_at_call 103; refine (P5.out _ (HE.out.ext (by (repeat first | exact Ex0 | assumption | refine Ex1 ?_ | refine Ex2 ?_ | refine Ex3 ?_ | refine Ex4 ?_ | refine Ex5 ?_)))).mono ?_; rintro e w1 ⟨rfl,hx1⟩)
          | (go_at_call 154; refine (P6.out _).mono ?_; rintro e w2 ⟨rfl,hx2⟩))
         go_ret3
         exact ⟨rfl,by (repeat first | exact Ex0 | assumption | refine Ex1 ?_ | refine Ex2 ?_ | refine Ex3 ?_ | refine Ex4 ?_ | refine Ex5 ?_)⟩
        ·have t4:decide ((65535:Int) < v)=true:=by rw [decide_eq_true_eq]; omega
         rw [if_neg (fun h=>c4 h.2.2.2)]
         go_enter Tryz.func121,Tryz.ntmps121
         go_wp2_with (first
          | (go_at_call 148; refine (P1.out _).mono ?_; rintro e w1 ⟨rfl,rfl⟩)
          | (go_at_call 149; refine (P2.out _).mono ?_; rintro e w1 ⟨rfl,nq1,rfl⟩)
          | (go_at_call 150; refine (P3.out _).mono ?_; rintro e w1 ⟨rfl,rfl⟩)
          | (go_at_call 153; refine (P4.out _).mono ?_; rintro e w1 ⟨rfl,rfl⟩)
          | (go_at_call 103; refine (P5.out _ (HE.out.ext (by (repeat first | exact Ex0 | assumption | refine Ex1 ?_ | refine Ex2 ?_ | refine Ex3 ?_ | refine Ex4 ?_ | refine Ex5 ?_)))).mono ?_; rintro e w1 ⟨rfl,hx1⟩)
          | (go_at_call 154; refine (P6.out _).mono ?_; rintro e w2 ⟨rfl,hx2⟩))
         go_ret3
         exact ⟨rfl,by (repeat first | exact Ex0 | assumption | refine Ex1 ?_ | refine Ex2 ?_ | refine Ex3 ?_ | refine Ex4 ?_ | refine Ex5 ?_)⟩
       ·have t3:decide ((5:Int) < (q.length:Int))=true:=by rw [decide_eq_true_eq]; omega
        rw [if_neg (fun h=>c3 h.2.2.1)]
        go_enter Tryz.func121,Tryz.ntmps121
        go_wp2_with (first
         | (go_at_call 148; refine (P1.out _).mono ?_; rintro e w1 ⟨rfl,rfl⟩)
         | (go_at_call 149; refine (P2.out _).mono ?_; rintro e w1 ⟨rfl,nq1,rfl⟩)
         | (go_at_call 150; refine (P3.out _).mono ?_; rintro e w1 ⟨rfl,rfl⟩)
         | (go_at_call 153; refine (P4.out _).mono ?_; rintro e w1 ⟨rfl,rfl⟩)
         | (go_at_call 103; refine (P5.out _ (HE.out.ext (by (repeat first | exact Ex0 | assumption | refine Ex1 ?_ | refine Ex2 ?_ | refine Ex3 ?_ | refine Ex4 ?_ | refine Ex5 ?_)))).mono ?_; rintro e w1 ⟨rfl,hx1⟩)
         | (go_at_call 154; refine (P6.out _).mono ?_; rintro e w2 ⟨rfl,hx2⟩))
        go_ret3
        exact ⟨rfl,by (repeat first | exact Ex0 | assumption | refine Ex1 ?_ | refine Ex2 ?_ | refine Ex3 ?_ | refine Ex4 ?_ | refine Ex5 ?_)⟩
      ·have t2:(e != 0)=true:=by rw [bne_iff_ne]; exact c2
       rw [if_neg (fun h=>c2 h.2.1)]
       clear c2
       go_enter Tryz.func121,Tryz.ntmps121
       go_wp2_with (first
        | (go_at_call 148; refine (P1.out _).mono ?_; rintro e w1 ⟨rfl,rfl⟩)
        | (go_at_call 149; refine (P2.out _).mono ?_; rintro e w1 ⟨rfl,nq1,rfl⟩)
        | (go_at_call 150; refine (P3.out _).mono ?_; rintro e w1 ⟨rfl,rfl⟩)
        | (go_at_call 153; refine (P4.out _).mono ?_; rintro e w1 ⟨rfl,rfl⟩)
        | (go_at_call 103; refine (P5.out _ (HE.out.ext (by (repeat first | exact Ex0 | assumption | refine Ex1 ?_ | refine Ex2 ?_ | refine Ex3 ?_ | refine Ex4 ?_ | refine Ex5 ?_)))).mono ?_; rintro e w1 ⟨rfl,hx1⟩)
        | (go_at_call 154; refine (P6.out _).mono ?_; rintro e w2 ⟨rfl,hx2⟩))
       go_ret3
       exact ⟨rfl,by (repeat first | exact Ex0 | assumption | refine Ex1 ?_ | refine Ex2 ?_ | refine Ex3 ?_ | refine Ex4 ?_ | refine Ex5 ?_)⟩
     ·rw [port_no A r r0 hc]
      have P4:=Lib.hid (fun w=>CutPrefix_n r hc w)
      have P5:=Lib.hid (fun w hE=>Decimal_c r (by omega) w hE)
      clear hc
      go_enter Tryz.func121,Tryz.ntmps121
      go_wp2_with (first
       | (go_at_call 148; refine (P1.out _).mono ?_; rintro e w1 ⟨rfl,rfl⟩)
       | (go_at_call 149; refine (P2.out _).mono ?_; rintro e w1 ⟨rfl,nq1,rfl⟩)
       | (go_at_call 150; refine (P3.out _).mono ?_; rintro e w1 ⟨rfl,rfl⟩)
       | (go_at_call 153; refine (P4.out _).mono ?_; rintro e w1 ⟨rfl,rfl⟩)
       | (go_at_call 103; refine (P5.out _ (HE.out.ext (by (repeat first | exact Ex0 | assumption | refine Ex1 ?_ | refine Ex2 ?_ | refine Ex3 ?_ | refine Ex4 ?_ | refine Ex5 ?_)))).mono ?_; rintro e w1 ⟨rfl,hx1⟩)
       | (go_at_call 154; refine (P6.out _).mono ?_; rintro e w2 ⟨rfl,hx2⟩))
      go_ret3
      exact ⟨rfl,by (repeat first | exact Ex0 | assumption | refine Ex1 ?_ | refine Ex2 ?_ | refine Ex3 ?_ | refine Ex4 ?_ | refine Ex5 ?_)⟩
   ·have P2:=Lib.hid P2
    rw [show T.all adrB=false by simpa using g3] at P3
    rw [if_neg (fun h=>g3 h.2)]
    have P3:=Lib.hid P3
    clear g3
    go_enter Tryz.func121,Tryz.ntmps121
    go_wp2_with (first
     | (go_at_call 148; refine (P1.out _).mono ?_; rintro e w1 ⟨rfl,rfl⟩)
     | (go_at_call 149; refine (P2.out _).mono ?_; rintro e w1 ⟨rfl,nq1,rfl⟩)
     | (go_at_call 150; refine (P3.out _).mono ?_; rintro e w1 ⟨rfl,rfl⟩)
     | (go_at_call 153; refine (P4.out _).mono ?_; rintro e w1 ⟨rfl,rfl⟩)
     | (go_at_call 103; refine (P5.out _ (HE.out.ext (by (repeat first | exact Ex0 | assumption | refine Ex1 ?_ | refine Ex2 ?_ | refine Ex3 ?_ | refine Ex4 ?_ | refine Ex5 ?_)))).mono ?_; rintro e w1 ⟨rfl,hx1⟩)
     | (go_at_call 154; refine (P6.out _).mono ?_; rintro e w2 ⟨rfl,hx2⟩))
    go_ret3
    exact ⟨rfl,by (repeat first | exact Ex0 | assumption | refine Ex1 ?_ | refine Ex2 ?_ | refine Ex3 ?_ | refine Ex4 ?_ | refine Ex5 ?_)⟩
  ·have d2:decide ((61:Int) < (a.length:Int))=true:=by rw [decide_eq_true_eq]; omega
   have P2:=Lib.hid P2
   rw [if_neg (fun h=>g2 h.1.2)]
   go_enter Tryz.func121,Tryz.ntmps121
   go_wp2_with (first
    | (go_at_call 148; refine (P1.out _).mono ?_; rintro e w1 ⟨rfl,rfl⟩)
    | (go_at_call 149; refine (P2.out _).mono ?_; rintro e w1 ⟨rfl,nq1,rfl⟩)
    | (go_at_call 150; refine (P3.out _).mono ?_; rintro e w1 ⟨rfl,rfl⟩)
    | (go_at_call 153; refine (P4.out _).mono ?_; rintro e w1 ⟨rfl,rfl⟩)
    | (go_at_call 103; refine (P5.out _ (HE.out.ext (by (repeat first | exact Ex0 | assumption | refine Ex1 ?_ | refine Ex2 ?_ | refine Ex3 ?_ | refine Ex4 ?_ | refine Ex5 ?_)))).mono ?_; rintro e w1 ⟨rfl,hx1⟩)
    | (go_at_call 154; refine (P6.out _).mono ?_; rintro e w2 ⟨rfl,hx2⟩))
   go_ret3
   exact ⟨rfl,by (repeat first | exact Ex0 | assumption | refine Ex1 ?_ | refine Ex2 ?_ | refine Ex3 ?_ | refine Ex4 ?_ | refine Ex5 ?_)⟩
 ·have d1:decide ((a.length:Int) < 3)=true:=by rw [decide_eq_true_eq]; omega
  have P2:=Lib.hid P2
  rw [if_neg (fun h=>g1 h.1.1)]
  go_enter Tryz.func121,Tryz.ntmps121
  go_wp2_with (first
   | (go_at_call 148; refine (P1.out _).mono ?_; rintro e w1 ⟨rfl,rfl⟩)
   | (go_at_call 149; refine (P2.out _).mono ?_; rintro e w1 ⟨rfl,nq1,rfl⟩)
   | (go_at_call 150; refine (P3.out _).mono ?_; rintro e w1 ⟨rfl,rfl⟩)
   | (go_at_call 153; refine (P4.out _).mono ?_; rintro e w1 ⟨rfl,rfl⟩)
   | (go_at_call 103; refine (P5.out _ (HE.out.ext (by (repeat first | exact Ex0 | assumption | refine Ex1 ?_ | refine Ex2 ?_ | refine Ex3 ?_ | refine Ex4 ?_ | refine Ex5 ?_)))).mono ?_; rintro e w1 ⟨rfl,hx1⟩)
   | (go_at_call 154; refine (P6.out _).mono ?_; rintro e w2 ⟨rfl,hx2⟩))
  go_ret3
  exact ⟨rfl,by (repeat first | exact Ex0 | assumption | refine Ex1 ?_ | refine Ex2 ?_ | refine Ex3 ?_ | refine Ex4 ?_ | refine Ex5 ?_)⟩
theorem uHost_c (l:List UInt8) (hs:l.length ≤ 140737488355328) (w:World) (hE:ErrR w) :
  Calls Tryz.prog 121 #[.string (str l)] w (Gives (hostV (hostL l)) w):=by
 by_cases h91:l.head?=some 91
 ·rcases cut_cases l 93 with hno | ⟨a,r,rfl,hna⟩
  ·exact uHost_bn l h91 hno w
  ·exact uHost_br a r hs h91 hna w hE
 ·rcases idx_cases l 58 with ⟨_,h⟩ | ⟨n,h1,h2,h3,h4⟩
  ·exact uHost_no l hs h91 h w hE
  ·exact uHost_at l hs h91 n h1 h2 h3 h4 w hE
end Go.Proofs.YtmnohicojefhfaaGreatDoor
end
