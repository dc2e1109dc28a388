/-
The reasons of statuses: as a list; strings.Split at a byte.
-/
import Derived.Test.YthbofilcnpdghaaGreatDoorZal
import Derived.Lib.CountLaws
import Derived.Test.YthbofilcnpdghaaGreatDoorZae
import Derived.Test.YthbofilcnpdghaaGreatDoorZag
import Derived.Test.YthbofilcnpdghaaGreatDoorZar
import Derived.Lib.ItoaLen
import Derived.Test.YthbofilcnpdghaaGreatDoorZab
set_option maxRecDepth 100000
set_option maxHeartbeats 8000000
set_option linter.unusedVariables false
set_option linter.unusedSimpArgs false
section
namespace Go.Proofs.YthbofilcnpdghaaGreatDoor
open Go.RowKit
def pcs (c:UInt8):List UInt8→List (List UInt8)
 | []=>[[]]
 | b::l=>if b=c then []::pcs c l else
   match pcs c l with
   | []=>[[b]]
   | s::ss=>(b::s)::ss
theorem pcs_none {c:UInt8}:∀ {l:List UInt8},c∉l→pcs c l=[l]
 | [],_=>rfl
 | b::l,h=>by
  have h1:¬ b=c:=fun e=>h (by rw [e];exact List.mem_cons_self)
  have h2:=pcs_none (l:=l) (fun e=>h (List.mem_cons_of_mem _ e))
  unfold pcs
  rw [if_neg h1,h2]
theorem pcs_some {c:UInt8}:∀ {a:List UInt8} (r:List UInt8),c∉a→pcs c (a++c::r)=a::pcs c r
 | [],r,_=>by show pcs c (c::r)=_;simp [pcs]
 | b::a,r,h=>by
  have h1:¬ b=c:=fun e=>h (by rw [e];exact List.mem_cons_self)
  have h2:=pcs_some (a:=a) r (fun e=>h (List.mem_cons_of_mem _ e))
  show pcs c (b::(a++c::r))=_
  simp only [pcs,if_neg h1,h2]
theorem split_pcs (c:UInt8):∀ (n:Nat) (l:List UInt8),l.length≤n→Lib.countB (str l) ⟨#[c]⟩+1=(pcs c l).length∧Lib.splitB ⟨#[c]⟩ 0 (Lib.countB (str l) ⟨#[c]⟩) (str l)=(pcs c l).map str:=by
 intro n
 induction n with
 | zero =>
  intro l hl
  obtain rfl:l=[]:=List.eq_nil_of_length_eq_zero (by omega)
  have hx:Lib.indexB (str []) ⟨#[c]⟩=-1:=(Lib.index_one [] c).trans (idx_no (by simp))
  rw [Lib.countB_miss _ _ hx,pcs_none (by simp)]
  exact ⟨rfl,rfl⟩
 | succ n ih =>
  intro l hl
  rcases cut_cases l c with hno | ⟨a,r,rfl,hno⟩
  ·have hx:Lib.indexB (str l) ⟨#[c]⟩=-1:=(Lib.index_one l c).trans (idx_no hno)
   rw [Lib.countB_miss _ _ hx,pcs_none hno]
   exact ⟨rfl,rfl⟩
  ·have hx:Lib.indexB (str (a++c::r)) ⟨#[c]⟩=(a.length:Int):=(Lib.index_one _ c).trans (idx_at hno)
   have hc:=Lib.countB_hit (str (a++c::r)) ⟨#[c]⟩ a.length (by show 1≤1;exact Nat.le_refl _) hx
   have he:(str (a++c::r)).extract (a.length+(⟨#[c]⟩:ByteArray).size) (str (a++c::r)).size=str r:=by
    rw [show (⟨#[c]⟩:ByteArray).size=1 from rfl]
    apply ByteArray.ext
    apply Array.ext'
    simp [str]
    exact List.take_of_length_le (by simp [ByteArray.size];omega)
   have he2:(str (a++c::r)).extract 0 (a.length+0)=str a:=by
    apply ByteArray.ext
    apply Array.ext'
    simp [str]
   rw [he] at hc
   obtain ⟨i1,i2⟩:=ih r (by simp at hl;omega)
   have hsp:=Lib.splitB_hit ⟨#[c]⟩ 0 (Lib.countB (str r) ⟨#[c]⟩) (str (a++c::r)) a.length hx
   rw [he,he2] at hsp
   rw [hc,pcs_some r hno,Nat.add_comm 1,hsp,i2]
   refine ⟨by simp only [List.length_cons];omega,rfl⟩
theorem Split_pcs (c:UInt8) (l:List UInt8) (hl:l.length≤4000000000) (w:World) (hM:Mx w) :
  Calls Tryz.prog 92 #[.string (str l),.string ⟨#[c]⟩] w fun e w'=>e=.returned (.slice (some ⟨w.heap.size,0,none⟩) (pcs c l).length (pcs c l).length)∧w'=w.alloc (.cells (sc (pcs c l)).toArray 9):=by
 obtain ⟨m,hm⟩:=hM
 have K:=Tryz.strings_Split (str l) ⟨#[c]⟩ m w (by simp;omega) hm (by show 1≤1;exact Nat.le_refl _)
 obtain ⟨h1,h2⟩:=split_pcs c l.length l (Nat.le_refl _)
 rw [h1,h2] at K
 refine K.mono fun e w' ⟨h3,h4⟩=>⟨h3,?_⟩
 rw [h4]
 simp [sc,Function.comp_def]
def rsT:List (Nat × List UInt8 × List UInt8):=[(100,[49,48,48],[67,111,110,116,105,110,117,101]),(200,[50,48,48],[79,75]),(201,[50,48,49],[67,114,101,97,116,101,100]),(204,[50,48,52],[78,111,32,67,111,110,116,101,110,116]),(206,[50,48,54],[80,97,114,116,105,97,108,32,67,111,110,116,101,110,116]),(301,[51,48,49],[77,111,118,101,100,32,80,101,114,109,97,110,101,110,116,108,121]),(302,[51,48,50],[70,111,117,110,100]),(304,[51,48,52],[78,111,116,32,77,111,100,105,102,105,101,100]),(400,[52,48,48],[66,97,100,32,82,101,113,117,101,115,116]),(403,[52,48,51],[70,111,114,98,105,100,100,101,110]),(404,[52,48,52],[78,111,116,32,70,111,117,110,100]),(405,[52,48,53],[77,101,116,104,111,100,32,78,111,116,32,65,108,108,111,119,101,100]),(408,[52,48,56],[82,101,113,117,101,115,116,32,84,105,109,101,111,117,116]),(412,[52,49,50],[80,114,101,99,111,110,100,105,116,105,111,110,32,70,97,105,108,101,100]),(413,[52,49,51],[67,111,110,116,101,110,116,32,84,111,111,32,76,97,114,103,101]),(414,[52,49,52],[85,82,73,32,84,111,111,32,76,111,110,103]),(416,[52,49,54],[82,97,110,103,101,32,78,111,116,32,83,97,116,105,115,102,105,97,98,108,101]),(417,[52,49,55],[69,120,112,101,99,116,97,116,105,111,110,32,70,97,105,108,101,100]),(429,[52,50,57],[84,111,111,32,77,97,110,121,32,82,101,113,117,101,115,116,115]),(431,[52,51,49],[82,101,113,117,101,115,116,32,72,101,97,100,101,114,32,70,105,101,108,100,115,32,84,111,111,32,76,97,114,103,101]),(500,[53,48,48],[73,110,116,101,114,110,97,108,32,83,101,114,118,101,114,32,69,114,114,111,114]),(501,[53,48,49],[78,111,116,32,73,109,112,108,101,109,101,110,116,101,100]),(502,[53,48,50],[66,97,100,32,71,97,116,101,119,97,121]),(503,[53,48,51],[83,101,114,118,105,99,101,32,85,110,97,118,97,105,108,97,98,108,101]),(504,[53,48,52],[71,97,116,101,119,97,121,32,84,105,109,101,111,117,116])]
def rsAll:List UInt8:=[49,48,48,32,67,111,110,116,105,110,117,101,124,50,48,48,32,79,75,124,50,48,49,32,67,114,101,97,116,101,100,124,50,48,52,32,78,111,32,67,111,110,116,101,110,116,124,50,48,54,32,80,97,114,116,105,97,108,32,67,111,110,116,101,110,116,124,51,48,49,32,77,111,118,101,100,32,80,101,114,109,97,110,101,110,116,108,121,124,51,48,50,32,70,111,117,110,100,124,51,48,52,32,78,111,116,32,77,111,100,105,102,105,101,100,124,52,48,48,32,66,97,100,32,82,101,113,117,101,115,116,124,52,48,51,32,70,111,114,98,105,100,100,101,110,124,52,48,52,32,78,111,116,32,70,111,117,110,100,124,52,48,53,32,77,101,116,104,111,100,32,78,111,116,32,65,108,108,111,119,101,100,124,52,48,56,32,82,101,113,117,101,115,116,32,84,105,109,101,111,117,116,124,52,49,50,32,80,114,101,99,111,110,100,105,116,105,111,110,32,70,97,105,108,101,100,124,52,49,51,32,67,111,110,116,101,110,116,32,84,111,111,32,76,97,114,103,101,124,52,49,52,32,85,82,73,32,84,111,111,32,76,111,110,103,124,52,49,54,32,82,97,110,103,101,32,78,111,116,32,83,97,116,105,115,102,105,97,98,108,101,124,52,49,55,32,69,120,112,101,99,116,97,116,105,111,110,32,70,97,105,108,101,100,124,52,50,57,32,84,111,111,32,77,97,110,121,32,82,101,113,117,101,115,116,115,124,52,51,49,32,82,101,113,117,101,115,116,32,72,101,97,100,101,114,32,70,105,101,108,100,115,32,84,111,111,32,76,97,114,103,101,124,53,48,48,32,73,110,116,101,114,110,97,108,32,83,101,114,118,101,114,32,69,114,114,111,114,124,53,48,49,32,78,111,116,32,73,109,112,108,101,109,101,110,116,101,100,124,53,48,50,32,66,97,100,32,71,97,116,101,119,97,121,124,53,48,51,32,83,101,114,118,105,99,101,32,85,110,97,118,97,105,108,97,98,108,101,124,53,48,52,32,71,97,116,101,119,97,121,32,84,105,109,101,111,117,116]
def rsP:List (List UInt8):=rsT.map fun p=>p.2.1++32::p.2.2
theorem rs_pcs:pcs 124 rsAll=rsP:=by decide +kernel
theorem rs_code:∀ p∈rsT,Lib.itoa (p.1:Int)=p.2.1∧32∉p.2.1:=by decide +kernel
def reaL (s:Int):List UInt8:=match rsT.find? (fun p=>decide ((p.1:Int)=s)) with
 | some p=>p.2.2
 | none=>[]
theorem valF_one (B a:Nat) (b:UInt8):valF B a [b]=a*B+digV b:=rfl
theorem dec_dig:∀ d:Fin 10,isDig 10 (UInt8.ofNat (48+d.val))=true∧digV (UInt8.ofNat (48+d.val))=d.val∧lowB (UInt8.ofNat (48+d.val))=UInt8.ofNat (48+d.val):=by decide +kernel
theorem decL_all:∀ n:Nat,(Lib.decDigits n).all (isDig 10)=true∧valL 10 (Lib.decDigits n)=n∧lowL (Lib.decDigits n)=Lib.decDigits n∧0<(Lib.decDigits n).length:=by
 intro n
 induction n using Nat.strongRecOn with
 | ind n ih =>
  by_cases h:n<10
  ·have t:=dec_dig ⟨n,h⟩
   have t1:isDig 10 (UInt8.ofNat (48+n))=true:=t.1
   have t2:digV (UInt8.ofNat (48+n))=n:=t.2.1
   have t3:lowB (UInt8.ofNat (48+n))=UInt8.ofNat (48+n):=t.2.2
   rw [Lib.decDigits_one h]
   generalize UInt8.ofNat (48+n)=b at *
   refine ⟨by simp [t1],?_,by simp [lowL,t3],by simp⟩
   have e:valL 10 [b]=0*10+digV b:=rfl
   rw [e,t2];simp
  ·have t:=dec_dig ⟨n % 10,Nat.mod_lt _ (by omega)⟩
   have t1:isDig 10 (UInt8.ofNat (48+n % 10))=true:=t.1
   have t2:digV (UInt8.ofNat (48+n % 10))=n % 10:=t.2.1
   have t3:lowB (UInt8.ofNat (48+n % 10))=UInt8.ofNat (48+n % 10):=t.2.2
   obtain ⟨h1,h2,h3,_⟩:=ih (n/10) (by omega)
   rw [Lib.decDigits,dif_neg h]
   generalize UInt8.ofNat (48+n % 10)=b at *
   refine ⟨by simp [h1,t1],?_,?_,by simp⟩
   ·unfold valL at h2 ⊢
    rw [valF_app,h2,valF_one,t2];omega
   ·unfold lowL at h3 ⊢
    rw [List.map_append,h3];simp [t3]
theorem num_dec (n:Nat) (h:n≤1000000000000000000):numL 10 1000000000000000000 (Lib.itoa n)=((n:Int),0):=by
 obtain ⟨h1,h2,h3,hp⟩:=decL_all n
 rw [Lib.itoa_nonneg]
 unfold numL
 rw [h3,h2,if_neg,if_pos h]
 intro hh
 rcases hh with hh | hh
 ·rw [hh] at hp;simp at hp
 ·rw [h1] at hh;cases hh
theorem itoa_eq {st:Int} {c:Nat} (h:Lib.itoa st=Lib.itoa (c:Int)):st=(c:Int):=by
 obtain ⟨h1,h2,_,_⟩:=decL_all c
 have hc:Lib.itoa (c:Int)=Lib.decDigits c:=by unfold Lib.itoa;rw [if_neg (by omega)];simp
 rw [hc] at h
 by_cases hs:st<0
 ·unfold Lib.itoa at h
  rw [if_pos hs] at h
  rw [← h] at h1
  simp at h1
  exact absurd h1.1 (by decide)
 ·obtain ⟨n,rfl⟩:∃ n:Nat,st=(n:Int):=⟨st.toNat,by omega⟩
  have hn:Lib.itoa (n:Int)=Lib.decDigits n:=by unfold Lib.itoa;rw [if_neg (by omega)];simp
  rw [hn] at h
  have h3:=(decL_all n).2.1
  rw [h,h2] at h3
  rw [h3]
theorem rs_len:rsT.length=25:=rfl
theorem rsP_len:rsP.length=25:=rfl
theorem rea_at:∀ k (h:k<25),reaL ((rsT[k]'(by rw [rs_len];exact h)).1:Int)=(rsT[k]'(by rw [rs_len];exact h)).2.2:=by
 have:∀ k:Fin 25,reaL ((rsT[k.val]'(by rw [rs_len];exact k.isLt)).1:Int)=(rsT[k.val]'(by rw [rs_len];exact k.isLt)).2.2:=by decide +kernel
 exact fun k h=>this ⟨k,h⟩
theorem rea_none {st:Int} (h:∀ j (hj:j<25),((rsT[j]'(by rw [rs_len];exact hj)).1:Int)≠st):reaL st=[]:=by
 unfold reaL
 have:rsT.find? (fun p=>decide ((p.1:Int)=st))=none:=by
  rw [List.find?_eq_none]
  intro p hp
  obtain ⟨j,hj,rfl⟩:=List.getElem_of_mem hp
  have:=h j (by rw [← rs_len];exact hj)
  simpa using this
 rw [this]
theorem hReason_c (st:Int) (h0:-9223372036854775808≤st) (h1:st≤9223372036854775807) (w:World) (hM:Mx w) (hP:Pow w) :
  Calls Tryz.prog 65 #[.int .i64 st] w (Gives (.string (str (reaL st))) w):=by
 have HM:=Hy hM
 have HP:=Hy hP
 clear hM hP
 have CD:=Hy (fun w hP=>Digits_c st w hP h0 h1)
 have CS:=Hy (fun w hM=>(by have:=Split_pcs 124 rsAll (by decide) w hM;rw [rs_pcs,rsP_len] at this;exact this:Calls Tryz.prog 92 #[.string (str rsAll),.string ⟨#[124]⟩] w fun e w'=>e=.returned (.slice (some ⟨w.heap.size,0,none⟩) 25 25)∧w'=w.alloc (.cells (sc rsP).toArray 9)))
 obtain ⟨R,hR⟩:∃ R,R=str (reaL st):=⟨_,rfl⟩
 rw [← hR]
 have HR:=Hy hR
 clear hR
 go_enter Tryz.func65,Tryz.ntmps65
 go_wp2_with (first
  | (go_at_call 92;refine (CS.out _ HM.out).mono ?_;rintro e w2 ⟨rfl,hw2⟩;have HW2:=Hy hw2;clear hw2))
 have hb2:=heap_alloc_new w (.cells (sc rsP).toArray 9)
 rw [← HW2.out] at hb2
 have x2:Ext w w2:=by rw [HW2.out];exact (Ext.rfl' w).al _
 obtain ⟨G,hG⟩:∃ G,G=w.heap.size:=⟨_,rfl⟩
 rw [← hG] at hb2 ⊢
 have HC:=Hy (fun w' (x:Ext w2 w') (k:Nat) (hk:k<25)=>(show w'.cell? ⟨G,k,none⟩=some (.string (str (rsP[k]'(by rw [rsP_len];exact hk)))) from by
  have hb:=(x.block G (row_lt hb2)).trans hb2
  exact (row_facts hb k _ (by simp [sc,rsP_len,hk])).1))
 have X2:=Hy x2
 clear hb2 x2 hG
 go_loopw [10] (fun vi wr=>∃ k:Nat,vi=.int .i64 (k:Int)∧k≤25∧(∀ j (hj:j<25),j<k→((rsT[j]'(by rw [rs_len];exact hj)).1:Int)≠st)∧Ext w2 wr) (fun vi _=>25-(intOf vi).toNat)
 case atStart=>exact ⟨0,rfl,Nat.zero_le _,fun j _ h=>by omega,Ext.rfl' _⟩
 case round =>
  obtain ⟨k,rfl,hk,hno,hx⟩:=hrel
  have HNO:=Hy hno
  clear hno
  by_cases hlt:k<25
  ·have hc:=HC.out wr hx k hlt
   have hpk:=rs_code _ (List.getElem_mem (show k<rsT.length by rw [rs_len];exact hlt))
   have hrk:=rea_at k hlt
   have hP2:rsP[k]'(by rw [rsP_len];exact hlt)=(rsT[k]'(by rw [rs_len];exact hlt)).2.1++32::(rsT[k]'(by rw [rs_len];exact hlt)).2.2:=by unfold rsP;simp
   have hlen:∀ p∈rsT,p.2.1.length+p.2.2.length≤100:=by decide +kernel
   have hlk:=hlen _ (List.getElem_mem (show k<rsT.length by rw [rs_len];exact hlt))
   rw [hP2] at hc
   clear hP2 hlen
   obtain ⟨⟨cn,cd,tx⟩,hp⟩:∃ p,p=rsT[k]'(by rw [rs_len];exact hlt):=⟨_,rfl⟩
   rw [← hp] at hc hpk hrk hlk
   dsimp only at hc hpk hrk hlk
   have HPK:=Hy hp
   have CU:=fun w=>Cut_at cd tx 32 hpk.2 (by unfold maxLen;omega) w
   obtain ⟨sl,hsl⟩:∃ s,s=str (cd++32::tx):=⟨_,rfl⟩
   rw [← hsl] at hc CU
   have CU:=Hy CU
   have k0:(0:Int)≤(k:Int):=by omega
   have k1:(k:Int)<25:=by omega
   clear hp hsl
   by_cases hq:(cn:Int)=st
   ·have hcd:decB st=str cd:=by unfold decB;rw [← hq,hpk.1]
    have CD2:Hid (∀ w,Pow w→Calls Tryz.prog 18 #[.int .i64 st] w (Gives (.string (str cd)) w)):=by rw [← hcd];exact CD
    have HV:=Hy (show str tx=R from by rw [HR.out,← hq,hrk])
    clear hpk hrk hlk hcd hq
    go_wp2_with (first
     | (go_at_call 78;refine (CU.out _).mono ?_;rintro e w5 ⟨rfl,q5,rfl⟩)
     | (go_at_call 18;refine (CD2.out _ (HP.out.ext (X2.out.tr (hx.tr Xq)))).mono ?_;rintro e w6 ⟨rfl,hx6⟩))
    go_ret
    rw [HV.out]
    exact ⟨rfl,X2.out.tr (hx.tr (Ext.tr Xq hx6))⟩
   ·obtain ⟨sd,hsd⟩:∃ s,s=decB st:=⟨_,rfl⟩
    obtain ⟨scd,hscd⟩:∃ s,s=str cd:=⟨_,rfl⟩
    have hne:(scd.toList == sd.toList)=false:=by
     rw [hscd,hsd]
     unfold decB
     rw [show str cd=⟨cd.toArray⟩ from rfl,show str (Lib.itoa st)=⟨(Lib.itoa st).toArray⟩ from rfl,Lib.toList_data,Lib.toList_data,beq_eq_false_iff_ne]
     intro e
     rw [← hpk.1] at e
     exact hq (itoa_eq e.symm).symm
    rw [← hscd] at CU
    have CD2:Hid (∀ w,Pow w→Calls Tryz.prog 18 #[.int .i64 st] w (Gives (.string sd) w)):=by rw [hsd];exact CD
    have HQ:=Hy hq
    clear hpk hrk hlk hsd hscd hq
    go_wp2_with (first
     | (go_at_call 78;refine (CU.out _).mono ?_;rintro e w5 ⟨rfl,q5,rfl⟩)
     | (go_at_call 18;refine (CD2.out _ (HP.out.ext (X2.out.tr (hx.tr Xq)))).mono ?_;rintro e w6 ⟨rfl,hx6⟩))
    go_roundw
    case rel=>exact ⟨k+1,by go_num,by omega,fun j hj h2=>(by
     rcases Nat.lt_or_ge j k with h3 | h3
     ·exact HNO.out j hj h3
     ·obtain rfl:j=k:=by omega
      rw [← HPK.out];exact HQ.out),hx.tr (Ext.tr Xq hx6)⟩
    case measure=>simp [intOf];omega
  ·have hk1:¬(k:Int)<25:=by omega
   have hv:R=⟨#[]⟩:=by rw [HR.out,rea_none (fun j hj=>HNO.out j hj (by omega))];rfl
   have HV:=Hy hv
   clear hv
   go_wp2
   go_ret
   exact ⟨by rw [HV.out];rfl,X2.out.tr hx⟩
def rsF (st:Int):List UInt8:=[72,84,84,80,47,49,46,49,32]++(Lib.itoa st++(32::reaL st))
def rsW (st:Int) (fs:List Fld):List UInt8 × Int:=if 100≤st∧st≤599 then wrH (rsF st) fs else ([],43)
theorem rea_len (st:Int):(reaL st).length≤100:=by
 unfold reaL
 split
 ·rename_i p hp
  have hm:=List.mem_of_find?_eq_some hp
  have:∀ p∈rsT,p.2.2.length≤100:=by decide +kernel
  exact this p hm
 ·simp
theorem hWriteRspS_c (st:Int) (fs:List Fld) (A:Option Addr) (n c:Nat) (h0:-9223372036854775808≤st) (h1:st≤9223372036854775807) (hn:fs.length=n) (hb:n≤8796093022206) (hsz:∀ p∈fs,p.1.length≤140737488351232∧p.2.length≤140737488351232) (w:World) (h:Rd w A (fc fs)) (hP:Pow w) (hM:Mx w) :
  Calls Tryz.prog 63 #[.int .i64 st,.slice A n c] w (Ret (IsBs w (rsW st fs)) w):=by
 obtain ⟨R,hR⟩:∃ R,R=rsW st fs:=⟨_,rfl⟩
 rw [← hR]
 have HP:=Hy hP
 have HM:=Hy hM
 have HA:=Hy h
 clear hP h hM
 by_cases c1:st<100
 ·have HV:=Hy (show R=([],43) from by rw [hR];unfold rsW;rw [if_neg (by omega)])
  clear hR
  go_enter Tryz.func63,Tryz.ntmps63
  go_wp2
  go_ret2
  rw [HV.out]
  exact Ret.mk (IsBs.no _ _ _) (Ext.rfl' _)
 by_cases c2:599<st
 ·have HV:=Hy (show R=([],43) from by rw [hR];unfold rsW;rw [if_neg (by omega)])
  clear hR
  go_enter Tryz.func63,Tryz.ntmps63
  go_wp2
  go_ret2
  rw [HV.out]
  exact Ret.mk (IsBs.no _ _ _) (Ext.rfl' _)
 have HV:=Hy (show R=wrH (rsF st) fs from by rw [hR];unfold rsW;rw [if_pos (by omega)])
 have hil:=Lib.itoa_length_le st h0 h1
 have hrl:=rea_len st
 have hfl:(rsF st).length≤140737488400000:=by unfold rsF;simp;omega
 have CW:=fun w h=>hWriteS_c (rsF st) fs A n c hn hb hfl hsz w h
 obtain ⟨s1,hs1⟩:∃ s,s=str ([72,84,84,80,47,49,46,49,32]++Lib.itoa st):=⟨_,rfl⟩
 obtain ⟨s2,hs2⟩:∃ s,s=str ([72,84,84,80,47,49,46,49,32]++(Lib.itoa st++[32])):=⟨_,rfl⟩
 obtain ⟨s3,hs3⟩:∃ s,s=str (rsF st):=⟨_,rfl⟩
 obtain ⟨sd,hsd⟩:∃ s,s=decB st:=⟨_,rfl⟩
 obtain ⟨sr,hsr⟩:∃ s,s=str (reaL st):=⟨_,rfl⟩
 have E1:∀ w,(Op.stringOp .add ⟨#[72,84,84,80,47,49,46,49,32]⟩ sd).run Tryz.prog w=.ok (.string s1) w:=fun w=>by
  rw [hsd,hs1]
  unfold decB
  rw [cat_ok _ _ (by rw [str_size];show 9+_≤_;omega) w]
  simp
 have E2:∀ w,(Op.stringOp .add s1 ⟨#[32]⟩).run Tryz.prog w=.ok (.string s2) w:=fun w=>by rw [hs1,hs2,cat_ok _ _ (by rw [str_size];show _+1≤_;simp;omega) w];simp
 have E3:∀ w,(Op.stringOp .add s2 sr).run Tryz.prog w=.ok (.string s3) w:=fun w=>by rw [hs2,hs3,hsr,cat_ok _ _ (by rw [str_size,str_size];simp;omega) w];simp [rsF]
 have CD:=Hy (fun (w:World) (hP:Pow w)=>(by have:=Digits_c st w hP h0 h1;rw [← hsd] at this;exact this:Calls Tryz.prog 18 #[.int .i64 st] w (Gives (.string sd) w)))
 have CR:=Hy (fun (w:World) (hM:Mx w) (hP:Pow w)=>(by have:=hReason_c st h0 h1 w hM hP;rw [← hsr] at this;exact this:Calls Tryz.prog 65 #[.int .i64 st] w (Gives (.string sr) w)))
 rw [← hs3] at CW
 have CW:=Hy CW
 clear hR hs1 hs2 hs3 hsd hsr hil hfl hrl
 go_enter Tryz.func63,Tryz.ntmps63
 go_wp2_with (first
  | (go_at_call 18;refine (CD.out _ (HP.out.ext Xq)).mono ?_;rintro e w2 ⟨rfl,hx2⟩)
  | (go_at_call 65;refine (CR.out _ (HM.out.ext Xq) (HP.out.ext Xq)).mono ?_;rintro e w3 ⟨rfl,hx3⟩)
  | (go_at_call 90;refine (CW.out _ (HA.out.ext Xq)).mono ?_;rintro e w6 ⟨v,rfl,⟨A6,c7,rfl,hn6,o6,ho6,hs6⟩,hx6⟩))
 go_ret2
 rw [HV.out]
 exact Ret.mk ⟨A6,c7,rfl,hn6,o6,fun b hb=>ho6 b (Nat.lt_of_lt_of_le hb (hx2.tr hx3).size),hs6⟩ (hx2.tr (hx3.tr hx6))
theorem hWriteRsp_c (st:Int) (fs:List Fld) (A:Option Addr) (n c:Nat) (h0:-9223372036854775808≤st) (h1:st≤9223372036854775807) (hn:fs.length=n) (hb:n≤8796093022206) (hsz:∀ p∈fs,p.1.length≤140737488351232∧p.2.length≤140737488351232) (w:World) (h:Rd w A (fc fs)) (hP:Pow w) (hM:Mx w) :
  Calls Tryz.prog 63 #[.int .i64 st,.slice A n c] w (Ret (IsBy (rsW st fs)) w) :=
 (hWriteRspS_c st fs A n c h0 h1 hn hb hsz w h hP hM).mono (by rintro e w' ⟨v,rfl,h,hx⟩;exact Ret.mk h.by_ hx)
def alB (c:Nat):Bool:=(decide (97≤c) && decide (c≤122)) || (decide (65≤c) && decide (c≤90)) || (decide (48≤c) && decide (c≤57))
def AlC (c:Int) (b:Bool):Prop :=
 (b=false∧(decide ((97:Int)≤c)=false∧decide ((65:Int)≤c)=false∧decide ((48:Int)≤c)=false)) ∨
 (b=true∧(decide ((97:Int)≤c)=false∧decide ((65:Int)≤c)=false∧decide ((48:Int)≤c)=true∧decide (c≤57)=true)) ∨
 (b=false∧(decide ((97:Int)≤c)=false∧decide ((65:Int)≤c)=false∧decide ((48:Int)≤c)=true∧decide (c≤57)=false)) ∨
 (b=true∧(decide ((97:Int)≤c)=false∧decide ((65:Int)≤c)=true∧decide (c≤90)=true)) ∨
 (b=false∧(decide ((97:Int)≤c)=false∧decide ((65:Int)≤c)=true∧decide (c≤90)=false∧decide ((48:Int)≤c)=true∧decide (c≤57)=false)) ∨
 (b=true∧(decide ((97:Int)≤c)=true∧decide (c≤122)=true)) ∨
 (b=false∧(decide ((97:Int)≤c)=true∧decide (c≤122)=false∧decide ((65:Int)≤c)=true∧decide (c≤90)=false∧decide ((48:Int)≤c)=true∧decide (c≤57)=false))
theorem al_cases (c:Nat):AlC (c:Int) (alB c):=by
 unfold AlC alB
 simp only [decide_eq_true_eq,decide_eq_false_iff_not,Bool.or_eq_true,Bool.and_eq_true,Bool.or_eq_false_iff,Bool.and_eq_false_iff]
 omega
end Go.Proofs.YthbofilcnpdghaaGreatDoor
end
