/-
The program's Host: a colon; brackets.
-/
import Derived.Test.YthbofilcnpdghaaGreatDoorZau
import Derived.Test.YthbofilcnpdghaaGreatDoorZaq
import Derived.Test.YthbofilcnpdghaaGreatDoorZap
import Derived.Test.YthbofilcnpdghaaGreatDoorZao
import Derived.Test.YthbofilcnpdghaaGreatDoorZas
import Derived.Test.YthbofilcnpdghaaGreatDoorZak
set_option maxRecDepth 100000
set_option maxHeartbeats 8000000
set_option linter.unusedVariables false
set_option linter.unusedSimpArgs false
section
namespace Go.Proofs.YthbofilcnpdghaaGreatDoor
open Go.RowKit
theorem uHost_at (l:List UInt8) (hs:l.length≤140737488355328) (h91:l.head?≠some 91) (n:Nat) (hz:Lib.indexByte l 58=(n:Int)) (hlt:n<l.length) (hk:l[n]?=some 58) (hno:∀ j,j<n→l[j]?≠some 58) (w:World) (hE:ErrR w) :
  Calls Tryz.prog 85 #[.string (str l)] w (Gives (hostV (hostL l)) w):=by
 have HE:=Hy hE
 clear hE
 have P1:=Hy (fun w=>HasPrefix_c l [91] false (pre_no h91) w)
 have P2:=Hy (fun w=>IndexByteS_c l 58 (n:Int) hz w)
 have hg:l[n]=58:=(List.getElem?_eq_some_iff.1 hk).2
 have hh:=host_pl h91 n (by omega) (fun _=>hg) (fun hm=>by
  obtain ⟨j,hj,hj2⟩:=List.getElem_of_mem hm
  have hj3:j<n:=by rw [List.length_take] at hj;omega
  refine hno j hj3 ?_
  rw [List.getElem_take] at hj2
  rw [List.getElem?_eq_getElem (by omega),hj2])
 rw [List.drop_eq_getElem_cons hlt,hg,port_hd] at hh
 rw [hh]
 obtain ⟨q,hq⟩:∃ q,q=l.drop (n+1):=⟨_,rfl⟩
 have hql:q.length=l.length-(n+1):=by rw [hq,List.length_drop]
 have P5:=fun w hE=>Decimal_c q (by omega) w hE
 obtain ⟨v,hv⟩:∃ v,v=(numL 10 1000000000000000000 q).1:=⟨_,rfl⟩
 obtain ⟨e,he⟩:∃ e,e=(numL 10 1000000000000000000 q).2:=⟨_,rfl⟩
 rw [← hq,← hv,← he]
 rw [← hv,← he] at P5
 have P5:=Hy P5
 clear hv he
 have P4:=fun w=>CutPrefix_y q w
 obtain ⟨R,hR⟩:∃ R,R=58::q:=⟨_,rfl⟩
 have hre:str (l.drop n)=str R:=by rw [List.drop_eq_getElem_cons hlt,hg,hR,hq]
 have r1:(str R).toList.isEmpty=false:=by rw [Lib.toList_data,hR];rfl
 have r2:R.isEmpty=false:=by rw [hR];rfl
 have r3:¬ R=[]:=by rw [hR];simp
 rw [← hR] at P4
 have P4:=Hy P4
 have P3:=fun w=>all_plain (l.take n) (by rw [List.length_take];omega) w
 have P6:=fun w=>Lower_c (l.take n) (by unfold maxLen;rw [List.length_take];omega) w
 obtain ⟨A,hA⟩:∃ A,A=l.take n:=⟨_,rfl⟩
 have hae:str (l.take n)=str A:=by rw [hA]
 rw [← hA]
 rw [← hA] at P3 P6
 have P6:=Hy P6
 have n1:(n:Int)≤(l.length:Int):=by omega
 have n2:(0:Int)≤(n:Int):=by omega
 have n3:decide ((n:Int)<0)=false:=by rw [decide_eq_false_iff_not];omega
 clear h91 hh hno hk hg hz hq hR hA
 by_cases g1:1≤n
 ·have d1:decide ((n:Int)<1)=false:=by rw [decide_eq_false_iff_not];omega
  by_cases g2:n≤255
  ·have d2:decide ((255:Int)<(n:Int))=false:=by rw [decide_eq_false_iff_not];omega
   by_cases g3:A.all plnB=true
   ·rw [g3] at P3
    rw [if_pos ⟨⟨g1,g2⟩,g3⟩]
    have P3:=Hy P3
    clear g3
    by_cases c2:e=0
    ·subst c2
     by_cases c3:q.length≤5
     ·have t3:decide ((5:Int)<(q.length:Int))=false:=by rw [decide_eq_false_iff_not];omega
      by_cases c4:v≤65535
      ·have t4:decide ((65535:Int)<v)=false:=by rw [decide_eq_false_iff_not];omega
       rw [if_pos ⟨rfl,rfl,c3,c4⟩]
       go_enter Tryz.func85,Tryz.ntmps85
       go_wp2_with (first
        | (go_at_call 111;refine (P1.out _).mono ?_;rintro e w1 ⟨rfl,rfl⟩)
        | (go_at_call 109;refine (P2.out _).mono ?_;rintro e w1 ⟨rfl,rfl⟩))
       go_quiet (fail)
       go_wp2_with (first
        | (go_at_call 87;refine (P3.out _).mono ?_;rintro e w1 ⟨rfl,rfl⟩)
        | (go_at_call 83;refine (P4.out _).mono ?_;rintro e w1 ⟨rfl,rfl⟩)
        | (go_at_call 57;refine (P5.out _ (HE.out.ext Xq)).mono ?_;rintro e w1 ⟨rfl,hx1⟩)
        | (go_at_call 89;refine (P6.out _).mono ?_;rintro e w2 ⟨rfl,hx2⟩))
       go_ret3
       exact ⟨rfl,Xq⟩
      ·have t4:decide ((65535:Int)<v)=true:=by rw [decide_eq_true_eq];omega
       rw [if_neg (fun h=>c4 h.2.2.2)]
       go_enter Tryz.func85,Tryz.ntmps85
       go_wp2_with (first
        | (go_at_call 111;refine (P1.out _).mono ?_;rintro e w1 ⟨rfl,rfl⟩)
        | (go_at_call 109;refine (P2.out _).mono ?_;rintro e w1 ⟨rfl,rfl⟩))
       go_quiet (fail)
       go_wp2_with (first
        | (go_at_call 87;refine (P3.out _).mono ?_;rintro e w1 ⟨rfl,rfl⟩)
        | (go_at_call 83;refine (P4.out _).mono ?_;rintro e w1 ⟨rfl,rfl⟩)
        | (go_at_call 57;refine (P5.out _ (HE.out.ext Xq)).mono ?_;rintro e w1 ⟨rfl,hx1⟩)
        | (go_at_call 89;refine (P6.out _).mono ?_;rintro e w2 ⟨rfl,hx2⟩))
       go_ret3
       exact ⟨rfl,Xq⟩
     ·have t3:decide ((5:Int)<(q.length:Int))=true:=by rw [decide_eq_true_eq];omega
      rw [if_neg (fun h=>c3 h.2.2.1)]
      go_enter Tryz.func85,Tryz.ntmps85
      go_wp2_with (first
       | (go_at_call 111;refine (P1.out _).mono ?_;rintro e w1 ⟨rfl,rfl⟩)
       | (go_at_call 109;refine (P2.out _).mono ?_;rintro e w1 ⟨rfl,rfl⟩))
      go_quiet (fail)
      go_wp2_with (first
       | (go_at_call 87;refine (P3.out _).mono ?_;rintro e w1 ⟨rfl,rfl⟩)
       | (go_at_call 83;refine (P4.out _).mono ?_;rintro e w1 ⟨rfl,rfl⟩)
       | (go_at_call 57;refine (P5.out _ (HE.out.ext Xq)).mono ?_;rintro e w1 ⟨rfl,hx1⟩)
       | (go_at_call 89;refine (P6.out _).mono ?_;rintro e w2 ⟨rfl,hx2⟩))
      go_ret3
      exact ⟨rfl,Xq⟩
    ·have t2:(e != 0)=true:=by rw [bne_iff_ne];exact c2
     rw [if_neg (fun h=>c2 h.2.1)]
     clear c2
     go_enter Tryz.func85,Tryz.ntmps85
     go_wp2_with (first
      | (go_at_call 111;refine (P1.out _).mono ?_;rintro e w1 ⟨rfl,rfl⟩)
      | (go_at_call 109;refine (P2.out _).mono ?_;rintro e w1 ⟨rfl,rfl⟩))
     go_quiet (fail)
     go_wp2_with (first
      | (go_at_call 87;refine (P3.out _).mono ?_;rintro e w1 ⟨rfl,rfl⟩)
      | (go_at_call 83;refine (P4.out _).mono ?_;rintro e w1 ⟨rfl,rfl⟩)
      | (go_at_call 57;refine (P5.out _ (HE.out.ext Xq)).mono ?_;rintro e w1 ⟨rfl,hx1⟩)
      | (go_at_call 89;refine (P6.out _).mono ?_;rintro e w2 ⟨rfl,hx2⟩))
     go_ret3
     exact ⟨rfl,Xq⟩
   ·rw [show A.all plnB=false by simpa using g3] at P3
    rw [if_neg (fun h=>g3 h.2)]
    have P3:=Hy P3
    clear g3
    go_enter Tryz.func85,Tryz.ntmps85
    go_wp2_with (first
     | (go_at_call 111;refine (P1.out _).mono ?_;rintro e w1 ⟨rfl,rfl⟩)
     | (go_at_call 109;refine (P2.out _).mono ?_;rintro e w1 ⟨rfl,rfl⟩))
    go_quiet (fail)
    go_wp2_with (first
     | (go_at_call 87;refine (P3.out _).mono ?_;rintro e w1 ⟨rfl,rfl⟩)
     | (go_at_call 83;refine (P4.out _).mono ?_;rintro e w1 ⟨rfl,rfl⟩)
     | (go_at_call 57;refine (P5.out _ (HE.out.ext Xq)).mono ?_;rintro e w1 ⟨rfl,hx1⟩)
     | (go_at_call 89;refine (P6.out _).mono ?_;rintro e w2 ⟨rfl,hx2⟩))
    go_ret3
    exact ⟨rfl,Xq⟩
  ·have d2:decide ((255:Int)<(n:Int))=true:=by rw [decide_eq_true_eq];omega
   rw [if_neg (fun h=>g2 h.1.2)]
   go_enter Tryz.func85,Tryz.ntmps85
   go_wp2_with (first
    | (go_at_call 111;refine (P1.out _).mono ?_;rintro e w1 ⟨rfl,rfl⟩)
    | (go_at_call 109;refine (P2.out _).mono ?_;rintro e w1 ⟨rfl,rfl⟩))
   go_quiet (fail)
   go_wp2_with (first
    | (go_at_call 87;refine (P3.out _).mono ?_;rintro e w1 ⟨rfl,rfl⟩)
    | (go_at_call 83;refine (P4.out _).mono ?_;rintro e w1 ⟨rfl,rfl⟩)
    | (go_at_call 57;refine (P5.out _ (HE.out.ext Xq)).mono ?_;rintro e w1 ⟨rfl,hx1⟩)
    | (go_at_call 89;refine (P6.out _).mono ?_;rintro e w2 ⟨rfl,hx2⟩))
   go_ret3
   exact ⟨rfl,Xq⟩
 ·have d1:decide ((n:Int)<1)=true:=by rw [decide_eq_true_eq];omega
  rw [if_neg (fun h=>g1 h.1.1)]
  go_enter Tryz.func85,Tryz.ntmps85
  go_wp2_with (first
   | (go_at_call 111;refine (P1.out _).mono ?_;rintro e w1 ⟨rfl,rfl⟩)
   | (go_at_call 109;refine (P2.out _).mono ?_;rintro e w1 ⟨rfl,rfl⟩))
  go_quiet (fail)
  go_wp2_with (first
   | (go_at_call 87;refine (P3.out _).mono ?_;rintro e w1 ⟨rfl,rfl⟩)
   | (go_at_call 83;refine (P4.out _).mono ?_;rintro e w1 ⟨rfl,rfl⟩)
   | (go_at_call 57;refine (P5.out _ (HE.out.ext Xq)).mono ?_;rintro e w1 ⟨rfl,hx1⟩)
   | (go_at_call 89;refine (P6.out _).mono ?_;rintro e w2 ⟨rfl,hx2⟩))
  go_ret3
  exact ⟨rfl,Xq⟩
theorem host_br (a r:List UInt8) (h91:(a++93::r).head?=some 91) (hna:93∉a) :
  1≤a.length∧hostL (a++93::r)=if (3≤a.length∧a.length≤61)∧a.tail.all adrB=true then portL (a++[93]) r else ([],0,40):=by
 have h1:1≤a.length:=by
  cases a with
  | nil=>exact absurd (Option.some.inj h91) (by decide)
  | cons b a=>simp
 refine ⟨h1,?_⟩
 have hn:=name_br h91 a.length (by simp) h1 (by simp) (fun j hj e=>hna (by rw [List.getElem_append_left hj] at e;rw [← e];exact List.getElem_mem hj))
 rw [List.take_left] at hn
 unfold hostL
 rw [hn]
 by_cases hc:(3≤a.length∧a.length≤61)∧a.tail.all adrB=true
 ·rw [if_pos hc,if_pos hc,if_neg (by omega)]
  congr 1
  ·rw [List.take_append];simp [List.take_of_length_le]
  ·rw [List.drop_append];simp [List.drop_eq_nil_of_le]
 ·rw [if_neg hc,if_neg hc,if_pos rfl]
theorem port_no (h r:List UInt8) (h1:¬ r=[]) (h2:¬ r.head?=some 58):portL h r=([],0,40):=by
 unfold portL
 rw [if_neg h1,if_neg (fun h=>h2 h.1)]
theorem uHost_bn (l:List UInt8) (h91:l.head?=some 91) (h93:93∉l) (w:World) :
  Calls Tryz.prog 85 #[.string (str l)] w (Gives (hostV (hostL l)) w):=by
 have P1:=Hy (fun w=>HasPrefix_c l [91] true (pre_yes h91) w)
 have P2:=Hy (fun w=>Cut_no l 93 h93 w)
 have hh:hostL l=([],0,40):=by unfold hostL;rw [name_br0 h91 h93,if_pos rfl]
 rw [hh]
 clear h91 h93 hh
 go_enter Tryz.func85,Tryz.ntmps85
 go_wp2_with (first
  | (go_at_call 111;refine (P1.out _).mono ?_;rintro e w1 ⟨rfl,rfl⟩)
  | (go_at_call 78;refine (P2.out _).mono ?_;rintro e w1 ⟨rfl,rfl⟩))
 go_ret3
 exact ⟨rfl,Xq⟩
theorem uHost_br (a r:List UInt8) (hs:(a++93::r).length≤140737488355328) (h91:(a++93::r).head?=some 91) (hna:93∉a) (w:World) (hE:ErrR w) :
  Calls Tryz.prog 85 #[.string (str (a++93::r))] w (Gives (hostV (hostL (a++93::r))) w):=by
 have HE:=Hy hE
 clear hE
 rw [List.length_append,List.length_cons] at hs
 have P1:=fun w=>HasPrefix_c (a++93::r) [91] true (pre_yes h91) w
 have P2:=fun w=>Cut_at a r 93 hna (by unfold maxLen;omega) w
 obtain ⟨h1,hh⟩:=host_br a r h91 hna
 rw [hh]
 clear hh h91 hna
 obtain ⟨s,hs2⟩:∃ s,s=str (a++93::r):=⟨_,rfl⟩
 rw [← hs2] at P1 P2 ⊢
 have P1:=Hy P1
 clear hs2
 have P3:=fun w=>all_addr a.tail (by rw [List.length_tail];omega) w
 obtain ⟨T,hT⟩:∃ T,T=a.tail:=⟨_,rfl⟩
 have f1:str a.tail=str T:=by rw [hT]
 have f2:str (a.drop 1)=str T:=by rw [hT,List.drop_one]
 rw [← hT] at P3 ⊢
 clear hT
 have P6:=fun w=>Lower_c (a++[93]) (by unfold maxLen;rw [List.length_append];show _+1≤_;omega) w
 obtain ⟨s1,hs1⟩:∃ s1,s1=str (a++[93]):=⟨_,rfl⟩
 have cc1:∀ w,(Op.stringOp .add (str a) ⟨#[93]⟩).run Tryz.prog w=.ok (.string s1) w:=fun w=>by
  rw [hs1,cat_ok _ _ (by rw [str_size];show _+1≤_;omega)];simp
 rw [← hs1] at P6
 clear hs1
 obtain ⟨A,hA⟩:∃ A,A=a++[93]:=⟨_,rfl⟩
 rw [← hA] at P6 ⊢
 clear hA
 have P6:=Hy P6
 have n1:(1:Int)≤(a.length:Int):=by omega
 by_cases g1:3≤a.length
 ·have d1:decide ((a.length:Int)<3)=false:=by rw [decide_eq_false_iff_not];omega
  by_cases g2:a.length≤61
  ·have d2:decide ((61:Int)<(a.length:Int))=false:=by rw [decide_eq_false_iff_not];omega
   by_cases g3:T.all adrB=true
   ·rw [g3] at P3
    rw [if_pos ⟨⟨g1,g2⟩,g3⟩]
    have P3:=Hy P3
    clear g3
    by_cases r0:r=[]
    ·subst r0
     rw [show str ([]:List UInt8)=⟨#[]⟩ from rfl] at P2
     have P2:=Hy P2
     rw [port_nil]
     go_enter Tryz.func85,Tryz.ntmps85
     go_wp2_with (first
      | (go_at_call 111;refine (P1.out _).mono ?_;rintro e w1 ⟨rfl,rfl⟩)
      | (go_at_call 78;refine (P2.out _).mono ?_;rintro e w1 ⟨rfl,nq1,rfl⟩)
      | (go_at_call 87;refine (P3.out _).mono ?_;rintro e w1 ⟨rfl,rfl⟩)
      | (go_at_call 83;refine (P4.out _).mono ?_;rintro e w1 ⟨rfl,rfl⟩)
      | (go_at_call 57;refine (P5.out _ (HE.out.ext Xq)).mono ?_;rintro e w1 ⟨rfl,hx1⟩)
      | (go_at_call 89;refine (P6.out _).mono ?_;rintro e w2 ⟨rfl,hx2⟩))
     go_ret3
     exact ⟨rfl,Xq⟩
    ·have r2:r.isEmpty=false:=by rw [List.isEmpty_eq_false_iff];exact r0
     have r1:(str r).toList.isEmpty=false:=by rw [Lib.toList_data];exact r2
     have P2:=Hy P2
     by_cases hc:r.head?=some 58
     ·obtain ⟨q,hq⟩:∃ q,r=58::q:=by
       cases r with
       | nil=>cases hc
       | cons b q=>exact ⟨q,by rw [Option.some.inj hc]⟩
      have hql:q.length+1=r.length:=by rw [hq];rfl
      have P5:=fun w hE=>Decimal_c q (by omega) w hE
      have hp:=port_hd A 58 q
      rw [← hq] at hp
      rw [hp]
      clear hp
      obtain ⟨v,hv⟩:∃ v,v=(numL 10 1000000000000000000 q).1:=⟨_,rfl⟩
      obtain ⟨e,he⟩:∃ e,e=(numL 10 1000000000000000000 q).2:=⟨_,rfl⟩
      rw [← hv,← he]
      rw [← hv,← he] at P5
      have P5:=Hy P5
      clear hv he
      have P4:=fun w=>CutPrefix_y q w
      rw [← hq] at P4
      have P4:=Hy P4
      clear hq hc
      by_cases c2:e=0
      ·subst c2
       by_cases c3:q.length≤5
       ·have t3:decide ((5:Int)<(q.length:Int))=false:=by rw [decide_eq_false_iff_not];omega
        by_cases c4:v≤65535
        ·have t4:decide ((65535:Int)<v)=false:=by rw [decide_eq_false_iff_not];omega
         rw [if_pos ⟨rfl,rfl,c3,c4⟩]
         go_enter Tryz.func85,Tryz.ntmps85
         go_wp2_with (first
          | (go_at_call 111;refine (P1.out _).mono ?_;rintro e w1 ⟨rfl,rfl⟩)
          | (go_at_call 78;refine (P2.out _).mono ?_;rintro e w1 ⟨rfl,nq1,rfl⟩)
          | (go_at_call 87;refine (P3.out _).mono ?_;rintro e w1 ⟨rfl,rfl⟩)
          | (go_at_call 83;refine (P4.out _).mono ?_;rintro e w1 ⟨rfl,rfl⟩)
          | (go_at_call 57;refine (P5.out _ (HE.out.ext Xq)).mono ?_;rintro e w1 ⟨rfl,hx1⟩)
          | (go_at_call 89;refine (P6.out _).mono ?_;rintro e w2 ⟨rfl,hx2⟩))
         go_ret3
         exact ⟨rfl,Xq⟩
        ·have t4:decide ((65535:Int)<v)=true:=by rw [decide_eq_true_eq];omega
         rw [if_neg (fun h=>c4 h.2.2.2)]
         go_enter Tryz.func85,Tryz.ntmps85
         go_wp2_with (first
          | (go_at_call 111;refine (P1.out _).mono ?_;rintro e w1 ⟨rfl,rfl⟩)
          | (go_at_call 78;refine (P2.out _).mono ?_;rintro e w1 ⟨rfl,nq1,rfl⟩)
          | (go_at_call 87;refine (P3.out _).mono ?_;rintro e w1 ⟨rfl,rfl⟩)
          | (go_at_call 83;refine (P4.out _).mono ?_;rintro e w1 ⟨rfl,rfl⟩)
          | (go_at_call 57;refine (P5.out _ (HE.out.ext Xq)).mono ?_;rintro e w1 ⟨rfl,hx1⟩)
          | (go_at_call 89;refine (P6.out _).mono ?_;rintro e w2 ⟨rfl,hx2⟩))
         go_ret3
         exact ⟨rfl,Xq⟩
       ·have t3:decide ((5:Int)<(q.length:Int))=true:=by rw [decide_eq_true_eq];omega
        rw [if_neg (fun h=>c3 h.2.2.1)]
        go_enter Tryz.func85,Tryz.ntmps85
        go_wp2_with (first
         | (go_at_call 111;refine (P1.out _).mono ?_;rintro e w1 ⟨rfl,rfl⟩)
         | (go_at_call 78;refine (P2.out _).mono ?_;rintro e w1 ⟨rfl,nq1,rfl⟩)
         | (go_at_call 87;refine (P3.out _).mono ?_;rintro e w1 ⟨rfl,rfl⟩)
         | (go_at_call 83;refine (P4.out _).mono ?_;rintro e w1 ⟨rfl,rfl⟩)
         | (go_at_call 57;refine (P5.out _ (HE.out.ext Xq)).mono ?_;rintro e w1 ⟨rfl,hx1⟩)
         | (go_at_call 89;refine (P6.out _).mono ?_;rintro e w2 ⟨rfl,hx2⟩))
        go_ret3
        exact ⟨rfl,Xq⟩
      ·have t2:(e != 0)=true:=by rw [bne_iff_ne];exact c2
       rw [if_neg (fun h=>c2 h.2.1)]
       clear c2
       go_enter Tryz.func85,Tryz.ntmps85
       go_wp2_with (first
        | (go_at_call 111;refine (P1.out _).mono ?_;rintro e w1 ⟨rfl,rfl⟩)
        | (go_at_call 78;refine (P2.out _).mono ?_;rintro e w1 ⟨rfl,nq1,rfl⟩)
        | (go_at_call 87;refine (P3.out _).mono ?_;rintro e w1 ⟨rfl,rfl⟩)
        | (go_at_call 83;refine (P4.out _).mono ?_;rintro e w1 ⟨rfl,rfl⟩)
        | (go_at_call 57;refine (P5.out _ (HE.out.ext Xq)).mono ?_;rintro e w1 ⟨rfl,hx1⟩)
        | (go_at_call 89;refine (P6.out _).mono ?_;rintro e w2 ⟨rfl,hx2⟩))
       go_ret3
       exact ⟨rfl,Xq⟩
     ·rw [port_no A r r0 hc]
      have P4:=Hy (fun w=>CutPrefix_n r hc w)
      have P5:=Hy (fun w hE=>Decimal_c r (by omega) w hE)
      clear hc
      go_enter Tryz.func85,Tryz.ntmps85
      go_wp2_with (first
       | (go_at_call 111;refine (P1.out _).mono ?_;rintro e w1 ⟨rfl,rfl⟩)
       | (go_at_call 78;refine (P2.out _).mono ?_;rintro e w1 ⟨rfl,nq1,rfl⟩)
       | (go_at_call 87;refine (P3.out _).mono ?_;rintro e w1 ⟨rfl,rfl⟩)
       | (go_at_call 83;refine (P4.out _).mono ?_;rintro e w1 ⟨rfl,rfl⟩)
       | (go_at_call 57;refine (P5.out _ (HE.out.ext Xq)).mono ?_;rintro e w1 ⟨rfl,hx1⟩)
       | (go_at_call 89;refine (P6.out _).mono ?_;rintro e w2 ⟨rfl,hx2⟩))
      go_ret3
      exact ⟨rfl,Xq⟩
   ·have P2:=Hy P2
    rw [show T.all adrB=false by simpa using g3] at P3
    rw [if_neg (fun h=>g3 h.2)]
    have P3:=Hy P3
    clear g3
    go_enter Tryz.func85,Tryz.ntmps85
    go_wp2_with (first
     | (go_at_call 111;refine (P1.out _).mono ?_;rintro e w1 ⟨rfl,rfl⟩)
     | (go_at_call 78;refine (P2.out _).mono ?_;rintro e w1 ⟨rfl,nq1,rfl⟩)
     | (go_at_call 87;refine (P3.out _).mono ?_;rintro e w1 ⟨rfl,rfl⟩)
     | (go_at_call 83;refine (P4.out _).mono ?_;rintro e w1 ⟨rfl,rfl⟩)
     | (go_at_call 57;refine (P5.out _ (HE.out.ext Xq)).mono ?_;rintro e w1 ⟨rfl,hx1⟩)
     | (go_at_call 89;refine (P6.out _).mono ?_;rintro e w2 ⟨rfl,hx2⟩))
    go_ret3
    exact ⟨rfl,Xq⟩
  ·have d2:decide ((61:Int)<(a.length:Int))=true:=by rw [decide_eq_true_eq];omega
   have P2:=Hy P2
   rw [if_neg (fun h=>g2 h.1.2)]
   go_enter Tryz.func85,Tryz.ntmps85
   go_wp2_with (first
    | (go_at_call 111;refine (P1.out _).mono ?_;rintro e w1 ⟨rfl,rfl⟩)
    | (go_at_call 78;refine (P2.out _).mono ?_;rintro e w1 ⟨rfl,nq1,rfl⟩)
    | (go_at_call 87;refine (P3.out _).mono ?_;rintro e w1 ⟨rfl,rfl⟩)
    | (go_at_call 83;refine (P4.out _).mono ?_;rintro e w1 ⟨rfl,rfl⟩)
    | (go_at_call 57;refine (P5.out _ (HE.out.ext Xq)).mono ?_;rintro e w1 ⟨rfl,hx1⟩)
    | (go_at_call 89;refine (P6.out _).mono ?_;rintro e w2 ⟨rfl,hx2⟩))
   go_ret3
   exact ⟨rfl,Xq⟩
 ·have d1:decide ((a.length:Int)<3)=true:=by rw [decide_eq_true_eq];omega
  have P2:=Hy P2
  rw [if_neg (fun h=>g1 h.1.1)]
  go_enter Tryz.func85,Tryz.ntmps85
  go_wp2_with (first
   | (go_at_call 111;refine (P1.out _).mono ?_;rintro e w1 ⟨rfl,rfl⟩)
   | (go_at_call 78;refine (P2.out _).mono ?_;rintro e w1 ⟨rfl,nq1,rfl⟩)
   | (go_at_call 87;refine (P3.out _).mono ?_;rintro e w1 ⟨rfl,rfl⟩)
   | (go_at_call 83;refine (P4.out _).mono ?_;rintro e w1 ⟨rfl,rfl⟩)
   | (go_at_call 57;refine (P5.out _ (HE.out.ext Xq)).mono ?_;rintro e w1 ⟨rfl,hx1⟩)
   | (go_at_call 89;refine (P6.out _).mono ?_;rintro e w2 ⟨rfl,hx2⟩))
  go_ret3
  exact ⟨rfl,Xq⟩
theorem uHost_c (l:List UInt8) (hs:l.length≤140737488355328) (w:World) (hE:ErrR w) :
  Calls Tryz.prog 85 #[.string (str l)] w (Gives (hostV (hostL l)) w):=by
 by_cases h91:l.head?=some 91
 ·rcases cut_cases l 93 with hno | ⟨a,r,rfl,hna⟩
  ·exact uHost_bn l h91 hno w
  ·exact uHost_br a r hs h91 hna w hE
 ·rcases idx_cases l 58 with ⟨_,h⟩ | ⟨n,h1,h2,h3,h4⟩
  ·exact uHost_no l hs h91 h w hE
  ·exact uHost_at l hs h91 n h1 h2 h3 h4 w hE
abbrev Rq24:=List UInt8 × List UInt8 × Int × List Fld
structure Ask24 where
 id:Nat
 r:Rq24
 lasting:Bool
 ans:Option (List UInt8)
inductive Th24 where
 | ask (a:Ask24)
 | ref (st:Int)
def Th24.waits:Th24→Bool
 | .ask a=>a.ans.isNone
 | .ref _=>false
structure Ev24 where
 id:Nat
 r:Rq24
 body:List UInt8
structure Cst where
 most:Nat
 reads:Bool
 begun:Bool
 inBody:Bool
 hp:Pst
 rd:Option Rst
 line:Nat
 r:Rq24
 got:List UInt8
 evs:List Ev24
 row:List Th24
 number:Nat
 out:List UInt8
def newC (most:Nat):Cst:=⟨most,true,false,false,newP false,none,0,([],[],0,[]),[],[],[],0,[]⟩
def cnN:List UInt8:=[67,111,110,110,101,99,116,105,111,110]
def hostN:List UInt8:=[72,111,115,116]
def expN:List UInt8:=[69,120,112,101,99,116]
def ctN:List UInt8:=[67,111,110,116,101,110,116,45,84,121,112,101]
def tpW:List UInt8:=[116,101,120,116,47,112,108,97,105,110]
def headM:List UInt8:=[72,69,65,68]
def kaW:List UInt8:=[107,101,101,112,45,97,108,105,118,101]
def clW:List UInt8:=[99,108,111,115,101]
def contW:List UInt8:=[49,48,48,45,99,111,110,116,105,110,117,101]
def saysC (fs:List Fld) (nm word:List UInt8):Bool:=(valsH fs nm).any fun v=>(toksL v).1.contains word
def lastingC (r:Rq24):Bool:=if r.2.2.1=0 then saysC r.2.2.2 cnN kaW else !(saysC r.2.2.2 cnN clW)
def hostedC (r:Rq24):Bool:=match valsH r.2.2.2 hostN with
 | [v]=>v.isEmpty || decide ((hostL v).2.2=0)
 | _=>false
def lineC (n:Nat) (b:List UInt8):Nat:=b.foldl (fun n x=>if x≠13∧x≠10∧n=0 then 1 else if x=10∧n=1 then 2 else n) n
def looksC (s:Cst) (b:List UInt8):Cst:={ s with line:=lineC s.line b,begun:=s.begun || decide (0<lineC s.line b) }
abbrev Sp24:=Cst × Option Int × List UInt8
def wholeC (s0:Cst):Cst × Option Int :=
 let r:=askP s0.hp
 let s:={ s0 with r:=r,got:=[],hp:=newP false,line:=0 }
 if (tgtL r.1 r.2.1).2≠0∨(0<r.2.2.1∧hostedC r=false) then (s,some 400) else
 let n:=reqV r.2.2.1 r.2.2.2
 if n.2.2=6 then (s,some 413) else if n.2.2=46 then (s,some 501) else if n.2.2≠0 then (s,some 400) else
 let e:=valsH r.2.2.2 expN
 let expects:=decide (e≠[]) && decide (0<r.2.2.1)
 if expects=true∧lowL (e.headD [])≠lowL contW then (s,some 417)
 else if n.1=1∧(s.most:Int)<n.2.1 then (s,some 413)
 else ({ s with out:=if expects=true∧s.row=[]∧(0<n.2.1∨n.1=2) then s.out++(rsW 100 []).1 else s.out,rd:=some (newF n.1.toNat n.2.1.toNat s.most),inBody:=true },none)
def headsC (s:Cst) (b:List UInt8):Sp24 :=
 let q:=feedP s.hp b
 let s1:=looksC { s with hp:=q.1 } (b.take q.2.1)
 if q.2.2.2=44 then (s1,some (if s1.line=2 then 431 else 414),b.drop q.2.1)
 else if q.2.2.2≠0 then (s1,some 400,b.drop q.2.1)
 else if q.2.2.1=true then ((wholeC s1).1,(wholeC s1).2,b.drop q.2.1)
 else (s1,none,b.drop q.2.1)
def requestC (s:Cst):Cst × Option Int :=
 let l:=lastingC s.r
 let s1:={ s with evs:=s.evs++[⟨s.number,s.r,s.got⟩],row:=s.row++[.ask ⟨s.number,s.r,l,none⟩],number:=s.number+1,inBody:=false,begun:=false,reads:=l }
 (s1,if l=true∧s1.row.length=64 then some 503 else none)
def bodiesC (s:Cst) (b:List UInt8):Sp24:=match s.rd with
 | none=>(s,none,b)
 | some rd =>
  let q:=feedF rd b
  let s1:={ s with rd:=some q.1,got:=s.got++q.2.2.1 }
  if q.2.2.2.2=6 then (s1,some 413,b.drop q.2.1)
  else if q.2.2.2.2≠0 then (s1,some 400,b.drop q.2.1)
  else if q.2.2.2.1=true then ((requestC s1).1,(requestC s1).2,b.drop q.2.1)
  else (s1,none,b.drop q.2.1)
def nextC (s:Cst) (b:List UInt8):Sp24:=if s.inBody=true then bodiesC s b else headsC s b
def endC (q:Sp24):Cst × List UInt8:=match q.2.1 with
 | none=>(q.1,q.2.2)
 | some st=>({ q.1 with row:=q.1.row++[.ref st],reads:=false },[])
def readC (s:Cst) (b:List UInt8):Cst × List UInt8 :=
 let q:=nextC s b
 if q.2.1=none∧s.inBody=false∧q.1.inBody=true then endC (nextC q.1 q.2.2) else endC q
def readsC:Nat→Cst→List UInt8→Cst
 | 0,s,_=>s
 | n+1,s,b=>if s.reads=true∧b≠[] then readsC n (readC s b).1 (readC s b).2 else s
def bodyR (st:Int):List UInt8:=reaL st++[10]
def refusedC (st:Int):List UInt8:=(rsW st [(ctN,tpW),(clN,Lib.itoa (bodyR st).length),(cnN,clW)]).1++bodyR st
def fieldsC (a:Ask24) (only:Bool) (x:List UInt8):List Fld :=
 (if a.r.1=headM then [] else [(clN,Lib.itoa x.length)])++(if a.lasting=false∨only=true then [(cnN,clW)] else if a.r.2.2.1=0 then [(cnN,kaW)] else [])
def writtenC (a:Ask24) (only:Bool) (x:List UInt8):List UInt8:=(rsW 200 (fieldsC a only x)).1++(if a.r.1=headM then [] else x)
def writesC (reads:Bool):List Th24→List UInt8 × List Th24
 | []=>([],[])
 | .ref st::t=>let q:=writesC reads t;(refusedC st++q.1,q.2)
 | .ask a::t=>match a.ans with
  | none=>([],.ask a::t)
  | some x=>let q:=writesC reads t;(writtenC a (decide (t=[]) && !reads) x++q.1,q.2)
def writeC (s:Cst):Cst:={ s with out:=s.out++(writesC s.reads s.row).1,row:=(writesC s.reads s.row).2 }
def inputC (s:Cst) (b:List UInt8):Cst × List Ev24:=let s1:=writeC (readsC b.length s b);({ s1 with evs:=[] },s1.evs)
def tellC (id:Nat) (x:List UInt8):List Th24→Option (List Th24)
 | []=>none
 | .ref st::t=>(tellC id x t).map (.ref st::·)
 | .ask a::t=>if a.id=id∧a.ans=none then some (.ask { a with ans:=some x }::t) else (tellC id x t).map (.ask a::·)
def answerC (s:Cst) (id:Nat) (x:List UInt8):Cst × Int:=match tellC id x s.row with
 | none=>(s,3)
 | some l=>(writeC { s with row:=l },0)
def waitC (l:List Th24):Nat:=(l.filter fun t=>match t with | .ask _=>true | .ref _=>false).length
def closedC (s:Cst):Bool:=!s.reads && s.row.isEmpty
def KC (k:Nat):Nat→Prop:=fun i=>k≤i % 100∧i % 100<k+20
def KA (k id:Nat):Nat:=100*(id+1)+k
def EvAt (w:World) (o:Ow) (e:Ev24) (us:List Value):Prop:=∃ A ca B cb,us=[.int .i64 (e.id:Int),.string (str e.r.1),.string (str e.r.2.1),.int .i64 e.r.2.2.1,.slice A e.r.2.2.2.length ca,.slice B e.body.length cb]∧Ro w o A (fc e.r.2.2.2)∧Ro w o B (bc e.body)
def EvL (w:World) (o:Ow):List Ev24→List Value→Prop
 | [],us=>us=[]
 | e::t,us=>∃ a b,us=a++b∧EvAt w o e a∧EvL w o t b
def AnsAt (w:World) (o:Ow) (Q:Option Addr):Option (List UInt8)→Prop
 | none=>Q=none
 | some x=>∃ q B cb,Q=some ⟨q,0,none⟩∧o q=0∧w.heap[q]?=some (.cells #[.int .i64 200,.slice none 0 0,.slice B x.length cb] 41 (0,0))∧Ro w o B (bc x)
def askV (a:Ask24) (A:Option Addr) (ca:Nat) (Q:Option Addr):Array Value:=#[.int .i64 (a.id:Int),.string (str a.r.1),.string (str a.r.2.1),.int .i64 a.r.2.2.1,.slice A a.r.2.2.2.length ca,.bool a.lasting,.pointer Q]
def AskAt (w:World) (o:Ow) (j p:Nat) (a:Ask24):Prop:=o p=j∧∃ A ca Q,w.heap[p]?=some (.cells (askV a A ca Q) 69 (0,0))∧Ro w o A (fc a.r.2.2.2)∧AnsAt w o Q a.ans
def ThAt (w:World) (o:Ow) (k:Nat) (t:Th24) (u:Value):Prop:=match t with
 | .ref st=>u=.iface 85 (.int .i64 st)
 | .ask a=>∃ p,u=.iface 65 (.pointer (some ⟨p,0,none⟩))∧AskAt w o (KA k a.id) p a
def ThL (w:World) (o:Ow) (k:Nat):List Th24→List Value→Prop
 | [],us=>us=[]
 | t::l,us=>∃ u us',us=u::us'∧ThAt w o k t u∧ThL w o k l us'
def RdAt (w:World) (o:Ow) (k:Nat) (R:Option Addr):Option Rst→Prop
 | none=>R=none
 | some r=>∃ p,R=some ⟨p,0,none⟩∧FsAt w o k p r
def GotAt (w:World) (o:Ow) (k:Nat) (inB:Bool) (got:List UInt8) (B:Option Addr) (n d:Nat):Prop:=inB=true→n=got.length∧Sl w o k 1 B n d (bc got)∧(B=none→d=0)
section
variable {K:Nat→Prop} {w w':World} {o o':Ow} {k:Nat}
theorem EvAt.sto {e:Ev24} {us:List Value} (h:EvAt w o e us) (s:Sto K w o w' o') (h0:¬ K 0):EvAt w' o' e us:=by
 obtain ⟨A,ca,B,cb,hu,h1,h2⟩:=h
 exact ⟨A,ca,B,cb,hu,h1.sto s h0,h2.sto s h0⟩
theorem EvL.sto (s:Sto K w o w' o') (h0:¬ K 0):∀ {l:List Ev24} {us:List Value},EvL w o l us→EvL w' o' l us
 | [],_,h=>h
 | _::_,_,⟨a,b,hu,h1,h2⟩=>⟨a,b,hu,h1.sto s h0,EvL.sto s h0 h2⟩
theorem EvL.app:∀ {l m:List Ev24} {us vs:List Value},EvL w o l us→EvL w o m vs→EvL w o (l++m) (us++vs)
 | [],_,_,_,h,k=>by rw [show _=[] from h];exact k
 | _::_,_,_,vs,⟨a,b,hu,h1,h2⟩,k=>⟨a,b++vs,by rw [hu,List.append_assoc],h1,EvL.app h2 k⟩
theorem EvL.len:∀ {l:List Ev24} {us:List Value},EvL w o l us→us.length=l.length*6
 | [],_,h=>by rw [show _=[] from h];rfl
 | e::t,us,⟨a,b,hu,⟨_,_,_,_,ha,_⟩,h2⟩=>by rw [hu,List.length_append,EvL.len h2,ha,List.length_cons (a:=e)];simp;omega
theorem EvL.at_:∀ {l:List Ev24} {us:List Value},EvL w o l us→∀ (i:Nat) (hi:i<l.length),∃ vs,EvAt w o l[i] vs∧∀ j u,vs[j]?=some u→us[i*6+j]?=some u
 | [],_,_,i,hi=>absurd hi (by simp)
 | e::t,us,⟨a,b,hu,h1,h2⟩,0,_=>⟨a,h1,fun j u hj=>by rw [hu,Nat.zero_mul,Nat.zero_add,List.getElem?_append_left (List.getElem?_eq_some_iff.1 hj).1];exact hj⟩
 | e::t,us,⟨a,b,hu,h1,h2⟩,i+1,hi=>by
  obtain ⟨vs,hv,hc⟩:=EvL.at_ h2 i (by simpa using hi)
  have hl:a.length=6:=by obtain ⟨_,_,_,_,ha,_⟩:=h1;rw [ha];rfl
  refine ⟨vs,hv,fun j u hj=>?_⟩
  rw [hu,List.getElem?_append_right (by omega),hl,show (i+1)*6+j-6=i*6+j from by omega]
  exact hc j u hj
theorem AnsAt.sto {Q:Option Addr} {x:Option (List UInt8)} (h:AnsAt w o Q x) (s:Sto K w o w' o') (h0:¬ K 0):AnsAt w' o' Q x:=by
 cases x with
 | none=>exact h
 | some x =>
  obtain ⟨q,B,cb,hq,ho,hr,hb⟩:=h
  have hk:¬ K (o q):=by rw [ho];exact h0
  exact ⟨q,B,cb,hq,(s.own q (row_lt hr) hk).trans ho,(s.keep q (row_lt hr) hk).trans hr,hb.sto s h0⟩
theorem AskAt.sto {j p:Nat} {a:Ask24} (h:AskAt w o j p a) (s:Sto K w o w' o') (h0:¬ K 0) (hj:¬ K j):AskAt w' o' j p a:=by
 obtain ⟨ho,A,ca,Q,hr,h1,h2⟩:=h
 have hk:¬ K (o p):=by rw [ho];exact hj
 exact ⟨(s.own p (row_lt hr) hk).trans ho,A,ca,Q,(s.keep p (row_lt hr) hk).trans hr,h1.sto s h0,h2.sto s h0⟩
theorem ThAt.sto {t:Th24} {u:Value} (h:ThAt w o k t u) (s:Sto K w o w' o') (h0:¬ K 0) (hj:∀ a,t=.ask a→¬ K (KA k a.id)):ThAt w' o' k t u:=by
 cases t with
 | ref st=>exact h
 | ask a =>
  obtain ⟨p,hu,ha⟩:=h
  exact ⟨p,hu,ha.sto s h0 (hj a rfl)⟩
theorem ThL.sto (s:Sto K w o w' o') (h0:¬ K 0):∀ {l:List Th24} {us:List Value},ThL w o k l us→(∀ a,Th24.ask a∈l→¬ K (KA k a.id))→ThL w' o' k l us
 | [],_,h,_=>h
 | _::_,_,⟨u,us,hu,h1,h2⟩,hj=>⟨u,us,hu,h1.sto s h0 (fun a ha=>hj a (by rw [ha];exact List.mem_cons_self)),ThL.sto s h0 h2 (fun a ha=>hj a (List.mem_cons_of_mem _ ha))⟩
theorem ThL.snoc:∀ {l:List Th24} {us:List Value} {t:Th24} {u:Value},ThL w o k l us→ThAt w o k t u→ThL w o k (l++[t]) (us++[u])
 | [],_,t,u,h,h1=>by rw [show _=[] from h];exact ⟨u,[],rfl,h1,rfl⟩
 | _::_,_,t,u,⟨x,xs,hu,h1,h2⟩,h3=>⟨x,xs++[u],by rw [hu];rfl,h1,ThL.snoc h2 h3⟩
theorem ThL.len:∀ {l:List Th24} {us:List Value},ThL w o k l us→us.length=l.length
 | [],_,h=>by rw [show _=[] from h];rfl
 | _::_,_,⟨_,_,hu,_,h2⟩=>by rw [hu];exact congrArg (·+1) (ThL.len h2)
theorem RdAt.sto {R:Option Addr} {r:Option Rst} (h:RdAt w o k R r) (s:Sto K w o w' o') (h0:¬ K k) (h1:¬ K (k+1)) (h2:¬ K (k+2)) (h3:¬ K (k+3)):RdAt w' o' k R r:=by
 cases r with
 | none=>exact h
 | some r =>
  obtain ⟨p,hp,hf⟩:=h
  exact ⟨p,hp,hf.sto s h0 h1 h2 h3⟩
theorem GotAt.sto {inB:Bool} {got:List UInt8} {B:Option Addr} {n d:Nat} (h:GotAt w o k inB got B n d) (s:Sto K w o w' o') (h0:¬ K k):GotAt w' o' k inB got B n d:=fun e=>⟨(h e).1,(h e).2.1.sto s h0,(h e).2.2⟩
end
structure Cad where
 nx:FuncId
 kp:Int
 H:Nat
 R:Option Addr
 A:Option Addr
 ca:Nat
 B:Option Addr
 nb:Nat
 cb:Nat
 E:Option Addr
 ce:Nat
 L:Option Addr
 cl:Nat
 O:Option Addr
 co:Nat
def nxC (b:Bool):FuncId:=if b=true then 64 else 23
def Cst.cells (s:Cst) (c:Nat) (a:Cad):Array Value :=
 #[.int .i64 (s.most:Int),.int .i64 a.kp,.int .i64 0,.int .i64 0,.bool s.reads,.bool s.begun,.func (.func a.nx) #[.pointer (some ⟨c,0,none⟩)] #[],.pointer (some ⟨a.H,0,none⟩),.pointer a.R,.int .i64 (s.line:Int),.string (str s.r.1),.string (str s.r.2.1),.int .i64 s.r.2.2.1,.slice a.A s.r.2.2.2.length a.ca,.slice a.B a.nb a.cb,.slice a.E s.evs.length a.ce,.slice a.L s.row.length a.cl,.int .i64 (s.number:Int),.slice a.O s.out.length a.co]
def Crow (w:World) (c:Nat) (s:Cst) (a:Cad):Prop:=w.heap[c]?=some (.cells (s.cells c a) 59 (0,0))
structure CnP (w:World) (o:Ow) (k:Nat) (s:Cst) (a:Cad):Prop where
 hp:PsAt w o (k+5) a.H s.hp
 rd:RdAt w o (k+9) a.R s.rd
 r:Ro w o a.A (fc s.r.2.2.2)
 got:GotAt w o (k+4) s.inBody s.got a.B a.nb a.cb
 evs:∃ es,Sl w o (k+3) 6 a.E s.evs.length a.ce es∧EvL w o s.evs es
 ez:a.E=none→a.ce=0
 row:∃ ts,Sl w o (k+1) 1 a.L s.row.length a.cl ts∧ThL w o k s.row ts
 lz:a.L=none→a.cl=0
 out:Sl w o (k+2) 1 a.O s.out.length a.co (bc s.out)
 oz:a.O=none→a.co=0
structure CnX (w:World) (o:Ow) (k c:Nat) (s:Cst) (a:Cad):Prop where
 own:o c=k
 row:Crow w c s a
 p:CnP w o k s a
def CnAt (w:World) (o:Ow) (k c:Nat) (s:Cst):Prop:=∃ a,CnX w o k c s a∧a.nx=nxC s.inBody
section
variable {K:Nat→Prop} {w w':World} {o o':Ow} {k c:Nat} {s s':Cst} {a a':Cad}
theorem CnP.sto (h:CnP w o k s a) (t:Sto K w o w' o') (h0:¬ K 0) (hk:∀ i,0<i→i<13→¬ K (k+i)) (hj:∀ a,Th24.ask a∈s.row→¬ K (KA k a.id)):CnP w' o' k s a:=by
 obtain ⟨es,e1,e2⟩:=h.evs
 obtain ⟨ts,t1,t2⟩:=h.row
 exact ⟨h.hp.sto t (hk 5 (by decide) (by decide)) (hk 6 (by decide) (by decide)) (hk 7 (by decide) (by decide)),h.rd.sto t (hk 9 (by decide) (by decide)) (hk 10 (by decide) (by decide)) (hk 11 (by decide) (by decide)) (hk 12 (by decide) (by decide)),
  h.r.sto t h0,h.got.sto t (hk 4 (by decide) (by decide)),⟨es,e1.sto t (hk 3 (by decide) (by decide)),e2.sto t h0⟩,h.ez,⟨ts,t1.sto t (hk 1 (by decide) (by decide)),t2.sto t h0 hj⟩,h.lz,h.out.sto t (hk 2 (by decide) (by decide)),h.oz⟩
theorem CnP.cell (h:CnP w o k s a) (hk:0<k) (hc:o c=k) (i:Nat) (u:Value):CnP (w.setCell ⟨c,i,none⟩ u) o k s a :=
 h.sto (K:=fun j=>j=k) (Sto.set c i u (fun _=>hc)) (by omega) (fun i h1 _=>by omega) (fun a _=>by unfold KA;omega)
theorem Crow.at_ (h:Crow w c s a) (i:Nat) (u:Value) (hu:(s.cells c a)[i]?=some u):w.cell? ⟨c,i,none⟩=some u∧w.frozen? ⟨c,i,none⟩=false:=row_facts h i u hu
theorem Crow.set (h:Crow w c s a) (i:Nat) (u:Value) (he:(s.cells c a).setIfInBounds i u=s'.cells c a'):Crow (w.setCell ⟨c,i,none⟩ u) c s' a':=by
 unfold Crow
 rw [← he]
 exact row_set h i u
theorem Crow.sto (h:Crow w c s a) (t:Sto K w o w' o') (hk:¬ K (o c)):Crow w' c s a:=(t.keep c (row_lt h) hk).trans h
theorem Crow.ext (h:Crow w c s a) (e:Ext w w'):Crow w' c s a:=(e.block c (row_lt h)).trans h
theorem CnP.ext (h:CnP w o k s a) (e:Ext w w'):CnP w' o k s a:=h.sto (K:=fun _=>False) (Sto.ext e) (fun x=>x) (fun _ _ _ x=>x) (fun _ _ x=>x)
theorem CnX.sto (h:CnX w o k c s a) (t:Sto K w o w' o') (h0:¬ K 0) (hk:∀ i,i<13→¬ K (k+i)) (hj:∀ a,Th24.ask a∈s.row→¬ K (KA k a.id)):CnX w' o' k c s a:=by
 obtain ⟨ho,hr,hp⟩:=h
 have h1:¬ K (o c):=by rw [ho];exact hk 0 (by decide)
 exact ⟨(t.own c (row_lt hr) h1).trans ho,hr.sto t h1,hp.sto t h0 (fun i _ h=>hk i h) hj⟩
theorem CnX.ext (h:CnX w o k c s a) (e:Ext w w'):CnX w' o k c s a:=h.sto (K:=fun _=>False) (Sto.ext e) (fun x=>x) (fun _ _ x=>x) (fun _ _ x=>x)
theorem CnAt.sto (h:CnAt w o k c s) (t:Sto K w o w' o') (h0:¬ K 0) (hk:∀ i,i<13→¬ K (k+i)) (hj:∀ a,Th24.ask a∈s.row→¬ K (KA k a.id)):CnAt w' o' k c s:=by
 obtain ⟨a,hx,hn⟩:=h
 exact ⟨a,hx.sto t h0 hk hj,hn⟩
theorem CnAt.ext (h:CnAt w o k c s) (e:Ext w w'):CnAt w' o k c s:=h.sto (K:=fun _=>False) (Sto.ext e) (fun x=>x) (fun _ _ x=>x) (fun _ _ x=>x)
theorem setC_sto (i:Nat) (u:Value) (h:o c=k) (hk:k<80):Sto (KC k) w o (w.setCell ⟨c,i,none⟩ u) o:=Sto.set c i u (fun _=>by rw [h];unfold KC;omega)
end
def KH (k:Nat):Nat→Prop:=fun i=>KC k i∧i≠k+9
theorem kh0 {k:Nat} (h:0<k):¬ KH k 0:=by unfold KH KC;omega
theorem Sto.kc {k:Nat} {w w':World} {o o':Ow} (h:Sto (KH k) w o w' o'):Sto (KC k) w o w' o':=h.mono fun _ h=>h.1
theorem setH_sto {w:World} {o:Ow} {k c:Nat} (i:Nat) (u:Value) (h:o c=k) (hk:k<80):Sto (KH k) w o (w.setCell ⟨c,i,none⟩ u) o:=Sto.set c i u (fun _=>by rw [h];unfold KH KC;omega)
theorem kc0 {k:Nat} (h:0<k):¬ KC k 0:=by unfold KC;omega
theorem kc_no {k j:Nat} (h1:k<80) (h2:j<80) (h:k+20≤j∨j+20≤k):(∀ i,i<13→¬ KC k (j+i))∧∀ id,¬ KC k (KA j id):=by
 refine ⟨fun i hi=>?_,fun id=>?_⟩
 ·unfold KC;omega
 ·unfold KC KA;omega
end Go.Proofs.YthbofilcnpdghaaGreatDoor
end
