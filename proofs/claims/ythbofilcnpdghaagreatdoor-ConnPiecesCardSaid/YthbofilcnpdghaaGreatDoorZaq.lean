/-
Framing's lengths: of Content-Length's values.
-/
import Derived.Test.YthbofilcnpdghaaGreatDoorZak
import Derived.Test.YthbofilcnpdghaaGreatDoorZad
import Derived.Test.YthbofilcnpdghaaGreatDoorZap
import Derived.Test.YthbofilcnpdghaaGreatDoorZae
import Derived.Test.YthbofilcnpdghaaGreatDoorZao
set_option maxRecDepth 100000
set_option maxHeartbeats 8000000
set_option linter.unusedVariables false
set_option linter.unusedSimpArgs false
section
namespace Go.Proofs.YthbofilcnpdghaaGreatDoor
open Go.RowKit
def decV (l:List UInt8):Int × Int:=numL 10 1000000000000000000 l
def badL (p0 s:List UInt8):Bool:=decide ((decV s).2=21) || !(s == p0)
def partsL (vs:List (List UInt8)):List (List UInt8):=vs.flatMap (splitL 44)
def lenV (vs:List (List UInt8)):Int × Int :=
 if vs.any (fun v=>(splitL 44 v).isEmpty)=true then (0,45) else
 match partsL vs with
 | []=>(0,45)
 | p0::ps=>if (p0::ps).any (badL p0)=true then (0,45) else if (decV p0).2≠0∨1048576<(decV p0).1 then (0,6) else ((decV p0).1,0)
theorem sc_oneF (ls:List (List UInt8)):∀ u∈sc ls,u.oneCell'=true:=by
 intro u hu
 obtain ⟨b,_,rfl⟩:=List.mem_map.1 hu
 rfl
theorem Rd.txt {w:World} {B:Option Addr} {l:List (List UInt8)} (h:Rd w B (sc l)) {j:Nat} (hj:j<l.length):∃ g f,B=some ⟨g,f,none⟩∧w.cell? ⟨g,f+j,none⟩=some (.string (str l[j])):=by
 obtain ⟨g,f,hB,_,hc⟩:=h.at_ (by rw [sc_len];omega)
 exact ⟨g,f,hB,hc j _ (sc_at l j hj)⟩
theorem parts_take (vs:List (List UInt8)) (k:Nat) (h:k<vs.length):partsL (vs.take (k+1))=partsL (vs.take k)++splitL 44 vs[k]:=by
 unfold partsL
 rw [List.take_succ_eq_append_getElem h,List.flatMap_append]
 simp
theorem parts_le (vs:List (List UInt8)) (k:Nat):(partsL (vs.take k)).length≤(partsL vs).length:=by
 have h:=List.take_append_drop k vs
 conv=>rhs;rw [← h]
 unfold partsL
 rw [List.flatMap_append,List.length_append]
 omega
theorem parts_ne {vs:List (List UInt8)} (h0:0<vs.length) (ha:vs.any (fun v=>(splitL 44 v).isEmpty)=false):∃ p0 pt,partsL vs=p0::pt:=by
 cases vs with
 | nil=>simp at h0
 | cons v vs =>
  simp only [List.any_cons,Bool.or_eq_false_iff] at ha
  unfold partsL
  rw [List.flatMap_cons]
  cases hs:splitL 44 v with
  | nil=>rw [hs] at ha;simp at ha
  | cons a l=>exact ⟨a,_,rfl⟩
theorem lenV_parts {vs:List (List UInt8)} {p0:List UInt8} {pt:List (List UInt8)} (ha:vs.any (fun v=>(splitL 44 v).isEmpty)=false) (hp:partsL vs=p0::pt):lenV vs=if (p0::pt).any (badL p0)=true then (0,45) else if (decV p0).2≠0∨1048576<(decV p0).1 then (0,6) else ((decV p0).1,0):=by
 unfold lenV
 rw [if_neg (by rw [ha];decide),hp]
theorem lenV_empty {vs:List (List UInt8)} {k:Nat} (h:k<vs.length) (he:splitL 44 vs[k]=[]):lenV vs=(0,45):=by
 unfold lenV
 rw [if_pos]
 exact List.any_eq_true.2 ⟨vs[k],List.getElem_mem h,by rw [he];rfl⟩
theorem fLengths_c (vs:List (List UInt8)) (A:Option Addr) (n c:Nat) (hn:n=vs.length) (hne:0<n) (hv:∀ v∈vs,v.length≤1099511627776) (hT:(partsL vs).length≤1099511627776) (hP:∀ s∈partsL vs,s.length≤140737488355328) (hb:n≤8796093022206) (w:World) (hE:ErrR w) (h:Rd w A (sc vs)) :
  Calls Tryz.prog 70 #[.slice A n c] w (Gives (.tuple #[.int .i64 (lenV vs).1,.int .i64 (lenV vs).2]) w):=by
 have HV:=Hy hv
 have HP:=Hy hP
 have HN:=Hy hn
 have HR:=Hy h
 have HE:=Hy hE
 have hms:maxLen=9223372036854775807:=rfl
 obtain ⟨o,ho⟩:∃ o:Ow,o=fun _=>0:=⟨_,rfl⟩
 have RV:=Hy (fun w' o' (t:Stp (fun i=>i=1) w o w' o')=>show Rd w' A (sc vs) from h.stp t (fun a _ _=>by rw [ho];simp))
 have XT:=Hy (fun w' o' (t:Stp (fun i=>i=1) w o w' o')=>show Ext w w' from t.toExt (fun b hb=>by rw [ho];simp))
 clear hv h hE ho hn hP
 go_enter Tryz.func70,Tryz.ntmps70
 go_wp2
 go_loopw [4,16] (fun v i wr=>∃ (k:Nat) (A1:Option Addr) (c1:Nat) (o':Ow),i=.int .i64 (k:Int)∧v=.slice A1 (partsL (vs.take k)).length c1∧k≤n∧Sl wr o' 1 1 A1 (partsL (vs.take k)).length c1 (sc (partsL (vs.take k)))∧(A1=none→c1=0)∧Stp (fun i=>i=1) w o wr o'∧Hid ((vs.take k).any (fun v=>(splitL 44 v).isEmpty)=false)) (fun _ i _=>n-(intOf i).toNat)
 case atStart=>exact ⟨0,none,0,o,rfl,by simp [partsL],Nat.zero_le _,Sl.nil_ _ _ _ _ _,fun _=>rfl,Stp.rfl',Hy rfl⟩
 case round =>
  obtain ⟨k,A1,c1,o',rfl,rfl,hk,hsl,hn1,hst,HANY⟩:=hrel
  have HS:=Hy hsl
  have HN1:=Hy hn1
  have HST:=Hy hst
  by_cases hlt:k<n
  ·have hlt':k<vs.length:=by rw [← HN.out];exact hlt
   obtain ⟨g,f,hA,hc⟩:=(RV.out wr o' hst).txt (j:=k) hlt'
   have hk0:(0:Int)≤(k:Int):=by omega
   have hk1:(k:Int)<(n:Int):=by omega
   have CS:=Hy (fun w=>Split_c vs[k] 44 (HV.out _ (List.getElem_mem hlt')) w)
   have PT:=Hy (parts_take vs k hlt')
   have hpl:=parts_le vs (k+1)
   rw [PT.out,List.length_append] at hpl
   have HLE:=Hy (fun (he:splitL 44 vs[k]=[])=>lenV_empty (vs:=vs) hlt' he)
   have HA2:=Hy (fun (hh:(splitL 44 vs[k]).isEmpty=false)=>show (vs.take (k+1)).any (fun v=>(splitL 44 v).isEmpty)=false from by
    rw [List.take_succ_eq_append_getElem hlt',List.any_append,HANY.out];simpa using hh)
   obtain ⟨sv,hsv⟩:∃ q,q=str vs[k]:=⟨_,rfl⟩
   obtain ⟨ps,hps⟩:∃ q,q=splitL 44 vs[k]:=⟨_,rfl⟩
   obtain ⟨acc,hacc⟩:∃ q,q=partsL (vs.take k):=⟨_,rfl⟩
   rw [← hsv] at hc CS
   rw [← hps] at CS PT HLE HA2 hpl
   rw [← hacc] at HS PT hpl ⊢
   clear hsv hps hacc hsl hn1 hst hlt'
   subst hA
   obtain ⟨R,hR⟩:∃ R,R=lenV vs:=⟨_,rfl⟩
   rw [← hR] at HLE ⊢
   have HRR:=Hy hR
   clear hR
   by_cases h0:ps=[]
   ·have hle:=HLE.out h0
    have HL:=Hy hle
    subst h0
    clear hle hpl
    go_wp2_with (first
     | (go_at_call 98;refine (CS.out _).mono ?_;rintro e w2 ⟨v,rfl,⟨A2,c2,rfl,hrd2,hc2⟩,hx2⟩))
    go_ret2
    rw [HL.out]
    exact ⟨rfl,(XT.out wr o' HST.out).tr Xq⟩
   ·have hpos:0<ps.length:=List.length_pos_iff.2 h0
    have hpne:((ps.length:Int) == 0)=false:=by rw [beq_eq_false_iff_ne];omega
    have HPE:=Hy (show ps.isEmpty=false from by rw [List.isEmpty_eq_false_iff];exact h0)
    clear h0
    go_wp2_with (first
     | (go_at_call 98;refine (CS.out _).mono ?_;rintro e w2 ⟨v,rfl,⟨A2,c2,rfl,hrd2,hc2⟩,hx2⟩;have HX2:=Hy hx2;have HRD2:=Hy hrd2;clear hrd2)
     | (at_builtin;refine wpL_put slt_str (.tmp 25) (.tmp 26) rfl rfl rfl rfl (HS.out.ext HX2.out) HN1.out (Sl.src Tryz.underlying49 HRD2.out (by rw [sc_len];omega) (by omega) (sc_oneF ps) c2) (by omega) (by omega) ?_;intro A7 c7 w7 o7 hs7 hst7 hn7))
    go_roundw
    case rel=>exact ⟨k+1,A7,c7,o7,by go_num,by rw [PT.out,List.length_append],by omega,by rw [PT.out,List.length_append,sc_app];exact hs7,hn7,(HST.out.tr (Stp.ext HX2.out)).tr hst7,Hy (HA2.out HPE.out)⟩
    case measure=>simp [intOf];omega
  ·have htk:vs.take k=vs:=List.take_of_length_le (by have:=HN.out;omega)
   rw [htk] at HS HANY ⊢
   obtain ⟨p0,pt,hpp⟩:=parts_ne (by rw [← HN.out];exact hne) HANY.out
   have HLV:=Hy (lenV_parts HANY.out hpp)
   have HPL:=Hy (show ∀ s∈p0::pt,s.length≤140737488355328 from by rw [← hpp];exact HP.out)
   rw [hpp] at HS hT ⊢
   obtain ⟨all,hall⟩:∃ q,q=p0::pt:=⟨_,rfl⟩
   have hat:all[0]?=some p0:=by rw [hall];rfl
   have hT0:0<all.length:=by rw [hall];simp
   rw [← hall] at HS hT HLV HPL ⊢
   have RD:=Hy HS.out.rd
   obtain ⟨g,f,hA,hc0⟩:=RD.out.txt (j:=0) hT0
   have h00:all[0]'hT0=p0:=by rw [List.getElem?_eq_getElem hT0] at hat;exact Option.some.inj hat
   rw [h00,Nat.add_zero] at hc0
   subst hA
   obtain ⟨T,hTT⟩:∃ T,T=all.length:=⟨_,rfl⟩
   obtain ⟨R,hR⟩:∃ R,R=lenV vs:=⟨_,rfl⟩
   rw [← hR] at HLV ⊢
   have HRE:=Hy hR
   rw [← hTT] at hT hT0 ⊢
   have HTT:=Hy hTT
   have HC0:=Hy hc0
   have XW:=Hy (XT.out wr o' HST.out)
   have HP0:=Hy (HPL.out p0 (by rw [hall];exact List.mem_cons_self))
   obtain ⟨z0,hz0⟩:∃ z,z=str p0:=⟨_,rfl⟩
   clear hpp hall hat h00 hTT hR hc0 htk hsl hn1 hst HN1 HS HANY
   obtain ⟨W1,hW1⟩:∃ W,W=wr:=⟨_,rfl⟩
   subst hW1
   have HE1:=Hy (HE.out.ext XW.out)
   go_wp2
   go_loopw [31] (fun i w2=>∃ t:Nat,i=.int .i64 (t:Int)∧t≤T∧Ext W1 w2∧Hid (∀ s∈all.take t,badL p0 s=false)) (fun i _=>T-(intOf i).toNat)
   case atStart=>exact ⟨0,rfl,Nat.zero_le _,Ext.rfl' _,Hy (by simp)⟩
   case round =>
    obtain ⟨t,rfl,ht,hx,HBG⟩:=hrel
    have HX:=Hy hx
    have HCE:=Hy (fun w' (e:Ext wr w')=>show w'.cell? ⟨g,f,none⟩=some (.string (str p0)) from ((hx.tr e).cell (lt_of_cell HC0.out)).trans HC0.out)
    by_cases hlt:t<T
    ·have hlt':t<all.length:=by rw [← HTT.out];exact hlt
     obtain ⟨g',f',hA,hc⟩:=(RD.out.ext hx).txt (j:=t) hlt'
     cases hA
     have hk0:(0:Int)≤(t:Int):=by omega
     have hk1:(t:Int)<(T:Int):=by omega
     have CD:=fun w hE=>Decimal_c all[t] (HPL.out _ (List.getElem_mem hlt')) w hE
     have HM:=Hy (show all[t]∈all from List.getElem_mem hlt')
     have HTK:=Hy (show all.take (t+1)=all.take t++[all[t]] from List.take_succ_eq_append_getElem hlt')
     obtain ⟨x,hxx⟩:∃ q,q=all[t]:=⟨_,rfl⟩
     rw [← hxx] at hc CD HM HTK
     obtain ⟨dv,hdv⟩:∃ q,q=(numL 10 1000000000000000000 x).1:=⟨_,rfl⟩
     obtain ⟨de,hde⟩:∃ q,q=(numL 10 1000000000000000000 x).2:=⟨_,rfl⟩
     rw [← hdv,← hde] at CD
     have HBX:=Hy (show badL p0 x=(decide (de=21) || !(x == p0)) from by rw [hde];rfl)
     have CD:=Hy CD
     obtain ⟨sx,hsx⟩:∃ q,q=str x:=⟨_,rfl⟩
     obtain ⟨s0,hs0⟩:∃ q,q=str p0:=⟨_,rfl⟩
     have HSX:=Hy hsx
     have HS0:=Hy hs0
     rw [← hsx] at hc CD
     rw [← hs0] at HCE
     clear hxx hdv hde hsx hs0 hlt' hx
     by_cases h1:de=21
     ·subst h1
      have HL:=Hy (show R=(0,45) from by rw [HLV.out,if_pos (List.any_eq_true.2 ⟨x,HM.out,by rw [HBX.out];rfl⟩)])
      go_wp2_with (go_at_call 57;refine (CD.out _ (HE1.out.ext HX.out)).mono ?_;rintro e w3 ⟨rfl,hx3⟩)
      go_ret2
      first | rw [HL.out] | rw [← HRE.out,HL.out]
      exact ⟨rfl,(XW.out.tr HX.out).tr Xq⟩
     ·have d1:(de == 21)=false:=by rw [beq_eq_false_iff_ne];exact h1
      have HBX2:=Hy (show badL p0 x=!(x == p0) from by rw [HBX.out,decide_eq_false h1,Bool.false_or])
      clear h1
      by_cases h2:x=p0
      ·have e2:sx=s0:=by rw [HSX.out,HS0.out,h2]
       have HB2:=Hy (show ∀ s∈all.take (t+1),badL p0 s=false from by
        intro s hs
        rw [HTK.out] at hs
        rcases List.mem_append.1 hs with h | h
        ·exact HBG.out s h
        ·rw [List.mem_singleton.1 h,HBX2.out,h2];simp)
       subst e2
       clear h2
       go_wp2_with (go_at_call 57;refine (CD.out _ (HE1.out.ext HX.out)).mono ?_;rintro e w3 ⟨rfl,hx3⟩;have c0:=HCE.out w3 hx3)
       go_roundw
       case rel=>exact ⟨t+1,by go_num,by omega,HX.out.tr hx3,HB2⟩
       case measure=>simp [intOf];omega
      ·have e2:(sx.toList == s0.toList)=false:=by rw [beq_eq_false_iff_ne,HSX.out,HS0.out,Lib.toList_data,Lib.toList_data];exact h2
       have HL:=Hy (show R=(0,45) from by rw [HLV.out,if_pos (List.any_eq_true.2 ⟨x,HM.out,by rw [HBX2.out];simpa using h2⟩)])
       clear h2
       go_wp2_with (go_at_call 57;refine (CD.out _ (HE1.out.ext HX.out)).mono ?_;rintro e w3 ⟨rfl,hx3⟩;have c0:=HCE.out w3 hx3)
       go_ret2
       first | rw [HL.out] | rw [← HRE.out,HL.out]
       exact ⟨rfl,(XW.out.tr HX.out).tr Xq⟩
    ·have hkt:t=T:=by omega
     subst hkt
     have HNB:=Hy (show all.any (badL p0)=false from by
      rw [List.any_eq_false]
      intro s hs
      rw [HBG.out s (by rw [List.take_of_length_le (by have:=HTT.out;omega)];exact hs)];decide)
     have CD:=fun w hE=>Decimal_c p0 HP0.out w hE
     have HLW:=Hy (show R=if (decV p0).2≠0∨1048576<(decV p0).1 then (0,6) else ((decV p0).1,0) from by rw [HLV.out,if_neg (by rw [HNB.out];decide)])
     obtain ⟨dv,hdv⟩:∃ q,q=(decV p0).1:=⟨_,rfl⟩
     obtain ⟨de,hde⟩:∃ q,q=(decV p0).2:=⟨_,rfl⟩
     rw [show (numL 10 1000000000000000000 p0).1=dv from hdv.symm,show (numL 10 1000000000000000000 p0).2=de from hde.symm] at CD
     rw [← hdv,← hde] at HLW
     have CD:=Hy CD
     obtain ⟨s0,hs0⟩:∃ q,q=str p0:=⟨_,rfl⟩
     rw [← hs0] at HCE CD
     have c0:=HCE.out wr (Ext.rfl' _)
     clear hdv hde hs0 hx
     by_cases h1:de=0
     ·by_cases h2:1048576<dv
      ·have HL:=Hy (show R=(0,6) from by rw [HLW.out,if_pos (.inr h2)])
       subst h1
       go_wp2_with (go_at_call 57;refine (CD.out _ (HE1.out.ext HX.out)).mono ?_;rintro e w3 ⟨rfl,hx3⟩)
       go_ret2
       first | rw [HL.out] | rw [← HRE.out,HL.out]
       exact ⟨rfl,(XW.out.tr HX.out).tr Xq⟩
      ·have HL:=Hy (show R=(dv,0) from by rw [HLW.out,if_neg (by rw [h1];simp;omega)])
       subst h1
       go_wp2_with (go_at_call 57;refine (CD.out _ (HE1.out.ext HX.out)).mono ?_;rintro e w3 ⟨rfl,hx3⟩)
       go_ret2
       first | rw [HL.out] | rw [← HRE.out,HL.out]
       exact ⟨rfl,(XW.out.tr HX.out).tr Xq⟩
     ·have d1:(de != 0)=true:=by rw [bne_iff_ne];exact h1
      have HL:=Hy (show R=(0,6) from by rw [HLW.out,if_pos (.inl h1)])
      clear h1
      go_wp2_with (go_at_call 57;refine (CD.out _ (HE1.out.ext HX.out)).mono ?_;rintro e w3 ⟨rfl,hx3⟩)
      go_ret2
      first | rw [HL.out] | rw [← HRE.out,HL.out]
      exact ⟨rfl,(XW.out.tr HX.out).tr Xq⟩
theorem toks_one (l:List UInt8):(toksL l).2=0∨((toksL l).2=42∧(toksL l).1=[]):=by
 unfold toksL
 split
 ·exact .inl rfl
 ·exact .inr ⟨rfl,rfl⟩
theorem codV_bad {vs:List (List UInt8)} {k:Nat} (h:k<vs.length) (he:(toksL vs[k]).2≠0):codV vs=45:=by
 unfold codV
 rw [if_pos]
 exact List.any_eq_true.2 ⟨vs[k],List.getElem_mem h,by simpa using he⟩
theorem codV_good {vs:List (List UInt8)} (h:vs.any (fun v=>decide ((toksL v).2≠0))=false):codV vs=if (toksA vs).any (fun c=>!(c == chkN))=true then 46 else if (toksA vs).length≠1 then 45 else 0:=by
 unfold codV
 rw [if_neg (by rw [h];decide)]
theorem fCodings_c (vs:List (List UInt8)) (A:Option Addr) (n c:Nat) (hn:n=vs.length) (hv:∀ v∈vs,v.length≤1099511627776) (hT:(toksA vs).length≤1099511627776) (hb:n≤8796093022206) (w:World) (h:Rd w A (sc vs)) :
  Calls Tryz.prog 69 #[.slice A n c] w (Gives (.int .i64 (codV vs)) w):=by
 have HV:=Hy hv
 have HN:=Hy hn
 have hms:maxLen=9223372036854775807:=rfl
 obtain ⟨o,ho⟩:∃ o:Ow,o=fun _=>0:=⟨_,rfl⟩
 have RV:=Hy (fun w' o' (t:Stp (fun i=>i=1) w o w' o')=>show Rd w' A (sc vs) from h.stp t (fun a _ _=>by rw [ho];simp))
 have XT:=Hy (fun w' o' (t:Stp (fun i=>i=1) w o w' o')=>show Ext w w' from t.toExt (fun b hb=>by rw [ho];simp))
 clear hv h ho hn
 go_enter Tryz.func69,Tryz.ntmps69
 go_wp2
 go_loopw [3,12] (fun v i wr=>∃ (k:Nat) (A1:Option Addr) (c1:Nat) (o':Ow),i=.int .i64 (k:Int)∧v=.slice A1 (toksA (vs.take k)).length c1∧k≤n∧Sl wr o' 1 1 A1 (toksA (vs.take k)).length c1 (sc (toksA (vs.take k)))∧(A1=none→c1=0)∧Stp (fun i=>i=1) w o wr o'∧Hid ((vs.take k).any (fun v=>decide ((toksL v).2≠0))=false)) (fun _ i _=>n-(intOf i).toNat)
 case atStart=>exact ⟨0,none,0,o,rfl,by simp [toksA],Nat.zero_le _,Sl.nil_ _ _ _ _ _,fun _=>rfl,Stp.rfl',Hy rfl⟩
 case round =>
  obtain ⟨k,A1,c1,o',rfl,rfl,hk,hsl,hn1,hst,HANY⟩:=hrel
  have HS:=Hy hsl
  have HN1:=Hy hn1
  have HST:=Hy hst
  by_cases hlt:k<n
  ·have hlt':k<vs.length:=by rw [← HN.out];exact hlt
   obtain ⟨g,f,hA,hc⟩:=(RV.out wr o' hst).txt (j:=k) hlt'
   have hk0:(0:Int)≤(k:Int):=by omega
   have hk1:(k:Int)<(n:Int):=by omega
   have CS:=fun w=>fTokens_c vs[k] (HV.out _ (List.getElem_mem hlt')) w
   have PT:=Hy (toksA_take vs k hlt')
   have hpl:=toksA_le vs (k+1)
   rw [PT.out,List.length_append] at hpl
   have HLE:=Hy (fun (he:(toksL vs[k]).2≠0)=>codV_bad (vs:=vs) hlt' he)
   have HA2:=Hy (fun (hh:(toksL vs[k]).2=0)=>show (vs.take (k+1)).any (fun v=>decide ((toksL v).2≠0))=false from by
    rw [List.take_succ_eq_append_getElem hlt',List.any_append,HANY.out];simpa using hh)
   have ho1:=toks_one vs[k]
   obtain ⟨sv,hsv⟩:∃ q,q=str vs[k]:=⟨_,rfl⟩
   obtain ⟨⟨ps,te⟩,hps⟩:∃ q,q=toksL vs[k]:=⟨_,rfl⟩
   obtain ⟨acc,hacc⟩:∃ q,q=toksA (vs.take k):=⟨_,rfl⟩
   rw [← hsv] at hc CS
   rw [← hps] at CS PT HLE HA2 hpl ho1
   unfold IsTks at CS
   dsimp only at CS PT HLE HA2 hpl ho1
   rw [← hacc] at HS PT hpl ⊢
   have CS:=Hy CS
   clear hsv hps hacc hsl hn1 hst hlt'
   subst hA
   obtain ⟨R,hR⟩:∃ R,R=codV vs:=⟨_,rfl⟩
   rw [← hR] at HLE ⊢
   have HRR:=Hy hR
   clear hR
   rcases ho1 with rfl | ⟨rfl,rfl⟩
   ·have HPE:=Hy (HA2.out rfl)
    clear HA2 HLE
    go_wp2_with (first
     | (go_at_call 97;refine (CS.out _).mono ?_;rintro e w2 ⟨v,rfl,⟨A2,c2,rfl,hrd2⟩,hx2⟩;have HX2:=Hy hx2;have HRD2:=Hy hrd2;clear hrd2)
     | (at_builtin;refine wpL_put slt_str (.tmp 23) (.tmp 24) rfl rfl rfl rfl (HS.out.ext HX2.out) HN1.out (Sl.src Tryz.underlying49 HRD2.out (by rw [sc_len];omega) (by omega) (sc_oneF ps) c2) (by omega) (by omega) ?_;intro A7 c7 w7 o7 hs7 hst7 hn7))
    go_roundw
    case rel=>exact ⟨k+1,A7,c7,o7,by go_num,by rw [PT.out,List.length_append],by omega,by rw [PT.out,List.length_append,sc_app];exact hs7,hn7,(HST.out.tr (Stp.ext HX2.out)).tr hst7,HPE⟩
    case measure=>simp [intOf];omega
   ·have HL:=Hy (HLE.out (by decide))
    clear HLE HA2
    go_wp2_with (first
     | (go_at_call 97;refine (CS.out _).mono ?_;rintro e w2 ⟨v,rfl,⟨A2,c2,rfl,hrd2⟩,hx2⟩))
    go_ret
    rw [HL.out]
    exact ⟨rfl,(XT.out wr o' HST.out).tr Xq⟩
  ·have htk:vs.take k=vs:=List.take_of_length_le (by have:=HN.out;omega)
   rw [htk] at HS HANY ⊢
   have HLV:=Hy (codV_good HANY.out)
   obtain ⟨all,hall⟩:∃ q,q=toksA vs:=⟨_,rfl⟩
   rw [← hall] at HS hT HLV ⊢
   have RD:=Hy HS.out.rd
   obtain ⟨R,hR⟩:∃ R,R=codV vs:=⟨_,rfl⟩
   rw [← hR] at HLV ⊢
   have HRE:=Hy hR
   obtain ⟨T,hTT⟩:∃ T,T=all.length:=⟨_,rfl⟩
   rw [← hTT] at hT ⊢
   have HTT:=Hy hTT
   have XW:=Hy (XT.out wr o' HST.out)
   have hk1:¬(k:Int)<(n:Int):=by omega
   clear hall hTT hR htk hsl hn1 hst HN1 HS HANY
   obtain ⟨W1,hW1⟩:∃ W,W=wr:=⟨_,rfl⟩
   subst hW1
   go_wp2
   go_loopw [29] (fun i w2=>∃ t:Nat,i=.int .i64 (t:Int)∧t≤T∧W1=w2∧Hid (∀ s∈all.take t,s=chkN)) (fun i _=>T-(intOf i).toNat)
   case atStart=>exact ⟨0,rfl,Nat.zero_le _,rfl,Hy (by simp)⟩
   case round =>
    obtain ⟨t,rfl,ht,rfl,HBG⟩:=hrel
    by_cases hlt:t<T
    ·have hlt':t<all.length:=by rw [← HTT.out];exact hlt
     obtain ⟨g',f',rfl,hc⟩:=(RD.out).txt (j:=t) hlt'
     have hk0:(0:Int)≤(t:Int):=by omega
     have hk1':(t:Int)<(T:Int):=by omega
     have HM:=Hy (show all[t]∈all from List.getElem_mem hlt')
     have HTK:=Hy (show all.take (t+1)=all.take t++[all[t]] from List.take_succ_eq_append_getElem hlt')
     obtain ⟨x,hxx⟩:∃ q,q=all[t]:=⟨_,rfl⟩
     rw [← hxx] at hc HM HTK
     clear hxx hlt'
     by_cases h1:x=chkN
     ·have hx1:str x=⟨#[99,104,117,110,107,101,100]⟩:=by rw [h1];rfl
      rw [hx1] at hc
      have HB2:=Hy (show ∀ s∈all.take (t+1),s=chkN from by
       intro s hs
       rw [HTK.out] at hs
       rcases List.mem_append.1 hs with h | h
       ·exact HBG.out s h
       ·rw [List.mem_singleton.1 h,h1])
      clear h1 hx1
      go_wp2
      go_roundw
      case rel=>exact ⟨t+1,by go_num,by omega,(by first | rfl | trivial),HB2⟩
      case measure=>simp [intOf];omega
     ·have HL:=Hy (show R=46 from by rw [HLV.out,if_pos (List.any_eq_true.2 ⟨x,HM.out,by simpa using h1⟩)])
      obtain ⟨sx,hsx⟩:∃ q,q=str x:=⟨_,rfl⟩
      have e2:(sx.toList == [99,104,117,110,107,101,100])=false:=by rw [beq_eq_false_iff_ne,hsx,Lib.toList_data];exact h1
      have e3:¬ sx.toList=[99,104,117,110,107,101,100]:=by rw [hsx,Lib.toList_data];exact h1
      rw [← hsx] at hc
      clear h1 hsx
      go_wp2
      go_ret
      first | rw [HL.out] | rw [← HRE.out,HL.out]
      exact ⟨rfl,XW.out⟩
    ·have hkt:t=T:=by omega
     subst hkt
     have HNB:=Hy (show all.any (fun c=>!(c == chkN))=false from by
      rw [List.any_eq_false]
      intro s hs
      rw [HBG.out s (by rw [List.take_of_length_le (by have:=HTT.out;omega)];exact hs)];decide)
     have HLW:=Hy (show R=if t≠1 then 45 else 0 from by rw [HLV.out,if_neg (by rw [HNB.out];decide),HTT.out])
     by_cases h1:t=1
     ·have HL:=Hy (show R=0 from by rw [HLW.out,if_neg (by simp [h1])])
      subst h1
      go_wp2
      go_ret
      first | rw [HL.out] | rw [← HRE.out,HL.out]
      exact ⟨rfl,XW.out⟩
     ·have HL:=Hy (show R=45 from by rw [HLW.out,if_pos h1])
      have d1:((t:Int) != 1)=true:=by rw [bne_iff_ne];omega
      clear h1
      go_wp2
      go_ret
      first | rw [HL.out] | rw [← HRE.out,HL.out]
      exact ⟨rfl,XW.out⟩
def clN:List UInt8:=[67,111,110,116,101,110,116,45,76,101,110,103,116,104]
def teN:List UInt8:=[84,114,97,110,115,102,101,114,45,69,110,99,111,100,105,110,103]
theorem two_rowsF {w w1:World} {x y:Array Value} {t u:TypeId} (e:Ext ((w.alloc (.cells x t)).alloc (.cells y u)) w1):w1.heap[w.heap.size]?=some (.cells x t (0,0))∧w1.heap[w.heap.size+1]?=some (.cells y u (0,0)):=by
 have hz:(w.alloc (.cells x t)).heap.size=w.heap.size+1:=by simp
 have h1:=heap_alloc_new (w.alloc (.cells x t)) (.cells y u)
 rw [hz] at h1
 exact ⟨(e.block w.heap.size (by simp;omega)).trans ((((Ext.rfl' (w.alloc _)).al _).block w.heap.size (by simp)).trans (heap_alloc_new w (.cells x t))),(e.block (w.heap.size+1) (by simp)).trans h1⟩
def reqL (fs:List Fld):Int × Int × Int:=if valsH fs clN=[] then (0,0,0) else if (lenV (valsH fs clN)).2≠0 then (0,0,(lenV (valsH fs clN)).2) else (1,(lenV (valsH fs clN)).1,0)
theorem fRequest_cl (fs:List Fld) (A:Option Addr) (n c:Nat) (hn:fs.length=n) (hb:n≤8796093022206) (hsz:∀ p∈fs,p.1.length≤maxLen) (hte:valsH fs teN=[]) (me ta:ByteArray) (mi:Int) (w:World) (hE:ErrR w) (h:Rd w A (fc fs))
  (hv:∀ v∈valsH fs clN,v.length≤1099511627776) (hT:(partsL (valsH fs clN)).length≤1099511627776) (hP:∀ s∈partsL (valsH fs clN),s.length≤140737488355328) (hc8:(valsH fs clN).length≤8796093022206) :
  Calls Tryz.prog 49 #[.agg #[.string me,.string ta,.int .i64 mi,.slice A n c]] w (Gives (.tuple #[.agg #[.int .i64 (reqL fs).1,.int .i64 (reqL fs).2.1],.int .i64 (reqL fs).2.2]) w):=by
 have HR:=Hy h
 have HEE:=Hy hE
 have CCL:=fun w' h'=>hValues_c fs clN A n c hn hb (by decide) hsz w' h'
 rw [show str clN=⟨#[67,111,110,116,101,110,116,45,76,101,110,103,116,104]⟩ from rfl] at CCL
 have CCL:=Hy CCL
 have CTE:=fun w' h'=>hValues_c fs teN A n c hn hb (by decide) hsz w' h'
 rw [hte,show str teN=⟨#[84,114,97,110,115,102,101,114,45,69,110,99,111,100,105,110,103]⟩ from rfl] at CTE
 have CTE:=Hy CTE
 have CLN:=Hy (fun (A':Option Addr) (c':Nat) (w':World) (h0:valsH fs clN≠[]) hE' h'=>fLengths_c (valsH fs clN) A' (valsH fs clN).length c' rfl (List.length_pos_iff.2 h0) hv hT hP hc8 w' hE' h')
 have HX:=Hy (fun w' (e:Ext ((w.alloc (.cells #[.string me,.string ta,.int .i64 mi,.slice A n c] 36)).alloc (.cells #[.int .i64 0,.int .i64 0] 78)) w')=>show w'.cell? ⟨w.heap.size,3,none⟩=some (.slice A n c) from (row_facts (two_rowsF e).1 3 _ rfl).1)
 obtain ⟨vs,hvs⟩:∃ q,q=valsH fs clN:=⟨_,rfl⟩
 have HRL:=Hy (show reqL fs=if vs=[] then (0,0,0) else if (lenV vs).2≠0 then (0,0,(lenV vs).2) else (1,(lenV vs).1,0) from by rw [hvs];rfl)
 rw [← hvs] at CCL CLN
 clear h hE hn hsz hte hv hT hP hvs hc8
 go_enter Tryz.func49,Tryz.ntmps49
 go_wp2
 have c0:=HX.out _ (Ext.rfl' _)
 go_region_with (first
  | (go_at_call_of 68 (Value.string ⟨#[67,111,110,116,101,110,116,45,76,101,110,103,116,104]⟩);refine (CCL.out _ (HR.out.ext Xq)).mono ?_;rintro e w3 ⟨v,rfl,⟨A3,c3,rfl,hrd3⟩,hx3⟩;have hc3:=HX.out w3 Xq)
  | (go_at_call_of 68 (Value.string ⟨#[84,114,97,110,115,102,101,114,45,69,110,99,111,100,105,110,103]⟩);refine (CTE.out _ (HR.out.ext Xq)).mono ?_;rintro e w4 ⟨v,rfl,⟨A4,c4,rfl,hrd4⟩,hx4⟩))
 all_goals (
  have e4:Ext ((w.alloc (.cells #[.string me,.string ta,.int .i64 mi,.slice A n c] 36)).alloc (.cells #[.int .i64 0,.int .i64 0] 78)) w4:=Xq
  obtain ⟨_,r4⟩:=two_rowsF e4
  obtain ⟨p0,pf0⟩:=row_facts r4 0 _ rfl
  obtain ⟨p1,pf1⟩:=row_facts r4 1 _ rfl
  have E4:=Hy e4
  clear r4 e4
  by_cases h0:vs=[]
  ·subst h0
   go_wp2
   refine bodyPost_ret (v:=.tuple #[.agg #[.int .i64 0,.int .i64 0],.int .i64 0]) (by simp [results,Tryz.results49,go_sem,p0,p1]) rfl ?_
   exact ⟨by rw [HRL.out];rfl,Xq⟩
  ·have hpos:(0:Int)<(vs.length:Int):=by have:=List.length_pos_iff.2 h0;omega
   have CL:=Hy (fun w' hE' h'=>CLN.out A3 c3 w' h0 hE' h')
   have HRL2:=Hy (show reqL fs=if (lenV vs).2≠0 then (0,0,(lenV vs).2) else (1,(lenV vs).1,0) from by rw [HRL.out,if_neg h0])
   obtain ⟨lv,hlv⟩:∃ q,q=(lenV vs).1:=⟨_,rfl⟩
   obtain ⟨le,hle⟩:∃ q,q=(lenV vs).2:=⟨_,rfl⟩
   rw [← hlv,← hle] at CL HRL2
   clear hlv hle h0
   by_cases h1:le=0
   ·subst h1
    go_wp2_with (go_at_call 70;refine (CL.out _ (HEE.out.ext Xq) (hrd3.ext Xq)).mono ?_;rintro e w5 ⟨rfl,hx5⟩;obtain ⟨_,r5⟩:=two_rowsF (E4.out.tr hx5);obtain ⟨q0,qf0⟩:=row_facts r5 0 _ rfl;obtain ⟨q1,qf1⟩:=row_facts r5 1 _ rfl;clear r5)
    refine bodyPost_ret (v:=.tuple #[.agg #[.int .i64 1,.int .i64 lv],.int .i64 0]) (by simp [results,Tryz.results49,go_sem,q0,q1]) rfl ?_
    exact ⟨by rw [HRL2.out];rfl,Xq⟩
   ·have d1:(le != 0)=true:=by rw [bne_iff_ne];exact h1
    go_wp2_with (go_at_call 70;refine (CL.out _ (HEE.out.ext Xq) (hrd3.ext Xq)).mono ?_;rintro e w5 ⟨rfl,hx5⟩;obtain ⟨_,r5⟩:=two_rowsF (E4.out.tr hx5);obtain ⟨q0,qf0⟩:=row_facts r5 0 _ rfl;obtain ⟨q1,qf1⟩:=row_facts r5 1 _ rfl;clear r5)
    refine bodyPost_ret (v:=.tuple #[.agg #[.int .i64 0,.int .i64 0],.int .i64 le]) (by simp [results,Tryz.results49,go_sem,q0,q1]) rfl ?_
    exact ⟨by rw [HRL2.out,if_pos h1],Xq⟩)
def reqT (mi:Int) (fs:List Fld):Int × Int × Int:=if valsH fs clN≠[]∨mi=0 then (0,0,45) else if codV (valsH fs teN)≠0 then (0,0,codV (valsH fs teN)) else (2,0,0)
theorem fRequest_te (fs:List Fld) (A:Option Addr) (n c:Nat) (hn:fs.length=n) (hb:n≤8796093022206) (hsz:∀ p∈fs,p.1.length≤maxLen) (hte:valsH fs teN≠[]) (me ta:ByteArray) (mi:Int) (w:World) (h:Rd w A (fc fs))
  (hcd:valsH fs clN=[]→mi≠0→(∀ v∈valsH fs teN,v.length≤1099511627776)∧(toksA (valsH fs teN)).length≤1099511627776∧(valsH fs teN).length≤8796093022206) :
  Calls Tryz.prog 49 #[.agg #[.string me,.string ta,.int .i64 mi,.slice A n c]] w (Gives (.tuple #[.agg #[.int .i64 (reqT mi fs).1,.int .i64 (reqT mi fs).2.1],.int .i64 (reqT mi fs).2.2]) w):=by
 have HR:=Hy h
 have CCL:=fun w' h'=>hValues_c fs clN A n c hn hb (by decide) hsz w' h'
 rw [show str clN=⟨#[67,111,110,116,101,110,116,45,76,101,110,103,116,104]⟩ from rfl] at CCL
 have CTE:=fun w' h'=>hValues_c fs teN A n c hn hb (by decide) hsz w' h'
 rw [show str teN=⟨#[84,114,97,110,115,102,101,114,45,69,110,99,111,100,105,110,103]⟩ from rfl] at CTE
 have HX:=Hy (fun w' (e:Ext ((w.alloc (.cells #[.string me,.string ta,.int .i64 mi,.slice A n c] 36)).alloc (.cells #[.int .i64 0,.int .i64 0] 78)) w')=>show w'.cell? ⟨w.heap.size,3,none⟩=some (.slice A n c) from (row_facts (two_rowsF e).1 3 _ rfl).1)
 have HX2:=Hy (fun w' (e:Ext ((w.alloc (.cells #[.string me,.string ta,.int .i64 mi,.slice A n c] 36)).alloc (.cells #[.int .i64 0,.int .i64 0] 78)) w')=>show w'.cell? ⟨w.heap.size,2,none⟩=some (.int .i64 mi) from (row_facts (two_rowsF e).1 2 _ rfl).1)
 have CC:=Hy (fun (A':Option Addr) (c':Nat) (w':World) (h0:valsH fs clN=[]) (h1:mi≠0) h'=>fCodings_c (valsH fs teN) A' (valsH fs teN).length c' rfl (hcd h0 h1).1 (hcd h0 h1).2.1 (hcd h0 h1).2.2 w' h')
 obtain ⟨vs,hvs⟩:∃ q,q=valsH fs clN:=⟨_,rfl⟩
 obtain ⟨ts,hts⟩:∃ q,q=valsH fs teN:=⟨_,rfl⟩
 have HRL:=Hy (show reqT mi fs=if vs≠[]∨mi=0 then (0,0,45) else if codV ts≠0 then (0,0,codV ts) else (2,0,0) from by rw [hvs,hts];rfl)
 rw [← hvs] at CCL CC
 rw [← hts] at CTE CC hte
 have CCL:=Hy CCL
 have CTE:=Hy CTE
 obtain ⟨R,hR⟩:∃ R,R=reqT mi fs:=⟨_,rfl⟩
 rw [← hR] at HRL ⊢
 have hpos:(0:Int)<(ts.length:Int):=by have:=List.length_pos_iff.2 hte;omega
 clear h hn hsz hte hcd hvs hts hR
 go_enter Tryz.func49,Tryz.ntmps49
 go_wp2
 have c0:=HX.out _ (Ext.rfl' _)
 go_region_with (first
  | (go_at_call_of 68 (Value.string ⟨#[67,111,110,116,101,110,116,45,76,101,110,103,116,104]⟩);refine (CCL.out _ (HR.out.ext Xq)).mono ?_;rintro e w3 ⟨v,rfl,⟨A3,c3,rfl,hrd3⟩,hx3⟩;have hc3:=HX.out w3 Xq)
  | (go_at_call_of 68 (Value.string ⟨#[84,114,97,110,115,102,101,114,45,69,110,99,111,100,105,110,103]⟩);refine (CTE.out _ (HR.out.ext Xq)).mono ?_;rintro e w4 ⟨v,rfl,⟨A4,c4,rfl,hrd4⟩,hx4⟩))
 all_goals (
  have e4:Ext ((w.alloc (.cells #[.string me,.string ta,.int .i64 mi,.slice A n c] 36)).alloc (.cells #[.int .i64 0,.int .i64 0] 78)) w4:=Xq
  obtain ⟨_,r4⟩:=two_rowsF e4
  obtain ⟨p0,pf0⟩:=row_facts r4 0 _ rfl
  obtain ⟨p1,pf1⟩:=row_facts r4 1 _ rfl
  have cm:=HX2.out w4 e4
  have E4:=Hy e4
  clear r4 e4
  by_cases h0:vs=[]
  ·by_cases h1:mi=0
   ·have HL:=Hy (show R=(0,0,45) from by rw [HRL.out,if_pos (.inr h1)])
    subst h0 h1
    go_wp2
    refine bodyPost_ret (v:=.tuple #[.agg #[.int .i64 0,.int .i64 0],.int .i64 45]) (by simp [results,Tryz.results49,go_sem,p0,p1]) rfl ?_
    exact ⟨by rw [HL.out],Xq⟩
   ·have C9:=Hy (fun w' h'=>CC.out A4 c4 w' h0 h1 h')
    have HRL2:=Hy (show R=if codV ts≠0 then (0,0,codV ts) else (2,0,0) from by rw [HRL.out,if_neg (by simp [h0,h1])])
    obtain ⟨le,hle⟩:∃ q,q=codV ts:=⟨_,rfl⟩
    rw [← hle] at C9 HRL2
    have d0:(mi == 0)=false:=by rw [beq_eq_false_iff_ne];exact h1
    subst h0
    clear hle h1
    by_cases h2:le=0
    ·have HL:=Hy (show R=(2,0,0) from by rw [HRL2.out,if_neg (by simp [h2])])
     subst h2
     go_wp2_with (go_at_call 69;refine (C9.out _ (hrd4.ext Xq)).mono ?_;rintro e w5 ⟨rfl,hx5⟩;obtain ⟨_,r5⟩:=two_rowsF (E4.out.tr hx5);obtain ⟨q0,qf0⟩:=row_facts r5 0 _ rfl;obtain ⟨q1,qf1⟩:=row_facts r5 1 _ rfl;clear r5)
     refine bodyPost_ret (v:=.tuple #[.agg #[.int .i64 2,.int .i64 0],.int .i64 0]) (by simp [results,Tryz.results49,go_sem,q0,q1]) rfl ?_
     exact ⟨by rw [HL.out],Xq⟩
    ·have HL:=Hy (show R=(0,0,le) from by rw [HRL2.out,if_pos h2])
     have d1:(le != 0)=true:=by rw [bne_iff_ne];exact h2
     go_wp2_with (go_at_call 69;refine (C9.out _ (hrd4.ext Xq)).mono ?_;rintro e w5 ⟨rfl,hx5⟩;obtain ⟨_,r5⟩:=two_rowsF (E4.out.tr hx5);obtain ⟨q0,qf0⟩:=row_facts r5 0 _ rfl;obtain ⟨q1,qf1⟩:=row_facts r5 1 _ rfl;clear r5)
     refine bodyPost_ret (v:=.tuple #[.agg #[.int .i64 0,.int .i64 0],.int .i64 le]) (by simp [results,Tryz.results49,go_sem,q0,q1]) rfl ?_
     exact ⟨by rw [HL.out],Xq⟩
  ·have hp2:(0:Int)<(vs.length:Int):=by have:=List.length_pos_iff.2 h0;omega
   have hp3:0<vs.length:=List.length_pos_iff.2 h0
   have hp4:decide (0<vs.length)=true:=by rw [decide_eq_true_eq];exact hp3
   have HL:=Hy (show R=(0,0,45) from by rw [HRL.out,if_pos (.inl h0)])
   clear h0
   go_wp2
   refine bodyPost_ret (v:=.tuple #[.agg #[.int .i64 0,.int .i64 0],.int .i64 45]) (by simp [results,Tryz.results49,go_sem,p0,p1]) rfl ?_
   exact ⟨by rw [HL.out],Xq⟩)
def reqV (mi:Int) (fs:List Fld):Int × Int × Int:=if valsH fs teN=[] then reqL fs else reqT mi fs
structure FitF (fs:List Fld):Prop where
 n:fs.length≤8796093022206
 k:∀ p∈fs,p.1.length≤maxLen
 t1:∀ v∈valsH fs teN,v.length≤1099511627776
 t2:(toksA (valsH fs teN)).length≤1099511627776
 t3:(valsH fs teN).length≤8796093022206
 c1:∀ v∈valsH fs clN,v.length≤1099511627776
 c2:(partsL (valsH fs clN)).length≤1099511627776
 c3:∀ s∈partsL (valsH fs clN),s.length≤140737488355328
 c4:(valsH fs clN).length≤8796093022206
theorem fRequest_any (fs:List Fld) (hF:FitF fs) (A:Option Addr) (n c:Nat) (hn:fs.length=n) (me ta:ByteArray) (mi:Int) (w:World) (hE:ErrR w) (h:Rd w A (fc fs)) :
  Calls Tryz.prog 49 #[.agg #[.string me,.string ta,.int .i64 mi,.slice A n c]] w (Gives (.tuple #[.agg #[.int .i64 (reqV mi fs).1,.int .i64 (reqV mi fs).2.1],.int .i64 (reqV mi fs).2.2]) w):=by
 by_cases ht:valsH fs teN=[]
 ·have e:reqV mi fs=reqL fs:=if_pos ht
  rw [e]
  exact fRequest_cl fs A n c hn (by have:=hF.n;omega) hF.k ht me ta mi w hE h hF.c1 hF.c2 hF.c3 hF.c4
 ·have e:reqV mi fs=reqT mi fs:=if_neg ht
  rw [e]
  exact fRequest_te fs A n c hn (by have:=hF.n;omega) hF.k ht me ta mi w h (fun _ _=>⟨hF.t1,hF.t2,hF.t3⟩)
def okF (f:Fld):Bool:=tokL f.1 && vlL f.2
def lenF (f:Fld):Nat:=f.1.length+2+f.2.length
def lenS (fs:List Fld):Nat:=(fs.map fun f=>lenF f+2).sum
def wrF (f:Fld):List UInt8:=f.1++([58,32]++(f.2++[13,10]))
def wrS (fs:List Fld):List UInt8:=fs.flatMap wrF
def longH (n:Nat) (fs:List Fld):Bool:=decide (8192<n) || decide (100<fs.length) || fs.any (fun f=>decide (8192<lenF f)) || decide (32768<n+4+lenS fs)
def wrH (first:List UInt8) (fs:List Fld):List UInt8 × Int :=
 if fs.all okF=false then ([],42) else if longH first.length fs=true then ([],44) else (first++([13,10]++(wrS fs++[13,10])),0)
theorem wrF_len (f:Fld):(wrF f).length=lenF f+2:=by unfold wrF lenF;simp;omega
theorem wrS_len:∀ fs:List Fld,(wrS fs).length=lenS fs
 | []=>rfl
 | f::fs=>by
  have ih:=wrS_len fs
  unfold wrS lenS at *
  rw [List.flatMap_cons,List.length_append,ih,wrF_len,List.map_cons,List.sum_cons]
theorem lenS_take (fs:List Fld) (k:Nat) (h:k<fs.length):lenS (fs.take (k+1))=lenS (fs.take k)+(lenF fs[k]+2):=by
 unfold lenS
 rw [List.take_succ_eq_append_getElem h,List.map_append,List.sum_append]
 simp
theorem lenS_mono (fs:List Fld):∀ (k j:Nat),k≤j→lenS (fs.take k)≤lenS (fs.take j):=by
 intro k j h
 induction j with
 | zero=>rw [Nat.le_zero.1 h];exact Nat.le_refl _
 | succ j ih =>
  rcases Nat.lt_or_ge k (j+1) with h1 | h1
  ·have h2:=ih (by omega)
   by_cases hj:j<fs.length
   ·rw [lenS_take fs j hj];omega
   ·have e1:fs.take (j+1)=fs:=List.take_of_length_le (by omega)
    have e2:fs.take j=fs:=List.take_of_length_le (by omega)
    rw [e1];rw [e2] at h2;exact h2
  ·rw [show k=j+1 by omega];exact Nat.le_refl _
theorem lenS_all (fs:List Fld) (k:Nat):lenS (fs.take k)≤lenS fs:=by
 have:=lenS_mono fs k (max k fs.length) (by omega)
 rw [List.take_of_length_le (show fs.length≤max k fs.length by omega)] at this
 exact this
theorem wrS_take (fs:List Fld) (k:Nat) (h:k<fs.length):wrS (fs.take (k+1))=wrS (fs.take k)++wrF fs[k]:=by
 unfold wrS
 rw [List.take_succ_eq_append_getElem h,List.flatMap_append]
 simp
theorem wrH_bad {first:List UInt8} {fs:List Fld} {k:Nat} (h:k<fs.length) (hb:okF fs[k]=false):wrH first fs=([],42):=by
 unfold wrH
 rw [if_pos]
 rw [List.all_eq_false]
 exact ⟨fs[k],List.getElem_mem h,by rw [hb];decide⟩
theorem all_ok {fs:List Fld} (h:∀ j (hj:j<fs.length),okF fs[j]=true):fs.all okF=true:=by
 rw [List.all_eq_true]
 intro f hf
 obtain ⟨j,hj,rfl⟩:=List.getElem_of_mem hf
 exact h j hj
theorem wrH_long {first:List UInt8} {fs:List Fld} (h:fs.all okF=true) (hl:longH first.length fs=true):wrH first fs=([],44):=by
 unfold wrH
 rw [if_neg (by rw [h];decide),if_pos hl]
theorem wrH_good {first:List UInt8} {fs:List Fld} (h:fs.all okF=true) (hl:longH first.length fs=false):wrH first fs=(first++([13,10]++(wrS fs++[13,10])),0):=by
 unfold wrH
 rw [if_neg (by rw [h];decide),if_neg (by rw [hl];decide)]
def anyL (fs:List Fld) (k:Nat):Bool:=(fs.take k).any fun f=>decide (8192<lenF f)
theorem anyL_succ (fs:List Fld) (k:Nat) (h:k<fs.length):anyL fs (k+1)=(anyL fs k || decide (8192<lenF fs[k])):=by
 unfold anyL
 rw [List.take_succ_eq_append_getElem h,List.any_append]
 simp
end Go.Proofs.YthbofilcnpdghaaGreatDoor
end
