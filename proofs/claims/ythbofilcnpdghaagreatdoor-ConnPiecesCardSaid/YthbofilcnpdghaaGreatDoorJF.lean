/-
ConnPieces, walked.
-/
import Derived.Test.YthbofilcnpdghaaGreatDoorJE
set_option maxRecDepth 100000
set_option maxHeartbeats 8000000
set_option linter.unusedVariables false
set_option linter.unusedSimpArgs false
namespace Go.Proofs.YthbofilcnpdghaaGreatDoor
open Go.RowKit
theorem connPieces_w (w:World) (hL:Lb w) (bo:Int) (b:List UInt8) (B:Option Addr) (bn bd:Nat) (hn:bn=b.length) (hd:bn≤bd) (hnb:bn≤4611686018427387903) (hB:Rd w B (bc b)) (cs:List Int) (C:Option Addr) (m q:Nat) (hm:m=cs.length) (hmb:m≤4611686018427387903) (hcs:∀ c∈cs,-9223372036854775808≤c∧c≤9223372036854775807) (hC:Rd w C (cs.map (Value.int .i64))) :
  Calls Tryz.prog 3 #[.int .i64 bo,.slice B bn bd,.slice C m q] w (Gives (.bool true) w):=by
 have HL:=Hy hL
 have HN:=Hy (show bn=b.length∧bn≤bd∧bn≤4611686018427387904 from ⟨hn,hd,by omega⟩)
 have HB:=Hy hB
 have HCC:=Hy hC
 have HCS:=Hy hcs
 have HMM:=Hy hm
 obtain ⟨Mz,mo,e1,e2,hmo⟩:=mod1000 bo
 have HMO:=Hy hmo
 have CN:=Hy (fun (k:Nat) (hk:0<k) (hk8:k<80) (w:World) (o:Ow)=>(show Calls Tryz.prog 7 #[.agg #[.int .i64 (mo:Int),.int .i64 0],.int .i64 0] w _ from nNew_c k hk hk8 mo 0 (by omega) (by decide) w o))
 clear hL hn hd hB hC hcs hm hmo
 go_enter Tryz.func3,Tryz.ntmps3
 go_upto_region 6 with (first
  | (go_at_call 7;refine (CN.out 20 (by decide) (by decide) w (fun _=>0)).mono ?_;rintro e w1 ⟨c,o1,rfl,hC1,st1,hle1⟩;have CN2:=Hy (CN.out 40 (by decide) (by decide) w1 o1);clear CN)
  | (go_at_call 7;refine (CN2.out).mono ?_;clear CN2;rintro e w2 ⟨D,o2,rfl,hD2,st2,hle2⟩;have ST2:=Hy (no100 (st1.tr st2) (fun _ _=>by decide));have HC2:=Hy ((hC1.sto st2 (fun x=>x) (fun _ _ x=>x) (fun _ _ x=>x)).o99 (by decide) (by decide));have HD2:=Hy (hD2.o99 (by decide) (by decide));clear st1 st2 hC1 hD2 hle1 hle2)
  | (go_at_call 8;refine (nNum_c _ _).mono ?_;rintro e w2 ⟨rfl,hw⟩;subst hw)
  | (go_at_call 9;refine (knows_c w HL.out w2 (o99 o2) ((Old.start w).sto ST2.out (fun h=>h)) (fun b _=>o99_no o2 b)).mono ?_;rintro e w3 ⟨rfl,o3,st3,hn3⟩))
 have hO3:=((Old.start w).sto ST2.out (fun h=>h)).sto st3 (kc0 (by decide))
 have hC3:=HC2.out.sto st3 (kc0 (by decide)) (kc_no (k:=60) (j:=20) (by decide) (by decide) (by decide)).1 (fun a _=>(kc_no (k:=60) (j:=20) (by decide) (by decide) (by decide)).2 a.id)
 have hD3:=HD2.out.sto st3 (kc0 (by decide)) (kc_no (k:=60) (j:=40) (by decide) (by decide) (by decide)).1 (fun a _=>(kc_no (k:=60) (j:=40) (by decide) (by decide) (by decide)).2 a.id)
 have CI:=nInput_c w HL.out 95 20 c (by decide) (by decide) (by decide) [] (newC mo) (.inl (new_in (by have:=HMO.out;omega))) b B bn bd HN.out.1 HN.out.2.1 HN.out.2.2 w3 o3 hO3 hn3 hC3 (Ro.olds HB.out hO3)
 rw [put_new] at CI
 obtain ⟨Z,hZ⟩:∃ z,z=allC (newC mo) b:=⟨_,rfl⟩
 rw [← hZ] at CI
 dsimp only at CI
 have CI:=Hy CI
 have HZ:=Hy hZ
 have HO3:=Hy hO3
 have HD3:=Hy hD3
 clear hZ hn3 st3 ST2 HC2 HD2 hO3 hC3 hD3
 go_cut [11] (fun v1 wx=>∃ A1 d1 o,v1=.slice A1 Z.evs.length d1∧PcE w c D Z (newC mo) A1 Z.evs.length d1 none 0 0 wx o)
 case first =>
  go_wp2_with (go_at_call 10;refine (CI.out).mono ?_;rintro e w4 ⟨v,o4,rfl,⟨⟨A1,d1,es,rfl,h1,h2,h3⟩,h4,h5⟩,st4⟩)
  go_meet
  exact ⟨A1,d1,o4,rfl,new_in (by have:=HMO.out;omega),HO3.out.sto st4 (kc0 (by decide)),h5,h4,HD3.out.sto st4 (kc0 (by decide)) kc42.1 (fun a _=>kc42.2 a.id),⟨es,h1,h3⟩,⟨[],Sl.nil_ _ _ _ _ _,rfl⟩,rfl,rfl,fun _=>rfl⟩
 case rest =>
  obtain ⟨A1,d1,o4,rfl,hPE⟩:=hcut
  have HPE:=Hy hPE
  clear hPE CI HO3 HD3 e1 e2
  obtain ⟨n1,hn1⟩:∃ n,n=Z.evs.length:=⟨_,rfl⟩
  rw [← hn1] at HPE
  rw [← hn1]
  have HN1:=Hy hn1
  clear hn1
  go_upto_region 10 with (fail)
  go_loopw [12,13,14] (fun v2 v3 v4 wr=>PcL w c D mo bn m Z b A1 n1 d1 v2 v3 v4 wr) (fun _ _ v4 _=>m+1-(intOf v4).toNat)
  case atStart=>exact ⟨0,0,none,0,0,o4,rfl,rfl,rfl,Nat.zero_le _,fun h=>by omega,Nat.zero_le _,by rw [List.take_zero];exact HPE.out⟩
  case round =>
   obtain ⟨M,t,A2,n2,d2,o,rfl,rfl,rfl,ht,htm,hMn,hPE⟩:=hrel
   clear HPE
   have HPE:=Hy hPE
   clear hPE
   by_cases htl:t≤m
   ·have k1:(t:Int)≤(m:Int):=by omega
    clear htm ht
    by_cases h1:t<m
    ·obtain ⟨g,f,rfl,hct⟩:=int_atP (t:=t) (HCC.out.ext HPE.out.old.ext) (by rw [← HMM.out];exact h1)
     have hcb:=HCS.out _ (List.getElem_mem (show t<cs.length by rw [← HMM.out];exact h1))
     obtain ⟨ct,hcte⟩:∃ c,c=cs[t]'(by rw [← HMM.out];exact h1):=⟨_,rfl⟩
     rw [← hcte] at hct hcb
     have t0:(0:Int)≤(t:Int):=by omega
     have t1:(t:Int)<(m:Int):=by omega
     clear hcte
     by_cases hc:0≤ct
     ·obtain ⟨hMT,hTn,c1,c2,c3⟩:=cutP_ok bn M ct hc hMn
      have hlast:t+1=m+1→cutP bn M ct=bn:=fun h=>by omega
      have r1:IntKind.i64.wrap ((bn:Int)+1)=(bn:Int)+1:=by rw [IntKind.wrap_i64];omega
      have r2:¬((bn:Int)+1)=0:=by omega
      have r4:wrap64 ((M:Int)+ct % ((bn:Int)+1))=(M:Int)+ct % ((bn:Int)+1):=by
       unfold wrap64;omega
      obtain ⟨T,hT⟩:∃ T,T=cutP bn M ct:=⟨_,rfl⟩
      rw [← hT] at hMT hTn c3 hlast
      clear hT
      obtain ⟨B',hcut,hrd⟩:=cut_partP b B bn bd M T w HB.out hMT (by rw [← HN.out.1];exact hTn) (by rw [← HN.out.1];exact HN.out.2.1)
      have hlen:T-M=((b.take T).drop M).length:=by rw [List.length_drop,List.length_take];have:=HN.out.1;omega
      have CI:=piece_c HL.out (show mo≤1048576 by have:=HMO.out;omega) HPE.out rfl ((b.take T).drop M) (np:=T-M) (dp:=bd-M) hlen (by have:=HN.out.2.1;omega) (by have:=HN.out.2.2;omega) hrd
      rw [take_cut b hMT] at CI
      have CI:=Hy CI
      have HLAST:=Hy hlast
      have st:IntKind.i64.wrap ((t:Int)+1)=((t+1:Nat):Int):=by rw [IntKind.wrap_i64];omega
      obtain ⟨L,hL⟩:∃ L,L=T-M:=⟨_,rfl⟩
      obtain ⟨L2,hL2⟩:∃ L,L=bd-M:=⟨_,rfl⟩
      rw [← hL,← hL2] at hcut
      rw [← hL,← hL2] at CI
      clear hlen hrd hL hL2 hlast
      go_wp2_with (first
       | (go_at_call 10;refine (CI.out).mono ?_;rintro e w4 ⟨A4,k4,c4,es,es4,o4,rfl,hs4,hr4,hl4,ho4,hb4,hk4⟩;have HS4:=Hy hs4;have HR4:=Hy hr4;have HL4:=Hy hl4;have HO4:=Hy ho4;have HB4:=Hy hb4;have HK4:=Hy hk4;clear hs4 hr4 hl4 ho4 hb4 hk4)
       | (at_builtin;go_loud (refine wpL_put slt_ev (.tmp 87) (.tmp 93) rfl rfl rfl rfl HS4.out HPE.out.na (Sl.src Tryz.underlying32 HR4.out HL4.out (by omega) HO4.out c4) (by have:=HB4.out;omega) (by have:=HB4.out;unfold maxLen;omega) ?_;intro A7 c7 w7 o7 hs7 hst7 hz7;have HP7:=Hy (HK4.out _ _ _ _ hs7 hst7 hz7);clear hs7 hst7 hz7)))
      go_roundw
      case rel=>exact ⟨T,t+1,A7,_,c7,_,rfl,rfl,by go_num,by omega,(fun hh=>by first | rfl | exact HLAST.out hh),hTn,HP7.out⟩
      case measure=>simp [intOf];omega
     ·have hMT:M≤bn:=hMn
      have hTn:bn≤bn:=Nat.le_refl _
      have hlast:t+1=m+1→bn=bn:=fun _=>rfl
      obtain ⟨B',hcut,hrd⟩:=cut_partP b B bn bd M bn w HB.out hMT (by rw [← HN.out.1];exact hTn) (by rw [← HN.out.1];exact HN.out.2.1)
      have hlen:bn-M=((b.take bn).drop M).length:=by rw [List.length_drop,List.length_take];have:=HN.out.1;omega
      have CI:=piece_c HL.out (show mo≤1048576 by have:=HMO.out;omega) HPE.out rfl ((b.take bn).drop M) (np:=bn-M) (dp:=bd-M) hlen (by have:=HN.out.2.1;omega) (by have:=HN.out.2.2;omega) hrd
      rw [take_cut b hMT] at CI
      have CI:=Hy CI
      have HLAST:=Hy hlast
      have st:IntKind.i64.wrap ((t:Int)+1)=((t+1:Nat):Int):=by rw [IntKind.wrap_i64];omega
      obtain ⟨L,hL⟩:∃ L,L=bn-M:=⟨_,rfl⟩
      obtain ⟨L2,hL2⟩:∃ L,L=bd-M:=⟨_,rfl⟩
      rw [← hL,← hL2] at hcut
      rw [← hL,← hL2] at CI
      clear hlen hrd hL hL2 hlast
      go_wp2_with (first
       | (go_at_call 10;refine (CI.out).mono ?_;rintro e w4 ⟨A4,k4,c4,es,es4,o4,rfl,hs4,hr4,hl4,ho4,hb4,hk4⟩;have HS4:=Hy hs4;have HR4:=Hy hr4;have HL4:=Hy hl4;have HO4:=Hy ho4;have HB4:=Hy hb4;have HK4:=Hy hk4;clear hs4 hr4 hl4 ho4 hb4 hk4)
       | (at_builtin;go_loud (refine wpL_put slt_ev (.tmp 87) (.tmp 93) rfl rfl rfl rfl HS4.out HPE.out.na (Sl.src Tryz.underlying32 HR4.out HL4.out (by omega) HO4.out c4) (by have:=HB4.out;omega) (by have:=HB4.out;unfold maxLen;omega) ?_;intro A7 c7 w7 o7 hs7 hst7 hz7;have HP7:=Hy (HK4.out _ _ _ _ hs7 hst7 hz7);clear hs7 hst7 hz7)))
      go_roundw
      case rel=>exact ⟨bn,t+1,A7,_,c7,_,rfl,rfl,by go_num,by omega,(fun hh=>by first | rfl | exact HLAST.out hh),hTn,HP7.out⟩
      case measure=>simp [intOf];omega
    ·have k2:¬(t:Int)<(m:Int):=by omega
     have hMT:M≤bn:=hMn
     have hTn:bn≤bn:=Nat.le_refl _
     have hlast:t+1=m+1→bn=bn:=fun _=>rfl
     obtain ⟨B',hcut,hrd⟩:=cut_partP b B bn bd M bn w HB.out hMT (by rw [← HN.out.1];exact hTn) (by rw [← HN.out.1];exact HN.out.2.1)
     have hlen:bn-M=((b.take bn).drop M).length:=by rw [List.length_drop,List.length_take];have:=HN.out.1;omega
     have CI:=piece_c HL.out (show mo≤1048576 by have:=HMO.out;omega) HPE.out rfl ((b.take bn).drop M) (np:=bn-M) (dp:=bd-M) hlen (by have:=HN.out.2.1;omega) (by have:=HN.out.2.2;omega) hrd
     rw [take_cut b hMT] at CI
     have CI:=Hy CI
     have HLAST:=Hy hlast
     have st:IntKind.i64.wrap ((t:Int)+1)=((t+1:Nat):Int):=by rw [IntKind.wrap_i64];omega
     obtain ⟨L,hL⟩:∃ L,L=bn-M:=⟨_,rfl⟩
     obtain ⟨L2,hL2⟩:∃ L,L=bd-M:=⟨_,rfl⟩
     rw [← hL,← hL2] at hcut
     rw [← hL,← hL2] at CI
     clear hlen hrd hL hL2 hlast
     go_wp2_with (first
      | (go_at_call 10;refine (CI.out).mono ?_;rintro e w4 ⟨A4,k4,c4,es,es4,o4,rfl,hs4,hr4,hl4,ho4,hb4,hk4⟩;have HS4:=Hy hs4;have HR4:=Hy hr4;have HL4:=Hy hl4;have HO4:=Hy ho4;have HB4:=Hy hb4;have HK4:=Hy hk4;clear hs4 hr4 hl4 ho4 hb4 hk4)
      | (at_builtin;go_loud (refine wpL_put slt_ev (.tmp 87) (.tmp 93) rfl rfl rfl rfl HS4.out HPE.out.na (Sl.src Tryz.underlying32 HR4.out HL4.out (by omega) HO4.out c4) (by have:=HB4.out;omega) (by have:=HB4.out;unfold maxLen;omega) ?_;intro A7 c7 w7 o7 hs7 hst7 hz7;have HP7:=Hy (HK4.out _ _ _ _ hs7 hst7 hz7);clear hs7 hst7 hz7)))
     go_roundw
     case rel=>exact ⟨bn,t+1,A7,_,c7,_,rfl,rfl,by go_num,by omega,(fun hh=>by first | rfl | exact HLAST.out hh),hTn,HP7.out⟩
     case measure=>simp [intOf];omega
   ·have k1:¬(t:Int)≤(m:Int):=by omega
    obtain rfl:M=bn:=htm (by omega)
    clear htm ht htl hMn
    have hz:allC (newC mo) (b.take M)=Z:=by rw [HZ.out,List.take_of_length_le (by rw [← HN.out.1];exact Nat.le_refl _)]
    rw [hz] at HPE
    obtain rfl:n2=n1:=HPE.out.h2.trans HPE.out.h1.symm
    obtain ⟨rd,hrd⟩:∃ r,r=Z.reads:=⟨_,rfl⟩
    have CR1:=Hy (show Calls Tryz.prog 11 #[.pointer (some ⟨c,0,none⟩)] wr (Tells (.bool rd) wr) from by rw [hrd];exact nReading_c 20 c (putC Z) wr o HPE.out.cn)
    have CR2:=Hy (show Calls Tryz.prog 11 #[.pointer (some ⟨D,0,none⟩)] wr (Tells (.bool rd) wr) from by rw [hrd];exact nReading_c 40 D (putC Z) wr o HPE.out.dn)
    have HRD:=Hy hrd
    clear hz hrd
    have k3:¬(M:Int)<(M:Int):=by omega
    have k4:(rd == rd)=true:=by cases rd <;> rfl
    go_upto_region 22 with (first
     | (go_at_call 11;refine (CR1.out).mono ?_;clear CR1;rintro e w2 ⟨rfl,hw⟩;subst hw)
     | (go_at_call 11;refine (CR2.out).mono ?_;rintro e w2 ⟨rfl,hw⟩;subst hw))
    clear CR2
    obtain ⟨t,ht,hst⟩:=RefI.start HPE.out.i
    rw [← HRD.out] at hst
    have HPS:=Hy (show PcS w c D (putC Z) (putC Z) Z.evs A1 d1 A2 d2 wr o from ⟨HPE.out.old,HPE.out.ol,HPE.out.cn,HPE.out.dn,by have:=HPE.out.e1;rw [HPE.out.h1] at this;exact this,by have:=HPE.out.e2;rw [HPE.out.h1] at this;exact this⟩)
    have HNZ:=Hy HPE.out.h1
    have HST:=Hy hst
    have HT:=Hy ht
    have H8:=Hy (show ∀ x∈Z.evs,Rq8 x.r from by rw [HZ.out];exact all_8 (by have:=HMO.out;omega) b)
    have HB64:=Hy (show n2≤64 from by rw [HPE.out.h1];exact HPE.out.i.few.1)
    obtain ⟨l,hl⟩:∃ l,l=Z.evs:=⟨_,rfl⟩
    rw [← hl] at HPS HNZ HST H8
    clear ht hst HPE hl HRD k3 k4
    go_loopw [16] (fun v wr=>PcM w c D rd t l A1 d1 A2 d2 v wr) (fun v _=>n2-(intOf v).toNat)
    case atStart=>exact ⟨0,l,putC Z,o,rfl,rfl,Nat.zero_le _,HST.out,HPS.out⟩
    case round =>
     obtain ⟨i,mm,s,o',rfl,hdr,hil,hRI,hS⟩:=hrel
     have HS:=Hy hS
     have HRI:=Hy hRI
     have HDR:=Hy hdr
     clear hS hRI hdr HPS HST
     cases mm with
     | nil =>
      have hin:i=n2:=by
       have h1:=HNZ.out
       have h2:l.length≤i:=by
        have:=congrArg List.length HDR.out
        rw [List.length_drop] at this
        simp at this
        omega
       omega
      have hii:¬(i:Int)<(n2:Int):=by omega
      clear hin hil
      obtain ⟨k,hk⟩:∃ k,k=s.out.length:=⟨_,rfl⟩
      obtain ⟨so,hso⟩:∃ x,x=str s.out:=⟨_,rfl⟩
      obtain ⟨s5,hs5⟩:∃ x,x={ s with out:=[] }:=⟨_,rfl⟩
      obtain ⟨cl,hcl⟩:∃ x,x=closedC s5:=⟨_,rfl⟩
      have CO1:=Hy (fun (w':World) (e:Ext wr w')=>(by have:=outC_c (HS.out.oz e) hk;rw [← hs5] at this;exact this:Calls Tryz.prog 14 #[.pointer (some ⟨c,0,none⟩)] w' fun e w'=>∃ A5 c5 o',e=.returned (.slice A5 k c5)∧PcS w c D s5 s l A1 d1 A2 d2 w' o'∧Sl w' o' 97 1 A5 k c5 (bc s.out)))
      have CO2:=Hy (fun (w':World) (o':Ow) (h:PcS w c D s5 s l A1 d1 A2 d2 w' o')=>(by have:=outD_c h hk;rw [← hs5] at this;exact this:Calls Tryz.prog 14 #[.pointer (some ⟨D,0,none⟩)] w' fun e w2=>∃ A5 c5 o2,e=.returned (.slice A5 k c5)∧PcS w c D s5 s5 l A1 d1 A2 d2 w2 o2∧Sl w2 o2 98 1 A5 k c5 (bc s.out)∧Sto (KC 40) w' o' w2 o2))
      have CC1:=Hy (fun (w':World) (o':Ow) (h:PcS w c D s5 s5 l A1 d1 A2 d2 w' o')=>(by have:=nClosed_c 20 c s5 w' o' h.cn;rw [← hcl] at this;exact this:Calls Tryz.prog 15 #[.pointer (some ⟨c,0,none⟩)] w' (Tells (.bool cl) w')))
      have CC2:=Hy (fun (w':World) (o':Ow) (h:PcS w c D s5 s5 l A1 d1 A2 d2 w' o')=>(by have:=nClosed_c 40 D s5 w' o' h.dn;rw [← hcl] at this;exact this:Calls Tryz.prog 15 #[.pointer (some ⟨D,0,none⟩)] w' (Tells (.bool cl) w')))
      have CV:=Hy (fun (w':World) (o':Ow) (j:Nat) (A:Option Addr) (cc:Nat) (h:Sl w' o' j 1 A k cc (bc s.out))=>(by rw [hso];exact conv_bs 22 9 5 Tryz.underlying22 Tryz.underlying5 Tryz.underlying9 h.rd k cc hk:(convert 22 9 (.slice A k cc)).run Tryz.prog w'=.ok (.string so) w'))
      have hcc:(cl == cl)=true:=by cases cl <;> rfl
      clear hk hso hs5 hcl HN1 HRI HDR HNZ HT H8 HB64
      go_upto_region 29 with (fail)
      refine wp_region_noPanic ?_
      refine wp_region_held_drew (S:=fun _=>True) (by kernel_rfl) trivial (fun hHeld=>?_)
      refine wpAnyH_take (i:=0) (oi:=?_) (v:=?_) ?_ (by kernel_rfl) (by kernel_rfl) (by kernel_rfl) (fun _ _ _ h=>h) (Or.inl ⟨?_,?_⟩) (by assumption) ?_
      rotate_left 2
      ·(simp only [List.getElem?_toArray,List.getElem?_cons_succ,List.getElem?_cons_zero];first | done | rfl)
      ·rfl
      ·intro w hSw
       try dsimp only at hSw
       go_simp <;> with_reducible rfl
      try simp only [Act.put,List.setIfInBounds_toArray,List.set_cons_zero,List.set_cons_succ]
      refine wpAnyH_take (i:=3) (oi:=?_) (v:=?_) ?_ (by kernel_rfl) (by kernel_rfl) (by kernel_rfl) (fun _ _ _ h=>h) (Or.inl ⟨?_,?_⟩) (by assumption) ?_
      rotate_left 2
      ·(simp only [List.getElem?_toArray,List.getElem?_cons_succ,List.getElem?_cons_zero];first | done | rfl)
      ·rfl
      ·intro w hSw
       try dsimp only at hSw
       go_simp <;> with_reducible rfl
      try simp only [Act.put,List.setIfInBounds_toArray,List.set_cons_zero,List.set_cons_succ]
      refine wpAnyH_ready (rs:=[1]) (by kernel_rfl) (by simp) ?_
      refine AllReadyH.cons rfl (fun K hK=>?_) AllReadyH.nil
      go_simp
      go_at_call 14
      refine (CO1.out _ Xq).mono ?_
      rintro e w5 ⟨A5,c5,o5,rfl,hS5,hs5⟩
      have v5:=CV.out _ _ _ _ _ hs5
      have HS5:=Hy hS5
      have HSL5:=Hy hs5
      clear hS5 hs5
      refine hK.out _ _ trivial (fun _=>?_)
      clear hHeld
      clear hK K
      try simp only [List.getElem?_toArray,List.getElem?_cons_succ,List.getElem?_cons_zero,Act.put,List.setIfInBounds_toArray,List.set_cons_zero,List.set_cons_succ]
      refine wpAnyJ_mono (S':=fun w'=>(convert 22 9 (.slice A5 k c5)).run Tryz.prog w'=.ok (.string so) w') (fun _ _=>trivial) ?_
      have hHeld:=v5
      refine wpAnyH_take (i:=2) (oi:=?_) (v:=?_) ?_ (by kernel_rfl) (by kernel_rfl) (by kernel_rfl) (fun _ _ _ h=>h) (Or.inl ⟨?_,?_⟩) (by assumption) ?_
      rotate_left 2
      ·(simp only [List.getElem?_toArray,List.getElem?_cons_succ,List.getElem?_cons_zero];first | done | rfl)
      ·rfl
      ·intro w hSw
       try dsimp only at hSw
       go_simp <;> with_reducible rfl
      try simp only [Act.put,List.setIfInBounds_toArray,List.set_cons_zero,List.set_cons_succ]
      refine wpAnyH_ready (rs:=[4]) (by kernel_rfl) (by simp) ?_
      refine AllReadyH.cons rfl (fun K hK=>?_) AllReadyH.nil
      go_simp
      go_at_call 14
      refine (CO2.out _ _ HS5.out).mono ?_
      rintro e w6 ⟨A6,c6,o6,rfl,hS6,hs6,st6⟩
      have v6:=CV.out _ _ _ _ _ hs6
      have v56:=CV.out _ _ _ _ _ (HSL5.out.sto st6 (by unfold KC;omega))
      have HS6:=Hy hS6
      clear hS6 hs6 st6
      refine hK.out _ _ v56 (fun _=>?_)
      have v56':=v56
      clear hHeld v5 v56
      clear hK K
      try simp only [List.getElem?_toArray,List.getElem?_cons_succ,List.getElem?_cons_zero,Act.put,List.setIfInBounds_toArray,List.set_cons_zero,List.set_cons_succ]
      refine wpAnyJ_mono (S':=fun w'=>(convert 22 9 (.slice A5 k c5)).run Tryz.prog w'=.ok (.string so) w'∧(convert 22 9 (.slice A6 k c6)).run Tryz.prog w'=.ok (.string so) w') (fun _ h=>h.1) ?_
      have hHeld:=And.intro v56' v6
      refine wpAnyH_take (i:=5) (oi:=?_) (v:=?_) ?_ (by kernel_rfl) (by kernel_rfl) (by kernel_rfl) (fun _ _ _ h=>h) (Or.inl ⟨?_,?_⟩) (by assumption) ?_
      rotate_left 2
      ·(simp only [List.getElem?_toArray,List.getElem?_cons_succ,List.getElem?_cons_zero];first | done | rfl)
      ·rfl
      ·intro w hSw
       try dsimp only at hSw
       go_simp <;> with_reducible rfl
      try simp only [Act.put,List.setIfInBounds_toArray,List.set_cons_zero,List.set_cons_succ]
      refine wpAnyH_take (i:=6) (oi:=?_) (v:=?_) ?_ (by kernel_rfl) (by kernel_rfl) (by kernel_rfl) (fun _ _ _ h=>h) (Or.inl ⟨?_,?_⟩) (by assumption) ?_
      rotate_left 2
      ·(simp only [List.getElem?_toArray,List.getElem?_cons_succ,List.getElem?_cons_zero];first | done | rfl)
      ·rfl
      ·intro w hSw
       try dsimp only at hSw
       go_simp <;> with_reducible rfl
      try simp only [Act.put,List.setIfInBounds_toArray,List.set_cons_zero,List.set_cons_succ]
      refine wpAnyH_take (i:=7) (oi:=?_) (v:=?_) ?_ (by kernel_rfl) (by kernel_rfl) (by kernel_rfl) (fun _ _ _ h=>h) (Or.inl ⟨?_,?_⟩) (by assumption) ?_
      rotate_left 2
      ·(simp only [List.getElem?_toArray,List.getElem?_cons_succ,List.getElem?_cons_zero];first | done | rfl)
      ·rfl
      ·intro w hSw
       try dsimp only at hSw
       go_simp <;> with_reducible rfl
      try simp only [Act.put,List.setIfInBounds_toArray,List.set_cons_zero,List.set_cons_succ]
      refine wpAnyH_take (i:=8) (oi:=?_) (v:=?_) ?_ (by kernel_rfl) (by kernel_rfl) (by kernel_rfl) (fun _ _ _ h=>h) (Or.inl ⟨?_,?_⟩) (by assumption) ?_
      rotate_left 2
      ·(simp only [List.getElem?_toArray,List.getElem?_cons_succ,List.getElem?_cons_zero];first | done | rfl)
      ·rfl
      ·intro w hSw
       try dsimp only at hSw
       go_simp <;> with_reducible rfl
      try simp only [Act.put,List.setIfInBounds_toArray,List.set_cons_zero,List.set_cons_succ]
      refine wpAnyH_take (i:=10) (oi:=?_) (v:=?_) ?_ (by kernel_rfl) (by kernel_rfl) (by kernel_rfl) (fun _ _ _ h=>h) (Or.inl ⟨?_,?_⟩) (by assumption) ?_
      rotate_left 2
      ·(simp only [List.getElem?_toArray,List.getElem?_cons_succ,List.getElem?_cons_zero];first | done | rfl)
      ·rfl
      ·intro w hSw
       try dsimp only at hSw
       go_simp <;> with_reducible rfl
      try simp only [Act.put,List.setIfInBounds_toArray,List.set_cons_zero,List.set_cons_succ]
      refine wpAnyH_ready (rs:=[9]) (by kernel_rfl) (by simp) ?_
      refine AllReadyH.cons rfl (fun K hK=>?_) AllReadyH.nil
      go_simp
      go_at_call 15
      refine (CC1.out _ _ HS6.out).mono ?_
      rintro e w7 ⟨rfl,hw⟩
      subst hw
      refine hK.out _ _ hHeld (fun _=>?_)
      clear hK K
      try simp only [List.getElem?_toArray,List.getElem?_cons_succ,List.getElem?_cons_zero,Act.put,List.setIfInBounds_toArray,List.set_cons_zero,List.set_cons_succ]
      refine wpAnyH_ready (rs:=[11]) (by kernel_rfl) (by simp) ?_
      refine AllReadyH.cons rfl (fun K hK=>?_) AllReadyH.nil
      go_simp
      go_at_call 15
      refine (CC2.out _ _ HS6.out).mono ?_
      rintro e w7 ⟨rfl,hw⟩
      subst hw
      refine hK.out _ _ hHeld (fun _=>?_)
      clear hK K
      try simp only [List.getElem?_toArray,List.getElem?_cons_succ,List.getElem?_cons_zero,Act.put,List.setIfInBounds_toArray,List.set_cons_zero,List.set_cons_succ]
      refine wpAnyH_take (i:=12) (oi:=?_) (v:=?_) ?_ (by kernel_rfl) (by kernel_rfl) (by kernel_rfl) (fun _ _ _ h=>h) (Or.inl ⟨?_,?_⟩) (by assumption) ?_
      rotate_left 2
      ·(simp only [List.getElem?_toArray,List.getElem?_cons_succ,List.getElem?_cons_zero];first | done | rfl)
      ·rfl
      ·intro w hSw
       try dsimp only at hSw
       go_simp <;> with_reducible rfl
      try simp only [Act.put,List.setIfInBounds_toArray,List.set_cons_zero,List.set_cons_succ]
      refine wpAnyH_take (i:=13) (oi:=?_) (v:=?_) ?_ (by kernel_rfl) (by kernel_rfl) (by kernel_rfl) (fun _ _ _ h=>h) (Or.inl ⟨?_,?_⟩) (by assumption) ?_
      rotate_left 2
      ·(simp only [List.getElem?_toArray,List.getElem?_cons_succ,List.getElem?_cons_zero];first | done | rfl)
      ·rfl
      ·intro w hSw
       try dsimp only at hSw
       go_simp <;> with_reducible rfl
      try simp only [Act.put,List.setIfInBounds_toArray,List.set_cons_zero,List.set_cons_succ]
      refine wpAnyH_take (i:=14) (oi:=?_) (v:=?_) ?_ (by kernel_rfl) (by kernel_rfl) (by kernel_rfl) (fun _ _ _ h=>h) (Or.inl ⟨?_,?_⟩) (by assumption) ?_
      rotate_left 2
      ·(simp only [List.getElem?_toArray,List.getElem?_cons_succ,List.getElem?_cons_zero];first | done | rfl)
      ·rfl
      ·intro w hSw
       try dsimp only at hSw
       go_simp <;> with_reducible rfl
      try simp only [Act.put,List.setIfInBounds_toArray,List.set_cons_zero,List.set_cons_succ]
      refine wpAnyH_done (by kernel_rfl) ?_ _
      refine NoPanic.normal ?_
      go_wp2
      go_ret
      exact ⟨rfl,HS6.out.old.ext⟩
     | cons e0 mm =>
      obtain ⟨q1,q2,q3⟩:=drop_next HDR.out
      have hii:(i:Int)<(n2:Int):=by have:=HNZ.out;omega
      have hi0:(0:Int)≤(i:Int):=by omega
      have hi64:i<64:=by have:=HB64.out;omega
      have h8:=H8.out e0 q3
      obtain ⟨es1,x1,x2⟩:=HS.out.e1
      obtain ⟨es2,y1,y2⟩:=HS.out.e2
      obtain ⟨g,f,F,cf,B1,cb,rfl,hc1,hF1,hB1⟩:=ev_cells x1 rfl x2 HDR.out
      obtain ⟨g',f',F',cf',B2,cb',rfl,hc2,hF2,hB2⟩:=ev_cells y1 rfl y2 HDR.out
      obtain ⟨⟨ide,⟨me,te,mie,fse⟩,bde⟩,he0⟩:∃ e,e=e0:=⟨_,rfl⟩
      rw [← he0] at hc1 hc2 hF1 hF2 hB1 hB2 h8
      have HE0:=Hy he0
      dsimp only at hc1 hc2 hF1 hF2 hB1 hB2 h8
      obtain ⟨sb,hsb⟩:∃ s,s=str bde:=⟨_,rfl⟩
      have hfl:fse.length≤maxLen:=by have:=h8.2.2.1;unfold maxLen;simp at this;omega
      obtain ⟨nb,hnb⟩:∃ n,n=bde.length:=⟨_,rfl⟩
      obtain ⟨nf,hnf⟩:∃ n,n=fse.length:=⟨_,rfl⟩
      obtain ⟨sm,hsm⟩:∃ s,s=str me:=⟨_,rfl⟩
      obtain ⟨sx,hsx⟩:∃ s,s=str te:=⟨_,rfl⟩
      rw [← hnb,← hnf,← hsm,← hsx] at hc1 hc2
      have hks:=Hy (fun w' (e:Ext wr w')=>(show (w'.cell? ⟨g,f+i*6,none⟩=some (.int .i64 (ide:Int))∧w'.cell? ⟨g,f+i*6+1,none⟩=some (.string sm)∧w'.cell? ⟨g,f+i*6+2,none⟩=some (.string sx)∧w'.cell? ⟨g,f+i*6+3,none⟩=some (.int .i64 mie)∧w'.cell? ⟨g,f+i*6+4,none⟩=some (.slice F nf cf)∧w'.cell? ⟨g,f+i*6+5,none⟩=some (.slice B1 nb cb))∧(w'.cell? ⟨g',f'+i*6,none⟩=some (.int .i64 (ide:Int))∧w'.cell? ⟨g',f'+i*6+1,none⟩=some (.string sm)∧w'.cell? ⟨g',f'+i*6+2,none⟩=some (.string sx)∧w'.cell? ⟨g',f'+i*6+3,none⟩=some (.int .i64 mie)∧w'.cell? ⟨g',f'+i*6+4,none⟩=some (.slice F' nf cf')∧w'.cell? ⟨g',f'+i*6+5,none⟩=some (.slice B2 nb cb'))∧(convert 22 9 (.slice B1 nb cb)).run Tryz.prog w'=.ok (.string sb) w'∧(convert 22 9 (.slice B2 nb cb')).run Tryz.prog w'=.ok (.string sb) w' from by
       have k:∀ {a:Addr} {u:Value},wr.cell? a=some u→w'.cell? a=some u:=fun hc=>(e.cell (lt_of_cell hc)).trans hc
       obtain ⟨a1,a2,a3,a4,a5,a6⟩:=hc1
       obtain ⟨b1,b2,b3,b4,b5,b6⟩:=hc2
       exact ⟨⟨k a1,k a2,k a3,k a4,k a5,k a6⟩,⟨k b1,k b2,k b3,k b4,k b5,k b6⟩,by rw [hsb];exact conv_bs 22 9 5 Tryz.underlying22 Tryz.underlying5 Tryz.underlying9 (hB1.rd.ext e) nb cb hnb,by rw [hsb];exact conv_bs 22 9 5 Tryz.underlying22 Tryz.underlying5 Tryz.underlying9 (hB2.rd.ext e) nb cb' hnb⟩))
      have CS:=Hy (fun (w':World) (e:Ext wr w')=>hSame_c sm sx mie fse F F' nf nf cf cf' hnf.symm hnf.symm (by rw [hnf];exact hfl) w' (hF1.rd.ext e) (hF2.rd.ext e))
      clear x1 x2 y1 y2 hc1 hc2 hF1 hF2 hB1 hB2 he0 h8 hsb hfl hnb hnf hsm hsx q3
      go_upto_region 24 with (fail)
      go_cut [164] (fun v wx=>v=.bool false∧Ext wr wx)
      case first =>
       obtain ⟨⟨a1,a2,a3,a4,a5,a6⟩,⟨b1,b2,b3,b4,b5,b6⟩,v1,v2⟩:=hks.out wr (Ext.rfl' _)
       go_region_held3 (fun w'=>(w'.cell? ⟨g,f+i*6,none⟩=some (.int .i64 (ide:Int))∧w'.cell? ⟨g,f+i*6+1,none⟩=some (.string sm)∧w'.cell? ⟨g,f+i*6+2,none⟩=some (.string sx)∧w'.cell? ⟨g,f+i*6+3,none⟩=some (.int .i64 mie)∧w'.cell? ⟨g,f+i*6+4,none⟩=some (.slice F nf cf)∧w'.cell? ⟨g,f+i*6+5,none⟩=some (.slice B1 nb cb))∧(w'.cell? ⟨g',f'+i*6,none⟩=some (.int .i64 (ide:Int))∧w'.cell? ⟨g',f'+i*6+1,none⟩=some (.string sm)∧w'.cell? ⟨g',f'+i*6+2,none⟩=some (.string sx)∧w'.cell? ⟨g',f'+i*6+3,none⟩=some (.int .i64 mie)∧w'.cell? ⟨g',f'+i*6+4,none⟩=some (.slice F' nf cf')∧w'.cell? ⟨g',f'+i*6+5,none⟩=some (.slice B2 nb cb'))∧(convert 22 9 (.slice B1 nb cb)).run Tryz.prog w'=.ok (.string sb) w'∧(convert 22 9 (.slice B2 nb cb')).run Tryz.prog w'=.ok (.string sb) w') (exact hks.out _ Xw) (first | (go_at_call 12;refine (CS.out _ Xq).mono ?_;rintro e w2 ⟨rfl,hx2⟩))
       all_goals (go_wp2_with fail;go_meet)
       all_goals exact ⟨rfl,Xq⟩
      case rest =>
       obtain ⟨rfl,hx⟩:=hcut
       have HX:=Hy hx
       clear hks CS hx
       have hw8:IntKind.u8.wrap (i:Int)=(i:Int):=by rw [IntKind.wrap_u8];omega
       go_upto_region 26 with (fail)
       go_cut [17] (fun v wx=>PcX w c D s l (some ⟨g,f,none⟩) d1 (some ⟨g',f',none⟩) d2 [UInt8.ofNat i] v wx)
       case first =>
        go_wp2
        go_meet
        exact PcX.mk HS.out HX.out hi64
       case rest =>
        obtain ⟨p,B,o6,rfl,hrow,hop,hro,hS6⟩:=hcut
        have HS6:=Hy hS6
        have HRO:=Hy hro
        have HROW:=Hy hrow
        have HOP:=Hy hop
        have x0:=(row_facts hrow 0 _ rfl).1
        have x1:=(row_facts hrow 1 _ rfl).1
        have x2:=(row_facts hrow 2 _ rfl).1
        have CA:=Hy (ansC_c HL.out HS6.out HT.out HRI.out (x:=[UInt8.ofNat i]) (by simp) (n:=1) (d:=1) rfl HRO.out)
        have CB:=Hy (fun (w':World) (o':Ow) (h:PcS w c D (answerC s i [UInt8.ofNat i]).1 s l (some ⟨g,f,none⟩) d1 (some ⟨g',f',none⟩) d2 w' o') (hB:Ro w' o' B (bc [UInt8.ofNat i]))=>ansD_c HL.out h HT.out HRI.out (x:=[UInt8.ofNat i]) (by simp) (n:=1) (d:=1) rfl hB)
        have HQ:=Hy (And.intro q1 q2)
        clear hS6 hro hrow hop hw8 HX q1 q2
        go_wp2_with (first
         | (go_at_call 13;refine (CA.out).mono ?_;clear CA;rintro e w4 ⟨o4,rfl,hS4,st4⟩;have hrow4:=(st4.keep p (row_lt HROW.out) (by rw [HOP.out];exact kc0 (by decide))).trans HROW.out;have y0:=(row_facts hrow4 0 _ rfl).1;have y1:=(row_facts hrow4 1 _ rfl).1;have y2:=(row_facts hrow4 2 _ rfl).1;have HS4:=Hy hS4;have HRO4:=Hy (HRO.out.sto st4 (kc0 (by decide)));clear hS4 st4 hrow4 x0 x1 x2)
         | (go_at_call 8;refine (nNum_c _ _).mono ?_;rintro e w9 ⟨rfl,hw⟩;subst hw)
         | (go_at_call 13;refine (CB.out _ _ HS4.out HRO4.out).mono ?_;clear CB;rintro e w5 ⟨o5,rfl,hS5⟩;have HS5:=Hy hS5;clear hS5))
        go_roundw
        case rel=>exact ⟨i+1,mm,_,o5,by go_num,HQ.out.1,HQ.out.2,(HRI.out.step HT.out _ (by simp)).1,HS5.out⟩
        case measure=>simp [intOf];omega
end Go.Proofs.YthbofilcnpdghaaGreatDoor
