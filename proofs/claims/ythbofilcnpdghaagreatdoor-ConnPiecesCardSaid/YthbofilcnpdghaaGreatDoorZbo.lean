/-
A connection's whole.
-/
import Derived.Test.YthbofilcnpdghaaGreatDoorZbk
import Derived.Test.YthbofilcnpdghaaGreatDoorJk3
import Derived.Test.YthbofilcnpdghaaGreatDoorJk4
import Derived.Test.YthbofilcnpdghaaGreatDoorJk5
import Derived.Test.YthbofilcnpdghaaGreatDoorZaw
import Derived.Test.YthbofilcnpdghaaGreatDoorZaz
import Derived.Test.YthbofilcnpdghaaGreatDoorZbe
import Derived.Defers
import Derived.Recover
set_option maxRecDepth 100000
set_option maxHeartbeats 8000000
set_option linter.unusedVariables false
set_option linter.unusedSimpArgs false
section
namespace Go.Proofs.YthbofilcnpdghaaGreatDoor
open Go.RowKit
theorem nWhole_c (w0:World) (hL:Lb w0) (k c:Nat) (hk:0<k) (hk8:k<80) (s:Cst) (hi:s.inBody=false) (hf:Rq8 (askP s.hp)) (hfl:s.hp.fields.length≤100) (hmo:s.most≤1048576) (hout:s.out.length≤100000) (w:World) (o:Ow) (hO:Old w0 w o) (h:CnAt w o k c s) :
  Calls Tryz.prog 41 #[.pointer (some ⟨c,0,none⟩)] w (EndsC (KH k) k w o c (fun R=>∃ P,R=some ⟨P,0,none⟩∧w.heap.size≤P) (wholeC s)):=by
 by_cases h1:WOk (askP s.hp)
 ·by_cases h2:WLen (askP s.hp)
  ·by_cases h3:WBad s.most (askP s.hp)
   ·exact nWhole_3 w0 hL k c hk hk8 s hi hf hfl hmo hout h1 h2 h3 w o hO h
   ·by_cases h4:WApp s.row (askP s.hp)
    ·exact nWhole_5 w0 hL k c hk hk8 s hi hf hfl hmo hout h1 h2 h3 h4 w o hO h
    ·exact nWhole_4 w0 hL k c hk hk8 s hi hf hfl hmo hout h1 h2 h3 h4 w o hO h
  ·exact nWhole_2 w0 hL k c hk hk8 s hi hf hfl hmo hout h1 h2 w o hO h
 ·exact nWhole_1 w0 hL k c hk hk8 s hi hf hfl hmo hout h1 w o hO h
theorem line_at (n:Nat) {b:List UInt8} {j:Nat} (h:j<b.length):lineC n (b.take (j+1))=if b[j]≠13∧b[j]≠10∧lineC n (b.take j)=0 then 1 else if b[j]=10∧lineC n (b.take j)=1 then 2 else lineC n (b.take j):=by
 rw [List.take_succ_eq_append_getElem h,line_app];rfl
theorem nLooks_c (k c:Nat) (hk:0<k) (s:Cst) (b:List UInt8) (B:Option Addr) (n d:Nat) (hn:n=b.length) (hnb:n≤4611686018427387904) (w:World) (o:Ow) (a:Cad) (h:CnX w o k c s a) (hB:Rd w B (bc b)) (hBo:b≠[]→∀ a,B=some a→a.block<w.heap.size→o a.block≠k) :
  Calls Tryz.prog 39 #[.pointer (some ⟨c,0,none⟩),.slice B n d] w fun e w'=>e=.returned (.tuple #[])∧CnX w' o k c (looksC s b) a∧Sto (fun i=>i=k) w o w' o:=by
 obtain ⟨ho,hr,hp⟩:=h
 have HO:=Hy ho
 have HR:=Hy hr
 have HP:=Hy hp
 have HB:=Hy hB
 have HBO:=Hy hBo
 have HN:=Hy hn
 have hsame:({ s with line:=s.line }:Cst)=s:=rfl
 have HQ:=Hy (show looksC s b={ s with line:=lineC s.line b,begun:=s.begun || decide (0<lineC s.line b) } from rfl)
 clear hr hp hB hBo hn ho
 go_enter Tryz.func39,Tryz.ntmps39
 go_wp2
 go_loopw [9] (fun v9 wr=>∃ j m:Nat,v9=.int .i64 (j:Int)∧j≤n∧Hid (lineC s.line (b.take j)=m)∧Crow wr c { s with line:=m } a∧Sto (fun i=>i=k) w o wr o) (fun v9 _=>n-(intOf v9).toNat)
 case atStart=>exact ⟨0,s.line,rfl,Nat.zero_le _,Hy rfl,HR.out,Sto.rfl'⟩
 case round =>
  obtain ⟨j,m,rfl,hj,HM,hr1,hst⟩:=hrel
  have c9:=hr1.c9
  have f9:=hr1.fz 9 (by decide)
  have HR1:=Hy hr1
  have HST:=Hy hst
  dsimp only at c9
  by_cases hlt:j<n
  ·have hjb:j<b.length:=by rw [← HN.out];exact hlt
   have hne:b≠[]:=by intro e;rw [e] at hjb;exact absurd hjb (by simp)
   have hrd:Rd wr B (bc b):=by
    rcases HB.out with h0 | ⟨g,f,hA,hc⟩
    ·exact .inl h0
    ·exact .inr ⟨g,f,hA,fun i u hu=>hst.cell (a:=⟨g,f+i,none⟩) (HBO.out hne ⟨g,f,none⟩ hA (show g<w.heap.size from lt_of_cell (hc i u hu))) (hc i u hu)⟩
   obtain ⟨g,f,rfl,hcb⟩:=hrd.byte hjb
   have hj0:(0:Int)≤(j:Int):=by omega
   have hj1:(j:Int)<(n:Int):=by omega
   have hj2:IntKind.i64.wrap ((j:Int)+1)=((j+1:Nat):Int):=by rw [IntKind.wrap_i64];omega
   obtain ⟨x,hx⟩:∃ x,x=b[j]:=⟨_,rfl⟩
   rw [← hx] at hcb
   have HL:=Hy (line_at s.line hjb)
   rw [← hx,HM.out] at HL
   have hsto:∀ u,Sto (fun i=>i=k) w o (wr.setCell ⟨c,9,none⟩ u) o:=fun u=>hst.tr (Sto.set c 9 u (fun _=>HO.out))
   have HSE:=Hy hsto
   clear hx hrd hst hsto hr1 hne hjb
   by_cases x13:x=13
   ·subst x13
    have HM2:=Hy (show lineC s.line (b.take (j+1))=m from by rw [HL.out];simp)
    rw [show ((13:UInt8).toNat:Int)=13 from rfl] at hcb
    clear HL
    go_wp2
    go_roundw
    case rel=>exact ⟨j+1,m,by go_num,by omega,HM2,HR1.out,HST.out⟩
    case measure=>simp [intOf];omega
   ·by_cases x10:x=10
    ·subst x10
     rw [show ((10:UInt8).toNat:Int)=10 from rfl] at hcb
     by_cases m1:m=1
     ·subst m1
      have HM2:=Hy (show lineC s.line (b.take (j+1))=2 from by rw [HL.out];simp)
      have hset:=Hy (HR1.out.set 9 (.int .i64 2) (s':={ s with line:=2 }) (a':=a) rfl)
      clear HL
      go_wp2
      go_roundw
      case rel=>exact ⟨j+1,2,by go_num,by omega,HM2,hset.out,HSE.out _⟩
      case measure=>simp [intOf];omega
     ·have d1:((m:Int) == 1)=false:=by rw [beq_eq_false_iff_ne];omega
      have HM2:=Hy (show lineC s.line (b.take (j+1))=m from by rw [HL.out];simp [m1])
      clear HL m1
      go_wp2
      go_roundw
      case rel=>exact ⟨j+1,m,by go_num,by omega,HM2,HR1.out,HST.out⟩
      case measure=>simp [intOf];omega
    ·have e13:((x.toNat:Int) != 13)=true:=by rw [bne_iff_ne];intro e;exact x13 (UInt8.toNat_inj.1 (by show x.toNat=13;omega))
     have e10:((x.toNat:Int) != 10)=true:=by rw [bne_iff_ne];intro e;exact x10 (UInt8.toNat_inj.1 (by show x.toNat=10;omega))
     have e11:((x.toNat:Int) == 10)=false:=by rw [beq_eq_false_iff_ne];intro e;exact x10 (UInt8.toNat_inj.1 (by show x.toNat=10;omega))
     by_cases m0:m=0
     ·subst m0
      have HM2:=Hy (show lineC s.line (b.take (j+1))=1 from by rw [HL.out];simp [x13,x10])
      have hset:=Hy (HR1.out.set 9 (.int .i64 1) (s':={ s with line:=1 }) (a':=a) rfl)
      clear HL x13 x10
      go_wp2
      go_roundw
      case rel=>exact ⟨j+1,1,by go_num,by omega,HM2,hset.out,HSE.out _⟩
      case measure=>simp [intOf];omega
     ·have d1:((m:Int) == 0)=false:=by rw [beq_eq_false_iff_ne];omega
      have HM2:=Hy (show lineC s.line (b.take (j+1))=m from by rw [HL.out];simp [m0,x10])
      clear HL m0 x13 x10
      go_wp2
      go_roundw
      case rel=>exact ⟨j+1,m,by go_num,by omega,HM2,HR1.out,HST.out⟩
      case measure=>simp [intOf];omega
  ·have HM2:=Hy (show lineC s.line b=m from by rw [← HM.out,List.take_of_length_le (by rw [← HN.out];omega)])
   have c5:=hr1.c5
   have f5:=hr1.fz 5 (by decide)
   have c2:=hr1.c2
   have f3:=hr1.fz 3 (by decide)
   dsimp only at c5
   obtain ⟨bg,hbg⟩:∃ x,x=s.begun:=⟨_,rfl⟩
   rw [← hbg] at c5
   have HBG:=Hy hbg
   clear hst hr1 hbg
   have hfin:∀ (w':World) (s':Cst),Crow w' c s' a→Sto (fun i=>i=k) w o w' o→looksC s b=s'→CnX w' o k c (looksC s b) a∧Sto (fun i=>i=k) w o w' o:=fun w' s' h1 h2 h3=>⟨⟨HO.out,by rw [h3];exact h1,by
    rw [HQ.out]
    have:=HP.out.sto h2 (by omega) (fun i _ _=>by omega) (fun a _=>by unfold KA;omega)
    exact ⟨this.hp,this.rd,this.r,this.got,this.evs,this.ez,this.row,this.lz,this.out,this.oz⟩⟩,h2⟩
   have HFIN:=Hy hfin
   clear hfin
   cases bg with
   | true =>
    go_wp2
    go_end0
    exact ⟨rfl,HFIN.out _ _ HR1.out HST.out (by rw [HQ.out,HM2.out,← HBG.out];simp)⟩
   | false =>
    by_cases m0:m=0
    ·subst m0
     go_wp2
     go_end0
     exact ⟨rfl,HFIN.out _ _ HR1.out HST.out (by rw [HQ.out,HM2.out,← HBG.out];simp)⟩
    ·have d1:(0:Int)<(m:Int):=by omega
     have hs5:=HR1.out.set 5 (.bool true) (s':={ s with line:=m,begun:=true }) (a':=a) rfl
     have k3:=(hs5.at_ 3 _ rfl).1
     have g3:=(hs5.at_ 3 _ rfl).2
     clear hs5
     have hset:=Hy ((HR1.out.set 5 (.bool true) (s':={ s with line:=m,begun:=true }) (a':=a) rfl).set 3 (.int .i64 0) (s':={ s with line:=m,begun:=true }) (a':=a) rfl)
     have hsto:=Hy ((HST.out.tr (Sto.set c 5 (.bool true) (fun _=>HO.out))).tr (Sto.set c 3 (.int .i64 0) (fun _=>HO.out)))
     go_wp2
     go_end0
     exact ⟨rfl,HFIN.out _ _ hset.out hsto.out (by rw [HQ.out,HM2.out,← HBG.out];simp;omega)⟩
theorem cut_toJ (b:List UInt8) (B:Option Addr) (n c X:Nat) (w:World) (o:Ow) (h:Ro w o B (bc b)) (hl:n=b.length) (hX:X≤n) (hc:n≤c) (w':World) :
  (Instr.slice 22 (.slice B n c) none (some (.int .i64 (X:Int))) none).run Tryz.prog w'=.ok (.slice B X c) w':=by
 have h2:(X:Int)≤(n:Int):=by omega
 have h3:(0:Int)≤(X:Int):=by omega
 have h4:(0:Int)≤(n:Int):=by omega
 have h5:(n:Int)≤(c:Int):=by omega
 have h6:(X:Int)≤(c:Int):=by omega
 have h7:X≤c:=by omega
 have hz:∀ w',(Go.sizeOf 5).run Tryz.prog w'=.ok 1 w':=fun _=>rfl
 have hu:=Tryz.underlying22
 rcases h with h | ⟨g,f,rfl,_⟩
 ·have hb:b=[]:=by simpa [bc] using h
  obtain rfl:X=0:=by rw [hb] at hl;simp at hl;omega
  exact cut_none B n c w'
 ·simp [Instr.slice,Instr.sliceBounds,Instr.sliceBound,asIntOf,run_underlying hu,go_sem,h2,h3,h4,h5,h6,h7,hz]
theorem Ro.takeJ {w:World} {o:Ow} {B:Option Addr} {b:List UInt8} (h:Ro w o B (bc b)) (X:Nat):Ro w o B (bc (b.take X)):=by
 rcases h with h | ⟨g,f,hB,hg,ho,hc⟩
 ·have hb:b=[]:=by simpa [bc] using h
  rw [hb];simp;exact .inl rfl
 ·refine .inr ⟨g,f,hB,hg,ho,fun j u hu=>hc j u ?_⟩
  unfold bc at hu ⊢
  rw [List.map_take,List.getElem?_take] at hu
  split at hu
  ·exact hu
  ·cases hu
def HeadR (w:World) (RA:Option Addr) (q:Sp24) (R:Option Addr):Prop:=if q.1.inBody=true then ∃ P,R=some ⟨P,0,none⟩∧w.heap.size≤P else R=RA
theorem CnX.hpPut {w w2:World} {o o2:Ow} {k c:Nat} {s:Cst} {a:Cad} (hk:0<k) (hk8:k<80) (h:CnX w o k c s a) (p:Pst) (st:Stp (KP (k+5)) w o w2 o2) (hf:PsAt w2 o2 (k+5) a.H p) :
  CnX w2 o2 k c { s with hp:=p } a∧Sto (KH k) w o w2 o2:=by
 obtain ⟨ho,hr,hp⟩:=h
 have t:=st.sto
 have h0:¬ KP (k+5) 0:=by unfold KP;omega
 refine ⟨⟨(t.own c (row_lt hr) (by rw [ho];unfold KP;omega)).trans ho,hr.sto t (by rw [ho];unfold KP;omega),?_⟩,t.mono fun i hi=>by unfold KP at hi;unfold KH KC;omega⟩
 exact ⟨hf,hp.rd.sto t (by unfold KP;omega) (by unfold KP;omega) (by unfold KP;omega) (by unfold KP;omega),hp.r.sto t h0,hp.got.sto t (by unfold KP;omega),hp.evsS t h0 (by unfold KP;omega),hp.ez,hp.rowS t h0 (by unfold KP;omega) (fun a _=>by unfold KP KA;omega),hp.lz,hp.out.sto t (by unfold KP;omega),hp.oz⟩
def LookW (k c:Nat) (w:World) (o:Ow) (s:Cst) (R:Option Addr) (wx:World):Prop:=∃ o',CnAtR wx o' k c s R∧Sto (KH k) w o wx o'
theorem nHeads_c (w0:World) (hL:Lb w0) (k c:Nat) (hk:0<k) (hk8:k<80) (s:Cst) (hi:s.inBody=false) (hg:Cgo s) (hout:s.out.length≤100000) (b:List UInt8) (B:Option Addr) (n d:Nat) (hn:n=b.length) (hd:n≤d) (hnb:n≤4611686018427387904) (w:World) (o:Ow) (hO:Old w0 w o) (RA:Option Addr) (h:CnAtR w o k c s RA) (hB:Ro w o B (bc b)) :
  Calls Tryz.prog 23 #[.pointer (some ⟨c,0,none⟩),.slice B n d] w (EndsS (KH k) k w o c (HeadR w RA (headsC s b)) (headsC s b)):=by
 obtain ⟨a,hx,hnx⟩:=h
 have CF:=Hy (hFeed_c (k+5) a.H (by omega) s.hp (.inr (.inr hg.ok.hp)) b B n d hn hnb w o hx.p.hp (hO.gl hL) hB.rd (fun hne a ha hl=>by
  rcases hB with h0 | ⟨g,f,hA,_,hog,_⟩
  ·exact absurd (by simpa [bc] using h0) hne
  ·rw [hA] at ha;cases ha;show ¬ KP (k+5) (o g);rw [hog];unfold KP;omega))
 have c7:=hx.row.c7
 have HD8:=Hy (fun h2 h3=>done_8 hg b h2 h3)
 have HFL:=Hy (feed_rf b s.hp hg.ok.hp.fl).2
 have hmo:=hg.ok.mo
 have HQ:=Hy (show headsC s b=(let q:=feedP s.hp b;let s1:=looksC { s with hp:=q.1 } (b.take q.2.1);if q.2.2.2=44 then (s1,some (if s1.line=2 then 431 else 414),b.drop q.2.1) else if q.2.2.2≠0 then (s1,some 400,b.drop q.2.1) else if q.2.2.1=true then ((wholeC s1).1,(wholeC s1).2,b.drop q.2.1) else (s1,none,b.drop q.2.1)) from rfl)
 have hul:=usedP_le s.hp b
 obtain ⟨⟨p2,u,dn,er⟩,hq⟩:∃ q,q=feedP s.hp b:=⟨_,rfl⟩
 rw [← hq] at CF HQ HD8 HFL hul
 dsimp only at HQ HD8 HFL hul
 obtain ⟨B',hcut,hcro⟩:=cut_ro 22 5 Tryz.underlying22 (fun _=>rfl) b B n d u (u:Int) rfl hn (by omega) hd
 have hct:=cut_toJ b B n d u w o hB hn (by omega) hd
 have HCR:=Hy hcro
 have HX:=Hy hx
 have HNX:=Hy hnx
 have HB:=Hy hB
 have HN:=Hy hn
 have HO:=Hy hO
 have hu:u≤n:=by omega
 have CF:=Hy (show Calls Tryz.prog 32 #[.pointer (some ⟨a.H,0,none⟩),.slice B n d] w (Turns (KP (k+5)) w o fun v w' o'=>v=.tuple #[.int .i64 (u:Int),.bool dn,.int .i64 er]∧PsAt w' o' (k+5) a.H p2) from CF.out)
 obtain ⟨s1,hs1⟩:∃ s1,s1=looksC { s with hp:=p2 } (b.take u):=⟨_,rfl⟩
 rw [← hs1] at HQ
 have HS1:=Hy hs1
 clear hx hnx hq hcro hB hn hO hul hs1
 go_enter Tryz.func23,Tryz.ntmps23
 go_upto_region 2 with (first
  | (go_at_call 32;refine (CF.out).mono ?_;rintro e w2 ⟨v,o2,rfl,⟨rfl,hf2⟩,st2⟩;obtain ⟨hX2,sto2⟩:=HX.out.hpPut hk hk8 p2 st2 hf2;have HX2:=Hy hX2;have STO2:=Hy sto2;clear hf2 st2 hX2 sto2))
 have hlen:u=(b.take u).length:=by rw [List.length_take];have:=HN.out;omega
 have HB2:=Hy (HB.out.sto STO2.out (kh0 hk))
 have CL:=Hy (nLooks_c k c hk { s with hp:=p2 } (b.take u) B u d hlen (by omega) w2 o2 a HX2.out (HB2.out.takeJ u).rd (fun hne a ha hl=>by
  rcases HB2.out with h0 | ⟨g,f,hA,_,hog,_⟩
  ·have:b=[]:=by simpa [bc] using h0
   rw [this] at hne;simp at hne
  ·rw [hA] at ha;cases ha;show ¬ o2 g=k;rw [hog];omega))
 rw [← HS1.out] at CL
 clear hlen CF c7
 go_cut [] (fun wx=>LookW k c w o s1 RA wx)
 case first =>
  go_wp2_with (go_at_call 39;refine (CL.out).mono ?_;rintro e w3 ⟨rfl,hA3,st3⟩)
  go_meet
  exact ⟨o2,⟨a,hA3,by rw [HS1.out];exact HNX.out⟩,STO2.out.tr (st3.mono fun i hi=>by unfold KH KC;omega)⟩
 case rest =>
  obtain ⟨o3,hA3,sto3⟩:=hcut
  have HA3:=Hy hA3
  have STO3:=Hy sto3
  obtain ⟨a3,hx3,_⟩:=hA3
  have c9:=hx3.row.c9
  have hi1:s1.inBody=false:=by rw [HS1.out];exact hi
  have ho1:s1.out.length≤100000:=by rw [HS1.out];exact hout
  have hm1:s1.most≤1048576:=by rw [HS1.out];exact hmo
  have hp1:s1.hp=p2:=by rw [HS1.out];rfl
  have CW:=Hy (fun (h2:dn=true) (h3:er=0)=>nWhole_c w0 hL k c hk hk8 s1 hi1 (by rw [hp1];exact HD8.out h2 h3) (by rw [hp1];exact HFL.out) hm1 ho1 wc o3 (HO.out.sto STO3.out (kh0 hk)) HA3.out.at_)
  have HU:=Hy (show (b.drop u).length=n-u from by rw [List.length_drop,HN.out])
  have hdu:n-u≤d-u:=by omega
  have HCR6:=Hy (fun w' o' (t:Sto (KH k) wc o3 w' o')=>HCR.out w' o' (HB.out.sto (STO3.out.tr t) (kh0 hk)))
  have HM1:=Hy hm1
  have HI1:=Hy hi1
  obtain ⟨ln,hln⟩:∃ l,l=s1.line:=⟨_,rfl⟩
  rw [← hln] at c9 HQ
  clear hx3 sto3 hi1 ho1 hm1 hp1 hln HCR HX HX2 STO2 HB HB2 CL HNX HD8 HFL HO HS1 hmo hout hi hg
  by_cases e44:er=44
  ·subst e44
   by_cases l2:ln=2
   ·subst l2
    have HQ2:=Hy (show headsC s b=(s1,some 431,b.drop u) from by rw [HQ.out];rfl)
    clear HQ CW
    go_wp2_with (go_at_call 40;refine (nRefuse_c _ _).mono ?_;rintro e w9 ⟨rfl,rfl⟩)
    simp only [bodyPost]
    rw [HQ2.out]
    exact ⟨trivial,o3,RA,HA3.out,STO3.out,rfl,fun h=>by cases h⟩
   ·have l2b:((ln:Int) == 2)=false:=by rw [beq_eq_false_iff_ne];omega
    have HQ2:=Hy (show headsC s b=(s1,some 414,b.drop u) from by rw [HQ.out,if_pos rfl,if_neg l2])
    clear HQ CW l2
    go_wp2_with (go_at_call 40;refine (nRefuse_c _ _).mono ?_;rintro e w9 ⟨rfl,rfl⟩)
    simp only [bodyPost]
    rw [HQ2.out]
    exact ⟨trivial,o3,RA,HA3.out,STO3.out,rfl,fun h=>by cases h⟩
  ·have k44:(er == 44)=false:=by rw [beq_eq_false_iff_ne];exact e44
   by_cases e0:er=0
   ·subst e0
    cases dn with
    | false =>
     have HQ2:=Hy (show headsC s b=(s1,none,b.drop u) from by rw [HQ.out];rfl)
     clear HQ e44 CW
     go_wp2
     go_ret
     rw [HQ2.out]
     exact ⟨o3,RA,HA3.out,STO3.out,⟨B',d-u,by rw [HU.out];rfl,by rw [HU.out];exact hdu,HCR6.out _ _ Sto.rfl'⟩,fun _=>by
      unfold HeadR
      rw [if_neg (by show ¬ s1.inBody=true;rw [HI1.out];decide)]⟩
    | true =>
     have HQ2:=Hy (show headsC s b=((wholeC s1).1,(wholeC s1).2,b.drop u) from by rw [HQ.out];rfl)
     have CW:=Hy (CW.out rfl rfl)
     have HWB:=Hy (fun h=>(whole_ok HM1.out h).2.2.1)
     obtain ⟨⟨s2,st⟩,hq⟩:∃ q,q=wholeC s1:=⟨_,rfl⟩
     rw [← hq] at CW HQ2 HWB
     clear HQ e44 hq
     cases st with
     | none =>
      have HWB2:=Hy (show s2.inBody=true from HWB.out rfl)
      clear HWB
      have CR2:=Hy (CW.out.mono (R':=fun e w'=>e=.returned (.tuple #[])∧∃ o' R',CnAtR w' o' k c s2 R'∧Sto (KH k) wc o3 w' o'∧(∃ P,R'=some (⟨P,0,none⟩:Addr)∧wc.heap.size≤P)) (by rintro e w' ⟨rfl,o',R',h1,h2,h3⟩;exact ⟨rfl,o',R',h1,h2,h3 rfl⟩))
      clear CW
      go_wp2_with (go_at_call 41;refine (CR2.out).mono ?_;rintro e w7 ⟨rfl,o7,R7,hA7,st7,hR7⟩)
      go_ret
      rw [HQ2.out]
      exact ⟨o7,R7,hA7,STO3.out.tr st7,⟨B',d-u,by rw [HU.out];rfl,by rw [HU.out];exact hdu,HCR6.out _ _ st7⟩,fun _=>by
       obtain ⟨P,hP,hPl⟩:=hR7
       unfold HeadR
       rw [if_pos (show (s2,(none:Option Int),b.drop u).1.inBody=true from HWB2.out)]
       exact ⟨P,hP,Nat.le_trans STO3.out.size hPl⟩⟩
     | some st =>
      have CR2:=Hy (CW.out.mono (R':=fun e w'=>e=.panicked [{ v:=.iface 85 (.int .i64 st),recovered:=false }]∧∃ o' R',CnAtR w' o' k c s2 R'∧Sto (KH k) wc o3 w' o' ) (by rintro e w' ⟨rfl,o',R',h1,h2,h3⟩;exact ⟨rfl,o',R',h1,h2⟩))
      clear CW
      go_wp2_with (go_at_call 41;refine (CR2.out).mono ?_;rintro e w7 ⟨rfl,o7,R7,hA7,st7⟩)
      simp only [bodyPost]
      rw [HQ2.out]
      exact ⟨trivial,o7,R7,hA7,STO3.out.tr st7,rfl,fun h=>by cases h⟩
   ·have k0:(er != 0)=true:=by rw [bne_iff_ne];exact e0
    have HQ2:=Hy (show headsC s b=(s1,some 400,b.drop u) from by rw [HQ.out,if_neg e44,if_pos e0])
    clear HQ e44 e0 CW
    go_wp2_with (go_at_call 40;refine (nRefuse_c _ _).mono ?_;rintro e w9 ⟨rfl,rfl⟩)
    simp only [bodyPost]
    rw [HQ2.out]
    exact ⟨trivial,o3,RA,HA3.out,STO3.out,rfl,fun h=>by cases h⟩
end Go.Proofs.YthbofilcnpdghaaGreatDoor
end
section
namespace Go.Proofs.YthbofilcnpdghaaGreatDoor
open Go.RowKit Go.Extern.Stop Go.Stop Go.Extern
theorem nReadD_idle (p q:Addr) (w:World) :
  CallsD Tryz.prog 42 #[.pointer (some p),.pointer (some q)] .returning w fun e u' w'=>e=.returned (.tuple #[])∧u'=.returning∧w'=w:=by
 refine callsD_of_wpS Tryz.func42 rfl fun c₀ cs hu=>?_
 apply wpS_seq
 apply wpS_region
 simp [wpOpsS,go_sem,recoverD,hu,Tryz.ntmps42,Exit.thenS]
 apply wpS_seq
 apply wpS_region
 simp [wpOpsS,go_sem,Exit.thenS]
 refine wpS_cond (t:=false) (by simp [Act.eval,Array.replicate]) ?_
 simp only [Bool.false_eq_true,if_false]
 refine wpS_of_wp (wp_skip ?_)
 cases c₀
 simp_all [bodyPostS,results,Tryz.results42,Exit.thenS]
def CaughtC (k c br:Nat) (s:Cst) (st:Int) (w:World) (o:Ow) (w':World):Prop:=∃ o',CnAt w' o' k c { s with row:=s.row++[.ref st],reads:=false }∧Sto (fun i=>KC k i∨i=100) w o w' o'∧w'.cell? ⟨br,0,none⟩=some (.slice none 0 0)
theorem nReadD_caught (k c bv br:Nat) (hk:0<k) (hk8:k<80) (st:Int) (s:Cst) (hrow:s.row.length≤1000) (w:World) (o:Ow) (h:CnAt w o k c s) (u0:Value)
  (hv:w.heap[bv]?=some (.cells #[.pointer (some ⟨c,0,none⟩)] 24 (0,0))) (hr:w.heap[br]?=some (.cells #[u0] 22 (0,0))) (hob:o bv=100) (hor:o br=100) :
  CallsD Tryz.prog 42 #[.pointer (some ⟨bv,0,none⟩),.pointer (some ⟨br,0,none⟩)] (.panicking [{ v:=.iface 85 (.int .i64 st),recovered:=false }]) w fun x u' w'=>x=.returned (.tuple #[])∧u'=.panicking [{ v:=.iface 85 (.int .i64 st),recovered:=true }]∧CaughtC k c br s st w o w':=by
 obtain ⟨a,hx,hnx⟩:=h
 obtain ⟨ts,ts1,ts2⟩:=hx.p.row
 obtain ⟨A5,c5,w5,o5,hr5,hs5,st5,hn5⟩:=run_put slt_th (tx:=57) 57 (w:=(w.alloc (.cells #[.iface 85 (.int .i64 st)] 64)).drew) (o:=o) (ts1.ext Xq) hx.p.lz (Sl.src Tryz.underlying57 (n:=1) ((Rd.newA w _ rfl #[.iface 85 (.int .i64 st)] 64).ext Xq) (by simp) (by omega) (by simp [Value.oneCell']) 1) (by omega) (by simp only [maxLen];omega)
 have st5':Stp (fun i=>i=k+1) w o w5 o5:=(Stp.ext Xq).tr (st5.mono fun i hi=>hi.2)
 have hput:=hx.rowPut hk hk8 ts2 st5' (.ref st) rfl hs5 hn5
 have hbc:¬ bv=c:=fun e=>by rw [e,hx.own] at hob;omega
 have hrc:¬ br=c:=fun e=>by rw [e,hx.own] at hor;omega
 have hcb:¬ c=bv:=fun e=>hbc e.symm
 have hcr:¬ c=br:=fun e=>hrc e.symm
 have r5:=(st5'.sto.keep c (row_lt hx.row) (by rw [hx.own];omega)).trans hx.row
 have v5:=(st5'.sto.keep bv (row_lt hv) (by rw [hob];omega)).trans hv
 have b5:=(st5'.sto.keep br (row_lt hr) (by rw [hor];omega)).trans hr
 have y16:=(row_facts r5 16 _ rfl).1
 have g16:=(row_facts r5 16 _ rfl).2
 have y4:w5.cell? ⟨c,4,none⟩=some (.bool s.reads):=(row_facts r5 4 _ rfl).1
 have g4:=(row_facts r5 4 _ rfl).2
 have vv:w5.cell? ⟨bv,0,none⟩=some (.pointer (some ⟨c,0,none⟩)):=(row_facts v5 0 _ rfl).1
 have yr:w5.cell? ⟨br,0,none⟩=some u0:=(row_facts b5 0 _ rfl).1
 have gr:=(row_facts b5 0 _ rfl).2
 have k0:w.cell? ⟨bv,0,none⟩=some (.pointer (some ⟨c,0,none⟩)):=(row_facts hv 0 _ rfl).1
 have k16:w.cell? ⟨c,16,none⟩=some (.slice a.L s.row.length a.cl):=hx.row.c16
 have e1:Ext w (w.alloc (.cells #[.iface 85 (.int .i64 st)] 64)):=Xq
 have z0:(w.alloc (.cells #[.iface 85 (.int .i64 st)] 64)).cell? ⟨bv,0,none⟩=some (.pointer (some ⟨c,0,none⟩)):=(e1.cell (lt_of_cell k0)).trans k0
 have z16:(w.alloc (.cells #[.iface 85 (.int .i64 st)] 64)).cell? ⟨c,16,none⟩=some (.slice a.L s.row.length a.cl):=(e1.cell (lt_of_cell k16)).trans k16
 have HT:=Hy (show CaughtC k c br s st w o (((w5.setCell ⟨c,16,none⟩ (.slice A5 (s.row.length+1) c5)).setCell ⟨c,4,none⟩ (.bool false)).setCell ⟨br,0,none⟩ (.slice none 0 0)) from by
  obtain ⟨hX,hS⟩:=hput
  have hX4:=hX.row.set 4 (.bool false) (s':={ s with row:=s.row++[.ref st],reads:=false }) (a':={ a with L:=A5,cl:=c5 }) rfl
  have hp4:=hX.p.cell hk hX.own 4 (.bool false)
  have t4:=setC_sto (w:=w5.setCell ⟨c,16,none⟩ (.slice A5 (s.row.length+1) c5)) 4 (.bool false) hX.own hk8
  have hb5:o5 br=100:=(st5'.own br (row_lt hr)).trans hor
  have t5:Sto (fun i=>i=100) ((w5.setCell ⟨c,16,none⟩ (.slice A5 (s.row.length+1) c5)).setCell ⟨c,4,none⟩ (.bool false)) o5 (((w5.setCell ⟨c,16,none⟩ (.slice A5 (s.row.length+1) c5)).setCell ⟨c,4,none⟩ (.bool false)).setCell ⟨br,0,none⟩ (.slice none 0 0)) o5:=Sto.set br 0 _ (fun _=>hb5)
  have hC:CnX ((w5.setCell ⟨c,16,none⟩ (.slice A5 (s.row.length+1) c5)).setCell ⟨c,4,none⟩ (.bool false)) o5 k c { s with row:=s.row++[.ref st],reads:=false } { a with L:=A5,cl:=c5 }:=⟨hX.own,hX4,hp4.hp,hp4.rd,hp4.r,hp4.got,hp4.evs,hp4.ez,hp4.row,hp4.lz,hp4.out,hp4.oz⟩
  refine ⟨o5,⟨_,hC.sto t5 (by omega) (fun i _=>by omega) (fun a _=>by unfold KA;omega),hnx⟩,((hS.tr t4).mono fun _ h=>.inl h).tr (t5.mono fun _ h=>.inr h),?_⟩
  have hb:=row_set (i:=0) (u:=.slice none 0 0) (show ((w5.setCell ⟨c,16,none⟩ (.slice A5 (s.row.length+1) c5)).setCell ⟨c,4,none⟩ (.bool false)).heap[br]?=some (.cells #[u0] 22 (0,0)) from by
   rw [Below.heap_setCell _ ⟨c,4,none⟩ _ br hrc,Below.heap_setCell _ ⟨c,16,none⟩ _ br hrc];exact b5)
  exact (row_facts hb 0 _ rfl).1)
 clear hx hnx ts1 ts2 hs5 st5 hn5 st5' hput r5 v5 b5 hv hr e1
 refine callsD_of_wpS Tryz.func42 rfl fun c₀ cs hu=>?_
 apply wpS_seq
 apply wpS_region
 simp [wpOpsS,go_sem,recoverD,hu,Tryz.ntmps42,Exit.thenS]
 apply wpS_seq
 apply wpS_region
 simp [wpOpsS,go_sem,Exit.thenS]
 have hta:∀ w',(Instr.typeAssert (.iface 85 (.int .i64 st)) 20 85 false).run Tryz.prog w'=.ok (.int .i64 st) w':=fun _=>by first | rfl | (simp [Instr.typeAssert,go_sem];done)
 refine wpS_cond (t:=true) (by simp [Act.eval,Array.replicate]) ?_
 simp only [if_true]
 refine wpS_of_wp ?_
 simp only [Array.replicate_succ,Array.replicate_zero,List.push_toArray,List.nil_append,List.cons_append,List.setIfInBounds_toArray,List.set_cons_zero,List.set_cons_succ,List.append_toArray]
 go_wp2
 go_region_law (first
  | (refine stepj_run (.tmp 10) (.tmp 14) rfl rfl rfl rfl hr5 ?_))
 all_goals go_wp2
 all_goals (have hh:=HT.out;cases c₀;simp_all [bodyPostS,results,Tryz.results42,Exit.thenS])
end Go.Proofs.YthbofilcnpdghaaGreatDoor
end
