/-
Framing's reader as plain functions: what stays; bytes in two pieces.
-/
import Derived.Test.YthbofilcnpdghaaGreatDoorFb6
import Derived.Test.YthbofilcnpdghaaGreatDoorZaf
import Derived.RegionDies
import Derived.BigRegion
import Derived.Defers
import Derived.Recover
set_option maxRecDepth 100000
set_option maxHeartbeats 8000000
set_option linter.unusedVariables false
set_option linter.unusedSimpArgs false
section
namespace Go.Proofs.YthbofilcnpdghaaGreatDoor
open Go.RowKit
theorem text_ok {s t:Rst} {c:UInt8} {ol:Option (List UInt8)} {e:Int} (h:Rok s) (ht:textF s c=(t,ol,e)):Rok t∧t.kind=s.kind∧t.state=s.state:=by
 unfold textF at ht
 split at ht
 ·split at ht
  ·cases ht;exact ⟨⟨h.e0,h.mo,h.al,h.kd,h.nn,h.st,h.ck,Nat.zero_le _,h.fl,h.bl,h.l2,h.l3⟩,rfl,rfl⟩
  ·cases ht;exact ⟨h,rfl,rfl⟩
 ·split at ht
  ·cases ht;exact ⟨⟨h.e0,h.mo,h.al,h.kd,h.nn,h.st,h.ck,h.ln,h.fl,h.bl,h.l2,h.l3⟩,rfl,rfl⟩
  ·split at ht
   ·split at ht
    ·cases ht;exact ⟨⟨h.e0,h.mo,h.al,h.kd,h.nn,h.st,h.ck,by dsimp only;rw [List.length_append];simp only [List.length_cons,List.length_nil];omega,h.fl,h.bl,h.l2,h.l3⟩,rfl,rfl⟩
    ·cases ht;exact ⟨h,rfl,rfl⟩
   ·cases ht;exact ⟨h,rfl,rfl⟩
theorem take_okF {s:Rst} {c:UInt8} (h:Rok s):Rok (takeF s c).1:=by
 unfold takeF
 split
 ·rename_i k0
  unfold plainF
  split
  ·refine ⟨h.e0,h.mo,by dsimp only;omega,h.kd,h.nn,h.st,h.ck,h.ln,h.fl,?_,fun e=>?_,fun e=>?_⟩
   ·dsimp only;rw [List.length_append];simp only [List.length_cons,List.length_nil];have:=h.bl;omega
   ·exact absurd (k0.symm.trans e) (by decide)
   ·exact absurd (k0.symm.trans e) (by decide)
  ·exact h
 ·split
  ·rename_i k0 k1
   unfold sizeF
   obtain ⟨⟨t,ol,e⟩,hx⟩:∃ q,q=textF s c:=⟨_,rfl⟩
   rw [← hx]
   obtain ⟨ht,hk,hs⟩:=text_ok h hx.symm
   cases ol with
   | none=>exact ht
   | some l =>
    dsimp only
    unfold sizeL
    have hck:t.kind=2:=ht.ck.2 (by omega)
    split
    ·split
     ·rename_i hg hv
      have h0:=numL_nn 16 1152921504606846976 (l.take (szN l))
      have h0:0≤szV l:=h0
      have ha:=ht.al
      by_cases hz:szV l=0
      ·rw [if_pos hz]
       exact ⟨ht.e0,ht.mo,ht.al,ht.kd,ht.nn,by simp,⟨fun _=>by simp,fun _=>hck⟩,ht.ln,ht.fl,ht.bl,fun e=>by simp at e,fun e=>by simp at e⟩
      ·rw [if_neg hz]
       exact ⟨ht.e0,ht.mo,ht.al,ht.kd,ht.nn,by simp,⟨fun _=>by simp,fun _=>hck⟩,ht.ln,ht.fl,ht.bl,fun _=>⟨by dsimp only;omega,by dsimp only;omega⟩,fun e=>by simp at e⟩
     ·exact ht
    ·exact ht
  ·split
   ·rename_i k0 k1 k2
    obtain ⟨l1,l2⟩:=h.l2 k2
    have hck:s.kind=2:=h.ck.2 (by omega)
    unfold dataF
    split
    ·refine ⟨h.e0,h.mo,by dsimp only;omega,h.kd,h.nn,by simp,⟨fun _=>by simp,fun _=>hck⟩,h.ln,h.fl,?_,fun e=>by simp at e,fun _=>.inr rfl⟩
     dsimp only;rw [List.length_append];simp only [List.length_cons,List.length_nil];have:=h.bl;omega
    ·refine ⟨h.e0,h.mo,by dsimp only;omega,h.kd,h.nn,h.st,h.ck,h.ln,h.fl,?_,fun _=>⟨by dsimp only;omega,by dsimp only;omega⟩,fun e=>absurd (k2.symm.trans e) (by decide)⟩
     dsimp only;rw [List.length_append];simp only [List.length_cons,List.length_nil];have:=h.bl;omega
   ·split
    ·rename_i k0 k1 k2 k3
     have hck:s.kind=2:=h.ck.2 (by omega)
     unfold behindF
     by_cases hc:c=(if s.left=2 then 13 else 10)
     ·rw [if_pos hc]
      by_cases hl:s.left=1
      ·rw [if_pos hl]
       exact ⟨h.e0,h.mo,h.al,h.kd,h.nn,by simp,⟨fun _=>by simp,fun _=>hck⟩,h.ln,h.fl,h.bl,fun e=>by simp at e,fun e=>by simp at e⟩
      ·rw [if_neg hl]
       exact ⟨h.e0,h.mo,h.al,h.kd,h.nn,h.st,h.ck,h.ln,h.fl,h.bl,fun e=>absurd (k3.symm.trans e) (by decide),fun _=>.inl (by have:=h.l3 k3;dsimp only;omega)⟩
     ·rw [if_neg hc]
      exact h
    ·unfold trailF
     obtain ⟨⟨t,ol,e⟩,hx⟩:∃ q,q=textF s c:=⟨_,rfl⟩
     rw [← hx]
     obtain ⟨ht,hk,hs⟩:=text_ok h hx.symm
     cases ol with
     | none=>exact ht
     | some l =>
      dsimp only
      unfold tailL
      split
      ·exact ⟨ht.e0,ht.mo,ht.al,ht.kd,ht.nn,ht.st,ht.ck,ht.ln,ht.fl,ht.bl,ht.l2,ht.l3⟩
      ·cases fldV12 l with
       | none=>exact ht
       | some p =>
        dsimp only
        split
        ·exact ⟨ht.e0,ht.mo,ht.al,ht.kd,ht.nn,ht.st,ht.ck,ht.ln,by dsimp only;rw [List.length_append];simp only [List.length_cons,List.length_nil];omega,ht.bl,ht.l2,ht.l3⟩
        ·exact ht
theorem ready_okF {s:Rst} (h:Rok s):Rok (readyF s).1:=by
 unfold readyF
 split
 ·exact ⟨h.e0,h.mo,h.al,h.kd,h.nn,h.st,h.ck,h.ln,h.fl,h.bl,h.l2,h.l3⟩
 ·split
  ·split
   ·exact ⟨h.e0,h.mo,h.al,h.kd,h.nn,h.st,h.ck,h.ln,h.fl,h.bl,h.l2,h.l3⟩
   ·exact h
  ·exact h
theorem new_okF {kind n most:Nat} (h1:kind≤3) (h2:n<9223372036854775808) (h3:most≤1048576):Rok (newF kind n most):=by
 refine ⟨rfl,h3,Nat.zero_le _,h1,h2,?_,?_,Nat.zero_le _,Nat.zero_le _,Nat.le_refl _,fun e=>?_,fun e=>?_⟩
 ·unfold newF;dsimp only;split <;> decide
 ·unfold newF;dsimp only;split <;> simp_all
 ·unfold newF at e;dsimp only at e;split at e <;> cases e
 ·unfold newF at e;dsimp only at e;split at e <;> cases e
theorem runF_cons (s:Rst) (c:UInt8) (l:List UInt8):runF s (c::l)=if s.done=true then (s,0,0) else if (takeF s c).2≠0 then ((takeF s c).1,1,(takeF s c).2) else ((runF (takeF s c).1 l).1,(runF (takeF s c).1 l).2.1+1,(runF (takeF s c).1 l).2.2):=rfl
theorem runF_done {s:Rst} (h:s.done=true):∀ l,runF s l=(s,0,0)
 | []=>rfl
 | c::l=>by rw [runF_cons,if_pos h]
theorem runF_le:∀ (a:List UInt8) (s:Rst),(runF s a).2.1≤a.length
 | [],_=>Nat.le_refl _
 | c::a,s=>by
  have ih:=runF_le a (takeF s c).1
  rw [runF_cons]
  split
  ·exact Nat.zero_le _
  ·split
   ·simp
   ·simp only [List.length_cons];omega
theorem runF_ok:∀ (a:List UInt8) (s:Rst),Rok s→Rok (runF s a).1
 | [],_,h=>h
 | c::a,s,h=>by
  have ih:=runF_ok a (takeF s c).1 (take_okF h)
  rw [runF_cons]
  split
  ·exact h
  ·split
   ·exact take_okF h
   ·exact ih
theorem runF_app:∀ (a b:List UInt8) (s:Rst),(runF s a).2.2=0 →
  runF s (a++b)=((runF (runF s a).1 b).1,(runF s a).2.1+(runF (runF s a).1 b).2.1,(runF (runF s a).1 b).2.2)
 | [],b,s,_=>by simp [runF]
 | c::a,b,s,h1=>by
  show runF s (c::(a++b))=_
  rw [runF_cons s c (a++b)]
  rw [runF_cons s c a] at h1 ⊢
  by_cases k0:s.done=true
  ·rw [if_pos k0,if_pos k0];dsimp only;rw [runF_done k0];rfl
  ·rw [if_neg k0] at h1 ⊢
   rw [if_neg k0]
   by_cases k1:(takeF s c).2≠0
   ·rw [if_pos k1] at h1;exact absurd h1 k1
   ·rw [if_neg k1] at h1 ⊢
    rw [if_neg k1]
    have ih:=runF_app a b (takeF s c).1 h1
    rw [ih]
    simp only [Prod.mk.injEq,true_and,and_true]
    omega
theorem runF_end:∀ (a b:List UInt8) (s:Rst),(runF s a).2.2≠0→runF s (a++b)=runF s a
 | [],b,s,h=>absurd rfl h
 | c::a,b,s,h=>by
  show runF s (c::(a++b))=_
  rw [runF_cons s c (a++b)]
  rw [runF_cons s c a] at h ⊢
  by_cases k0:s.done=true
  ·rw [if_pos k0,if_pos k0]
  ·rw [if_neg k0] at h ⊢
   rw [if_neg k0]
   by_cases k1:(takeF s c).2≠0
   ·rw [if_pos k1,if_pos k1]
   ·rw [if_neg k1] at h ⊢
    rw [if_neg k1,runF_end a b (takeF s c).1 h]
theorem Frow.put {w:World} {P:Nat} {s s':Rst} {A B C:Option Addr} {c d g:Nat} (h:Frow w P s A c B d C g) (i:Nat) (u:Value) (he:(s.cells A c B d C g).setIfInBounds i u=s'.cells A c B d C g):Frow (w.setCell ⟨P,i,none⟩ u) P s' A c B d C g:=h.set i u he
theorem fPlain_no (k P:Nat) (s:Rst) (c:UInt8) (hm:¬ s.all<s.most) (w:World) (o:Ow) (h:FsAt w o k P s) :
  Calls Tryz.prog 73 #[.pointer (some ⟨P,0,none⟩),.int .u8 (c.toNat:Int)] w (TurnsF k w o P (plainF s c)):=by
 obtain ⟨A,m,B,d,C,g,hr,h1,h2,h3,h4,h5,h6⟩:=h.row
 have c0:=hr.c0
 have c1:=hr.c1
 have c2:=hr.c2
 have c3:=hr.c3
 have c4:=hr.c4
 have c5:=hr.c5
 have c12:=hr.c12
 have f3:=hr.fz 3 (by decide)
 have f4:=hr.fz 4 (by decide)
 have f5:=hr.fz 5 (by decide)
 have f10:=hr.fz 10 (by decide)
 have f12:=hr.fz 12 (by decide)
 have HE:=Hy h
 have HR:=Hy hr
 have HS:=Hy (And.intro h1 h2)
 have HF:=Hy (And.intro h3 h4)
 have HB:=Hy h5
 have HBN:=Hy h6
 obtain ⟨b,hb⟩:∃ b,b=c.toNat:=⟨_,rfl⟩
 have h256:=UInt8.toNat_lt c
 rw [← hb] at h256 ⊢
 clear hr h1 h2 h3 h4 h5 h6 h
 have HQ:=Hy (show plainF s c=(s,6) from if_neg hm)
 have d8:decide (s.all<s.most)=false:=decide_eq_false hm
 clear hb hm
 go_enter Tryz.func73,Tryz.ntmps73
 go_wp2
 go_region_dies
 all_goals go_wp2_with (first | (go_at_call 99;refine (fdemand_c _ _ _).mono ?_;rintro e w6 ⟨hy,hn,rfl⟩;first | (obtain rfl:=hy rfl;clear hy hn) | (obtain rfl:=hn rfl;clear hy hn) | (obtain rfl:=hy d8;clear hy hn) | (obtain rfl:=hn d8;clear hy hn)))
 all_goals simp only [bodyPost]
 all_goals rw [HQ.out]
 all_goals exact ⟨trivial,rfl,o,HE.out.ext Xq,Stp.ext Xq⟩
theorem fPlain_yes (k P:Nat) (s:Rst) (c:UInt8) (hm:s.all<s.most) (hbl:s.body.length≤s.all) (hmo:s.most≤1048576) (w:World) (o:Ow) (h:FsAt w o k P s) :
  Calls Tryz.prog 73 #[.pointer (some ⟨P,0,none⟩),.int .u8 (c.toNat:Int)] w (TurnsF k w o P (plainF s c)):=by
 obtain ⟨A,m,B,d,C,g,hr,h1,h2,h3,h4,h5,h6⟩:=h.row
 have c0:=hr.c0
 have c1:=hr.c1
 have c2:=hr.c2
 have c3:=hr.c3
 have c4:=hr.c4
 have c5:=hr.c5
 have c12:=hr.c12
 have f3:=hr.fz 3 (by decide)
 have f4:=hr.fz 4 (by decide)
 have f5:=hr.fz 5 (by decide)
 have f10:=hr.fz 10 (by decide)
 have f12:=hr.fz 12 (by decide)
 have HE:=Hy h
 have HR:=Hy hr
 have HS:=Hy (And.intro h1 h2)
 have HF:=Hy (And.intro h3 h4)
 have HB:=Hy h5
 have HBN:=Hy h6
 obtain ⟨b,hb⟩:∃ b,b=c.toNat:=⟨_,rfl⟩
 have h256:=UInt8.toNat_lt c
 rw [← hb] at h256 ⊢
 clear hr h1 h2 h3 h4 h5 h6 h
 obtain ⟨n1,hn1⟩:∃ n,n=s.all+1:=⟨_,rfl⟩
 have s1:IntKind.i64.wrap ((s.all:Int)+1)=(n1:Int):=by rw [IntKind.wrap_i64];omega
 have t1:Stp (fun i=>i=k) w o (w.setCell ⟨P,3,none⟩ (.int .i64 (n1:Int))) o:=Stp.set P 3 _ (fun _=>HE.out.own)
 have HR1:=Hy (HR.out.set 3 (.int .i64 (n1:Int)) (s':={ s with all:=n1 }) rfl)
 have HB1:=Hy (HB.out.stp t1 (by omega))
 have HS1:=Hy (HS.out.1.stp t1 (by omega))
 have HF1:=Hy (HF.out.1.stp t1 (by omega))
 have HBC:=Hy (show bc (s.body++[c])=bc s.body++[.int .u8 (b:Int)] from by rw [hb];simp [bc])
 have NC:=Hy (new_cells (w.setCell ⟨P,3,none⟩ (.int .i64 (n1:Int))) #[.int .u8 (b:Int)] 5)
 have hz:(w.setCell ⟨P,3,none⟩ (.int .i64 (n1:Int))).heap.size=w.heap.size:=by simp
 have ND:=Hy (new_cells_dr (w.setCell ⟨P,3,none⟩ (.int .i64 (n1:Int))) #[.int .u8 (b:Int)] 5)
 rw [hz] at NC ND
 clear hb HB t1 hz
 have d8:decide (s.all<s.most)=true:=decide_eq_true hm
 by_cases hk1:s.kind=1
 ·have d1:((s.kind:Int) == 1)=true:=by rw [hk1];rfl
  have HQ:=Hy (show plainF s c=({ s with all:=n1,body:=s.body++[c],done:=((n1:Int) == (s.n:Int)) },0) from by
   unfold plainF;rw [if_pos hm,hn1]
   have e:(decide (s.kind=1) && decide (s.all+1=s.n))=(((s.all+1:Nat):Int) == (s.n:Int)):=by rw [hk1,Bool.eq_iff_iff];simp;omega
   rw [e])
  clear hk1 hn1
  go_enter Tryz.func73,Tryz.ntmps73
  go_wp2
  go_region_with (first | (go_at_call 99;refine (fdemand_c _ _ _).mono ?_;rintro e w6 ⟨hy,hn,rfl⟩;first | (obtain rfl:=hy rfl;clear hy hn) | (obtain rfl:=hn rfl;clear hy hn) | (obtain rfl:=hy d8;clear hy hn) | (obtain rfl:=hn d8;clear hy hn)))
  all_goals go_wp2_with (first | (at_builtin;refine wpL_put slt_u8 (.tmp 25) (.tmp 27) rfl rfl rfl rfl (HB1.out.ext Xq) HBN.out (Src.ofSlice (size:=1) _ Tryz.underlying22 ⟨w.heap.size,0,none⟩ 1 1 [.int .u8 (b:Int)] (by simp) ND.out (by simp [Value.oneCell'])) (by omega) (by simp only [maxLen];omega) ?_;intro A7 c7 w7 o7 hs7 hst7 hn7;have st7:Stp (fun i=>i=k+3) (w.setCell ⟨P,3,none⟩ (.int .i64 (n1:Int))) o w7 o7:=(Stp.ext Xq).tr hst7;have hr7:Frow w7 P { s with all:=n1 } A m B d C g:=HR1.out.stp st7 (by rw [HE.out.own];omega);have k0:=hr7.c0;have k1:=hr7.c1;have k3:=hr7.c3;have k5:=hr7.c5;have k4:=hr7.c4;have k10:=hr7.c10;have k12:=hr7.c12;have g4:=hr7.fz 4 (by decide);have g5:=hr7.fz 5 (by decide);have g10:=hr7.fz 10 (by decide);have g12:=hr7.fz 12 (by decide);clear c0 c1 c2 c3 c4 c5 c12 f3 f4 f5 f10 f12))
  all_goals go_region
  all_goals go_end0
  all_goals (
   rw [HQ.out]
   have hp7:o7 P=k:=by rw [st7.own P (row_lt HR1.out)];exact HE.out.own
   have hlen:(s.body++[c]).length=s.body.length+1:=by simp
   have stf:Stp (fun i=>i=k) w7 o7 ((w7.setCell ⟨P,12,none⟩ (.slice A7 (s.body.length+1) c7)).setCell ⟨P,10,none⟩ (.bool ((n1:Int) == (s.n:Int)))) o7:=(Stp.set P 12 _ (fun _=>hp7)).tr (Stp.set P 10 _ (fun _=>hp7))
   refine ⟨rfl,o7,FsAt.ext (w:=(w7.setCell ⟨P,12,none⟩ (.slice A7 (s.body.length+1) c7)).setCell ⟨P,10,none⟩ (.bool ((n1:Int) == (s.n:Int)))) ⟨hp7,A,m,B,d,A7,c7,?_,(HS1.out.stp st7 (by omega)).stp stf (by omega),HS.out.2,(HF1.out.stp st7 (by omega)).stp stf (by omega),HF.out.2,?_,hn7⟩ Xq,((setF_stp 3 _ HE.out.own).tr ((st7.mono fun i hi=>.inr (.inr (.inr hi))).tr (stf.mono fun i hi=>.inl hi))).tr (Stp.ext Xq)⟩
   ·exact (hr7.set 12 _ (s':={ s with all:=n1,body:=s.body++[c] }) (A':=A) (B':=B) (C':=A7) (c':=m) (d':=d) (g':=c7) (by simp [Rst.cells])).put 10 _ (by simp [Rst.cells])
   ·rw [hlen,HBC.out]
    exact hs7.stp stf (by omega))
 ·have d1:((s.kind:Int) == 1)=false:=by rw [beq_eq_false_iff_ne];omega
  have HQ:=Hy (show plainF s c=({ s with all:=n1,body:=s.body++[c],done:=false },0) from by
   unfold plainF;rw [if_pos hm,hn1]
   rw [decide_eq_false hk1];rfl)
  clear hk1 hn1
  go_enter Tryz.func73,Tryz.ntmps73
  go_wp2
  go_region_with (first | (go_at_call 99;refine (fdemand_c _ _ _).mono ?_;rintro e w6 ⟨hy,hn,rfl⟩;first | (obtain rfl:=hy rfl;clear hy hn) | (obtain rfl:=hn rfl;clear hy hn) | (obtain rfl:=hy d8;clear hy hn) | (obtain rfl:=hn d8;clear hy hn)))
  all_goals go_wp2_with (first | (at_builtin;refine wpL_put slt_u8 (.tmp 25) (.tmp 27) rfl rfl rfl rfl (HB1.out.ext Xq) HBN.out (Src.ofSlice (size:=1) _ Tryz.underlying22 ⟨w.heap.size,0,none⟩ 1 1 [.int .u8 (b:Int)] (by simp) ND.out (by simp [Value.oneCell'])) (by omega) (by simp only [maxLen];omega) ?_;intro A7 c7 w7 o7 hs7 hst7 hn7;have st7:Stp (fun i=>i=k+3) (w.setCell ⟨P,3,none⟩ (.int .i64 (n1:Int))) o w7 o7:=(Stp.ext Xq).tr hst7;have hr7:Frow w7 P { s with all:=n1 } A m B d C g:=HR1.out.stp st7 (by rw [HE.out.own];omega);have k0:=hr7.c0;have k1:=hr7.c1;have k3:=hr7.c3;have k5:=hr7.c5;have k4:=hr7.c4;have k10:=hr7.c10;have k12:=hr7.c12;have g4:=hr7.fz 4 (by decide);have g5:=hr7.fz 5 (by decide);have g10:=hr7.fz 10 (by decide);have g12:=hr7.fz 12 (by decide);clear c0 c1 c2 c3 c4 c5 c12 f3 f4 f5 f10 f12))
  all_goals go_region
  all_goals go_end0
  all_goals (
   rw [HQ.out]
   have hp7:o7 P=k:=by rw [st7.own P (row_lt HR1.out)];exact HE.out.own
   have hlen:(s.body++[c]).length=s.body.length+1:=by simp
   have stf:Stp (fun i=>i=k) w7 o7 ((w7.setCell ⟨P,12,none⟩ (.slice A7 (s.body.length+1) c7)).setCell ⟨P,10,none⟩ (.bool false)) o7:=(Stp.set P 12 _ (fun _=>hp7)).tr (Stp.set P 10 _ (fun _=>hp7))
   refine ⟨rfl,o7,FsAt.ext (w:=(w7.setCell ⟨P,12,none⟩ (.slice A7 (s.body.length+1) c7)).setCell ⟨P,10,none⟩ (.bool false)) ⟨hp7,A,m,B,d,A7,c7,?_,(HS1.out.stp st7 (by omega)).stp stf (by omega),HS.out.2,(HF1.out.stp st7 (by omega)).stp stf (by omega),HF.out.2,?_,hn7⟩ Xq,((setF_stp 3 _ HE.out.own).tr ((st7.mono fun i hi=>.inr (.inr (.inr hi))).tr (stf.mono fun i hi=>.inl hi))).tr (Stp.ext Xq)⟩
   ·exact (hr7.set 12 _ (s':={ s with all:=n1,body:=s.body++[c] }) (A':=A) (B':=B) (C':=A7) (c':=m) (d':=d) (g':=c7) (by simp [Rst.cells])).put 10 _ (by simp [Rst.cells])
   ·rw [hlen,HBC.out]
    exact hs7.stp stf (by omega))
theorem fData_c (k P:Nat) (s:Rst) (c:UInt8) (hl1:1≤s.left) (hl2:s.all+s.left≤s.most) (hbl:s.body.length≤s.all) (hmo:s.most≤1048576) (w:World) (o:Ow) (h:FsAt w o k P s) :
  Calls Tryz.prog 75 #[.pointer (some ⟨P,0,none⟩),.int .u8 (c.toNat:Int)] w (TurnsF k w o P (dataF s c)):=by
 obtain ⟨A,m,B,d,C,g,hr,h1,h2,h3,h4,h5,h6⟩:=h.row
 have c0:=hr.c0
 have c1:=hr.c1
 have c2:=hr.c2
 have c3:=hr.c3
 have c4:=hr.c4
 have c5:=hr.c5
 have c12:=hr.c12
 have f3:=hr.fz 3 (by decide)
 have f4:=hr.fz 4 (by decide)
 have f5:=hr.fz 5 (by decide)
 have f10:=hr.fz 10 (by decide)
 have f12:=hr.fz 12 (by decide)
 have HE:=Hy h
 have HR:=Hy hr
 have HS:=Hy (And.intro h1 h2)
 have HF:=Hy (And.intro h3 h4)
 have HB:=Hy h5
 have HBN:=Hy h6
 obtain ⟨b,hb⟩:∃ b,b=c.toNat:=⟨_,rfl⟩
 have h256:=UInt8.toNat_lt c
 rw [← hb] at h256 ⊢
 clear hr h1 h2 h3 h4 h5 h6 h
 obtain ⟨n1,hn1⟩:∃ n,n=s.all+1:=⟨_,rfl⟩
 have s1:IntKind.i64.wrap ((s.all:Int)+1)=(n1:Int):=by rw [IntKind.wrap_i64];omega
 have t1:Stp (fun i=>i=k) w o (w.setCell ⟨P,3,none⟩ (.int .i64 (n1:Int))) o:=Stp.set P 3 _ (fun _=>HE.out.own)
 have HR1:=Hy (HR.out.set 3 (.int .i64 (n1:Int)) (s':={ s with all:=n1 }) rfl)
 have HB1:=Hy (HB.out.stp t1 (by omega))
 have HS1:=Hy (HS.out.1.stp t1 (by omega))
 have HF1:=Hy (HF.out.1.stp t1 (by omega))
 have HBC:=Hy (show bc (s.body++[c])=bc s.body++[.int .u8 (b:Int)] from by rw [hb];simp [bc])
 have NC:=Hy (new_cells (w.setCell ⟨P,3,none⟩ (.int .i64 (n1:Int))) #[.int .u8 (b:Int)] 5)
 have hz:(w.setCell ⟨P,3,none⟩ (.int .i64 (n1:Int))).heap.size=w.heap.size:=by simp
 have ND:=Hy (new_cells_dr (w.setCell ⟨P,3,none⟩ (.int .i64 (n1:Int))) #[.int .u8 (b:Int)] 5)
 rw [hz] at NC ND
 clear hb HB t1 hz
 obtain ⟨n2,hn2⟩:∃ n,n=s.left-1:=⟨_,rfl⟩
 have s2:IntKind.i64.wrap ((s.left:Int)-1)=(n2:Int):=by rw [IntKind.wrap_i64];omega
 by_cases hk1:s.left=1
 ·have HQ:=Hy (show dataF s c=({ s with all:=n1,body:=s.body++[c],state:=3,left:=2 },0) from by unfold dataF;rw [if_pos hk1,hn1])
  obtain rfl:n2=0:=by omega
  clear hn1 hn2 hk1
  go_enter Tryz.func75,Tryz.ntmps75
  go_wp2_with (first
   | (at_builtin;refine wpL_put slt_u8 (.tmp 15) (.tmp 17) rfl rfl rfl rfl (HB1.out.ext Xq) HBN.out (Src.ofSlice (size:=1) _ Tryz.underlying22 ⟨w.heap.size,0,none⟩ 1 1 [.int .u8 (b:Int)] (by simp) NC.out (by simp [Value.oneCell'])) (by omega) (by simp only [maxLen];omega) ?_;intro A7 c7 w7 o7 hs7 hst7 hn7;have st7:Stp (fun i=>i=k+3) (w.setCell ⟨P,3,none⟩ (.int .i64 (n1:Int))) o w7 o7:=(Stp.ext Xq).tr hst7;have hr7:Frow w7 P { s with all:=n1 } A m B d C g:=HR1.out.stp st7 (by rw [HE.out.own];omega);have k0:=hr7.c0;have k1:=hr7.c1;have k3:=hr7.c3;have k5:=hr7.c5;have k4:=hr7.c4;have k10:=hr7.c10;have k12:=hr7.c12;have g4:=hr7.fz 4 (by decide);have g5:=hr7.fz 5 (by decide);have g10:=hr7.fz 10 (by decide);have g12:=hr7.fz 12 (by decide);clear c0 c1 c2 c3 c4 c5 c12 f3 f4 f5 f10 f12))
  go_end0
  rw [HQ.out]
  have hp7:o7 P=k:=by rw [st7.own P (row_lt HR1.out)];exact HE.out.own
  have hlen:(s.body++[c]).length=s.body.length+1:=by simp
  have stf:Stp (fun i=>i=k) w7 o7 ((((w7.setCell ⟨P,12,none⟩ (.slice A7 (s.body.length+1) c7)).setCell ⟨P,5,none⟩ (.int .i64 ((0:Nat):Int))).setCell ⟨P,4,none⟩ (.int .i64 3)).setCell ⟨P,5,none⟩ (.int .i64 2)) o7:=(((Stp.set P 12 _ (fun _=>hp7)).tr (Stp.set P 5 _ (fun _=>hp7))).tr (Stp.set P 4 _ (fun _=>hp7))).tr (Stp.set P 5 _ (fun _=>hp7))
  refine ⟨rfl,o7,⟨hp7,A,m,B,d,A7,c7,?_,(HS1.out.stp st7 (by omega)).stp stf (by omega),HS.out.2,(HF1.out.stp st7 (by omega)).stp stf (by omega),HF.out.2,?_,hn7⟩,(setF_stp 3 _ HE.out.own).tr ((st7.mono fun i hi=>.inr (.inr (.inr hi))).tr (stf.mono fun i hi=>.inl hi))⟩
  ·exact (((hr7.set 12 _ (s':={ s with all:=n1,body:=s.body++[c] }) (A':=A) (B':=B) (C':=A7) (c':=m) (d':=d) (g':=c7) (by simp [Rst.cells])).put 5 _ (s':={ s with all:=n1,body:=s.body++[c],left:=0 }) (by simp [Rst.cells])).put 4 _ (s':={ s with all:=n1,body:=s.body++[c],left:=0,state:=3 }) (by simp [Rst.cells])).put 5 _ (by simp [Rst.cells])
  ·rw [hlen,HBC.out]
   exact hs7.stp stf (by omega)
 ·have HQ:=Hy (show dataF s c=({ s with all:=n1,body:=s.body++[c],left:=n2 },0) from by unfold dataF;rw [if_neg hk1,hn1,hn2])
  have d1:((n2:Int) == 0)=false:=by rw [beq_eq_false_iff_ne];omega
  clear hn1 hn2 hk1
  go_enter Tryz.func75,Tryz.ntmps75
  go_wp2_with (first
   | (at_builtin;refine wpL_put slt_u8 (.tmp 15) (.tmp 17) rfl rfl rfl rfl (HB1.out.ext Xq) HBN.out (Src.ofSlice (size:=1) _ Tryz.underlying22 ⟨w.heap.size,0,none⟩ 1 1 [.int .u8 (b:Int)] (by simp) NC.out (by simp [Value.oneCell'])) (by omega) (by simp only [maxLen];omega) ?_;intro A7 c7 w7 o7 hs7 hst7 hn7;have st7:Stp (fun i=>i=k+3) (w.setCell ⟨P,3,none⟩ (.int .i64 (n1:Int))) o w7 o7:=(Stp.ext Xq).tr hst7;have hr7:Frow w7 P { s with all:=n1 } A m B d C g:=HR1.out.stp st7 (by rw [HE.out.own];omega);have k0:=hr7.c0;have k1:=hr7.c1;have k3:=hr7.c3;have k5:=hr7.c5;have k4:=hr7.c4;have k10:=hr7.c10;have k12:=hr7.c12;have g4:=hr7.fz 4 (by decide);have g5:=hr7.fz 5 (by decide);have g10:=hr7.fz 10 (by decide);have g12:=hr7.fz 12 (by decide);clear c0 c1 c2 c3 c4 c5 c12 f3 f4 f5 f10 f12))
  go_end0
  rw [HQ.out]
  have hp7:o7 P=k:=by rw [st7.own P (row_lt HR1.out)];exact HE.out.own
  have hlen:(s.body++[c]).length=s.body.length+1:=by simp
  have stf:Stp (fun i=>i=k) w7 o7 ((w7.setCell ⟨P,12,none⟩ (.slice A7 (s.body.length+1) c7)).setCell ⟨P,5,none⟩ (.int .i64 (n2:Int))) o7:=(Stp.set P 12 _ (fun _=>hp7)).tr (Stp.set P 5 _ (fun _=>hp7))
  refine ⟨rfl,o7,⟨hp7,A,m,B,d,A7,c7,?_,(HS1.out.stp st7 (by omega)).stp stf (by omega),HS.out.2,(HF1.out.stp st7 (by omega)).stp stf (by omega),HF.out.2,?_,hn7⟩,(setF_stp 3 _ HE.out.own).tr ((st7.mono fun i hi=>.inr (.inr (.inr hi))).tr (stf.mono fun i hi=>.inl hi))⟩
  ·exact (hr7.set 12 _ (s':={ s with all:=n1,body:=s.body++[c] }) (A':=A) (B':=B) (C':=A7) (c':=m) (d':=d) (g':=c7) (by simp [Rst.cells])).put 5 _ (by simp [Rst.cells])
  ·rw [hlen,HBC.out]
   exact hs7.stp stf (by omega)
theorem fBehind_no (k P:Nat) (s:Rst) (c:UInt8) (hl:s.left=1∨s.left=2) (hc:c≠(if s.left=2 then 13 else 10)) (w:World) (o:Ow) (h:FsAt w o k P s) :
  Calls Tryz.prog 76 #[.pointer (some ⟨P,0,none⟩),.int .u8 (c.toNat:Int)] w (TurnsF k w o P (behindF s c)):=by
 have hq:behindF s c=(s,45):=if_neg hc
 have HQ:=Hy hq
 obtain ⟨A,m,B,d,C,g,hr,h1,h2,h3,h4,h5,h6⟩:=h.row
 have c0:=hr.c0
 have c1:=hr.c1
 have c2:=hr.c2
 have c3:=hr.c3
 have c4:=hr.c4
 have c5:=hr.c5
 have c10:=hr.c10
 have f4:=hr.fz 4 (by decide)
 have f5:=hr.fz 5 (by decide)
 have f10:=hr.fz 10 (by decide)
 have HE:=Hy h
 have HR:=Hy hr
 clear hr h1 h2 h3 h4 h5 h6 h
 obtain ⟨b,hb⟩:∃ b,b=c.toNat:=⟨_,rfl⟩
 have h256:=UInt8.toNat_lt c
 rw [← hb] at h256 ⊢
 have cw:∀ x,(w.alloc x).cell? ⟨P,5,none⟩=w.cell? ⟨P,5,none⟩:=fun x=>(((Ext.rfl' w).al x).cell (lt_of_cell c5))
 have cv:∀ x,(w.alloc x).cell? ⟨P,4,none⟩=w.cell? ⟨P,4,none⟩:=fun x=>(((Ext.rfl' w).al x).cell (lt_of_cell c4))
 rw [c5] at cw
 rw [c4] at cv
 have fw:∀ x,(w.alloc x).frozen? ⟨P,5,none⟩=false:=fun x=>(HR.out.ext ((Ext.rfl' w).al x)).fz 5 (by decide)
 have fv:∀ x,(w.alloc x).frozen? ⟨P,4,none⟩=false:=fun x=>(HR.out.ext ((Ext.rfl' w).al x)).fz 4 (by decide)
 obtain ⟨R,hR⟩:∃ R,R=behindF s c:=⟨_,rfl⟩
 rw [← hR] at HQ ⊢
 rcases hl with hl | hl
 ·rw [hl] at c5 cw
  rw [if_neg (by omega)] at hc
  have d8:((b:Int) == 10)=false:=by rw [beq_eq_false_iff_ne];intro e;exact hc (UInt8.toNat_inj.1 (by rw [← hb];show b=10;omega))
  clear hc hb hR hl hq
  go_enter Tryz.func76,Tryz.ntmps76
  go_wp2_with (first | (go_at_call 99;refine (fdemand_c _ _ _).mono ?_;rintro e w6 ⟨hy,hn,rfl⟩;first | (obtain rfl:=hy rfl;clear hy hn) | (obtain rfl:=hn rfl;clear hy hn) | (obtain rfl:=hy d8;clear hy hn) | (obtain rfl:=hn d8;clear hy hn)))
  simp only [bodyPost]
  rw [HQ.out]
  exact ⟨trivial,rfl,o,HE.out.ext Xq,Stp.ext Xq⟩
 ·rw [hl] at c5 cw
  rw [if_pos hl] at hc
  have d8:((b:Int) == 13)=false:=by rw [beq_eq_false_iff_ne];intro e;exact hc (UInt8.toNat_inj.1 (by rw [← hb];show b=13;omega))
  clear hc hb hR hl hq
  go_enter Tryz.func76,Tryz.ntmps76
  go_wp2_with (first | (go_at_call 99;refine (fdemand_c _ _ _).mono ?_;rintro e w6 ⟨hy,hn,rfl⟩;first | (obtain rfl:=hy rfl;clear hy hn) | (obtain rfl:=hn rfl;clear hy hn) | (obtain rfl:=hy d8;clear hy hn) | (obtain rfl:=hn d8;clear hy hn)))
  simp only [bodyPost]
  rw [HQ.out]
  exact ⟨trivial,rfl,o,HE.out.ext Xq,Stp.ext Xq⟩
theorem fBehind_yes (k P:Nat) (s:Rst) (c:UInt8) (hl:s.left=1∨s.left=2) (hc:c=(if s.left=2 then 13 else 10)) (w:World) (o:Ow) (h:FsAt w o k P s) :
  Calls Tryz.prog 76 #[.pointer (some ⟨P,0,none⟩),.int .u8 (c.toNat:Int)] w (TurnsF k w o P (behindF s c)):=by
 obtain ⟨A,m,B,d,C,g,hr,h1,h2,h3,h4,h5,h6⟩:=h.row
 have c0:=hr.c0
 have c1:=hr.c1
 have c2:=hr.c2
 have c3:=hr.c3
 have c4:=hr.c4
 have c5:=hr.c5
 have c10:=hr.c10
 have f4:=hr.fz 4 (by decide)
 have f5:=hr.fz 5 (by decide)
 have f10:=hr.fz 10 (by decide)
 have HE:=Hy h
 have HR:=Hy hr
 clear hr h1 h2 h3 h4 h5 h6 h
 obtain ⟨b,hb⟩:∃ b,b=c.toNat:=⟨_,rfl⟩
 have h256:=UInt8.toNat_lt c
 rw [← hb] at h256 ⊢
 have cw:∀ x,(w.alloc x).cell? ⟨P,5,none⟩=w.cell? ⟨P,5,none⟩:=fun x=>(((Ext.rfl' w).al x).cell (lt_of_cell c5))
 have cv:∀ x,(w.alloc x).cell? ⟨P,4,none⟩=w.cell? ⟨P,4,none⟩:=fun x=>(((Ext.rfl' w).al x).cell (lt_of_cell c4))
 rw [c5] at cw
 rw [c4] at cv
 have fw:∀ x,(w.alloc x).frozen? ⟨P,5,none⟩=false:=fun x=>(HR.out.ext ((Ext.rfl' w).al x)).fz 5 (by decide)
 have fv:∀ x,(w.alloc x).frozen? ⟨P,4,none⟩=false:=fun x=>(HR.out.ext ((Ext.rfl' w).al x)).fz 4 (by decide)
 rcases hl with hl | hl
 ·have HQ:=Hy (show behindF s c=({ s with left:=0,state:=1 },0) from by unfold behindF;rw [if_pos hc,if_pos hl])
  obtain ⟨R,hR⟩:∃ R,R=behindF s c:=⟨_,rfl⟩
  rw [← hR] at HQ ⊢
  rw [hl] at c5 cw
  rw [if_neg (by omega)] at hc
  obtain rfl:b=10:=by rw [hb,hc];rfl
  clear hc hb hR hl
  go_enter Tryz.func76,Tryz.ntmps76
  go_wp2_with (first | (go_at_call 99;refine (fdemand_c _ _ _).mono ?_;rintro e w6 ⟨hy,hn,rfl⟩;first | (obtain rfl:=hy rfl;clear hy hn) | (obtain rfl:=hn rfl;clear hy hn) | (obtain rfl:=hy d8;clear hy hn) | (obtain rfl:=hn d8;clear hy hn)))
  go_end0
  rw [HQ.out]
  have e0:=HE.out.ext (w':=w.alloc (.cells #[.int .u8 0,.int .u8 10,.int .u8 13] 147)) Xq
  have e1:=e0.put (s':={ s with left:=0 }) 5 (.int .i64 0) rfl rfl rfl (fun _ _ _ _ _ _=>rfl)
  exact ⟨rfl,o,e1.put 4 _ rfl rfl rfl (fun _ _ _ _ _ _=>rfl),((Stp.ext Xq).tr (setF_stp 5 _ HE.out.own)).tr (setF_stp 4 _ HE.out.own)⟩
 ·have HQ:=Hy (show behindF s c=({ s with left:=1 },0) from by unfold behindF;rw [if_pos hc,if_neg (by omega),hl])
  obtain ⟨R,hR⟩:∃ R,R=behindF s c:=⟨_,rfl⟩
  rw [← hR] at HQ ⊢
  rw [hl] at c5 cw
  rw [if_pos hl] at hc
  obtain rfl:b=13:=by rw [hb,hc];rfl
  clear hc hb hR hl
  go_enter Tryz.func76,Tryz.ntmps76
  go_wp2_with (first | (go_at_call 99;refine (fdemand_c _ _ _).mono ?_;rintro e w6 ⟨hy,hn,rfl⟩;first | (obtain rfl:=hy rfl;clear hy hn) | (obtain rfl:=hn rfl;clear hy hn) | (obtain rfl:=hy d8;clear hy hn) | (obtain rfl:=hn d8;clear hy hn)))
  go_end0
  rw [HQ.out]
  have e0:=HE.out.ext (w':=w.alloc (.cells #[.int .u8 0,.int .u8 10,.int .u8 13] 147)) Xq
  exact ⟨rfl,o,e0.put 5 _ rfl rfl rfl (fun _ _ _ _ _ _=>rfl),(Stp.ext Xq).tr (setF_stp 5 _ HE.out.own)⟩
theorem fBehind_c (k P:Nat) (s:Rst) (c:UInt8) (hl:s.left=1∨s.left=2) (w:World) (o:Ow) (h:FsAt w o k P s) :
  Calls Tryz.prog 76 #[.pointer (some ⟨P,0,none⟩),.int .u8 (c.toNat:Int)] w (TurnsF k w o P (behindF s c)):=by
 by_cases hc:c=(if s.left=2 then 13 else 10)
 ·exact fBehind_yes k P s c hl hc w o h
 ·exact fBehind_no k P s c hl hc w o h
theorem fReady_c (k P:Nat) (s:Rst) (w:World) (o:Ow) (h:FsAt w o k P s) :
  Calls Tryz.prog 72 #[.pointer (some ⟨P,0,none⟩)] w (TurnsF k w o P (readyF s)):=by
 obtain ⟨A,m,B,d,C,g,hr,h1,h2,h3,h4,h5,h6⟩:=h.row
 have c0:=hr.c0
 have c1:=hr.c1
 have c2:=hr.c2
 have c3:=hr.c3
 have c4:=hr.c4
 have c5:=hr.c5
 have c10:=hr.c10
 have f4:=hr.fz 4 (by decide)
 have f5:=hr.fz 5 (by decide)
 have f10:=hr.fz 10 (by decide)
 have HE:=Hy h
 have HR:=Hy hr
 clear hr h1 h2 h3 h4 h5 h6 h
 obtain ⟨R,hR⟩:∃ R,R=readyF s:=⟨_,rfl⟩
 rw [← hR]
 by_cases k0:s.kind=0
 ·have HQ:=Hy (show R=({ s with done:=true },0) from by rw [hR];exact if_pos k0)
  have d0:((s.kind:Int) == 0)=true:=by rw [k0];rfl
  clear k0 hR
  go_enter Tryz.func72,Tryz.ntmps72
  go_wp2
  go_end0
  rw [HQ.out]
  exact ⟨rfl,o,HE.out.put 10 _ rfl rfl rfl (fun _ _ _ _ _ _=>rfl),setF_stp 10 _ HE.out.own⟩
 ·have d0:((s.kind:Int) == 0)=false:=by rw [beq_eq_false_iff_ne];omega
  by_cases k1:s.kind=1
  ·have d1:((s.kind:Int) == 1)=true:=by rw [k1];rfl
   by_cases k2:s.n≤s.most
   ·have HQ:=Hy (show R=({ s with done:=((s.all:Int) == (s.n:Int)) },0) from by
     rw [hR];unfold readyF;rw [if_neg k0,if_pos k1,if_pos k2]
     have e:decide (s.all=s.n)=((s.all:Int) == (s.n:Int)):=by rw [Bool.eq_iff_iff];simp;omega
     rw [e])
    have d8:decide (s.n≤s.most)=true:=decide_eq_true k2
    clear k0 k1 k2 hR
    go_enter Tryz.func72,Tryz.ntmps72
    go_wp2
    go_region_with (first | (go_at_call 99;refine (fdemand_c _ _ _).mono ?_;rintro e w6 ⟨hy,hn,rfl⟩;first | (obtain rfl:=hy rfl;clear hy hn) | (obtain rfl:=hn rfl;clear hy hn) | (obtain rfl:=hy d8;clear hy hn) | (obtain rfl:=hn d8;clear hy hn)))
    all_goals go_wp2
    all_goals go_region
    all_goals go_end0
    all_goals (
     rw [HQ.out]
     exact ⟨rfl,o,(HE.out.put (s':={ s with done:=((s.all:Int) == (s.n:Int)) }) 10 (.bool ((s.all:Int) == (s.n:Int))) rfl rfl rfl (fun _ _ _ _ _ _=>rfl)).ext Xq,(setF_stp 10 (.bool ((s.all:Int) == (s.n:Int))) HE.out.own).tr (Stp.ext Xq)⟩)
   ·have HQ:=Hy (show R=(s,6) from by rw [hR];unfold readyF;rw [if_neg k0,if_pos k1,if_neg k2])
    have d8:decide (s.n≤s.most)=false:=decide_eq_false k2
    clear k0 k1 k2 hR
    go_enter Tryz.func72,Tryz.ntmps72
    go_wp2
    go_region_dies
    all_goals go_wp2_with (first | (go_at_call 99;refine (fdemand_c _ _ _).mono ?_;rintro e w6 ⟨hy,hn,rfl⟩;first | (obtain rfl:=hy rfl;clear hy hn) | (obtain rfl:=hn rfl;clear hy hn) | (obtain rfl:=hy d8;clear hy hn) | (obtain rfl:=hn d8;clear hy hn)))
    all_goals simp only [bodyPost]
    all_goals rw [HQ.out]
    all_goals exact ⟨trivial,rfl,o,HE.out.ext Xq,Stp.ext Xq⟩
  ·have HQ:=Hy (show R=(s,0) from by rw [hR];unfold readyF;rw [if_neg k0,if_neg k1])
   have d1:((s.kind:Int) == 1)=false:=by rw [beq_eq_false_iff_ne];omega
   clear k0 k1 hR
   go_enter Tryz.func72,Tryz.ntmps72
   go_wp2
   go_end0
   rw [HQ.out]
   exact ⟨rfl,o,HE.out.ext Xq,Stp.ext Xq⟩
end Go.Proofs.YthbofilcnpdghaaGreatDoor
end
section
namespace Go.Proofs.YthbofilcnpdghaaGreatDoor
open Go.RowKit Go.Extern.Stop Go.Stop Go.Extern
theorem goD_idle (p:Addr) (w:World) :
  CallsD Tryz.prog 71 #[.pointer (some p)] .returning w fun e u' w'=>e=.returned (.tuple #[])∧u'=.returning∧w'=w:=by
 refine callsD_of_wpS Tryz.func71 rfl fun c₀ cs hu=>?_
 apply wpS_seq
 apply wpS_region
 simp [wpOpsS,go_sem,recoverD,hu,Tryz.ntmps71,Exit.thenS]
 apply wpS_seq
 apply wpS_region
 simp [wpOpsS,go_sem,Exit.thenS]
 refine wpS_cond (t:=false) (by simp [Act.eval,Array.replicate]) ?_
 simp only [Bool.false_eq_true,if_false]
 refine wpS_of_wp (wp_skip ?_)
 cases c₀
 simp_all [bodyPostS,results,Tryz.results71,Exit.thenS]
theorem goD_caught (P bv:Nat) (e e0:Int) (w:World) (hv:w.cell? ⟨bv,0,none⟩=some (.pointer (some ⟨P,0,none⟩))) (hp:w.cell? ⟨P,11,none⟩=some (.int .i64 e0)) (hpf:w.frozen? ⟨P,11,none⟩=false) (h1:bv≠P) :
  CallsD Tryz.prog 71 #[.pointer (some ⟨bv,0,none⟩)] (.panicking [{ v:=.iface 25 (.int .i64 e),recovered:=false }]) w fun x u' w'=>x=.returned (.tuple #[])∧u'=.panicking [{ v:=.iface 25 (.int .i64 e),recovered:=true }] ∧
   w'=(w.setCell ⟨P,11,none⟩ (.int .i64 e)).drew:=by
 refine callsD_of_wpS Tryz.func71 rfl fun c₀ cs hu=>?_
 apply wpS_seq
 apply wpS_region
 simp [wpOpsS,go_sem,recoverD,hu,Tryz.ntmps71,Exit.thenS]
 apply wpS_seq
 apply wpS_region
 simp [wpOpsS,go_sem,Exit.thenS]
 have hta:∀ w',(Instr.typeAssert (.iface 25 (.int .i64 e)) 20 25 false).run Tryz.prog w'=.ok (.int .i64 e) w':=fun _=>by first | rfl | (simp [Instr.typeAssert,go_sem];done)
 refine wpS_cond (t:=true) (by simp [Act.eval,Array.replicate]) ?_
 simp only [if_true]
 refine wpS_of_wp ?_
 simp only [Array.replicate_succ,Array.replicate_zero,List.push_toArray,List.nil_append,List.cons_append,List.setIfInBounds_toArray,List.set_cons_zero,List.set_cons_succ,List.append_toArray]
 go_wp2
 go_region_with (fail)
 all_goals go_wp2
 all_goals cases c₀
 all_goals simp_all [bodyPostS,results,Tryz.results71,Exit.thenS]
def stepN (n:Nat):Nat:=if n=0 then 73 else if n=1 then 74 else if n=2 then 75 else if n=3 then 76 else 77
theorem fStep_c (k P:Nat) (hk:0<k) (s:Rst) (hs:Rok s) (c:UInt8) (w:World) (o:Ow) (h:FsAt w o k P s) (hG:GlF w o) :
  Calls Tryz.prog (stepN s.state) #[.pointer (some ⟨P,0,none⟩),.int .u8 (c.toNat:Int)] w (TurnsF k w o P (takeF s c)):=by
 have h4:=hs.st
 unfold stepN takeF
 by_cases k0:s.state=0
 ·rw [if_pos k0,if_pos k0]
  by_cases hm:s.all<s.most
  ·exact fPlain_yes k P s c hm hs.bl hs.mo w o h
  ·exact fPlain_no k P s c hm w o h
 ·rw [if_neg k0,if_neg k0]
  by_cases k1:s.state=1
  ·rw [if_pos k1,if_pos k1]
   exact fSize_c k P hk s c hs.ln hs.al hs.mo w o h hG
  ·rw [if_neg k1,if_neg k1]
   by_cases k2:s.state=2
   ·rw [if_pos k2,if_pos k2]
    exact fData_c k P s c (hs.l2 k2).1 (hs.l2 k2).2 hs.bl hs.mo w o h
   ·rw [if_neg k2,if_neg k2]
    by_cases k3:s.state=3
    ·rw [if_pos k3,if_pos k3]
     exact fBehind_c k P s c (hs.l3 k3) w o h
    ·rw [if_neg k3,if_neg k3]
     exact fTrailer_c k P s c hs.ln w o h
theorem fGo_shut (k P:Nat) (s:Rst) (hs:s.done=true∨s.e≠0) (b:List UInt8) (B:Option Addr) (n d:Nat) (w:World) (o:Ow) (h:FsAt w o k P s) :
  Calls Tryz.prog 50 #[.pointer (some ⟨P,0,none⟩),.slice B n d] w (Turns (KF k) w o fun v w' o'=>v=.int .i64 ((goF s b).2:Int)∧FsAt w' o' k P (goF s b).1):=by
 have HQ:=Hy (show goF s b=(s,0) from if_pos hs)
 have HE:=Hy h
 obtain ⟨A,m,D,l,C,g,hr,h1⟩:=h.row
 have c10:=fun x=>(hr.ext ((Ext.rfl' w).al x)).c10
 have c11:=fun x=>(hr.ext ((Ext.rfl' w).al x)).c11
 have hP:P<w.heap.size:=row_lt hr
 clear hr h1 h
 obtain ⟨dn,hdn⟩:∃ x,x=s.done:=⟨_,rfl⟩
 obtain ⟨er,her⟩:∃ x,x=s.e:=⟨_,rfl⟩
 rw [← hdn] at c10 hs
 rw [← her] at c11 hs
 clear hdn her
 cases dn with
 | true =>
  clear hs
  go_enter_defers Tryz.func50,Tryz.ntmps50
  go_wp2
  refine ⟨.int .i64 0,by simp [results,Tryz.results50,go_sem],?_⟩
  exact Turns.mk o rfl ⟨by rw [HQ.out];rfl,by rw [HQ.out];exact HE.out.ext Xq⟩ (Stp.ext Xq)
 | false =>
  have hne:(er != 0)=true:=by rw [bne_iff_ne];simpa using hs
  clear hs
  go_enter_defers Tryz.func50,Tryz.ntmps50
  go_wp2
  refine ⟨.int .i64 0,by simp [results,Tryz.results50,go_sem],?_⟩
  exact Turns.mk o rfl ⟨by rw [HQ.out];rfl,by rw [HQ.out];exact HE.out.ext Xq⟩ (Stp.ext Xq)
end Go.Proofs.YthbofilcnpdghaaGreatDoor
end
