/-
Head's take: a byte that gives up; a byte of a line's end.
-/
import Derived.Test.YthbofilcnpdghaaGreatDoorZam
import Derived.Test.YthbofilcnpdghaaGreatDoorZal
import Derived.Defers
import Derived.Recover
set_option maxRecDepth 100000
set_option maxHeartbeats 8000000
set_option linter.unusedVariables false
set_option linter.unusedSimpArgs false
section
namespace Go.Proofs.YthbofilcnpdghaaGreatDoor
open Go.RowKit
theorem hTake_long (k P:Nat) (s:Pst) (hs:Pok s) (c:UInt8) (hlong:32768≤s.all) (w:World) (o:Ow) (h:PsAt w o k P s) :
  Calls Tryz.prog 47 #[.pointer (some ⟨P,0,none⟩),.int .u8 (c.toNat:Int)] w (TurnsP k w o P (takeP s c)):=by
 obtain ⟨A,m,B,d,hr,h1,h2,h3,h4⟩:=h.row
 have c2:=hr.c2
 have c3:=hr.c3
 have c5:=hr.c5
 have c8:=hr.c8
 have f2:=hr.fz 2 (by decide)
 have f3:=hr.fz 3 (by decide)
 have f5:=hr.fz 5 (by decide)
 have HE:=Hy h
 have HR:=Hy hr
 have HS:=Hy h1
 have HN:=Hy h2
 have HF:=Hy (And.intro h3 h4)
 have hal:=hs.al
 have hln:=hs.ln
 have HOK:=Hy hs
 obtain ⟨n1,hn1⟩:∃ n,n=s.all+1:=⟨_,rfl⟩
 have s1:IntKind.i64.wrap ((s.all:Int)+1)=(n1:Int):=by rw [IntKind.wrap_i64];omega
 have HAL:=Hy (show PsAt (w.setCell ⟨P,5,none⟩ (.int .i64 (n1:Int))) o k P { s with all:=n1 } from by rw [hn1];exact h.al)
 obtain ⟨b,hb⟩:∃ b,b=c.toNat:=⟨_,rfl⟩
 have h256:=UInt8.toNat_lt c
 rw [← hb] at h256 ⊢
 clear hr h1 h2 h3 h4 h hs
 have HQ:=Hy (show takeP s c=({ s with all:=n1 },44) from by unfold takeP;rw [if_pos hlong,hn1])
 have d9:decide ((n1:Int)≤32768)=false:=decide_eq_false (by omega)
 clear hn1 hb
 go_enter Tryz.func47,Tryz.ntmps47
 go_wp2_with (first
  | (go_at_call 53;refine (demand_c _ _ _).mono ?_;rintro e w6 ⟨hy,hn,rfl⟩;first | (obtain rfl:=hy rfl;clear hy hn) | (obtain rfl:=hn rfl;clear hy hn) | (obtain rfl:=hy d9;clear hy hn) | (obtain rfl:=hn d9;clear hy hn)))
 simp only [bodyPost]
 rw [HQ.out]
 exact ⟨trivial,rfl,o,HAL.out,set_stp 5 _ HE.out.own⟩
theorem hTake_cr (k P:Nat) (s:Pst) (hs:Pok s) (c:UInt8) (hlong:¬ 32768≤s.all) (hcr:s.cr=false) (hc:c=13) (w:World) (o:Ow) (h:PsAt w o k P s) :
  Calls Tryz.prog 47 #[.pointer (some ⟨P,0,none⟩),.int .u8 (c.toNat:Int)] w (TurnsP k w o P (takeP s c)):=by
 obtain ⟨A,m,B,d,hr,h1,h2,h3,h4⟩:=h.row
 have c2:=hr.c2
 have c3:=hr.c3
 have c5:=hr.c5
 have c8:=hr.c8
 have f2:=hr.fz 2 (by decide)
 have f3:=hr.fz 3 (by decide)
 have f5:=hr.fz 5 (by decide)
 have HE:=Hy h
 have HR:=Hy hr
 have HS:=Hy h1
 have HN:=Hy h2
 have HF:=Hy (And.intro h3 h4)
 have hal:=hs.al
 have hln:=hs.ln
 have HOK:=Hy hs
 obtain ⟨n1,hn1⟩:∃ n,n=s.all+1:=⟨_,rfl⟩
 have s1:IntKind.i64.wrap ((s.all:Int)+1)=(n1:Int):=by rw [IntKind.wrap_i64];omega
 have HAL:=Hy (show PsAt (w.setCell ⟨P,5,none⟩ (.int .i64 (n1:Int))) o k P { s with all:=n1 } from by rw [hn1];exact h.al)
 obtain ⟨b,hb⟩:∃ b,b=c.toNat:=⟨_,rfl⟩
 have h256:=UInt8.toNat_lt c
 rw [← hb] at h256 ⊢
 clear hr h1 h2 h3 h4 h hs
 have HQ:=Hy (show takeP s c=({ s with all:=n1,cr:=true },0) from by unfold takeP;rw [if_neg hlong,if_neg (by rw [hcr];decide),if_pos hc,hn1])
 have d9:decide ((n1:Int)≤32768)=true:=decide_eq_true (by omega)
 rw [hcr] at c3
 obtain rfl:b=13:=by rw [hb,hc];rfl
 clear hn1 hb
 go_enter Tryz.func47,Tryz.ntmps47
 go_wp2_with (first
  | (go_at_call 53;refine (demand_c _ _ _).mono ?_;rintro e w6 ⟨hy,hn,rfl⟩;first | (obtain rfl:=hy rfl;clear hy hn) | (obtain rfl:=hn rfl;clear hy hn) | (obtain rfl:=hy d9;clear hy hn) | (obtain rfl:=hn d9;clear hy hn)))
 go_end0
 rw [HQ.out]
 exact ⟨rfl,o,HAL.out.crs true,(set_stp 5 _ HE.out.own).tr (set_stp 3 _ HE.out.own)⟩
theorem hTake_nolf (k P:Nat) (s:Pst) (hs:Pok s) (c:UInt8) (hlong:¬ 32768≤s.all) (hcr:s.cr=true) (hc:c≠10) (w:World) (o:Ow) (h:PsAt w o k P s) :
  Calls Tryz.prog 47 #[.pointer (some ⟨P,0,none⟩),.int .u8 (c.toNat:Int)] w (TurnsP k w o P (takeP s c)):=by
 obtain ⟨A,m,B,d,hr,h1,h2,h3,h4⟩:=h.row
 have c2:=hr.c2
 have c3:=hr.c3
 have c5:=hr.c5
 have c8:=hr.c8
 have f2:=hr.fz 2 (by decide)
 have f3:=hr.fz 3 (by decide)
 have f5:=hr.fz 5 (by decide)
 have HE:=Hy h
 have HR:=Hy hr
 have HS:=Hy h1
 have HN:=Hy h2
 have HF:=Hy (And.intro h3 h4)
 have hal:=hs.al
 have hln:=hs.ln
 have HOK:=Hy hs
 obtain ⟨n1,hn1⟩:∃ n,n=s.all+1:=⟨_,rfl⟩
 have s1:IntKind.i64.wrap ((s.all:Int)+1)=(n1:Int):=by rw [IntKind.wrap_i64];omega
 have HAL:=Hy (show PsAt (w.setCell ⟨P,5,none⟩ (.int .i64 (n1:Int))) o k P { s with all:=n1 } from by rw [hn1];exact h.al)
 obtain ⟨b,hb⟩:∃ b,b=c.toNat:=⟨_,rfl⟩
 have h256:=UInt8.toNat_lt c
 rw [← hb] at h256 ⊢
 clear hr h1 h2 h3 h4 h hs
 have HQ:=Hy (show takeP s c=({ s with all:=n1,cr:=false },22) from by unfold takeP;rw [if_neg hlong,if_pos hcr,if_neg hc,hn1])
 have d9:decide ((n1:Int)≤32768)=true:=decide_eq_true (by omega)
 rw [hcr] at c3
 have d1:((b:Int) == 10)=false:=by rw [beq_eq_false_iff_ne];intro e;exact hc (UInt8.toNat_inj.1 (by rw [← hb];show b=10;omega))
 clear hn1 hb hc
 go_enter Tryz.func47,Tryz.ntmps47
 go_wp2_with (first
  | (go_at_call 53;refine (demand_c _ _ _).mono ?_;rintro e w6 ⟨hy,hn,rfl⟩;first | (obtain rfl:=hy rfl;clear hy hn) | (obtain rfl:=hn rfl;clear hy hn) | (obtain rfl:=hy d9;clear hy hn) | (obtain rfl:=hn d9;clear hy hn)))
 simp only [bodyPost]
 rw [HQ.out]
 exact ⟨trivial,rfl,o,HAL.out.crs false,(set_stp 5 _ HE.out.own).tr (set_stp 3 _ HE.out.own)⟩
theorem cut_none (A:Option Addr) (n c:Nat):∀ w',(Instr.slice 22 (.slice A n c) none (some (.int .i64 0)) none).run Tryz.prog w'=.ok (.slice A 0 c) w':=by
 intro w'
 have hz:∀ w',(Go.sizeOf 5).run Tryz.prog w'=.ok 1 w':=fun _=>rfl
 have hu:=Tryz.underlying22
 have h1:(0:Int)≤(c:Int):=by omega
 simp [Instr.slice,Instr.sliceBounds,Instr.sliceBound,asIntOf,run_underlying hu,go_sem,h1,hz]
theorem hTake_lf (k P:Nat) (hk:0<k) (s:Pst) (hs:Pok s) (c:UInt8) (hlong:¬ 32768≤s.all) (hcr:s.cr=true) (hc:c=10) (w:World) (o:Ow) (h:PsAt w o k P s) (hG:Gl w o) :
  Calls Tryz.prog 47 #[.pointer (some ⟨P,0,none⟩),.int .u8 (c.toNat:Int)] w (TurnsP k w o P (takeP s c)):=by
 obtain ⟨A,m,B,d,hr,h1,h2,h3,h4⟩:=h.row
 have c2:=hr.c2
 have c3:=hr.c3
 have c5:=hr.c5
 have c8:=hr.c8
 have f2:=hr.fz 2 (by decide)
 have f3:=hr.fz 3 (by decide)
 have f5:=hr.fz 5 (by decide)
 have HE:=Hy h
 have HR:=Hy hr
 have HS:=Hy h1
 have HN:=Hy h2
 have HF:=Hy (And.intro h3 h4)
 have hal:=hs.al
 have hln:=hs.ln
 have HOK:=Hy hs
 obtain ⟨n1,hn1⟩:∃ n,n=s.all+1:=⟨_,rfl⟩
 have s1:IntKind.i64.wrap ((s.all:Int)+1)=(n1:Int):=by rw [IntKind.wrap_i64];omega
 have HAL:=Hy (show PsAt (w.setCell ⟨P,5,none⟩ (.int .i64 (n1:Int))) o k P { s with all:=n1 } from by rw [hn1];exact h.al)
 obtain ⟨b,hb⟩:∃ b,b=c.toNat:=⟨_,rfl⟩
 have h256:=UInt8.toNat_lt c
 rw [← hb] at h256 ⊢
 clear hr h1 h2 h3 h4 h hs
 have HQ:=Hy (show takeP s c=lineP { s with all:=n1,cr:=false,line:=[] } s.line from by unfold takeP;rw [if_neg hlong,if_pos hcr,if_pos hc,hn1])
 have d9:decide ((n1:Int)≤32768)=true:=decide_eq_true (by omega)
 rw [hcr] at c3
 obtain rfl:b=10:=by rw [hb,hc];rfl
 have hok3:Pok { s with all:=n1,cr:=false,line:=[] }:=⟨HOK.out.e0,HOK.out.d0,by dsimp only;omega,Nat.zero_le _,HOK.out.fl,HOK.out.em,HOK.out.nx⟩
 have t1:Stp (fun i=>i=k) w o (w.setCell ⟨P,5,none⟩ (.int .i64 (n1:Int))) o:=Stp.set P 5 _ (fun _=>HE.out.own)
 have t2:Stp (fun i=>i=k) w o ((w.setCell ⟨P,5,none⟩ (.int .i64 (n1:Int))).setCell ⟨P,3,none⟩ (.bool false)) o:=t1.tr (Stp.set P 3 _ (fun _=>HE.out.own))
 have hr2:Prow ((w.setCell ⟨P,5,none⟩ (.int .i64 (n1:Int))).setCell ⟨P,3,none⟩ (.bool false)) P { s with all:=n1,cr:=false } A m B d:=(HR.out.set 5 (.int .i64 (n1:Int)) (s':={ s with all:=n1 }) rfl).set 3 (.bool false) rfl
 have hp3:=Hy (PsAt.nol (w:=(w.setCell ⟨P,5,none⟩ (.int .i64 (n1:Int))).setCell ⟨P,3,none⟩ (.bool false)) (s:={ s with all:=n1,cr:=false }) HE.out.own hr2 (HS.out.stp t2 (by omega)) HN.out (HF.out.1.stp t2 (by omega)) HF.out.2)
 have t3:=Hy ((t2.mono (L:=KP k) fun i hi=>.inl hi).tr (set_stp 2 (.slice A 0 m) HE.out.own))
 have CL:=Hy (line_c k P hk _ hok3 s.line hln _ o hp3.out (hG.stp t3.out (by unfold KP;omega)))
 have CV:=conv_bs 22 9 5 Tryz.underlying22 Tryz.underlying5 Tryz.underlying9 ((HS.out.stp t2 (by omega)).rd) s.line.length m rfl
 have CN:=cut_none A s.line.length m
 obtain ⟨sl,hsl⟩:∃ q,q=str s.line:=⟨_,rfl⟩
 rw [← hsl] at CL CV
 clear hn1 hb hr2 t1 t2 hok3 hsl hG hc
 obtain ⟨q,hq⟩:∃ q,q=lineP { s with all:=n1,cr:=false,line:=[] } s.line:=⟨_,rfl⟩
 rw [← hq] at CL HQ
 clear hq
 have T3:=t3
 obtain ⟨W3,hW3⟩:∃ W,W=((w.setCell ⟨P,5,none⟩ (.int .i64 (n1:Int))).setCell ⟨P,3,none⟩ (.bool false)).setCell ⟨P,2,none⟩ (.slice A 0 m):=⟨_,rfl⟩
 rw [← hW3] at T3
 have HW3:=Hy hW3
 clear hW3 hp3
 by_cases h0:q.2=0
 ·have CL2:=Hy (CL.out.mono (R':=fun r w'=>r=.returned (.tuple #[])∧∃ o',PsAt w' o' k P q.1∧Stp (KP k) W3 o w' o') (by rintro r w' ⟨rfl,h⟩;exact ⟨by rw [h0];rfl,by rw [HW3.out];exact h⟩))
  have H0:=Hy h0
  clear h0 CL
  rcases HOK.out.nx with e | e | e
  ·rw [e] at c8 CL2
   clear e
   go_enter Tryz.func47,Tryz.ntmps47
   go_wp2_with (first
    | (go_at_call 37;refine (CL2.out).mono ?_;rintro e w4 ⟨rfl,o4,hp4,st4⟩)
    | (go_at_call 38;refine (CL2.out).mono ?_;rintro e w4 ⟨rfl,o4,hp4,st4⟩)
    | (go_at_call 51;refine (CL2.out).mono ?_;rintro e w4 ⟨rfl,o4,hp4,st4⟩)
    | (go_at_call 53;refine (demand_c _ _ _).mono ?_;rintro e w6 ⟨hy,hn,rfl⟩;first | (obtain rfl:=hy rfl;clear hy hn) | (obtain rfl:=hn rfl;clear hy hn) | (obtain rfl:=hy d9;clear hy hn) | (obtain rfl:=hn d9;clear hy hn)))
   go_end0
   rw [HQ.out]
   exact ⟨by rw [H0.out];rfl,o4,hp4,T3.out.tr st4⟩
  ·rw [e] at c8 CL2
   clear e
   go_enter Tryz.func47,Tryz.ntmps47
   go_wp2_with (first
    | (go_at_call 37;refine (CL2.out).mono ?_;rintro e w4 ⟨rfl,o4,hp4,st4⟩)
    | (go_at_call 38;refine (CL2.out).mono ?_;rintro e w4 ⟨rfl,o4,hp4,st4⟩)
    | (go_at_call 51;refine (CL2.out).mono ?_;rintro e w4 ⟨rfl,o4,hp4,st4⟩)
    | (go_at_call 53;refine (demand_c _ _ _).mono ?_;rintro e w6 ⟨hy,hn,rfl⟩;first | (obtain rfl:=hy rfl;clear hy hn) | (obtain rfl:=hn rfl;clear hy hn) | (obtain rfl:=hy d9;clear hy hn) | (obtain rfl:=hn d9;clear hy hn)))
   go_end0
   rw [HQ.out]
   exact ⟨by rw [H0.out];rfl,o4,hp4,T3.out.tr st4⟩
  ·rw [e] at c8 CL2
   clear e
   go_enter Tryz.func47,Tryz.ntmps47
   go_wp2_with (first
    | (go_at_call 37;refine (CL2.out).mono ?_;rintro e w4 ⟨rfl,o4,hp4,st4⟩)
    | (go_at_call 38;refine (CL2.out).mono ?_;rintro e w4 ⟨rfl,o4,hp4,st4⟩)
    | (go_at_call 51;refine (CL2.out).mono ?_;rintro e w4 ⟨rfl,o4,hp4,st4⟩)
    | (go_at_call 53;refine (demand_c _ _ _).mono ?_;rintro e w6 ⟨hy,hn,rfl⟩;first | (obtain rfl:=hy rfl;clear hy hn) | (obtain rfl:=hn rfl;clear hy hn) | (obtain rfl:=hy d9;clear hy hn) | (obtain rfl:=hn d9;clear hy hn)))
   go_end0
   rw [HQ.out]
   exact ⟨by rw [H0.out];rfl,o4,hp4,T3.out.tr st4⟩
 ·have CL2:=Hy (CL.out.mono (R':=fun r w'=>r=.panicked [{ v:=.iface 25 (.int .i64 q.2),recovered:=false }]∧∃ o',PsAt w' o' k P q.1∧Stp (KP k) W3 o w' o') (by rintro r w' ⟨rfl,h⟩;exact ⟨gone_no h0,by rw [HW3.out];exact h⟩))
  have H0:=Hy h0
  clear h0 CL
  rcases HOK.out.nx with e | e | e
  ·rw [e] at c8 CL2
   clear e
   go_enter Tryz.func47,Tryz.ntmps47
   go_wp2_with (first
    | (go_at_call 37;refine (CL2.out).mono ?_;rintro e w4 ⟨rfl,o4,hp4,st4⟩)
    | (go_at_call 38;refine (CL2.out).mono ?_;rintro e w4 ⟨rfl,o4,hp4,st4⟩)
    | (go_at_call 51;refine (CL2.out).mono ?_;rintro e w4 ⟨rfl,o4,hp4,st4⟩)
    | (go_at_call 53;refine (demand_c _ _ _).mono ?_;rintro e w6 ⟨hy,hn,rfl⟩;first | (obtain rfl:=hy rfl;clear hy hn) | (obtain rfl:=hn rfl;clear hy hn) | (obtain rfl:=hy d9;clear hy hn) | (obtain rfl:=hn d9;clear hy hn)))
   simp only [bodyPost]
   rw [HQ.out]
   exact ⟨trivial,(gone_no H0.out).symm,o4,hp4,T3.out.tr st4⟩
  ·rw [e] at c8 CL2
   clear e
   go_enter Tryz.func47,Tryz.ntmps47
   go_wp2_with (first
    | (go_at_call 37;refine (CL2.out).mono ?_;rintro e w4 ⟨rfl,o4,hp4,st4⟩)
    | (go_at_call 38;refine (CL2.out).mono ?_;rintro e w4 ⟨rfl,o4,hp4,st4⟩)
    | (go_at_call 51;refine (CL2.out).mono ?_;rintro e w4 ⟨rfl,o4,hp4,st4⟩)
    | (go_at_call 53;refine (demand_c _ _ _).mono ?_;rintro e w6 ⟨hy,hn,rfl⟩;first | (obtain rfl:=hy rfl;clear hy hn) | (obtain rfl:=hn rfl;clear hy hn) | (obtain rfl:=hy d9;clear hy hn) | (obtain rfl:=hn d9;clear hy hn)))
   simp only [bodyPost]
   rw [HQ.out]
   exact ⟨trivial,(gone_no H0.out).symm,o4,hp4,T3.out.tr st4⟩
  ·rw [e] at c8 CL2
   clear e
   go_enter Tryz.func47,Tryz.ntmps47
   go_wp2_with (first
    | (go_at_call 37;refine (CL2.out).mono ?_;rintro e w4 ⟨rfl,o4,hp4,st4⟩)
    | (go_at_call 38;refine (CL2.out).mono ?_;rintro e w4 ⟨rfl,o4,hp4,st4⟩)
    | (go_at_call 51;refine (CL2.out).mono ?_;rintro e w4 ⟨rfl,o4,hp4,st4⟩)
    | (go_at_call 53;refine (demand_c _ _ _).mono ?_;rintro e w6 ⟨hy,hn,rfl⟩;first | (obtain rfl:=hy rfl;clear hy hn) | (obtain rfl:=hn rfl;clear hy hn) | (obtain rfl:=hy d9;clear hy hn) | (obtain rfl:=hn d9;clear hy hn)))
   simp only [bodyPost]
   rw [HQ.out]
   exact ⟨trivial,(gone_no H0.out).symm,o4,hp4,T3.out.tr st4⟩
theorem hTake_bad (k P:Nat) (s:Pst) (hs:Pok s) (c:UInt8) (hlong:¬ 32768≤s.all) (hcr:s.cr=false) (hc:c≠13) (hv:valB c.toNat=false) (w:World) (o:Ow) (h:PsAt w o k P s) :
  Calls Tryz.prog 47 #[.pointer (some ⟨P,0,none⟩),.int .u8 (c.toNat:Int)] w (TurnsP k w o P (takeP s c)):=by
 obtain ⟨A,m,B,d,hr,h1,h2,h3,h4⟩:=h.row
 have c2:=hr.c2
 have c3:=hr.c3
 have c5:=hr.c5
 have c8:=hr.c8
 have f2:=hr.fz 2 (by decide)
 have f3:=hr.fz 3 (by decide)
 have f5:=hr.fz 5 (by decide)
 have HE:=Hy h
 have HR:=Hy hr
 have HS:=Hy h1
 have HN:=Hy h2
 have HF:=Hy (And.intro h3 h4)
 have hal:=hs.al
 have hln:=hs.ln
 have HOK:=Hy hs
 obtain ⟨n1,hn1⟩:∃ n,n=s.all+1:=⟨_,rfl⟩
 have s1:IntKind.i64.wrap ((s.all:Int)+1)=(n1:Int):=by rw [IntKind.wrap_i64];omega
 have HAL:=Hy (show PsAt (w.setCell ⟨P,5,none⟩ (.int .i64 (n1:Int))) o k P { s with all:=n1 } from by rw [hn1];exact h.al)
 obtain ⟨b,hb⟩:∃ b,b=c.toNat:=⟨_,rfl⟩
 have h256:=UInt8.toNat_lt c
 rw [← hb] at h256 ⊢
 clear hr h1 h2 h3 h4 h hs
 have HQ:=Hy (show takeP s c=({ s with all:=n1 },22) from by unfold takeP;rw [if_neg hlong,if_neg (by rw [hcr];decide),if_neg hc,if_neg (by rw [hv];decide),hn1])
 have d9:decide ((n1:Int)≤32768)=true:=decide_eq_true (by omega)
 rw [hcr] at c3
 have d1:((b:Int) == 13)=false:=by rw [beq_eq_false_iff_ne];intro e;exact hc (UInt8.toNat_inj.1 (by rw [← hb];show b=13;omega))
 rw [← hb] at hv
 unfold valB at hv
 simp only [Bool.or_eq_false_iff,Bool.and_eq_false_iff,decide_eq_false_iff_not] at hv
 have d2:((b:Int) == 9)=false:=by rw [beq_eq_false_iff_ne];omega
 clear hn1 hb hc HS HN HF
 by_cases k1:b<32
 ·have d3:¬(32:Int)≤(b:Int):=by omega
  clear hv
  go_enter Tryz.func47,Tryz.ntmps47
  go_wp2_with (first
   | (go_at_call 53;refine (demand_c _ _ _).mono ?_;rintro e w6 ⟨hy,hn,rfl⟩;first | (obtain rfl:=hy rfl;clear hy hn) | (obtain rfl:=hn rfl;clear hy hn) | (obtain rfl:=hy d9;clear hy hn) | (obtain rfl:=hn d9;clear hy hn) | (obtain rfl:=hy d8;clear hy hn) | (obtain rfl:=hn d8;clear hy hn))
   | (at_builtin;refine wpL_put slt_u8 (.tmp 40) (.tmp 42) rfl rfl rfl rfl (HS1.out.ext (Ext.al (Ext.rfl' _) _)) HN.out (Src.ofSlice (size:=1) _ Tryz.underlying22 ⟨w.heap.size,0,none⟩ 1 1 [.int .u8 (b:Int)] (by simp) NC.out (by simp [Value.oneCell'])) (by omega) (by simp only [maxLen];omega) ?_;intro A7 c7 w7 o7 hs7 hst7 hn7;have st7:=(Stp.ext ((Ext.rfl' (w.setCell ⟨P,5,none⟩ (.int .i64 (n1:Int)))).al _)).tr hst7;have hr7:Prow w7 P { s with all:=n1 } A m B d:=(st7.keep P (row_lt HR1.out) (by rw [HE.out.own];omega)).trans HR1.out;have k2:=hr7.c2;have g2:=hr7.fz 2 (by decide);clear c2 c3 c5 c8 f2 f3 f5))
  simp only [bodyPost]
  rw [HQ.out]
  exact ⟨trivial,rfl,o,HAL.out,set_stp 5 _ HE.out.own⟩
 ·have d3:(32:Int)≤(b:Int):=by omega
  have k4:b=127:=by omega
  have d4:((b:Int) != 127)=false:=by rw [k4];rfl
  clear hv k4
  go_enter Tryz.func47,Tryz.ntmps47
  go_wp2_with (first
   | (go_at_call 53;refine (demand_c _ _ _).mono ?_;rintro e w6 ⟨hy,hn,rfl⟩;first | (obtain rfl:=hy rfl;clear hy hn) | (obtain rfl:=hn rfl;clear hy hn) | (obtain rfl:=hy d9;clear hy hn) | (obtain rfl:=hn d9;clear hy hn) | (obtain rfl:=hy d8;clear hy hn) | (obtain rfl:=hn d8;clear hy hn))
   | (at_builtin;refine wpL_put slt_u8 (.tmp 40) (.tmp 42) rfl rfl rfl rfl (HS1.out.ext (Ext.al (Ext.rfl' _) _)) HN.out (Src.ofSlice (size:=1) _ Tryz.underlying22 ⟨w.heap.size,0,none⟩ 1 1 [.int .u8 (b:Int)] (by simp) NC.out (by simp [Value.oneCell'])) (by omega) (by simp only [maxLen];omega) ?_;intro A7 c7 w7 o7 hs7 hst7 hn7;have st7:=(Stp.ext ((Ext.rfl' (w.setCell ⟨P,5,none⟩ (.int .i64 (n1:Int)))).al _)).tr hst7;have hr7:Prow w7 P { s with all:=n1 } A m B d:=(st7.keep P (row_lt HR1.out) (by rw [HE.out.own];omega)).trans HR1.out;have k2:=hr7.c2;have g2:=hr7.fz 2 (by decide);clear c2 c3 c5 c8 f2 f3 f5))
  simp only [bodyPost]
  rw [HQ.out]
  exact ⟨trivial,rfl,o,HAL.out,set_stp 5 _ HE.out.own⟩
theorem hTake_room (k P:Nat) (s:Pst) (hs:Pok s) (c:UInt8) (hlong:¬ 32768≤s.all) (hcr:s.cr=false) (hc:c≠13) (hv:valB c.toNat=true) (hl:¬ s.line.length<8192) (w:World) (o:Ow) (h:PsAt w o k P s) :
  Calls Tryz.prog 47 #[.pointer (some ⟨P,0,none⟩),.int .u8 (c.toNat:Int)] w (TurnsP k w o P (takeP s c)):=by
 obtain ⟨A,m,B,d,hr,h1,h2,h3,h4⟩:=h.row
 have c2:=hr.c2
 have c3:=hr.c3
 have c5:=hr.c5
 have c8:=hr.c8
 have f2:=hr.fz 2 (by decide)
 have f3:=hr.fz 3 (by decide)
 have f5:=hr.fz 5 (by decide)
 have HE:=Hy h
 have HR:=Hy hr
 have HS:=Hy h1
 have HN:=Hy h2
 have HF:=Hy (And.intro h3 h4)
 have hal:=hs.al
 have hln:=hs.ln
 have HOK:=Hy hs
 obtain ⟨n1,hn1⟩:∃ n,n=s.all+1:=⟨_,rfl⟩
 have s1:IntKind.i64.wrap ((s.all:Int)+1)=(n1:Int):=by rw [IntKind.wrap_i64];omega
 have HAL:=Hy (show PsAt (w.setCell ⟨P,5,none⟩ (.int .i64 (n1:Int))) o k P { s with all:=n1 } from by rw [hn1];exact h.al)
 obtain ⟨b,hb⟩:∃ b,b=c.toNat:=⟨_,rfl⟩
 have h256:=UInt8.toNat_lt c
 rw [← hb] at h256 ⊢
 clear hr h1 h2 h3 h4 h hs
 have HQ:=Hy (show takeP s c=({ s with all:=n1 },44) from by unfold takeP;rw [if_neg hlong,if_neg (by rw [hcr];decide),if_neg hc,if_pos hv,if_neg hl,hn1])
 have d9:decide ((n1:Int)≤32768)=true:=decide_eq_true (by omega)
 rw [hcr] at c3
 have d1:((b:Int) == 13)=false:=by rw [beq_eq_false_iff_ne];intro e;exact hc (UInt8.toNat_inj.1 (by rw [← hb];show b=13;omega))
 rw [← hb] at hv
 unfold valB at hv
 simp only [Bool.or_eq_true,Bool.and_eq_true,decide_eq_true_eq] at hv
 have d8:decide ((s.line.length:Int)<8192)=false:=decide_eq_false (by omega)
 clear hn1 hb hc HS HN HF
 by_cases k1:b=9
 ·subst k1
  clear d1 hv
  go_enter Tryz.func47,Tryz.ntmps47
  go_wp2_with (first
   | (go_at_call 53;refine (demand_c _ _ _).mono ?_;rintro e w6 ⟨hy,hn,rfl⟩;first | (obtain rfl:=hy rfl;clear hy hn) | (obtain rfl:=hn rfl;clear hy hn) | (obtain rfl:=hy d9;clear hy hn) | (obtain rfl:=hn d9;clear hy hn) | (obtain rfl:=hy d8;clear hy hn) | (obtain rfl:=hn d8;clear hy hn))
   | (at_builtin;refine wpL_put slt_u8 (.tmp 40) (.tmp 42) rfl rfl rfl rfl (HS1.out.ext (Ext.al (Ext.rfl' _) _)) HN.out (Src.ofSlice (size:=1) _ Tryz.underlying22 ⟨w.heap.size,0,none⟩ 1 1 [.int .u8 (b:Int)] (by simp) NC.out (by simp [Value.oneCell'])) (by omega) (by simp only [maxLen];omega) ?_;intro A7 c7 w7 o7 hs7 hst7 hn7;have st7:=(Stp.ext ((Ext.rfl' (w.setCell ⟨P,5,none⟩ (.int .i64 (n1:Int)))).al _)).tr hst7;have hr7:Prow w7 P { s with all:=n1 } A m B d:=(st7.keep P (row_lt HR1.out) (by rw [HE.out.own];omega)).trans HR1.out;have k2:=hr7.c2;have g2:=hr7.fz 2 (by decide);clear c2 c3 c5 c8 f2 f3 f5))
  simp only [bodyPost]
  rw [HQ.out]
  exact ⟨trivial,rfl,o,HAL.out,set_stp 5 _ HE.out.own⟩
 ·have d2:((b:Int) == 9)=false:=by rw [beq_eq_false_iff_ne];omega
  have d3:(32:Int)≤(b:Int):=by omega
  have d4:((b:Int) != 127)=true:=by rw [bne_iff_ne];omega
  clear hv k1
  go_enter Tryz.func47,Tryz.ntmps47
  go_wp2_with (first
   | (go_at_call 53;refine (demand_c _ _ _).mono ?_;rintro e w6 ⟨hy,hn,rfl⟩;first | (obtain rfl:=hy rfl;clear hy hn) | (obtain rfl:=hn rfl;clear hy hn) | (obtain rfl:=hy d9;clear hy hn) | (obtain rfl:=hn d9;clear hy hn) | (obtain rfl:=hy d8;clear hy hn) | (obtain rfl:=hn d8;clear hy hn))
   | (at_builtin;refine wpL_put slt_u8 (.tmp 40) (.tmp 42) rfl rfl rfl rfl (HS1.out.ext (Ext.al (Ext.rfl' _) _)) HN.out (Src.ofSlice (size:=1) _ Tryz.underlying22 ⟨w.heap.size,0,none⟩ 1 1 [.int .u8 (b:Int)] (by simp) NC.out (by simp [Value.oneCell'])) (by omega) (by simp only [maxLen];omega) ?_;intro A7 c7 w7 o7 hs7 hst7 hn7;have st7:=(Stp.ext ((Ext.rfl' (w.setCell ⟨P,5,none⟩ (.int .i64 (n1:Int)))).al _)).tr hst7;have hr7:Prow w7 P { s with all:=n1 } A m B d:=(st7.keep P (row_lt HR1.out) (by rw [HE.out.own];omega)).trans HR1.out;have k2:=hr7.c2;have g2:=hr7.fz 2 (by decide);clear c2 c3 c5 c8 f2 f3 f5))
  simp only [bodyPost]
  rw [HQ.out]
  exact ⟨trivial,rfl,o,HAL.out,set_stp 5 _ HE.out.own⟩
theorem hTake_good (k P:Nat) (s:Pst) (hs:Pok s) (c:UInt8) (hlong:¬ 32768≤s.all) (hcr:s.cr=false) (hc:c≠13) (hv:valB c.toNat=true) (hl:s.line.length<8192) (w:World) (o:Ow) (h:PsAt w o k P s) :
  Calls Tryz.prog 47 #[.pointer (some ⟨P,0,none⟩),.int .u8 (c.toNat:Int)] w (TurnsP k w o P (takeP s c)):=by
 obtain ⟨A,m,B,d,hr,h1,h2,h3,h4⟩:=h.row
 have c2:=hr.c2
 have c3:=hr.c3
 have c5:=hr.c5
 have c8:=hr.c8
 have f2:=hr.fz 2 (by decide)
 have f3:=hr.fz 3 (by decide)
 have f5:=hr.fz 5 (by decide)
 have HE:=Hy h
 have HR:=Hy hr
 have HS:=Hy h1
 have HN:=Hy h2
 have HF:=Hy (And.intro h3 h4)
 have hal:=hs.al
 have hln:=hs.ln
 have HOK:=Hy hs
 obtain ⟨n1,hn1⟩:∃ n,n=s.all+1:=⟨_,rfl⟩
 have s1:IntKind.i64.wrap ((s.all:Int)+1)=(n1:Int):=by rw [IntKind.wrap_i64];omega
 have HAL:=Hy (show PsAt (w.setCell ⟨P,5,none⟩ (.int .i64 (n1:Int))) o k P { s with all:=n1 } from by rw [hn1];exact h.al)
 obtain ⟨b,hb⟩:∃ b,b=c.toNat:=⟨_,rfl⟩
 have h256:=UInt8.toNat_lt c
 rw [← hb] at h256 ⊢
 clear hr h1 h2 h3 h4 h hs
 have HQ:=Hy (show takeP s c=({ s with all:=n1,line:=s.line++[c] },0) from by unfold takeP;rw [if_neg hlong,if_neg (by rw [hcr];decide),if_neg hc,if_pos hv,if_pos hl,hn1])
 have d9:decide ((n1:Int)≤32768)=true:=decide_eq_true (by omega)
 rw [hcr] at c3
 have d1:((b:Int) == 13)=false:=by rw [beq_eq_false_iff_ne];intro e;exact hc (UInt8.toNat_inj.1 (by rw [← hb];show b=13;omega))
 rw [← hb] at hv
 unfold valB at hv
 simp only [Bool.or_eq_true,Bool.and_eq_true,decide_eq_true_eq] at hv
 have d8:decide ((s.line.length:Int)<8192)=true:=decide_eq_true (by omega)
 have HBC:=Hy (show bc (s.line++[c])=bc s.line++[.int .u8 (b:Int)] from by rw [hb];simp [bc])
 have t1:Stp (fun i=>i=k) w o (w.setCell ⟨P,5,none⟩ (.int .i64 (n1:Int))) o:=Stp.set P 5 _ (fun _=>HE.out.own)
 have HR1:=Hy (HR.out.set 5 (.int .i64 (n1:Int)) (s':={ s with all:=n1 }) rfl)
 have HS1:=Hy (HS.out.stp t1 (by omega))
 have HF1:=Hy (HF.out.1.stp t1 (by omega))
 have NC:=Hy (new_cells (w.setCell ⟨P,5,none⟩ (.int .i64 (n1:Int))) #[.int .u8 (b:Int)] 5)
 have hz:(w.setCell ⟨P,5,none⟩ (.int .i64 (n1:Int))).heap.size=w.heap.size:=by simp
 rw [hz] at NC
 clear hn1 hb hc HS t1 hz
 by_cases k1:b=9
 ·have d2:((b:Int) == 9)=true:=by rw [k1];rfl
  clear d1 hv k1
  go_enter Tryz.func47,Tryz.ntmps47
  go_wp2_with (first
   | (go_at_call 53;refine (demand_c _ _ _).mono ?_;rintro e w6 ⟨hy,hn,rfl⟩;first | (obtain rfl:=hy rfl;clear hy hn) | (obtain rfl:=hn rfl;clear hy hn) | (obtain rfl:=hy d9;clear hy hn) | (obtain rfl:=hn d9;clear hy hn) | (obtain rfl:=hy d8;clear hy hn) | (obtain rfl:=hn d8;clear hy hn))
   | (at_builtin;refine wpL_put slt_u8 (.tmp 40) (.tmp 42) rfl rfl rfl rfl (HS1.out.ext (Ext.al (Ext.rfl' _) _)) HN.out (Src.ofSlice (size:=1) _ Tryz.underlying22 ⟨w.heap.size,0,none⟩ 1 1 [.int .u8 (b:Int)] (by simp) NC.out (by simp [Value.oneCell'])) (by omega) (by simp only [maxLen];omega) ?_;intro A7 c7 w7 o7 hs7 hst7 hn7;have st7:=(Stp.ext ((Ext.rfl' (w.setCell ⟨P,5,none⟩ (.int .i64 (n1:Int)))).al _)).tr hst7;have hr7:Prow w7 P { s with all:=n1 } A m B d:=(st7.keep P (row_lt HR1.out) (by rw [HE.out.own];omega)).trans HR1.out;have k2:=hr7.c2;have g2:=hr7.fz 2 (by decide);clear c2 c3 c5 c8 f2 f3 f5))
  go_end0
  rw [HQ.out]
  have hp7:o7 P=k:=by rw [st7.own P (row_lt HR1.out)];exact HE.out.own
  have stf:Stp (fun i=>i=k) w7 o7 (w7.setCell ⟨P,2,none⟩ (.slice A7 (s.line.length+1) c7)) o7:=Stp.set P 2 _ (fun _=>hp7)
  have hlen:(s.line++[c]).length=s.line.length+1:=by simp
  refine ⟨rfl,o7,PsAt.of hp7 (A:=A7) (c:=c7) (B:=B) (d:=d) ?_ ?_ hn7 ((HF1.out.stp st7 (by omega)).stp stf (by omega)) HF.out.2,(set_stp 5 _ HE.out.own).tr ((st7.mono fun i hi=>.inr (.inl hi)).tr (stf.mono fun i hi=>.inl hi))⟩
  ·exact hr7.set 2 _ (by simp [Pst.cells])
  ·rw [hlen,HBC.out]
   exact hs7.stp stf (by omega)
 ·have d2:((b:Int) == 9)=false:=by rw [beq_eq_false_iff_ne];omega
  have d3:(32:Int)≤(b:Int):=by omega
  have d4:((b:Int) != 127)=true:=by rw [bne_iff_ne];omega
  clear hv k1
  go_enter Tryz.func47,Tryz.ntmps47
  go_wp2_with (first
   | (go_at_call 53;refine (demand_c _ _ _).mono ?_;rintro e w6 ⟨hy,hn,rfl⟩;first | (obtain rfl:=hy rfl;clear hy hn) | (obtain rfl:=hn rfl;clear hy hn) | (obtain rfl:=hy d9;clear hy hn) | (obtain rfl:=hn d9;clear hy hn) | (obtain rfl:=hy d8;clear hy hn) | (obtain rfl:=hn d8;clear hy hn))
   | (at_builtin;refine wpL_put slt_u8 (.tmp 40) (.tmp 42) rfl rfl rfl rfl (HS1.out.ext (Ext.al (Ext.rfl' _) _)) HN.out (Src.ofSlice (size:=1) _ Tryz.underlying22 ⟨w.heap.size,0,none⟩ 1 1 [.int .u8 (b:Int)] (by simp) NC.out (by simp [Value.oneCell'])) (by omega) (by simp only [maxLen];omega) ?_;intro A7 c7 w7 o7 hs7 hst7 hn7;have st7:=(Stp.ext ((Ext.rfl' (w.setCell ⟨P,5,none⟩ (.int .i64 (n1:Int)))).al _)).tr hst7;have hr7:Prow w7 P { s with all:=n1 } A m B d:=(st7.keep P (row_lt HR1.out) (by rw [HE.out.own];omega)).trans HR1.out;have k2:=hr7.c2;have g2:=hr7.fz 2 (by decide);clear c2 c3 c5 c8 f2 f3 f5))
  go_end0
  rw [HQ.out]
  have hp7:o7 P=k:=by rw [st7.own P (row_lt HR1.out)];exact HE.out.own
  have stf:Stp (fun i=>i=k) w7 o7 (w7.setCell ⟨P,2,none⟩ (.slice A7 (s.line.length+1) c7)) o7:=Stp.set P 2 _ (fun _=>hp7)
  have hlen:(s.line++[c]).length=s.line.length+1:=by simp
  refine ⟨rfl,o7,PsAt.of hp7 (A:=A7) (c:=c7) (B:=B) (d:=d) ?_ ?_ hn7 ((HF1.out.stp st7 (by omega)).stp stf (by omega)) HF.out.2,(set_stp 5 _ HE.out.own).tr ((st7.mono fun i hi=>.inr (.inl hi)).tr (stf.mono fun i hi=>.inl hi))⟩
  ·exact hr7.set 2 _ (by simp [Pst.cells])
  ·rw [hlen,HBC.out]
   exact hs7.stp stf (by omega)
theorem hTake_c (k P:Nat) (hk:0<k) (s:Pst) (hs:Pok s) (c:UInt8) (w:World) (o:Ow) (h:PsAt w o k P s) (hG:Gl w o) :
  Calls Tryz.prog 47 #[.pointer (some ⟨P,0,none⟩),.int .u8 (c.toNat:Int)] w (TurnsP k w o P (takeP s c)):=by
 by_cases hlong:32768≤s.all
 ·exact hTake_long k P s hs c hlong w o h
 ·cases hcr:s.cr with
  | true =>
   by_cases hc:c=10
   ·exact hTake_lf k P hk s hs c hlong hcr hc w o h hG
   ·exact hTake_nolf k P s hs c hlong hcr hc w o h
  | false =>
   by_cases hc:c=13
   ·exact hTake_cr k P s hs c hlong hcr hc w o h
   ·cases hv:valB c.toNat with
    | false=>exact hTake_bad k P s hs c hlong hcr hc hv w o h
    | true =>
     by_cases hl:s.line.length<8192
     ·exact hTake_good k P s hs c hlong hcr hc hv hl w o h
     ·exact hTake_room k P s hs c hlong hcr hc hv hl w o h
end Go.Proofs.YthbofilcnpdghaaGreatDoor
end
section
namespace Go.Proofs.YthbofilcnpdghaaGreatDoor
open Go.RowKit Go.Extern.Stop Go.Stop Go.Extern
theorem feedD_idle (p q r:Addr) (w:World) :
  CallsD Tryz.prog 46 #[.pointer (some p),.pointer (some q),.pointer (some r)] .returning w fun e u' w'=>e=.returned (.tuple #[])∧u'=.returning∧w'=w:=by
 refine callsD_of_wpS Tryz.func46 rfl fun c₀ cs hu=>?_
 apply wpS_seq
 apply wpS_region
 simp [wpOpsS,go_sem,recoverD,hu,Tryz.ntmps46,Exit.thenS]
 apply wpS_seq
 apply wpS_region
 simp [wpOpsS,go_sem,Exit.thenS]
 refine wpS_cond (t:=false) (by simp [Act.eval,Array.replicate]) ?_
 simp only [Bool.false_eq_true,if_false]
 refine wpS_of_wp (wp_skip ?_)
 cases c₀
 simp_all [bodyPostS,results,Tryz.results46,Exit.thenS]
theorem feedD_caught (P bv bq br:Nat) (e e0 e1:Int) (b0:Bool) (w:World) (hv:w.cell? ⟨bv,0,none⟩=some (.pointer (some ⟨P,0,none⟩))) (hp:w.cell? ⟨P,7,none⟩=some (.int .i64 e0)) (hpf:w.frozen? ⟨P,7,none⟩=false)
  (hq:w.cell? ⟨bq,0,none⟩=some (.bool b0)) (hqf:w.frozen? ⟨bq,0,none⟩=false) (hr:w.cell? ⟨br,0,none⟩=some (.int .i64 e1)) (hrf:w.frozen? ⟨br,0,none⟩=false) (h1:bv≠P) (h2:bq≠P) (h3:br≠P) (h4:bq≠br) :
  CallsD Tryz.prog 46 #[.pointer (some ⟨bv,0,none⟩),.pointer (some ⟨bq,0,none⟩),.pointer (some ⟨br,0,none⟩)] (.panicking [{ v:=.iface 25 (.int .i64 e),recovered:=false }]) w fun x u' w'=>x=.returned (.tuple #[])∧u'=.panicking [{ v:=.iface 25 (.int .i64 e),recovered:=true }] ∧
   w'=((w.drew.setCell ⟨P,7,none⟩ (.int .i64 e)).setCell ⟨bq,0,none⟩ (.bool false)).setCell ⟨br,0,none⟩ (.int .i64 e):=by
 refine callsD_of_wpS Tryz.func46 rfl fun c₀ cs hu=>?_
 apply wpS_seq
 apply wpS_region
 simp [wpOpsS,go_sem,recoverD,hu,Tryz.ntmps46,Exit.thenS]
 apply wpS_seq
 apply wpS_region
 simp [wpOpsS,go_sem,Exit.thenS]
 have hta:∀ w',(Instr.typeAssert (.iface 25 (.int .i64 e)) 20 25 false).run Tryz.prog w'=.ok (.int .i64 e) w':=fun _=>by first | rfl | (simp [Instr.typeAssert,go_sem];done)
 refine wpS_cond (t:=true) (by simp [Act.eval,Array.replicate]) ?_
 simp only [if_true]
 refine wpS_of_wp ?_
 simp only [Array.replicate_succ,Array.replicate_zero,List.push_toArray,List.nil_append,List.cons_append,List.setIfInBounds_toArray,List.set_cons_zero,List.set_cons_succ,List.append_toArray]
 go_wp2
 go_region_with (fail)
 all_goals go_wp2
 all_goals cases c₀
 all_goals simp_all [bodyPostS,results,Tryz.results46,Exit.thenS]
theorem Stp.setNew {K:Nat→Prop} {w w':World} {o o':Ow} (h:Stp K w o w' o') (b off:Nat) (u:Value) (hb:w.heap.size≤b):Stp K w o (w'.setCell ⟨b,off,none⟩ u) o' :=
 ⟨h.os,h.tape,h.output,by have:=h.size;simpa using this,h.own,fun i hi hk=>(Below.heap_setCell w' ⟨b,off,none⟩ u i (by show i≠b;omega)).trans (h.keep i hi hk)⟩
def feedV (r:Pst × Nat × Bool × Int):Value:=.tuple #[.int .i64 (r.2.1:Int),.bool r.2.2.1,.int .i64 r.2.2.2]
theorem hFeed_shut (k P:Nat) (s:Pst) (hs:s.done=true∨s.e≠0) (b:List UInt8) (B:Option Addr) (n d:Nat) (w:World) (o:Ow) (h:PsAt w o k P s) :
  Calls Tryz.prog 32 #[.pointer (some ⟨P,0,none⟩),.slice B n d] w (Turns (KP k) w o fun v w' o'=>v=feedV (feedP s b)∧PsAt w' o' k P (feedP s b).1):=by
 have HQ:=Hy (show feedP s b=(s,0,s.done,s.e) from if_pos hs)
 obtain ⟨A,m,C,l,hr,h1,h2,h3,h4⟩:=h.row
 have HR:=Hy hr
 have HE:=Hy h
 have e3:∀ x y z,Ext w (((w.alloc x).alloc y).alloc z):=fun x y z=>(((Ext.rfl' w).al x).al y).al z
 have c0:=fun x y z=>(hr.ext (e3 x y z)).c0
 have c4:=fun x y z=>(hr.ext (e3 x y z)).c4
 have c7:=fun x y z=>(hr.ext (e3 x y z)).c7
 have hP:P<w.heap.size:=row_lt hr
 clear hr h1 h2 h3 h4 h
 obtain ⟨dn,hdn⟩:∃ x,x=s.done:=⟨_,rfl⟩
 obtain ⟨er,her⟩:∃ x,x=s.e:=⟨_,rfl⟩
 rw [← hdn] at c4 hs HQ
 rw [← her] at c7 hs HQ
 clear hdn her
 cases dn with
 | true =>
  clear hs
  go_enter_defers Tryz.func32,Tryz.ntmps32
  go_wp2
  refine wp_region_noPanic ?_
  go_region_with (fail)
  all_goals refine NoPanic.normal ?_
  all_goals go_wp2
  all_goals (
   refine ⟨.tuple #[.int .i64 0,.bool true,.int .i64 er],by simp [results,Tryz.results32,go_sem],?_⟩
   exact Turns.mk o rfl ⟨by rw [HQ.out];rfl,by rw [HQ.out];exact HE.out.ext Xq⟩ (Stp.ext Xq))
 | false =>
  have hne:(er != 0)=true:=by rw [bne_iff_ne];simpa using hs
  clear hs
  go_enter_defers Tryz.func32,Tryz.ntmps32
  go_wp2
  refine wp_region_noPanic ?_
  go_region_with (fail)
  all_goals refine NoPanic.normal ?_
  all_goals go_wp2
  all_goals (
   refine ⟨.tuple #[.int .i64 0,.bool false,.int .i64 er],by simp [results,Tryz.results32,go_sem],?_⟩
   exact Turns.mk o rfl ⟨by rw [HQ.out];rfl,by rw [HQ.out];exact HE.out.ext Xq⟩ (Stp.ext Xq))
end Go.Proofs.YthbofilcnpdghaaGreatDoor
end
