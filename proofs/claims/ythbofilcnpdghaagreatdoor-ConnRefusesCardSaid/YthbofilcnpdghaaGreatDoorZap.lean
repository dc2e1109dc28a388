/-
Head's take: a byte of a line; all together.
-/
import Derived.Test.YthbofilcnpdghaaGreatDoorZao
import Derived.Test.YthbofilcnpdghaaGreatDoorZam
import Derived.Defers
import Derived.Recover
set_option maxRecDepth 100000
set_option maxHeartbeats 8000000
set_option linter.unusedVariables false
set_option linter.unusedSimpArgs false
section
namespace Go.Proofs.YthbofilcnpdghaaGreatDoor
open Go.RowKit
theorem hTake_bad (k P:Nat) (s:Pst) (hs:Pok s) (c:UInt8) (hlong:¬ 32768 ≤ s.all) (hcr:s.cr=false) (hc:c ≠ 13) (hv:valB c.toNat=false) (w:World) (o:Ow) (h:PsAt w o k P s) :
  Calls Tryz.prog 47 #[.pointer (some ⟨P,0,none⟩),.int .u8 (c.toNat:Int)] w (TurnsP k w o P (takeP s c)):=by
 obtain ⟨A,m,B,d,hr,h1,h2,h3,h4⟩:=h.row
 have c2:=hr.c2
 have c3:=hr.c3
 have c5:=hr.c5
 have c8:=hr.c8
 have f2:=hr.fz 2 (by decide)
 have f3:=hr.fz 3 (by decide)
 have f5:=hr.fz 5 (by decide)
 have HE:=Lib.hid h
 have HR:=Lib.hid hr
 have HS:=Lib.hid h1
 have HN:=Lib.hid h2
 have HF:=Lib.hid (And.intro h3 h4)
 have hal:=hs.al
 have hln:=hs.ln
 have HOK:=Lib.hid hs
 obtain ⟨n1,hn1⟩:∃ n,n=s.all + 1:=⟨_,rfl⟩
 have s1:IntKind.i64.wrap ((s.all:Int) + 1)=(n1:Int):=by rw [IntKind.wrap_i64]; omega
 have HAL:=Lib.hid (show PsAt (w.setCell ⟨P,5,none⟩ (.int .i64 (n1:Int))) o k P { s with all:=n1 } from by rw [hn1]; exact h.al)
 obtain ⟨b,hb⟩:∃ b,b=c.toNat:=⟨_,rfl⟩
 have h256:=UInt8.toNat_lt c
 rw [← hb] at h256 ⊢
 clear hr h1 h2 h3 h4 h hs
 have HQ:=Lib.hid (show takeP s c=({ s with all:=n1 },22) from by unfold takeP; rw [if_neg hlong,if_neg (by rw [hcr]; decide),if_neg hc,if_neg (by rw [hv]; decide),hn1])
 have d9:decide ((n1:Int) ≤ 32768)=true:=decide_eq_true (by omega)
 rw [hcr] at c3
 have d1:((b:Int) == 13)=false:=by rw [beq_eq_false_iff_ne]; intro e; exact hc (UInt8.toNat_inj.1 (by rw [← hb]; show b=13; omega))
 rw [← hb] at hv
 unfold valB at hv
 simp only [Bool.or_eq_false_iff,Bool.and_eq_false_iff,decide_eq_false_iff_not] at hv
 have d2:((b:Int) == 9)=false:=by rw [beq_eq_false_iff_ne]; omega
 clear hn1 hb hc HS HN HF
 by_cases k1:b < 32
 ·have d3:¬ (32:Int) ≤ (b:Int):=by omega
  clear hv
  go_enter Tryz.func47,Tryz.ntmps47
  go_wp2_with (first
   | (go_at_call 53; refine (demand_c _ _ _).mono ?_; rintro e w6 ⟨hy,hn,rfl⟩; first | (obtain rfl:=hy rfl; clear hy hn) | (obtain rfl:=hn rfl; clear hy hn) | (obtain rfl:=hy d9; clear hy hn) | (obtain rfl:=hn d9; clear hy hn) | (obtain rfl:=hy d8; clear hy hn) | (obtain rfl:=hn d8; clear hy hn))
   | (at_builtin; refine wpL_put slt_u8 (.tmp 40) (.tmp 42) rfl rfl rfl rfl (HS1.out.ext (Ext.al (Ext.rfl' _) _)) HN.out (Src.ofSlice (size:=1) _ Tryz.underlying22 ⟨w.heap.size,0,none⟩ 1 1 [.int .u8 (b:Int)] (by simp) NC.out (by simp [Value.oneCell'])) (by omega) (by simp only [maxLen]; omega) ?_; intro A7 c7 w7 o7 hs7 hst7 hn7; have st7:=(Stp.ext ((Ext.rfl' (w.setCell ⟨P,5,none⟩ (.int .i64 (n1:Int)))).al _)).tr hst7; have hr7:Prow w7 P { s with all:=n1 } A m B d:=(st7.keep P (row_lt HR1.out) (by rw [HE.out.own]; omega)).trans HR1.out; have k2:=hr7.c2; have g2:=hr7.fz 2 (by decide); clear c2 c3 c5 c8 f2 f3 f5))
  simp only [bodyPost]
  rw [HQ.out]
  exact ⟨trivial,rfl,o,HAL.out,set_stp 5 _ HE.out.own⟩
 ·have d3:(32:Int) ≤ (b:Int):=by omega
  have k4:b=127:=by omega
  have d4:((b:Int) != 127)=false:=by rw [k4]; rfl
  clear hv k4
  go_enter Tryz.func47,Tryz.ntmps47
  go_wp2_with (first
   | (go_at_call 53; refine (demand_c _ _ _).mono ?_; rintro e w6 ⟨hy,hn,rfl⟩; first | (obtain rfl:=hy rfl; clear hy hn) | (obtain rfl:=hn rfl; clear hy hn) | (obtain rfl:=hy d9; clear hy hn) | (obtain rfl:=hn d9; clear hy hn) | (obtain rfl:=hy d8; clear hy hn) | (obtain rfl:=hn d8; clear hy hn))
   | (at_builtin; refine wpL_put slt_u8 (.tmp 40) (.tmp 42) rfl rfl rfl rfl (HS1.out.ext (Ext.al (Ext.rfl' _) _)) HN.out (Src.ofSlice (size:=1) _ Tryz.underlying22 ⟨w.heap.size,0,none⟩ 1 1 [.int .u8 (b:Int)] (by simp) NC.out (by simp [Value.oneCell'])) (by omega) (by simp only [maxLen]; omega) ?_; intro A7 c7 w7 o7 hs7 hst7 hn7; have st7:=(Stp.ext ((Ext.rfl' (w.setCell ⟨P,5,none⟩ (.int .i64 (n1:Int)))).al _)).tr hst7; have hr7:Prow w7 P { s with all:=n1 } A m B d:=(st7.keep P (row_lt HR1.out) (by rw [HE.out.own]; omega)).trans HR1.out; have k2:=hr7.c2; have g2:=hr7.fz 2 (by decide); clear c2 c3 c5 c8 f2 f3 f5))
  simp only [bodyPost]
  rw [HQ.out]
  exact ⟨trivial,rfl,o,HAL.out,set_stp 5 _ HE.out.own⟩
theorem hTake_room (k P:Nat) (s:Pst) (hs:Pok s) (c:UInt8) (hlong:¬ 32768 ≤ s.all) (hcr:s.cr=false) (hc:c ≠ 13) (hv:valB c.toNat=true) (hl:¬ s.line.length < 8192) (w:World) (o:Ow) (h:PsAt w o k P s) :
  Calls Tryz.prog 47 #[.pointer (some ⟨P,0,none⟩),.int .u8 (c.toNat:Int)] w (TurnsP k w o P (takeP s c)):=by
 obtain ⟨A,m,B,d,hr,h1,h2,h3,h4⟩:=h.row
 have c2:=hr.c2
 have c3:=hr.c3
 have c5:=hr.c5
 have c8:=hr.c8
 have f2:=hr.fz 2 (by decide)
 have f3:=hr.fz 3 (by decide)
 have f5:=hr.fz 5 (by decide)
 have HE:=Lib.hid h
 have HR:=Lib.hid hr
 have HS:=Lib.hid h1
 have HN:=Lib.hid h2
 have HF:=Lib.hid (And.intro h3 h4)
 have hal:=hs.al
 have hln:=hs.ln
 have HOK:=Lib.hid hs
 obtain ⟨n1,hn1⟩:∃ n,n=s.all + 1:=⟨_,rfl⟩
 have s1:IntKind.i64.wrap ((s.all:Int) + 1)=(n1:Int):=by rw [IntKind.wrap_i64]; omega
 have HAL:=Lib.hid (show PsAt (w.setCell ⟨P,5,none⟩ (.int .i64 (n1:Int))) o k P { s with all:=n1 } from by rw [hn1]; exact h.al)
 obtain ⟨b,hb⟩:∃ b,b=c.toNat:=⟨_,rfl⟩
 have h256:=UInt8.toNat_lt c
 rw [← hb] at h256 ⊢
 clear hr h1 h2 h3 h4 h hs
 have HQ:=Lib.hid (show takeP s c=({ s with all:=n1 },44) from by unfold takeP; rw [if_neg hlong,if_neg (by rw [hcr]; decide),if_neg hc,if_pos hv,if_neg hl,hn1])
 have d9:decide ((n1:Int) ≤ 32768)=true:=decide_eq_true (by omega)
 rw [hcr] at c3
 have d1:((b:Int) == 13)=false:=by rw [beq_eq_false_iff_ne]; intro e; exact hc (UInt8.toNat_inj.1 (by rw [← hb]; show b=13; omega))
 rw [← hb] at hv
 unfold valB at hv
 simp only [Bool.or_eq_true,Bool.and_eq_true,decide_eq_true_eq] at hv
 have d8:decide ((s.line.length:Int) < 8192)=false:=decide_eq_false (by omega)
 clear hn1 hb hc HS HN HF
 by_cases k1:b=9
 ·subst k1
  clear d1 hv
  go_enter Tryz.func47,Tryz.ntmps47
  go_wp2_with (first
   | (go_at_call 53; refine (demand_c _ _ _).mono ?_; rintro e w6 ⟨hy,hn,rfl⟩; first | (obtain rfl:=hy rfl; clear hy hn) | (obtain rfl:=hn rfl; clear hy hn) | (obtain rfl:=hy d9; clear hy hn) | (obtain rfl:=hn d9; clear hy hn) | (obtain rfl:=hy d8; clear hy hn) | (obtain rfl:=hn d8; clear hy hn))
   | (at_builtin; refine wpL_put slt_u8 (.tmp 40) (.tmp 42) rfl rfl rfl rfl (HS1.out.ext (Ext.al (Ext.rfl' _) _)) HN.out (Src.ofSlice (size:=1) _ Tryz.underlying22 ⟨w.heap.size,0,none⟩ 1 1 [.int .u8 (b:Int)] (by simp) NC.out (by simp [Value.oneCell'])) (by omega) (by simp only [maxLen]; omega) ?_; intro A7 c7 w7 o7 hs7 hst7 hn7; have st7:=(Stp.ext ((Ext.rfl' (w.setCell ⟨P,5,none⟩ (.int .i64 (n1:Int)))).al _)).tr hst7; have hr7:Prow w7 P { s with all:=n1 } A m B d:=(st7.keep P (row_lt HR1.out) (by rw [HE.out.own]; omega)).trans HR1.out; have k2:=hr7.c2; have g2:=hr7.fz 2 (by decide); clear c2 c3 c5 c8 f2 f3 f5))
  simp only [bodyPost]
  rw [HQ.out]
  exact ⟨trivial,rfl,o,HAL.out,set_stp 5 _ HE.out.own⟩
 ·have d2:((b:Int) == 9)=false:=by rw [beq_eq_false_iff_ne]; omega
  have d3:(32:Int) ≤ (b:Int):=by omega
  have d4:((b:Int) != 127)=true:=by rw [bne_iff_ne]; omega
  clear hv k1
  go_enter Tryz.func47,Tryz.ntmps47
  go_wp2_with (first
   | (go_at_call 53; refine (demand_c _ _ _).mono ?_; rintro e w6 ⟨hy,hn,rfl⟩; first | (obtain rfl:=hy rfl; clear hy hn) | (obtain rfl:=hn rfl; clear hy hn) | (obtain rfl:=hy d9; clear hy hn) | (obtain rfl:=hn d9; clear hy hn) | (obtain rfl:=hy d8; clear hy hn) | (obtain rfl:=hn d8; clear hy hn))
   | (at_builtin; refine wpL_put slt_u8 (.tmp 40) (.tmp 42) rfl rfl rfl rfl (HS1.out.ext (Ext.al (Ext.rfl' _) _)) HN.out (Src.ofSlice (size:=1) _ Tryz.underlying22 ⟨w.heap.size,0,none⟩ 1 1 [.int .u8 (b:Int)] (by simp) NC.out (by simp [Value.oneCell'])) (by omega) (by simp only [maxLen]; omega) ?_; intro A7 c7 w7 o7 hs7 hst7 hn7; have st7:=(Stp.ext ((Ext.rfl' (w.setCell ⟨P,5,none⟩ (.int .i64 (n1:Int)))).al _)).tr hst7; have hr7:Prow w7 P { s with all:=n1 } A m B d:=(st7.keep P (row_lt HR1.out) (by rw [HE.out.own]; omega)).trans HR1.out; have k2:=hr7.c2; have g2:=hr7.fz 2 (by decide); clear c2 c3 c5 c8 f2 f3 f5))
  simp only [bodyPost]
  rw [HQ.out]
  exact ⟨trivial,rfl,o,HAL.out,set_stp 5 _ HE.out.own⟩
theorem hTake_good (k P:Nat) (s:Pst) (hs:Pok s) (c:UInt8) (hlong:¬ 32768 ≤ s.all) (hcr:s.cr=false) (hc:c ≠ 13) (hv:valB c.toNat=true) (hl:s.line.length < 8192) (w:World) (o:Ow) (h:PsAt w o k P s) :
  Calls Tryz.prog 47 #[.pointer (some ⟨P,0,none⟩),.int .u8 (c.toNat:Int)] w (TurnsP k w o P (takeP s c)):=by
 obtain ⟨A,m,B,d,hr,h1,h2,h3,h4⟩:=h.row
 have c2:=hr.c2
 have c3:=hr.c3
 have c5:=hr.c5
 have c8:=hr.c8
 have f2:=hr.fz 2 (by decide)
 have f3:=hr.fz 3 (by decide)
 have f5:=hr.fz 5 (by decide)
 have HE:=Lib.hid h
 have HR:=Lib.hid hr
 have HS:=Lib.hid h1
 have HN:=Lib.hid h2
 have HF:=Lib.hid (And.intro h3 h4)
 have hal:=hs.al
 have hln:=hs.ln
 have HOK:=Lib.hid hs
 obtain ⟨n1,hn1⟩:∃ n,n=s.all + 1:=⟨_,rfl⟩
 have s1:IntKind.i64.wrap ((s.all:Int) + 1)=(n1:Int):=by rw [IntKind.wrap_i64]; omega
 have HAL:=Lib.hid (show PsAt (w.setCell ⟨P,5,none⟩ (.int .i64 (n1:Int))) o k P { s with all:=n1 } from by rw [hn1]; exact h.al)
 obtain ⟨b,hb⟩:∃ b,b=c.toNat:=⟨_,rfl⟩
 have h256:=UInt8.toNat_lt c
 rw [← hb] at h256 ⊢
 clear hr h1 h2 h3 h4 h hs
 have HQ:=Lib.hid (show takeP s c=({ s with all:=n1,line:=s.line ++ [c] },0) from by unfold takeP; rw [if_neg hlong,if_neg (by rw [hcr]; decide),if_neg hc,if_pos hv,if_pos hl,hn1])
 have d9:decide ((n1:Int) ≤ 32768)=true:=decide_eq_true (by omega)
 rw [hcr] at c3
 have d1:((b:Int) == 13)=false:=by rw [beq_eq_false_iff_ne]; intro e; exact hc (UInt8.toNat_inj.1 (by rw [← hb]; show b=13; omega))
 rw [← hb] at hv
 unfold valB at hv
 simp only [Bool.or_eq_true,Bool.and_eq_true,decide_eq_true_eq] at hv
 have d8:decide ((s.line.length:Int) < 8192)=true:=decide_eq_true (by omega)
 have HBC:=Lib.hid (show bc (s.line ++ [c])=bc s.line ++ [.int .u8 (b:Int)] from by rw [hb]; simp [bc])
 have t1:Stp (fun i=>i=k) w o (w.setCell ⟨P,5,none⟩ (.int .i64 (n1:Int))) o:=Stp.set P 5 _ (fun _=>HE.out.own)
 have HR1:=Lib.hid (HR.out.set 5 (.int .i64 (n1:Int)) (s':={ s with all:=n1 }) rfl)
 have HS1:=Lib.hid (HS.out.stp t1 (by omega))
 have HF1:=Lib.hid (HF.out.1.stp t1 (by omega))
 have NC:=Lib.hid (new_cells (w.setCell ⟨P,5,none⟩ (.int .i64 (n1:Int))) #[.int .u8 (b:Int)] 5)
 have hz:(w.setCell ⟨P,5,none⟩ (.int .i64 (n1:Int))).heap.size=w.heap.size:=by simp
 rw [hz] at NC
 clear hn1 hb hc HS t1 hz
 by_cases k1:b=9
 ·have d2:((b:Int) == 9)=true:=by rw [k1]; rfl
  clear d1 hv k1
  go_enter Tryz.func47,Tryz.ntmps47
  go_wp2_with (first
   | (go_at_call 53; refine (demand_c _ _ _).mono ?_; rintro e w6 ⟨hy,hn,rfl⟩; first | (obtain rfl:=hy rfl; clear hy hn) | (obtain rfl:=hn rfl; clear hy hn) | (obtain rfl:=hy d9; clear hy hn) | (obtain rfl:=hn d9; clear hy hn) | (obtain rfl:=hy d8; clear hy hn) | (obtain rfl:=hn d8; clear hy hn))
   | (at_builtin; refine wpL_put slt_u8 (.tmp 40) (.tmp 42) rfl rfl rfl rfl (HS1.out.ext (Ext.al (Ext.rfl' _) _)) HN.out (Src.ofSlice (size:=1) _ Tryz.underlying22 ⟨w.heap.size,0,none⟩ 1 1 [.int .u8 (b:Int)] (by simp) NC.out (by simp [Value.oneCell'])) (by omega) (by simp only [maxLen]; omega) ?_; intro A7 c7 w7 o7 hs7 hst7 hn7; have st7:=(Stp.ext ((Ext.rfl' (w.setCell ⟨P,5,none⟩ (.int .i64 (n1:Int)))).al _)).tr hst7; have hr7:Prow w7 P { s with all:=n1 } A m B d:=(st7.keep P (row_lt HR1.out) (by rw [HE.out.own]; omega)).trans HR1.out; have k2:=hr7.c2; have g2:=hr7.fz 2 (by decide); clear c2 c3 c5 c8 f2 f3 f5))
  go_end0
  rw [HQ.out]
  have hp7:o7 P=k:=by rw [st7.own P (row_lt HR1.out)]; exact HE.out.own
  have stf:Stp (fun i=>i=k) w7 o7 (w7.setCell ⟨P,2,none⟩ (.slice A7 (s.line.length + 1) c7)) o7:=Stp.set P 2 _ (fun _=>hp7)
  have hlen:(s.line ++ [c]).length=s.line.length + 1:=by simp
  refine ⟨rfl,o7,PsAt.of hp7 (A:=A7) (c:=c7) (B:=B) (d:=d) ?_ ?_ hn7 ((HF1.out.stp st7 (by omega)).stp stf (by omega)) HF.out.2,(set_stp 5 _ HE.out.own).tr ((st7.mono fun i hi=>.inr (.inl hi)).tr (stf.mono fun i hi=>.inl hi))⟩
  ·exact hr7.set 2 _ (by simp [Pst.cells])
  ·rw [hlen,HBC.out]
   exact hs7.stp stf (by omega)
 ·have d2:((b:Int) == 9)=false:=by rw [beq_eq_false_iff_ne]; omega
  have d3:(32:Int) ≤ (b:Int):=by omega
  have d4:((b:Int) != 127)=true:=by rw [bne_iff_ne]; omega
  clear hv k1
  go_enter Tryz.func47,Tryz.ntmps47
  go_wp2_with (first
   | (go_at_call 53; refine (demand_c _ _ _).mono ?_; rintro e w6 ⟨hy,hn,rfl⟩; first | (obtain rfl:=hy rfl; clear hy hn) | (obtain rfl:=hn rfl; clear hy hn) | (obtain rfl:=hy d9; clear hy hn) | (obtain rfl:=hn d9; clear hy hn) | (obtain rfl:=hy d8; clear hy hn) | (obtain rfl:=hn d8; clear hy hn))
   | (at_builtin; refine wpL_put slt_u8 (.tmp 40) (.tmp 42) rfl rfl rfl rfl (HS1.out.ext (Ext.al (Ext.rfl' _) _)) HN.out (Src.ofSlice (size:=1) _ Tryz.underlying22 ⟨w.heap.size,0,none⟩ 1 1 [.int .u8 (b:Int)] (by simp) NC.out (by simp [Value.oneCell'])) (by omega) (by simp only [maxLen]; omega) ?_; intro A7 c7 w7 o7 hs7 hst7 hn7; have st7:=(Stp.ext ((Ext.rfl' (w.setCell ⟨P,5,none⟩ (.int .i64 (n1:Int)))).al _)).tr hst7; have hr7:Prow w7 P { s with all:=n1 } A m B d:=(st7.keep P (row_lt HR1.out) (by rw [HE.out.own]; omega)).trans HR1.out; have k2:=hr7.c2; have g2:=hr7.fz 2 (by decide); clear c2 c3 c5 c8 f2 f3 f5))
  go_end0
  rw [HQ.out]
  have hp7:o7 P=k:=by rw [st7.own P (row_lt HR1.out)]; exact HE.out.own
  have stf:Stp (fun i=>i=k) w7 o7 (w7.setCell ⟨P,2,none⟩ (.slice A7 (s.line.length + 1) c7)) o7:=Stp.set P 2 _ (fun _=>hp7)
  have hlen:(s.line ++ [c]).length=s.line.length + 1:=by simp
  refine ⟨rfl,o7,PsAt.of hp7 (A:=A7) (c:=c7) (B:=B) (d:=d) ?_ ?_ hn7 ((HF1.out.stp st7 (by omega)).stp stf (by omega)) HF.out.2,(set_stp 5 _ HE.out.own).tr ((st7.mono fun i hi=>.inr (.inl hi)).tr (stf.mono fun i hi=>.inl hi))⟩
  ·exact hr7.set 2 _ (by simp [Pst.cells])
  ·rw [hlen,HBC.out]
   exact hs7.stp stf (by omega)
theorem hTake_c (k P:Nat) (hk:0 < k) (s:Pst) (hs:Pok s) (c:UInt8) (w:World) (o:Ow) (h:PsAt w o k P s) (hG:Gl w o) :
  Calls Tryz.prog 47 #[.pointer (some ⟨P,0,none⟩),.int .u8 (c.toNat:Int)] w (TurnsP k w o P (takeP s c)):=by
 by_cases hlong:32768 ≤ s.all
 ·exact hTake_long k P s hs c hlong w o h
 ·cases hcr:s.cr with
  | true =>
   by_cases hc:c=10
   ·exact hTake_lf k P hk s hs c hlong hcr hc w o h hG
   ·exact hTake_nolf k P s hs c hlong hcr hc w o h
  | false =>
   by_cases hc:c=13
   ·exact hTake_cr k P s hs c hlong hcr hc w o h
   ·cases hv:valB c.toNat with
    | false=>exact hTake_bad k P s hs c hlong hcr hc hv w o h
    | true =>
     by_cases hl:s.line.length < 8192
     ·exact hTake_good k P s hs c hlong hcr hc hv hl w o h
     ·exact hTake_room k P s hs c hlong hcr hc hv hl w o h
end Go.Proofs.YthbofilcnpdghaaGreatDoor
end
section
namespace Go.Proofs.YthbofilcnpdghaaGreatDoor
open Go.RowKit Go.Extern.Stop Go.Stop Go.Extern
theorem feedD_idle (p q r:Addr) (w:World) :
  CallsD Tryz.prog 46 #[.pointer (some p),.pointer (some q),.pointer (some r)] .returning w fun e u' w'=>e=.returned (.tuple #[])∧u'=.returning∧w'=w:=by
 refine callsD_of_wpS Tryz.func46 rfl fun c₀ cs hu=>?_
 apply wpS_seq
 apply wpS_region
 simp [wpOpsS,go_sem,recoverD,hu,Tryz.ntmps46,Exit.thenS]
 apply wpS_seq
 apply wpS_region
 simp [wpOpsS,go_sem,Exit.thenS]
 refine wpS_cond (t:=false) (by simp [Act.eval,Array.replicate]) ?_
 simp only [Bool.false_eq_true,if_false]
 refine wpS_of_wp (wp_skip ?_)
 cases c₀
 simp_all [bodyPostS,results,Tryz.results46,Exit.thenS]
theorem feedD_caught (P bv bq br:Nat) (e e0 e1:Int) (b0:Bool) (w:World) (hv:w.cell? ⟨bv,0,none⟩=some (.pointer (some ⟨P,0,none⟩))) (hp:w.cell? ⟨P,7,none⟩=some (.int .i64 e0)) (hpf:w.frozen? ⟨P,7,none⟩=false)
  (hq:w.cell? ⟨bq,0,none⟩=some (.bool b0)) (hqf:w.frozen? ⟨bq,0,none⟩=false) (hr:w.cell? ⟨br,0,none⟩=some (.int .i64 e1)) (hrf:w.frozen? ⟨br,0,none⟩=false) (h1:bv ≠ P) (h2:bq ≠ P) (h3:br ≠ P) (h4:bq ≠ br) :
  CallsD Tryz.prog 46 #[.pointer (some ⟨bv,0,none⟩),.pointer (some ⟨bq,0,none⟩),.pointer (some ⟨br,0,none⟩)] (.panicking [{ v:=.iface 25 (.int .i64 e),recovered:=false }]) w fun x u' w'=>x=.returned (.tuple #[])∧u'=.panicking [{ v:=.iface 25 (.int .i64 e),recovered:=true }] ∧
   w'=((w.drew.setCell ⟨P,7,none⟩ (.int .i64 e)).setCell ⟨bq,0,none⟩ (.bool false)).setCell ⟨br,0,none⟩ (.int .i64 e):=by
 refine callsD_of_wpS Tryz.func46 rfl fun c₀ cs hu=>?_
 apply wpS_seq
 apply wpS_region
 simp [wpOpsS,go_sem,recoverD,hu,Tryz.ntmps46,Exit.thenS]
 apply wpS_seq
 apply wpS_region
 simp [wpOpsS,go_sem,Exit.thenS]
 have hta:∀ w',(Instr.typeAssert (.iface 25 (.int .i64 e)) 20 25 false).run Tryz.prog w'=.ok (.int .i64 e) w':=fun _=>by first | rfl | (simp [Instr.typeAssert,go_sem]; done)
 refine wpS_cond (t:=true) (by simp [Act.eval,Array.replicate]) ?_
 simp only [if_true]
 refine wpS_of_wp ?_
 simp only [Array.replicate_succ,Array.replicate_zero,List.push_toArray,List.nil_append,List.cons_append,List.setIfInBounds_toArray,List.set_cons_zero,List.set_cons_succ,List.append_toArray]
 go_wp2
 go_region_with (fail)
 all_goals go_wp2
 all_goals cases c₀
 all_goals simp_all [bodyPostS,results,Tryz.results46,Exit.thenS]
end Go.Proofs.YthbofilcnpdghaaGreatDoor
end
section
namespace Go.Proofs.YthbofilcnpdghaaGreatDoor
open Go.RowKit Go.Extern.Stop Go.Stop Go.Extern
theorem Stp.setNew {K:Nat → Prop} {w w':World} {o o':Ow} (h:Stp K w o w' o') (b off:Nat) (u:Value) (hb:w.heap.size ≤ b):Stp K w o (w'.setCell ⟨b,off,none⟩ u) o' :=
 ⟨h.os,h.tape,h.output,by have:=h.size; simpa using this,h.own,fun i hi hk=>(Below.heap_setCell w' ⟨b,off,none⟩ u i (by show i ≠ b; omega)).trans (h.keep i hi hk)⟩
def feedV (r:Pst × Nat × Bool × Int):Value:=.tuple #[.int .i64 (r.2.1:Int),.bool r.2.2.1,.int .i64 r.2.2.2]
theorem hFeed_shut (k P:Nat) (s:Pst) (hs:s.done=true ∨ s.e ≠ 0) (b:List UInt8) (B:Option Addr) (n d:Nat) (w:World) (o:Ow) (h:PsAt w o k P s) :
  Calls Tryz.prog 32 #[.pointer (some ⟨P,0,none⟩),.slice B n d] w (Turns (KP k) w o fun v w' o'=>v=feedV (feedP s b)∧PsAt w' o' k P (feedP s b).1):=by
 have HQ:=Lib.hid (show feedP s b=(s,0,s.done,s.e) from if_pos hs)
 obtain ⟨A,m,C,l,hr,h1,h2,h3,h4⟩:=h.row
 have HR:=Lib.hid hr
 have HE:=Lib.hid h
 have e3:∀ x y z,Ext w (((w.alloc x).alloc y).alloc z):=fun x y z=>(((Ext.rfl' w).al x).al y).al z
 have c0:=fun x y z=>(hr.ext (e3 x y z)).c0
 have c4:=fun x y z=>(hr.ext (e3 x y z)).c4
 have c7:=fun x y z=>(hr.ext (e3 x y z)).c7
 have hP:P < w.heap.size:=row_lt hr
 clear hr h1 h2 h3 h4 h
 obtain ⟨dn,hdn⟩:∃ x,x=s.done:=⟨_,rfl⟩
 obtain ⟨er,her⟩:∃ x,x=s.e:=⟨_,rfl⟩
 rw [← hdn] at c4 hs HQ
 rw [← her] at c7 hs HQ
 clear hdn her
 cases dn with
 | true =>
  clear hs
  go_enter_defers Tryz.func32,Tryz.ntmps32
  go_wp2
  refine wp_region_noPanic ?_
  go_region_with (fail)
  all_goals refine NoPanic.normal ?_
  all_goals go_wp2
  all_goals (
   refine ⟨.tuple #[.int .i64 0,.bool true,.int .i64 er],by simp [results,Tryz.results32,go_sem],?_⟩
   exact Turns.mk o rfl ⟨by rw [HQ.out]; rfl,by rw [HQ.out]; exact HE.out.ext (by (repeat first | exact Ex0 | assumption | refine Ex1 ?_ | refine Ex2 ?_ | refine Ex3 ?_ | refine Ex4 ?_ | refine Ex5 ?_))⟩ (Stp.ext (by (repeat first | exact Ex0 | assumption | refine Ex1 ?_ | refine Ex2 ?_ | refine Ex3 ?_ | refine Ex4 ?_ | refine Ex5 ?_))))
 | false =>
  have hne:(er != 0)=true:=by rw [bne_iff_ne]; simpa using hs
  clear hs
  go_enter_defers Tryz.func32,Tryz.ntmps32
  go_wp2
  refine wp_region_noPanic ?_
  go_region_with (fail)
  all_goals refine NoPanic.normal ?_
  all_goals go_wp2
  all_goals (
   refine ⟨.tuple #[.int .i64 0,.bool false,.int .i64 er],by simp [results,Tryz.results32,go_sem],?_⟩
   exact Turns.mk o rfl ⟨by rw [HQ.out]; rfl,by rw [HQ.out]; exact HE.out.ext (by (repeat first | exact Ex0 | assumption | refine Ex1 ?_ | refine Ex2 ?_ | refine Ex3 ?_ | refine Ex4 ?_ | refine Ex5 ?_))⟩ (Stp.ext (by (repeat first | exact Ex0 | assumption | refine Ex1 ?_ | refine Ex2 ?_ | refine Ex3 ?_ | refine Ex4 ?_ | refine Ex5 ?_))))
end Go.Proofs.YthbofilcnpdghaaGreatDoor
end
section
namespace Go.Proofs.YthbofilcnpdghaaGreatDoor
open Go.RowKit Go.Extern.Stop Go.Stop Go.Extern
theorem PsAt.er {w:World} {o:Ow} {k P:Nat} {s:Pst} (h:PsAt w o k P s) (e:Int):PsAt (w.setCell ⟨P,7,none⟩ (.int .i64 e)) o k P { s with e:=e }:=by
 obtain ⟨A,c,B,d,hr,h1,h2,h3,h4⟩:=h.row
 exact PsAt.of h.own (hr.set 7 _ rfl) (h1.stp (Stp.set (K:=fun i=>i=k) P 7 _ (fun _=>h.own)) (by omega)) h2 (h3.stp (Stp.set (K:=fun i=>i=k) P 7 _ (fun _=>h.own)) (by omega)) h4
theorem PsAt.oth {w:World} {o:Ow} {k P:Nat} {s:Pst} (h:PsAt w o k P s) (b off:Nat) (u:Value) (hb:o b=k + 3):PsAt (w.setCell ⟨b,off,none⟩ u) o k P s :=
 h.stp (K:=fun i=>i=k + 3) (Stp.set b off u (fun _=>hb)) (by omega) (by omega) (by omega)
theorem Rd.byte {w:World} {B:Option Addr} {l:List UInt8} (h:Rd w B (bc l)) {j:Nat} (hj:j < l.length):∃ g f,B=some ⟨g,f,none⟩∧w.cell? ⟨g,f + j,none⟩=some (.int .u8 (l[j].toNat:Int)):=by
 obtain ⟨g,f,hB,_,hc⟩:=h.at_ (by rw [bc_len]; omega)
 exact ⟨g,f,hB,hc j _ (bc_at l j hj)⟩
theorem pst_e {s:Pst} (h:s.e=0):{ s with e:=0 }=s:=by
 obtain ⟨r,ln,cr,dn,al,em,e,nx,me,tg,mi,st,re,fl⟩:=s
 dsimp only at h
 subst h
 rfl
theorem feed_fin {s z:Pst} {b:List UInt8} {u:Nat} (HQ:feedP s b=({ (runP s b).1 with e:=(runP s b).2.2 },(runP s b).2.1,decide ((runP s b).2.2=0) && (runP s b).1.done,(runP s b).2.2)) (hr:runP s b=(z,u,0)) (he:z.e=0):feedP s b=(z,u,z.done,0):=by
 rw [HQ,hr]
 dsimp only
 rw [pst_e he]
 simp
theorem feed_err {s z:Pst} {b:List UInt8} {u:Nat} {e:Int} (HQ:feedP s b=({ (runP s b).1 with e:=(runP s b).2.2 },(runP s b).2.1,decide ((runP s b).2.2=0) && (runP s b).1.done,(runP s b).2.2)) (hr:runP s b=(z,u,e)) (he:e ≠ 0):feedP s b=({ z with e:=e },u,false,e):=by
 rw [HQ,hr]
 simp [he]
theorem hFeed_on (k P:Nat) (hk:0 < k) (s:Pst) (hs:Pok s) (b:List UInt8) (B:Option Addr) (n d:Nat) (hn:n=b.length) (hb:n ≤ 4611686018427387904) (w:World) (o:Ow) (h:PsAt w o k P s) (hG:Gl w o) (hB:Rd w B (bc b)) (hBo:b ≠ [] → ∀ a,B=some a → a.block < w.heap.size → ¬ KP k (o a.block)) :
  Calls Tryz.prog 32 #[.pointer (some ⟨P,0,none⟩),.slice B n d] w (Turns (KP k) w o fun v w' o'=>v=feedV (feedP s b)∧PsAt w' o' k P (feedP s b).1):=by
 have HQ:=Lib.hid (show feedP s b=({ (runP s b).1 with e:=(runP s b).2.2 },(runP s b).2.1,decide ((runP s b).2.2=0) && (runP s b).1.done,(runP s b).2.2) from if_neg (by rw [hs.d0,hs.e0]; simp))
 have hd0:=hs.d0
 have he0:=hs.e0
 have HS:=Lib.hid hs
 obtain ⟨A,m,C,l,hr,h1,h2,h3,h4⟩:=h.row
 have HR:=Lib.hid hr
 have HE:=Lib.hid h
 have HG:=Lib.hid hG
 have HN:=Lib.hid hn
 have e3:∀ x y z,Ext w (((w.alloc x).alloc y).alloc z):=fun x y z=>(((Ext.rfl' w).al x).al y).al z
 have c0:=fun x y z=>(hr.ext (e3 x y z)).c0
 have c4:=fun x y z=>(hr.ext (e3 x y z)).c4
 have c7:=fun x y z=>(hr.ext (e3 x y z)).c7
 have hP:P < w.heap.size:=row_lt hr
 rw [hd0] at c4
 rw [he0] at c7
 have HB:=Lib.hid hB
 have HBO:=Lib.hid hBo
 clear hr h1 h2 h3 h4 h hd0 he0 hs hG hB hBo hn
 have hmf:∀ (fn:Fn) (first cap:Array Value) (w:World),(Instr.makeFunc fn first cap).run Tryz.prog w=.ok (.func fn first cap) w:=fun _ _ _ _=>rfl
 go_enter_defers Tryz.func32,Tryz.ntmps32
 go_wp2
 clear c0 c4 c7 hmf
 obtain ⟨V,hV⟩:∃ V,V=w.heap.size:=⟨_,rfl⟩
 obtain ⟨W1,hW1⟩:∃ W,W=((w.alloc (.cells #[.pointer (some ⟨P,0,none⟩)] 55)).alloc (.cells #[.bool false] 4)).alloc (.cells #[.int .i64 0] 25):=⟨_,rfl⟩
 rw [← hW1,← hV]
 obtain ⟨o1,ho1⟩:∃ o1:Ow,o1=fun x=>if x < w.heap.size then o x else k + 3:=⟨_,rfl⟩
 have x1:Ext w W1:=by rw [hW1]; exact e3 _ _ _
 have t0:Stp (KP k) w o W1 o1:=Stp.ext2 x1 (fun b hb=>by rw [ho1]; exact if_pos hb)
 have k3:¬ KP k (k + 3):=by unfold KP; omega
 have ow:∀ x,V ≤ x → o1 x=k + 3:=fun x hx=>by rw [ho1]; exact if_neg (by omega)
 have sz1:W1.heap.size=V + 3:=by rw [hW1,hV]; simp
 have b0:W1.heap[V]?=some (.cells #[.pointer (some ⟨P,0,none⟩)] 55 (0,0)):=by
  have h0:=heap_alloc_new w (.cells #[.pointer (some ⟨P,0,none⟩)] 55)
  rw [hW1,hV]
  exact ((((Ext.rfl' (w.alloc _)).al _).al _).block w.heap.size (by simp)).trans h0
 have b1:W1.heap[V + 1]?=some (.cells #[.bool false] 4 (0,0)):=by
  have h0:=heap_alloc_new (w.alloc (.cells #[.pointer (some ⟨P,0,none⟩)] 55)) (.cells #[.bool false] 4)
  have hz:(w.alloc (.cells #[.pointer (some ⟨P,0,none⟩)] 55)).heap.size=w.heap.size + 1:=by simp
  rw [hz] at h0
  rw [hW1,hV]
  exact (((Ext.rfl' ((w.alloc _).alloc _)).al _).block (w.heap.size + 1) (by simp)).trans h0
 have b2:W1.heap[V + 1 + 1]?=some (.cells #[.int .i64 0] 25 (0,0)):=by
  have h0:=heap_alloc_new ((w.alloc (.cells #[.pointer (some ⟨P,0,none⟩)] 55)).alloc (.cells #[.bool false] 4)) (.cells #[.int .i64 0] 25)
  have hz:((w.alloc (.cells #[.pointer (some ⟨P,0,none⟩)] 55)).alloc (.cells #[.bool false] 4)).heap.size=w.heap.size + 1 + 1:=by simp
  rw [hz] at h0
  rw [hW1,hV]
  exact h0
 have HV:=Lib.hid (fun w' o' (t:Stp (KP k) W1 o1 w' o')=>(show (w'.cell? ⟨V,0,none⟩=some (.pointer (some ⟨P,0,none⟩))∧w'.cell? ⟨V + 1,0,none⟩=some (.bool false)∧w'.cell? ⟨V + 1 + 1,0,none⟩=some (.int .i64 0))∧w'.frozen? ⟨V + 1,0,none⟩=false∧w'.frozen? ⟨V + 1 + 1,0,none⟩=false from by
  have d0:=(t.keep V (row_lt b0) (by rw [ow V (by omega)]; exact k3)).trans b0
  have d1:=(t.keep (V + 1) (row_lt b1) (by rw [ow (V + 1) (by omega)]; exact k3)).trans b1
  have d2:=(t.keep (V + 1 + 1) (row_lt b2) (by rw [ow (V + 1 + 1) (by omega)]; exact k3)).trans b2
  exact ⟨⟨(row_facts d0 0 _ rfl).1,(row_facts d1 0 _ rfl).1,(row_facts d2 0 _ rfl).1⟩,(row_facts d1 0 _ rfl).2,(row_facts d2 0 _ rfl).2⟩))
 have HOW:=Lib.hid (And.intro (ow (V + 1) (by omega)) (ow (V + 1 + 1) (by omega)))
 have RB:=Lib.hid (fun w' o' (t:Stp (KP k) W1 o1 w' o')=>show Rd w' B (bc b) from by
  by_cases h0:b=[]
  ·exact .inl (by rw [h0]; rfl)
  ·exact HB.out.stp (t0.tr t) (HBO.out h0))
 have T0:=Lib.hid t0
 have HE1:=Lib.hid (HE.out.stp (K:=fun _=>False) (Stp.ext2 (o':=o1) x1 (fun b hb=>by rw [ho1]; exact if_pos hb)) (fun x=>x) (fun x=>x) (fun x=>x))
 have HG1:=Lib.hid (HG.out.stp t0 (by unfold KP; omega))
 have HVV:=Lib.hid hV
 have SZ:=Lib.hid sz1
 have hPV:P < V:=by omega
 clear hV hW1 ho1 x1 t0 ow b0 b1 b2 HB HBO HE HG HR e3 hP sz1
 go_loopw [4,40] (fun u i wr=>∃ (j:Nat) (o':Ow) (sj:Pst),u=.int .i64 (j:Int)∧i=.int .i64 (j:Int)∧j ≤ n∧PsAt wr o' k P sj∧Pok sj∧Stp (KP k) W1 o1 wr o'∧Hid (runP s b=((runP sj (b.drop j)).1,j + (runP sj (b.drop j)).2.1,(runP sj (b.drop j)).2.2))) (fun _ i _=>n - (intOf i).toNat)
 case atStart=>exact ⟨0,o1,s,rfl,rfl,Nat.zero_le _,HE1.out,HS.out,Stp.rfl',Lib.hid (by simp)⟩
 case round =>
  obtain ⟨j,o',sj,rfl,rfl,hj,hp,hok,hst,HRUN⟩:=hrel
  obtain ⟨⟨v0,v1,v2⟩,z1,z2⟩:=HV.out wr o' hst
  have HST:=Lib.hid hst
  have HP:=Lib.hid hp
  have HOKJ:=Lib.hid hok
  by_cases hlt:j < n
  ·obtain ⟨g,f,rfl,hcb⟩:=(RB.out wr o' hst).byte (j:=j) (by rw [← HN.out]; exact hlt)
   have hj0:(0:Int) ≤ (j:Int):=by omega
   have hj1:(j:Int) < (n:Int):=by omega
   have hj2:IntKind.i64.wrap ((j:Int) + 1)=((j + 1:Nat):Int):=by rw [IntKind.wrap_i64]; omega
   have hdr:b.drop j=b[j]'(by rw [← HN.out]; exact hlt) :: b.drop (j + 1):=List.drop_eq_getElem_cons _
   obtain ⟨c,hc⟩:∃ c,c=b[j]'(by rw [← HN.out]; exact hlt):=⟨_,rfl⟩
   rw [← hc] at hcb hdr
   have CT:=hTake_c k P hk sj hok c wr o' hp (HG1.out.stp hst (by unfold KP; omega))
   have HDR:=Lib.hid hdr
   clear hc hdr hp hok hst
   obtain ⟨q,hq⟩:∃ q,q=takeP sj c:=⟨_,rfl⟩
   rw [← hq] at CT
   have HTQ:=Lib.hid hq
   clear hq
   obtain ⟨cN,hcN⟩:∃ x,x=c.toNat:=⟨_,rfl⟩
   rw [← hcN] at CT hcb
   clear hcN
   by_cases h0:q.2=0
   ·have CT2:=Lib.hid (CT.mono (R':=fun r w'=>r=.returned (.tuple #[])∧∃ o'',PsAt w' o'' k P q.1∧Stp (KP k) wr o' w' o'') (by rintro r w' ⟨rfl,h⟩; exact ⟨by rw [h0]; rfl,h⟩))
    have H0:=Lib.hid h0
    clear h0 CT
    by_cases hdn:q.1.done=true
    ·have HDN:=Lib.hid hdn
     have hfin:=feed_fin (u:=j + 1) HQ.out (by rw [HRUN.out,HDR.out,run_cons,← HTQ.out,if_neg (by rw [H0.out]; simp),if_pos hdn]) (by rw [HTQ.out,take_e]; exact HOKJ.out.e0)
     have HFIN:=Lib.hid hfin
     clear hfin hdn
     go_wp2_with (go_at_call 47; refine (CT2.out).mono ?_; rintro e w2 ⟨rfl,o2,hp2,st2⟩; have st3:=HST.out.tr st2; obtain ⟨⟨y0,y1,y2⟩,x1,x2⟩:=HV.out w2 o2 st3; obtain ⟨A2,m2,C2,l2,hr2,hgarb⟩:=hp2.row; have k4:=hr2.c4; rw [HDN.out] at k4; have HP2:=Lib.hid hp2; have HST3:=Lib.hid st3; clear hp2 hr2 hgarb st2 st3 v0 v1 v2 z1 z2 hcb)
     have hfin:=HFIN.out
     refine wp_region_noPanic ?_
     go_region_with (fail)
     all_goals refine NoPanic.normal ?_
     all_goals go_wp2
     all_goals (
      refine leaves_cons (f:=46) (args:=#[.pointer (some ⟨V,0,none⟩),.pointer (some ⟨V + 1,0,none⟩),.pointer (some ⟨V + 1 + 1,0,none⟩)]) (by simp) (by simp [go_sem]) ?_
      refine (feedD_idle _ _ _ _).mono ?_
      rintro e u' w'' ⟨rfl,rfl,rfl⟩
      refine ⟨.tuple #[.int .i64 ((j:Int) + 1),.bool true,.int .i64 0],by simp [results,Tryz.results32,go_sem,y1,y2],?_⟩
      have hq1:o2 (V + 1)=k + 3:=(HST3.out.own (V + 1) (by rw [SZ.out]; omega)).trans HOW.out.1
      have hq2:o2 (V + 1 + 1)=k + 3:=(HST3.out.own (V + 1 + 1) (by rw [SZ.out]; omega)).trans HOW.out.2
      have hv:=HVV.out
      have hp9:=PsAt.oth (PsAt.oth HP2.out (V + 1) 0 (.bool true) hq1) (V + 1 + 1) 0 (.int .i64 0) hq2
      have hs9:=Stp.setNew (Stp.setNew (T0.out.tr HST3.out) (V + 1) 0 (.bool true) (by omega)) (V + 1 + 1) 0 (.int .i64 0) (by omega)
      exact Turns.mk o2 rfl ⟨by rw [hfin]; simp [feedV,HDN.out],by rw [hfin]; exact hp9.ext (by (repeat first | exact Ex0 | assumption | refine Ex1 ?_ | refine Ex2 ?_ | refine Ex3 ?_ | refine Ex4 ?_ | refine Ex5 ?_))⟩ (hs9.tr (Stp.ext (by (repeat first | exact Ex0 | assumption | refine Ex1 ?_ | refine Ex2 ?_ | refine Ex3 ?_ | refine Ex4 ?_ | refine Ex5 ?_)))))
    ·have hdn2:q.1.done=false:=by simpa using hdn
     have HDN:=Lib.hid hdn2
     have HRN:=Lib.hid (show runP s b=((runP q.1 (b.drop (j + 1))).1,j + 1 + (runP q.1 (b.drop (j + 1))).2.1,(runP q.1 (b.drop (j + 1))).2.2) from by rw [HRUN.out,HDR.out,run_cons,← HTQ.out,if_neg (by rw [H0.out]; simp),if_neg hdn]; simp only [Prod.mk.injEq,true_and,and_true]; omega)
     have HOK2:=Lib.hid (show Pok q.1 from by rw [HTQ.out]; exact take_ok HOKJ.out (by rw [← HTQ.out]; exact H0.out) (by rw [← HTQ.out]; exact hdn2))
     clear hdn hdn2
     go_wp2_with (go_at_call 47; refine (CT2.out).mono ?_; rintro e w2 ⟨rfl,o2,hp2,st2⟩; have st3:=HST.out.tr st2; obtain ⟨⟨y0,y1,y2⟩,x1,x2⟩:=HV.out w2 o2 st3; obtain ⟨A2,m2,C2,l2,hr2,hgarb⟩:=hp2.row; have k4:=hr2.c4; rw [HDN.out] at k4; have HP2:=Lib.hid hp2; have HST3:=Lib.hid st3; clear hp2 hr2 hgarb st2 st3 v0 v1 v2 z1 z2 hcb)
     go_roundw
     case rel=>exact ⟨j + 1,o2,q.1,by go_num,by go_num,by omega,HP2.out,HOK2.out,HST3.out,HRN⟩
     case measure=>simp [intOf]; omega
   ·have CT2:=Lib.hid (CT.mono (R':=fun r w'=>r=.panicked [{ v:=.iface 25 (.int .i64 q.2),recovered:=false }]∧∃ o'',PsAt w' o'' k P q.1∧Stp (KP k) wr o' w' o'') (by rintro r w' ⟨rfl,h⟩; exact ⟨gone_no h0,h⟩))
    have H0:=Lib.hid h0
    clear h0 CT
    go_wp2_with (go_at_call 47; refine (CT2.out).mono ?_; rintro e w2 ⟨rfl,o2,hp2,st2⟩)
    have st3:=HST.out.tr st2
    obtain ⟨⟨y0,y1,y2⟩,x1,x2⟩:=HV.out w2 o2 st3
    obtain ⟨A2,m2,C2,l2,hr2,_⟩:=hp2.row
    refine leaves_cons (f:=46) (args:=#[.pointer (some ⟨V,0,none⟩),.pointer (some ⟨V + 1,0,none⟩),.pointer (some ⟨V + 1 + 1,0,none⟩)]) (by simp) (by simp [go_sem]) ?_
    refine (feedD_caught P V (V + 1) (V + 1 + 1) q.2 q.1.e 0 false w2 y0 hr2.c7 (hr2.fz 7 (by decide)) y1 x1 y2 x2 (by omega) (by omega) (by omega) (by omega)).mono ?_
    rintro e u' w'' ⟨rfl,rfl,rfl⟩
    have hn1:¬ V + 1=P:=by omega
    have hn2:¬ V + 1 + 1=P:=by omega
    refine ⟨.tuple #[.int .i64 ((j:Int) + 1),.bool false,.int .i64 q.2],by simp [results,Tryz.results32,go_sem,y1,y2],?_⟩
    have hfin:=feed_err (u:=j + 1) HQ.out (by rw [HRUN.out,HDR.out,run_cons,← HTQ.out,if_pos H0.out]) H0.out
    have hq1:o2 (V + 1)=k + 3:=(st3.own (V + 1) (by rw [SZ.out]; omega)).trans HOW.out.1
    have hq2:o2 (V + 1 + 1)=k + 3:=(st3.own (V + 1 + 1) (by rw [SZ.out]; omega)).trans HOW.out.2
    have hv:=HVV.out
    refine Turns.mk o2 rfl ⟨by rw [hfin]; simp [feedV],by rw [hfin]; exact PsAt.oth (PsAt.oth ((hp2.ext (w':=w2.drew) (by (repeat first | exact Ex0 | assumption | refine Ex1 ?_ | refine Ex2 ?_ | refine Ex3 ?_ | refine Ex4 ?_ | refine Ex5 ?_))).er q.2) _ _ _ hq1) _ _ _ hq2⟩ ?_
    exact Stp.setNew (Stp.setNew (((T0.out.tr st3).tr (Stp.ext (w':=w2.drew) (by (repeat first | exact Ex0 | assumption | refine Ex1 ?_ | refine Ex2 ?_ | refine Ex3 ?_ | refine Ex4 ?_ | refine Ex5 ?_)))).tr (set_stp 7 _ hp2.own)) _ _ _ (by omega)) _ _ _ (by omega)
  ·have hjn:j=n:=by omega
   subst hjn
   obtain ⟨A1,m1,C1,l1,hr1,_⟩:=hp.row
   have k4:=hr1.c4
   rw [hok.d0] at k4
   have HDN:=Lib.hid hok.d0
   have HFIN:=Lib.hid (feed_fin (u:=j) HQ.out (by rw [HRUN.out,show b.drop j=[] from by rw [HN.out]; simp]; simp [runP]) hok.e0)
   clear hst hp hok hr1
   go_wp2
   have hfin:=HFIN.out
   have y1:=v1
   have y2:=v2
   refine wp_region_noPanic ?_
   go_region_with (fail)
   all_goals refine NoPanic.normal ?_
   all_goals go_wp2
   all_goals (
    refine leaves_cons (f:=46) (args:=#[.pointer (some ⟨V,0,none⟩),.pointer (some ⟨V + 1,0,none⟩),.pointer (some ⟨V + 1 + 1,0,none⟩)]) (by simp) (by simp [go_sem]) ?_
    refine (feedD_idle _ _ _ _).mono ?_
    rintro e u' w'' ⟨rfl,rfl,rfl⟩
    refine ⟨.tuple #[.int .i64 (j:Int),.bool false,.int .i64 0],by simp [results,Tryz.results32,go_sem,y1,y2],?_⟩
    have hq1:o' (V + 1)=k + 3:=(HST.out.own (V + 1) (by rw [SZ.out]; omega)).trans HOW.out.1
    have hq2:o' (V + 1 + 1)=k + 3:=(HST.out.own (V + 1 + 1) (by rw [SZ.out]; omega)).trans HOW.out.2
    have hv:=HVV.out
    have hp9:=PsAt.oth (PsAt.oth HP.out (V + 1) 0 (.bool false) hq1) (V + 1 + 1) 0 (.int .i64 0) hq2
    have hs9:=Stp.setNew (Stp.setNew (T0.out.tr HST.out) (V + 1) 0 (.bool false) (by omega)) (V + 1 + 1) 0 (.int .i64 0) (by omega)
    exact Turns.mk o' rfl ⟨by rw [hfin]; simp [feedV,HDN.out],by rw [hfin]; exact hp9.ext (by (repeat first | exact Ex0 | assumption | refine Ex1 ?_ | refine Ex2 ?_ | refine Ex3 ?_ | refine Ex4 ?_ | refine Ex5 ?_))⟩ (hs9.tr (Stp.ext (by (repeat first | exact Ex0 | assumption | refine Ex1 ?_ | refine Ex2 ?_ | refine Ex3 ?_ | refine Ex4 ?_ | refine Ex5 ?_)))))
end Go.Proofs.YthbofilcnpdghaaGreatDoor
end
