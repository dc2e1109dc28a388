/-
Framing's reader in memory: its cells, what is written into them; demand.
-/
import Derived.Test.YthbofilcnpdghaaGreatDoorZae
import Derived.Test.YthbofilcnpdghaaGreatDoorShelfPu
set_option maxRecDepth 100000
set_option maxHeartbeats 8000000
set_option linter.unusedVariables false
set_option linter.unusedSimpArgs false
section
namespace Go.Proofs.YthbofilcnpdghaaGreatDoor
open Go.RowKit
theorem fdemand_yes (e:Int) (w:World):Calls Tryz.prog 99 #[.bool true,.int .i64 e] w fun r w'=>r=.returned (.tuple #[])∧w=w':=by
 go_enter Tryz.func99,Tryz.ntmps99
 go_wp2
 go_end0
 exact ⟨rfl,rfl⟩
theorem fdemand_no (e:Int) (w:World):Calls Tryz.prog 99 #[.bool false,.int .i64 e] w fun r w'=>r=.panicked [{ v:=.iface 25 (.int .i64 e),recovered:=false }]∧w=w':=by
 go_enter Tryz.func99,Tryz.ntmps99
 go_wp2
 simp [bodyPost]
def GupF (ok:Bool) (e:Int) (w:World) (r:Ending) (w':World):Prop:=(ok=true→r=.returned (.tuple #[]))∧(ok=false→r=.panicked [{ v:=.iface 25 (.int .i64 e),recovered:=false }])∧w=w'
theorem fdemand_c (ok:Bool) (e:Int) (w:World):Calls Tryz.prog 99 #[.bool ok,.int .i64 e] w (GupF ok e w):=by
 cases ok with
 | true=>exact (fdemand_yes e w).mono (by rintro r w' ⟨rfl,rfl⟩;exact ⟨fun _=>rfl,fun h=>(by cases h),rfl⟩)
 | false=>exact (fdemand_no e w).mono (by rintro r w' ⟨rfl,rfl⟩;exact ⟨fun h=>(by cases h),fun _=>rfl,rfl⟩)
def Rst.cells (s:Rst) (A:Option Addr) (c:Nat) (B:Option Addr) (d:Nat) (C:Option Addr) (g:Nat):Array Value :=
 #[.int .i64 (s.kind:Int),.int .i64 (s.n:Int),.int .i64 (s.most:Int),.int .i64 (s.all:Int),.int .i64 (s.state:Int),.int .i64 (s.left:Int),.slice A s.line.length c,.bool s.cr,.slice B s.tail.length d,.bool true,.bool s.done,.int .i64 s.e,.slice C s.body.length g]
def Frow (w:World) (P:Nat) (s:Rst) (A:Option Addr) (c:Nat) (B:Option Addr) (d:Nat) (C:Option Addr) (g:Nat):Prop:=w.heap[P]?=some (.cells (s.cells A c B d C g) 96 (0,0))
section
variable {w:World} {P:Nat} {s:Rst} {A B C:Option Addr} {c d g:Nat}
theorem Frow.c0 (h:Frow w P s A c B d C g):w.cell? ⟨P,0,none⟩=some (.int .i64 (s.kind:Int)):=(row_facts h 0 _ rfl).1
theorem Frow.c1 (h:Frow w P s A c B d C g):w.cell? ⟨P,1,none⟩=some (.int .i64 (s.n:Int)):=(row_facts h 1 _ rfl).1
theorem Frow.c2 (h:Frow w P s A c B d C g):w.cell? ⟨P,2,none⟩=some (.int .i64 (s.most:Int)):=(row_facts h 2 _ rfl).1
theorem Frow.c3 (h:Frow w P s A c B d C g):w.cell? ⟨P,3,none⟩=some (.int .i64 (s.all:Int)):=(row_facts h 3 _ rfl).1
theorem Frow.c4 (h:Frow w P s A c B d C g):w.cell? ⟨P,4,none⟩=some (.int .i64 (s.state:Int)):=(row_facts h 4 _ rfl).1
theorem Frow.c5 (h:Frow w P s A c B d C g):w.cell? ⟨P,5,none⟩=some (.int .i64 (s.left:Int)):=(row_facts h 5 _ rfl).1
theorem Frow.c6 (h:Frow w P s A c B d C g):w.cell? ⟨P,6,none⟩=some (.slice A s.line.length c):=(row_facts h 6 _ rfl).1
theorem Frow.c7 (h:Frow w P s A c B d C g):w.cell? ⟨P,7,none⟩=some (.bool s.cr):=(row_facts h 7 _ rfl).1
theorem Frow.c8 (h:Frow w P s A c B d C g):w.cell? ⟨P,8,none⟩=some (.slice B s.tail.length d):=(row_facts h 8 _ rfl).1
theorem Frow.c9 (h:Frow w P s A c B d C g):w.cell? ⟨P,9,none⟩=some (.bool true):=(row_facts h 9 _ rfl).1
theorem Frow.c10 (h:Frow w P s A c B d C g):w.cell? ⟨P,10,none⟩=some (.bool s.done):=(row_facts h 10 _ rfl).1
theorem Frow.c11 (h:Frow w P s A c B d C g):w.cell? ⟨P,11,none⟩=some (.int .i64 s.e):=(row_facts h 11 _ rfl).1
theorem Frow.c12 (h:Frow w P s A c B d C g):w.cell? ⟨P,12,none⟩=some (.slice C s.body.length g):=(row_facts h 12 _ rfl).1
theorem Frow.fz (h:Frow w P s A c B d C g) (i:Nat) (hi:i<13):w.frozen? ⟨P,i,none⟩=false:=by
 obtain ⟨u,hu⟩:∃ u,(s.cells A c B d C g)[i]?=some u:=⟨(s.cells A c B d C g)[i]'(by simp [Rst.cells];omega),by simp⟩
 exact (row_facts h i u hu).2
theorem Frow.set (h:Frow w P s A c B d C g) (i:Nat) (u:Value) {s':Rst} {A' B' C':Option Addr} {c' d' g':Nat} (he:(s.cells A c B d C g).setIfInBounds i u=s'.cells A' c' B' d' C' g'):Frow (w.setCell ⟨P,i,none⟩ u) P s' A' c' B' d' C' g':=by
 unfold Frow
 rw [← he]
 exact row_set h i u
theorem Frow.ext {w':World} (h:Frow w P s A c B d C g) (e:Ext w w'):Frow w' P s A c B d C g:=(e.block P (row_lt h)).trans h
theorem Frow.stp {K:Nat→Prop} {w':World} {o o':Ow} (h:Frow w P s A c B d C g) (e:Stp K w o w' o') (hk:¬ K (o P)):Frow w' P s A c B d C g:=(e.keep P (row_lt h) hk).trans h
end
def KF (k:Nat):Nat→Prop:=fun i=>i=k∨i=k+1∨i=k+2∨i=k+3
structure FsAt (w:World) (o:Ow) (k p:Nat) (s:Rst):Prop where
 own:o p=k
 row:∃ A c B d C g,Frow w p s A c B d C g∧Sl w o (k+1) 1 A s.line.length c (bc s.line)∧(A=none→c=0)∧Sl w o (k+2) 2 B s.tail.length d (fc s.tail)∧(B=none→d=0)∧Sl w o (k+3) 1 C s.body.length g (bc s.body)∧(C=none→g=0)
theorem FsAt.stp {K:Nat→Prop} {w w':World} {o o':Ow} {k p:Nat} {s:Rst} (h:FsAt w o k p s) (st:Stp K w o w' o') (h0:¬ K k) (h1:¬ K (k+1)) (h2:¬ K (k+2)) (h3:¬ K (k+3)):FsAt w' o' k p s:=by
 obtain ⟨A,c,B,d,C,g,hh,hs,hn,ht,hm,hu,hv⟩:=h.row
 exact ⟨by rw [st.own p (row_lt hh)];exact h.own,A,c,B,d,C,g,hh.stp st (by rw [h.own];exact h0),hs.stp st h1,hn,ht.stp st h2,hm,hu.stp st h3,hv⟩
theorem FsAt.ext {w w':World} {o:Ow} {k p:Nat} {s:Rst} (h:FsAt w o k p s) (e:Ext w w'):FsAt w' o k p s:=h.stp (K:=fun _=>False) (Stp.ext e) (fun x=>x) (fun x=>x) (fun x=>x) (fun x=>x)
theorem FsAt.put {w:World} {o:Ow} {k P:Nat} {s s':Rst} (h:FsAt w o k P s) (i:Nat) (u:Value) (hl:s'.line=s.line) (ht:s'.tail=s.tail) (hb:s'.body=s.body) (he:∀ A c B d C g,(s.cells A c B d C g).setIfInBounds i u=s'.cells A c B d C g):FsAt (w.setCell ⟨P,i,none⟩ u) o k P s':=by
 obtain ⟨A,c,B,d,C,g,hh,hs,hn,h5,hm,hu,hv⟩:=h.row
 have st:Stp (fun i=>i=k) w o (w.setCell ⟨P,i,none⟩ u) o:=Stp.set P i u (fun _=>h.own)
 exact ⟨h.own,A,c,B,d,C,g,hh.set i u (he A c B d C g),by rw [hl];exact hs.stp st (by omega),hn,by rw [ht];exact h5.stp st (by omega),hm,by rw [hb];exact hu.stp st (by omega),hv⟩
def GoneF (e:Int):Ending:=if e=0 then .returned (.tuple #[]) else .panicked [{ v:=.iface 25 (.int .i64 e),recovered:=false }]
def TurnsF (k:Nat) (w:World) (o:Ow) (P:Nat) (q:Rst × Int) (r:Ending) (w':World):Prop:=r=GoneF q.2∧∃ o',FsAt w' o' k P q.1∧Stp (KF k) w o w' o'
theorem goneF_no {e:Int} (h:e≠0):GoneF e=.panicked [{ v:=.iface 25 (.int .i64 e),recovered:=false }]:=if_neg h
theorem setF_stp {w:World} {o:Ow} {k P:Nat} (i:Nat) (u:Value) (h:o P=k):Stp (KF k) w o (w.setCell ⟨P,i,none⟩ u) o:=Stp.set P i u (fun _=>.inl h)
def GoneT (l:Option (List UInt8)) (e:Int):Ending:=if e=0 then .returned (.tuple #[.string (str (l.getD [])),.bool l.isSome]) else .panicked [{ v:=.iface 25 (.int .i64 e),recovered:=false }]
def TxtF (k:Nat) (w:World) (o:Ow) (P:Nat) (q:Rst × Option (List UInt8) × Int) (r:Ending) (w':World):Prop:=r=GoneT q.2.1 q.2.2∧∃ o',FsAt w' o' k P q.1∧Stp (KF k) w o w' o'
theorem fText_cr (k P:Nat) (s:Rst) (c:UInt8) (hcr:s.cr=false) (hc:c=13) (w:World) (o:Ow) (h:FsAt w o k P s) :
  Calls Tryz.prog 100 #[.pointer (some ⟨P,0,none⟩),.int .u8 (c.toNat:Int)] w (TxtF k w o P (textF s c)):=by
 obtain ⟨A,m,B,d,C,g,hr,h1,h2,h3,h4,h5,h6⟩:=h.row
 have c6:=hr.c6
 have c7:=hr.c7
 have f6:=hr.fz 6 (by decide)
 have f7:=hr.fz 7 (by decide)
 have HE:=Hy h
 have HR:=Hy hr
 have HS:=Hy h1
 have HN:=Hy h2
 have HF:=Hy (And.intro h3 h4)
 have HB:=Hy (And.intro h5 h6)
 obtain ⟨b,hb⟩:∃ b,b=c.toNat:=⟨_,rfl⟩
 have h256:=UInt8.toNat_lt c
 rw [← hb] at h256 ⊢
 clear hr h1 h2 h3 h4 h5 h6 h
 have HQ:=Hy (show textF s c=({ s with cr:=true },none,0) from by unfold textF;rw [if_neg (by rw [hcr];decide),if_pos hc])
 rw [hcr] at c7
 obtain rfl:b=13:=by rw [hb,hc];rfl
 clear hb
 go_enter Tryz.func100,Tryz.ntmps100
 go_wp2_with (first
  | (go_at_call 99;refine (fdemand_c _ _ _).mono ?_;rintro e w6 ⟨hy,hn,rfl⟩;first | (obtain rfl:=hy rfl;clear hy hn) | (obtain rfl:=hn rfl;clear hy hn) | (obtain rfl:=hy d8;clear hy hn) | (obtain rfl:=hn d8;clear hy hn))
  | (at_builtin;refine wpL_put slt_u8 (.tmp 55) (.tmp 57) rfl rfl rfl rfl (HS.out.ext (Ext.al (Ext.rfl' _) _)) HN.out (Src.ofSlice (size:=1) _ Tryz.underlying22 ⟨w.heap.size,0,none⟩ 1 1 [.int .u8 (b:Int)] (by simp) NC.out (by simp [Value.oneCell'])) (by omega) (by simp only [maxLen];omega) ?_;intro A7 c7 w7 o7 hs7 hst7 hn7;have st7:=(Stp.ext ((Ext.rfl' w).al _)).tr hst7;have hr7:Frow w7 P s A m B d C g:=HR.out.stp st7 (by rw [HE.out.own];omega);have k6:=hr7.c6;have g6:=hr7.fz 6 (by decide);clear c6 f6 f7))
 go_ret2
 rw [HQ.out]
 exact ⟨rfl,o,HE.out.put 7 _ rfl rfl rfl (fun _ _ _ _ _ _=>rfl),setF_stp 7 _ HE.out.own⟩
theorem fText_nolf (k P:Nat) (s:Rst) (c:UInt8) (hcr:s.cr=true) (hc:c≠10) (w:World) (o:Ow) (h:FsAt w o k P s) :
  Calls Tryz.prog 100 #[.pointer (some ⟨P,0,none⟩),.int .u8 (c.toNat:Int)] w (TxtF k w o P (textF s c)):=by
 obtain ⟨A,m,B,d,C,g,hr,h1,h2,h3,h4,h5,h6⟩:=h.row
 have c6:=hr.c6
 have c7:=hr.c7
 have f6:=hr.fz 6 (by decide)
 have f7:=hr.fz 7 (by decide)
 have HE:=Hy h
 have HR:=Hy hr
 have HS:=Hy h1
 have HN:=Hy h2
 have HF:=Hy (And.intro h3 h4)
 have HB:=Hy (And.intro h5 h6)
 obtain ⟨b,hb⟩:∃ b,b=c.toNat:=⟨_,rfl⟩
 have h256:=UInt8.toNat_lt c
 rw [← hb] at h256 ⊢
 clear hr h1 h2 h3 h4 h5 h6 h
 have HQ:=Hy (show textF s c=(s,none,22) from by unfold textF;rw [if_pos hcr,if_neg hc])
 rw [hcr] at c7
 have d1:((b:Int) == 10)=false:=by rw [beq_eq_false_iff_ne];intro e;exact hc (UInt8.toNat_inj.1 (by rw [← hb];show b=10;omega))
 clear hb hc
 go_enter Tryz.func100,Tryz.ntmps100
 go_wp2_with (first
  | (go_at_call 99;refine (fdemand_c _ _ _).mono ?_;rintro e w6 ⟨hy,hn,rfl⟩;first | (obtain rfl:=hy rfl;clear hy hn) | (obtain rfl:=hn rfl;clear hy hn) | (obtain rfl:=hy d8;clear hy hn) | (obtain rfl:=hn d8;clear hy hn))
  | (at_builtin;refine wpL_put slt_u8 (.tmp 55) (.tmp 57) rfl rfl rfl rfl (HS.out.ext (Ext.al (Ext.rfl' _) _)) HN.out (Src.ofSlice (size:=1) _ Tryz.underlying22 ⟨w.heap.size,0,none⟩ 1 1 [.int .u8 (b:Int)] (by simp) NC.out (by simp [Value.oneCell'])) (by omega) (by simp only [maxLen];omega) ?_;intro A7 c7 w7 o7 hs7 hst7 hn7;have st7:=(Stp.ext ((Ext.rfl' w).al _)).tr hst7;have hr7:Frow w7 P s A m B d C g:=HR.out.stp st7 (by rw [HE.out.own];omega);have k6:=hr7.c6;have g6:=hr7.fz 6 (by decide);clear c6 f6 f7))
 simp only [bodyPost]
 rw [HQ.out]
 exact ⟨trivial,rfl,o,HE.out.ext Xq,Stp.ext Xq⟩
theorem fText_lf (k P:Nat) (s:Rst) (c:UInt8) (hcr:s.cr=true) (hc:c=10) (w:World) (o:Ow) (h:FsAt w o k P s) :
  Calls Tryz.prog 100 #[.pointer (some ⟨P,0,none⟩),.int .u8 (c.toNat:Int)] w (TxtF k w o P (textF s c)):=by
 obtain ⟨A,m,B,d,C,g,hr,h1,h2,h3,h4,h5,h6⟩:=h.row
 have c6:=hr.c6
 have c7:=hr.c7
 have f6:=hr.fz 6 (by decide)
 have f7:=hr.fz 7 (by decide)
 have HE:=Hy h
 have HR:=Hy hr
 have HS:=Hy h1
 have HN:=Hy h2
 have HF:=Hy (And.intro h3 h4)
 have HB:=Hy (And.intro h5 h6)
 obtain ⟨b,hb⟩:∃ b,b=c.toNat:=⟨_,rfl⟩
 have h256:=UInt8.toNat_lt c
 rw [← hb] at h256 ⊢
 clear hr h1 h2 h3 h4 h5 h6 h
 have HQ:=Hy (show textF s c=({ s with cr:=false,line:=[] },some s.line,0) from by unfold textF;rw [if_pos hcr,if_pos hc])
 rw [hcr] at c7
 obtain rfl:b=10:=by rw [hb,hc];rfl
 have t1:Stp (fun i=>i=k) w o (w.setCell ⟨P,7,none⟩ (.bool false)) o:=Stp.set P 7 _ (fun _=>HE.out.own)
 have CV:=conv_bs 22 9 5 Tryz.underlying22 Tryz.underlying5 Tryz.underlying9 ((HS.out.stp t1 (by omega)).rd) s.line.length m rfl
 have HL:=Hy (show GoneT (some s.line) 0=.returned (.tuple #[.string (str s.line),.bool true]) from rfl)
 obtain ⟨sl,hsl⟩:∃ q,q=str s.line:=⟨_,rfl⟩
 rw [← hsl] at CV HL
 have T1:=Hy t1
 clear hb hsl hc t1
 go_enter Tryz.func100,Tryz.ntmps100
 go_wp2_with (first
  | (go_at_call 99;refine (fdemand_c _ _ _).mono ?_;rintro e w6 ⟨hy,hn,rfl⟩;first | (obtain rfl:=hy rfl;clear hy hn) | (obtain rfl:=hn rfl;clear hy hn) | (obtain rfl:=hy d8;clear hy hn) | (obtain rfl:=hn d8;clear hy hn))
  | (at_builtin;refine wpL_put slt_u8 (.tmp 55) (.tmp 57) rfl rfl rfl rfl (HS.out.ext (Ext.al (Ext.rfl' _) _)) HN.out (Src.ofSlice (size:=1) _ Tryz.underlying22 ⟨w.heap.size,0,none⟩ 1 1 [.int .u8 (b:Int)] (by simp) NC.out (by simp [Value.oneCell'])) (by omega) (by simp only [maxLen];omega) ?_;intro A7 c7 w7 o7 hs7 hst7 hn7;have st7:=(Stp.ext ((Ext.rfl' w).al _)).tr hst7;have hr7:Frow w7 P s A m B d C g:=HR.out.stp st7 (by rw [HE.out.own];omega);have k6:=hr7.c6;have g6:=hr7.fz 6 (by decide);clear c6 f6 f7))
 go_ret2
 rw [HQ.out]
 refine ⟨HL.out.symm,o,?_,(setF_stp 7 _ HE.out.own).tr (setF_stp 6 _ HE.out.own)⟩
 have t2:Stp (fun i=>i=k) w o ((w.setCell ⟨P,7,none⟩ (.bool false)).setCell ⟨P,6,none⟩ (.slice none 0 0)) o:=T1.out.tr (Stp.set P 6 _ (fun _=>HE.out.own))
 exact ⟨HE.out.own,none,0,B,d,C,g,(HR.out.set 7 (.bool false) (s':={ s with cr:=false }) rfl).set 6 _ rfl,Sl.nil_ _ _ _ _ _,fun _=>rfl,HF.out.1.stp t2 (by omega),HF.out.2,HB.out.1.stp t2 (by omega),HB.out.2⟩
theorem fText_bad (k P:Nat) (s:Rst) (c:UInt8) (hcr:s.cr=false) (hc:c≠13) (hv:valB c.toNat=false) (w:World) (o:Ow) (h:FsAt w o k P s) :
  Calls Tryz.prog 100 #[.pointer (some ⟨P,0,none⟩),.int .u8 (c.toNat:Int)] w (TxtF k w o P (textF s c)):=by
 obtain ⟨A,m,B,d,C,g,hr,h1,h2,h3,h4,h5,h6⟩:=h.row
 have c6:=hr.c6
 have c7:=hr.c7
 have f6:=hr.fz 6 (by decide)
 have f7:=hr.fz 7 (by decide)
 have HE:=Hy h
 have HR:=Hy hr
 have HS:=Hy h1
 have HN:=Hy h2
 have HF:=Hy (And.intro h3 h4)
 have HB:=Hy (And.intro h5 h6)
 obtain ⟨b,hb⟩:∃ b,b=c.toNat:=⟨_,rfl⟩
 have h256:=UInt8.toNat_lt c
 rw [← hb] at h256 ⊢
 clear hr h1 h2 h3 h4 h5 h6 h
 have HQ:=Hy (show textF s c=(s,none,22) from by unfold textF;rw [if_neg (by rw [hcr];decide),if_neg hc,if_neg (by rw [hv];decide)])
 rw [hcr] at c7
 have d1:((b:Int) == 13)=false:=by rw [beq_eq_false_iff_ne];intro e;exact hc (UInt8.toNat_inj.1 (by rw [← hb];show b=13;omega))
 rw [← hb] at hv
 unfold valB at hv
 simp only [Bool.or_eq_false_iff,Bool.and_eq_false_iff,decide_eq_false_iff_not] at hv
 have d2:((b:Int) == 9)=false:=by rw [beq_eq_false_iff_ne];omega
 clear hb hc HS HN HF
 by_cases k1:b<32
 ·have d3:¬(32:Int)≤(b:Int):=by omega
  clear hv
  go_enter Tryz.func100,Tryz.ntmps100
  go_wp2_with (first
   | (go_at_call 99;refine (fdemand_c _ _ _).mono ?_;rintro e w6 ⟨hy,hn,rfl⟩;first | (obtain rfl:=hy rfl;clear hy hn) | (obtain rfl:=hn rfl;clear hy hn) | (obtain rfl:=hy d8;clear hy hn) | (obtain rfl:=hn d8;clear hy hn))
   | (at_builtin;refine wpL_put slt_u8 (.tmp 55) (.tmp 57) rfl rfl rfl rfl (HS.out.ext (Ext.al (Ext.rfl' _) _)) HN.out (Src.ofSlice (size:=1) _ Tryz.underlying22 ⟨w.heap.size,0,none⟩ 1 1 [.int .u8 (b:Int)] (by simp) NC.out (by simp [Value.oneCell'])) (by omega) (by simp only [maxLen];omega) ?_;intro A7 c7 w7 o7 hs7 hst7 hn7;have st7:=(Stp.ext ((Ext.rfl' w).al _)).tr hst7;have hr7:Frow w7 P s A m B d C g:=HR.out.stp st7 (by rw [HE.out.own];omega);have k6:=hr7.c6;have g6:=hr7.fz 6 (by decide);clear c6 f6 f7))
  simp only [bodyPost]
  rw [HQ.out]
  exact ⟨trivial,rfl,o,HE.out.ext Xq,Stp.ext Xq⟩
 ·have d3:(32:Int)≤(b:Int):=by omega
  have k4:b=127:=by omega
  have d4:((b:Int) != 127)=false:=by rw [k4];rfl
  clear hv k4
  go_enter Tryz.func100,Tryz.ntmps100
  go_wp2_with (first
   | (go_at_call 99;refine (fdemand_c _ _ _).mono ?_;rintro e w6 ⟨hy,hn,rfl⟩;first | (obtain rfl:=hy rfl;clear hy hn) | (obtain rfl:=hn rfl;clear hy hn) | (obtain rfl:=hy d8;clear hy hn) | (obtain rfl:=hn d8;clear hy hn))
   | (at_builtin;refine wpL_put slt_u8 (.tmp 55) (.tmp 57) rfl rfl rfl rfl (HS.out.ext (Ext.al (Ext.rfl' _) _)) HN.out (Src.ofSlice (size:=1) _ Tryz.underlying22 ⟨w.heap.size,0,none⟩ 1 1 [.int .u8 (b:Int)] (by simp) NC.out (by simp [Value.oneCell'])) (by omega) (by simp only [maxLen];omega) ?_;intro A7 c7 w7 o7 hs7 hst7 hn7;have st7:=(Stp.ext ((Ext.rfl' w).al _)).tr hst7;have hr7:Frow w7 P s A m B d C g:=HR.out.stp st7 (by rw [HE.out.own];omega);have k6:=hr7.c6;have g6:=hr7.fz 6 (by decide);clear c6 f6 f7))
  simp only [bodyPost]
  rw [HQ.out]
  exact ⟨trivial,rfl,o,HE.out.ext Xq,Stp.ext Xq⟩
theorem fText_room (k P:Nat) (s:Rst) (c:UInt8) (hcr:s.cr=false) (hc:c≠13) (hv:valB c.toNat=true) (hl:¬ s.line.length<8192) (w:World) (o:Ow) (h:FsAt w o k P s) :
  Calls Tryz.prog 100 #[.pointer (some ⟨P,0,none⟩),.int .u8 (c.toNat:Int)] w (TxtF k w o P (textF s c)):=by
 obtain ⟨A,m,B,d,C,g,hr,h1,h2,h3,h4,h5,h6⟩:=h.row
 have c6:=hr.c6
 have c7:=hr.c7
 have f6:=hr.fz 6 (by decide)
 have f7:=hr.fz 7 (by decide)
 have HE:=Hy h
 have HR:=Hy hr
 have HS:=Hy h1
 have HN:=Hy h2
 have HF:=Hy (And.intro h3 h4)
 have HB:=Hy (And.intro h5 h6)
 obtain ⟨b,hb⟩:∃ b,b=c.toNat:=⟨_,rfl⟩
 have h256:=UInt8.toNat_lt c
 rw [← hb] at h256 ⊢
 clear hr h1 h2 h3 h4 h5 h6 h
 have HQ:=Hy (show textF s c=(s,none,44) from by unfold textF;rw [if_neg (by rw [hcr];decide),if_neg hc,if_pos hv,if_neg hl])
 rw [hcr] at c7
 have d1:((b:Int) == 13)=false:=by rw [beq_eq_false_iff_ne];intro e;exact hc (UInt8.toNat_inj.1 (by rw [← hb];show b=13;omega))
 rw [← hb] at hv
 unfold valB at hv
 simp only [Bool.or_eq_true,Bool.and_eq_true,decide_eq_true_eq] at hv
 have d8:decide ((s.line.length:Int)<8192)=false:=decide_eq_false (by omega)
 clear hb hc HS HN HF
 by_cases k1:b=9
 ·subst k1
  clear d1 hv
  go_enter Tryz.func100,Tryz.ntmps100
  go_wp2_with (first
   | (go_at_call 99;refine (fdemand_c _ _ _).mono ?_;rintro e w6 ⟨hy,hn,rfl⟩;first | (obtain rfl:=hy rfl;clear hy hn) | (obtain rfl:=hn rfl;clear hy hn) | (obtain rfl:=hy d8;clear hy hn) | (obtain rfl:=hn d8;clear hy hn))
   | (at_builtin;refine wpL_put slt_u8 (.tmp 55) (.tmp 57) rfl rfl rfl rfl (HS.out.ext (Ext.al (Ext.rfl' _) _)) HN.out (Src.ofSlice (size:=1) _ Tryz.underlying22 ⟨w.heap.size,0,none⟩ 1 1 [.int .u8 (b:Int)] (by simp) NC.out (by simp [Value.oneCell'])) (by omega) (by simp only [maxLen];omega) ?_;intro A7 c7 w7 o7 hs7 hst7 hn7;have st7:=(Stp.ext ((Ext.rfl' w).al _)).tr hst7;have hr7:Frow w7 P s A m B d C g:=HR.out.stp st7 (by rw [HE.out.own];omega);have k6:=hr7.c6;have g6:=hr7.fz 6 (by decide);clear c6 f6 f7))
  simp only [bodyPost]
  rw [HQ.out]
  exact ⟨trivial,rfl,o,HE.out.ext Xq,Stp.ext Xq⟩
 ·have d2:((b:Int) == 9)=false:=by rw [beq_eq_false_iff_ne];omega
  have d3:(32:Int)≤(b:Int):=by omega
  have d4:((b:Int) != 127)=true:=by rw [bne_iff_ne];omega
  clear hv k1
  go_enter Tryz.func100,Tryz.ntmps100
  go_wp2_with (first
   | (go_at_call 99;refine (fdemand_c _ _ _).mono ?_;rintro e w6 ⟨hy,hn,rfl⟩;first | (obtain rfl:=hy rfl;clear hy hn) | (obtain rfl:=hn rfl;clear hy hn) | (obtain rfl:=hy d8;clear hy hn) | (obtain rfl:=hn d8;clear hy hn))
   | (at_builtin;refine wpL_put slt_u8 (.tmp 55) (.tmp 57) rfl rfl rfl rfl (HS.out.ext (Ext.al (Ext.rfl' _) _)) HN.out (Src.ofSlice (size:=1) _ Tryz.underlying22 ⟨w.heap.size,0,none⟩ 1 1 [.int .u8 (b:Int)] (by simp) NC.out (by simp [Value.oneCell'])) (by omega) (by simp only [maxLen];omega) ?_;intro A7 c7 w7 o7 hs7 hst7 hn7;have st7:=(Stp.ext ((Ext.rfl' w).al _)).tr hst7;have hr7:Frow w7 P s A m B d C g:=HR.out.stp st7 (by rw [HE.out.own];omega);have k6:=hr7.c6;have g6:=hr7.fz 6 (by decide);clear c6 f6 f7))
  simp only [bodyPost]
  rw [HQ.out]
  exact ⟨trivial,rfl,o,HE.out.ext Xq,Stp.ext Xq⟩
theorem fText_good (k P:Nat) (s:Rst) (c:UInt8) (hcr:s.cr=false) (hc:c≠13) (hv:valB c.toNat=true) (hl:s.line.length<8192) (w:World) (o:Ow) (h:FsAt w o k P s) :
  Calls Tryz.prog 100 #[.pointer (some ⟨P,0,none⟩),.int .u8 (c.toNat:Int)] w (TxtF k w o P (textF s c)):=by
 obtain ⟨A,m,B,d,C,g,hr,h1,h2,h3,h4,h5,h6⟩:=h.row
 have c6:=hr.c6
 have c7:=hr.c7
 have f6:=hr.fz 6 (by decide)
 have f7:=hr.fz 7 (by decide)
 have HE:=Hy h
 have HR:=Hy hr
 have HS:=Hy h1
 have HN:=Hy h2
 have HF:=Hy (And.intro h3 h4)
 have HB:=Hy (And.intro h5 h6)
 obtain ⟨b,hb⟩:∃ b,b=c.toNat:=⟨_,rfl⟩
 have h256:=UInt8.toNat_lt c
 rw [← hb] at h256 ⊢
 clear hr h1 h2 h3 h4 h5 h6 h
 have HQ:=Hy (show textF s c=({ s with line:=s.line++[c] },none,0) from by unfold textF;rw [if_neg (by rw [hcr];decide),if_neg hc,if_pos hv,if_pos hl])
 rw [hcr] at c7
 have d1:((b:Int) == 13)=false:=by rw [beq_eq_false_iff_ne];intro e;exact hc (UInt8.toNat_inj.1 (by rw [← hb];show b=13;omega))
 rw [← hb] at hv
 unfold valB at hv
 simp only [Bool.or_eq_true,Bool.and_eq_true,decide_eq_true_eq] at hv
 have d8:decide ((s.line.length:Int)<8192)=true:=decide_eq_true (by omega)
 have HBC:=Hy (show bc (s.line++[c])=bc s.line++[.int .u8 (b:Int)] from by rw [hb];simp [bc])
 have NC:=Hy (new_cells w #[.int .u8 (b:Int)] 5)
 clear hb hc
 by_cases k1:b=9
 ·have d2:((b:Int) == 9)=true:=by rw [k1];rfl
  clear d1 hv k1
  go_enter Tryz.func100,Tryz.ntmps100
  go_wp2_with (first
   | (go_at_call 99;refine (fdemand_c _ _ _).mono ?_;rintro e w6 ⟨hy,hn,rfl⟩;first | (obtain rfl:=hy rfl;clear hy hn) | (obtain rfl:=hn rfl;clear hy hn) | (obtain rfl:=hy d8;clear hy hn) | (obtain rfl:=hn d8;clear hy hn))
   | (at_builtin;refine wpL_put slt_u8 (.tmp 55) (.tmp 57) rfl rfl rfl rfl (HS.out.ext (Ext.al (Ext.rfl' _) _)) HN.out (Src.ofSlice (size:=1) _ Tryz.underlying22 ⟨w.heap.size,0,none⟩ 1 1 [.int .u8 (b:Int)] (by simp) NC.out (by simp [Value.oneCell'])) (by omega) (by simp only [maxLen];omega) ?_;intro A7 c7 w7 o7 hs7 hst7 hn7;have st7:=(Stp.ext ((Ext.rfl' w).al _)).tr hst7;have hr7:Frow w7 P s A m B d C g:=HR.out.stp st7 (by rw [HE.out.own];omega);have k6:=hr7.c6;have g6:=hr7.fz 6 (by decide);clear c6 f6 f7))
  go_ret2
  rw [HQ.out]
  have hp7:o7 P=k:=by rw [st7.own P (row_lt HR.out)];exact HE.out.own
  have stf:Stp (fun i=>i=k) w7 o7 (w7.setCell ⟨P,6,none⟩ (.slice A7 (s.line.length+1) c7)) o7:=Stp.set P 6 _ (fun _=>hp7)
  have hlen:(s.line++[c]).length=s.line.length+1:=by simp
  refine ⟨rfl,o7,⟨hp7,A7,c7,B,d,C,g,?_,?_,hn7,(HF.out.1.stp st7 (by omega)).stp stf (by omega),HF.out.2,(HB.out.1.stp st7 (by omega)).stp stf (by omega),HB.out.2⟩,(st7.mono fun i hi=>.inr (.inl hi)).tr (stf.mono fun i hi=>.inl hi)⟩
  ·exact hr7.set 6 _ (by simp [Rst.cells])
  ·rw [hlen,HBC.out]
   exact hs7.stp stf (by omega)
 ·have d2:((b:Int) == 9)=false:=by rw [beq_eq_false_iff_ne];omega
  have d3:(32:Int)≤(b:Int):=by omega
  have d4:((b:Int) != 127)=true:=by rw [bne_iff_ne];omega
  clear hv k1
  go_enter Tryz.func100,Tryz.ntmps100
  go_wp2_with (first
   | (go_at_call 99;refine (fdemand_c _ _ _).mono ?_;rintro e w6 ⟨hy,hn,rfl⟩;first | (obtain rfl:=hy rfl;clear hy hn) | (obtain rfl:=hn rfl;clear hy hn) | (obtain rfl:=hy d8;clear hy hn) | (obtain rfl:=hn d8;clear hy hn))
   | (at_builtin;refine wpL_put slt_u8 (.tmp 55) (.tmp 57) rfl rfl rfl rfl (HS.out.ext (Ext.al (Ext.rfl' _) _)) HN.out (Src.ofSlice (size:=1) _ Tryz.underlying22 ⟨w.heap.size,0,none⟩ 1 1 [.int .u8 (b:Int)] (by simp) NC.out (by simp [Value.oneCell'])) (by omega) (by simp only [maxLen];omega) ?_;intro A7 c7 w7 o7 hs7 hst7 hn7;have st7:=(Stp.ext ((Ext.rfl' w).al _)).tr hst7;have hr7:Frow w7 P s A m B d C g:=HR.out.stp st7 (by rw [HE.out.own];omega);have k6:=hr7.c6;have g6:=hr7.fz 6 (by decide);clear c6 f6 f7))
  go_ret2
  rw [HQ.out]
  have hp7:o7 P=k:=by rw [st7.own P (row_lt HR.out)];exact HE.out.own
  have stf:Stp (fun i=>i=k) w7 o7 (w7.setCell ⟨P,6,none⟩ (.slice A7 (s.line.length+1) c7)) o7:=Stp.set P 6 _ (fun _=>hp7)
  have hlen:(s.line++[c]).length=s.line.length+1:=by simp
  refine ⟨rfl,o7,⟨hp7,A7,c7,B,d,C,g,?_,?_,hn7,(HF.out.1.stp st7 (by omega)).stp stf (by omega),HF.out.2,(HB.out.1.stp st7 (by omega)).stp stf (by omega),HB.out.2⟩,(st7.mono fun i hi=>.inr (.inl hi)).tr (stf.mono fun i hi=>.inl hi)⟩
  ·exact hr7.set 6 _ (by simp [Rst.cells])
  ·rw [hlen,HBC.out]
   exact hs7.stp stf (by omega)
theorem fText_c (k P:Nat) (s:Rst) (c:UInt8) (hl8:s.line.length≤8192) (w:World) (o:Ow) (h:FsAt w o k P s) :
  Calls Tryz.prog 100 #[.pointer (some ⟨P,0,none⟩),.int .u8 (c.toNat:Int)] w (TxtF k w o P (textF s c)):=by
 cases hcr:s.cr with
 | true =>
  by_cases hc:c=10
  ·exact fText_lf k P s c hcr hc w o h
  ·exact fText_nolf k P s c hcr hc w o h
 | false =>
  by_cases hc:c=13
  ·exact fText_cr k P s c hcr hc w o h
  ·cases hv:valB c.toNat with
   | false=>exact fText_bad k P s c hcr hc hv w o h
   | true =>
    by_cases hl:s.line.length<8192
    ·exact fText_good k P s c hcr hc hv hl w o h
    ·exact fText_room k P s c hcr hc hv hl w o h
theorem all_succ_l (l:List UInt8) (p:UInt8→Bool) (k:Nat) (h:k<l.length):(l.take (k+1)).all p=((l.take k).all p && p l[k]):=by
 rw [List.take_succ_eq_append_getElem h,List.all_append];simp only [List.all_cons,List.all_nil,Bool.and_true]
theorem valF_app (B:Nat):∀ (a:Nat) (l m:List UInt8),valF B a (l++m)=valF B (valF B a l) m:=by
 intro a l m;unfold valF;rw [List.foldl_append]
theorem iParseUint10_c (l:List UInt8) (hne:0<l.length) (hs:l.length≤140737488355328) (hd:∀ b∈l,isDig 10 b=true) (w:World) :
  Calls Tryz.prog 141 #[.string (str l),.int .i64 10,.int .i64 63] w (Gives (puV 195 (valL 10 l)) w):=by
 have kc:=cv_run (P:=Tryz.prog) (src:=9) (dst:=22) (e:=5) (str l) Tryz.underlying9 Tryz.underlying22 Tryz.underlying5 w
 have hemp:l.isEmpty=false:=by cases l with | nil=>simp at hne | cons _ _=>rfl
 have ho:=cv_own w 5 l
 have hx:=cv_ext w 5 (str l)
 obtain ⟨hc1,hc2⟩:=cv_cap w 5 l.length (by unfold maxLen;omega)
 rw [str_size] at kc
 generalize cvW w 5 (str l)=w1 at *
 generalize cvC w 5 l.length=cc at *
 have HO:=Hy ho
 have HD:=Hy hd
 clear ho hd
 have hmv:IntKind.u64.wrap (IntKind.u64.wrap 9223372036854775808-1)=9223372036854775807:=by
  rw [IntKind.wrap_u64,IntKind.wrap_u64]
  decide
 go_enter Tryz.func141,Tryz.ntmps141
 go_wp2
 go_loop [12,13,101] (fun vu vn vi=>∃ (k acc:Nat) (a:Int),vu=.bool false∧vn=.int .u64 a∧vi=.int .i64 k∧k≤l.length∧Hid (a=(acc:Int)∧acc<9223372036854775808∧valL 10 l=valF 10 acc (l.drop k)))
  (fun _ _ vi=>l.length-(intOf vi).toNat)
 case atStart=>exact ⟨0,0,0,rfl,rfl,rfl,by omega,rfl,by omega,rfl⟩
 case round =>
  obtain ⟨k,acc,a,rfl,rfl,rfl,hk,hh⟩:=hrel
  obtain ⟨ha,hacc,hval⟩:=hh.out
  clear hh
  have a0:0≤a:=by omega
  have a1:a<9223372036854775808:=by omega
  by_cases hkn:k<l.length
  ·have hc:=HO.out.cell k hkn
   have hdig:=HD.out l[k] (List.getElem_mem hkn)
   rw [List.drop_eq_getElem_cons hkn,valF_cons] at hval
   generalize l[k]=c at *
   have hc256:c.toNat<256:=c.toNat_lt
   simp only [isDig,Bool.and_eq_true,Bool.or_eq_true,decide_eq_true_eq] at hdig
   obtain ⟨hdig,hdB⟩:=hdig
   rcases hdig with ⟨d0,d1⟩ | ⟨d0,d1⟩
   ·have HDV:Hid (digV c=c.toNat-48):=Hy (by unfold digV;rw [if_pos d1])
    rw [HDV.out] at hdB
    ·by_cases hcut:1844674407370955162≤acc
     ·have icut:(1844674407370955162:Int)≤a:=by omega
      have hge:9223372036854775808≤valL 10 l:=by rw [hval];exact Nat.le_trans (by omega) (valF_ge 10 (by omega) _ _)
      rw [puV_ge hge]
      clear hcut hacc ha hval hge
      go_wp2
      go_ret2
      exact ⟨rfl,hx⟩
     ·have hdv:((((c.toNat:Int)-48):Int))=(digV c:Int):=by rw [HDV.out];omega
      have hd0:(0:Int)≤(((c.toNat:Int)-48):Int):=by omega
      have hd1:(((c.toNat:Int)-48):Int)<10:=by omega
      by_cases hov:18446744073709551616≤a*10+((c.toNat:Int)-48)
      ·have icut:a<1844674407370955162:=by omega
       have hwr:IntKind.u64.wrap (a*10+((c.toNat:Int)-48))=a*10+((c.toNat:Int)-48)-18446744073709551616:=by
        rw [IntKind.wrap_u64];omega
       have hge:9223372036854775808≤valL 10 l:=by rw [hval];exact Nat.le_trans (by omega) (valF_ge 10 (by omega) _ _)
       rw [puV_ge hge]
       clear hcut hacc hval hge ha hdv
       go_wp2
       all_goals go_ret2
       all_goals exact ⟨rfl,hx⟩
      ·by_cases hbig:9223372036854775808≤a*10+((c.toNat:Int)-48)
       ·have icut:a<1844674407370955162:=by omega
        have hge:9223372036854775808≤valL 10 l:=by rw [hval];exact Nat.le_trans (by omega) (valF_ge 10 (by omega) _ _)
        rw [puV_ge hge]
        clear hcut hacc hval hge ha hdv
        go_wp2
        go_ret2
        exact ⟨rfl,hx⟩
       ·have HN:Hid (a*10+((c.toNat:Int)-48)=((acc*10+digV c:Nat):Int)∧acc*10+digV c<9223372036854775808∧valL 10 l=valF 10 (acc*10+digV c) (l.drop (k+1))):=Hy ⟨by push_cast;rw [← hdv,ha],by omega,hval⟩
        have icut:a<1844674407370955162:=by omega
        clear hcut hacc hval ha hdv
        go_wp2
        refine ⟨⟨k+1,acc*10+digV c,a*10+((c.toNat:Int)-48),rfl,(by first | rfl | (congr 1;omega)),(by first | rfl | (congr 1;omega)),by omega,HN⟩,by simp [intOf];omega⟩
   ·have HDV:Hid (digV c=c.toNat-87):=Hy (by unfold digV;rw [if_neg (by omega)])
    rw [HDV.out] at hdB
    exfalso;omega
  ·obtain rfl:k=l.length:=by omega
   rw [List.drop_of_length_le (Nat.le_refl _)] at hval
   have hv:valL 10 l=acc:=hval
   have hr:puV 195 (valL 10 l)=.tuple #[.int .u64 a,.nilIface]:=by rw [hv,puV_lt hacc,ha]
   have HR:=Hy hr
   clear hacc hv hval ha hr
   go_wp2
   go_ret2
   exact ⟨by rw [HR.out];rfl,hx⟩
theorem iParseUint16_c (l:List UInt8) (hne:0<l.length) (hs:l.length≤140737488355328) (hd:∀ b∈l,isDig 16 b=true) (w:World) :
  Calls Tryz.prog 141 #[.string (str l),.int .i64 16,.int .i64 63] w (Gives (puV 195 (valL 16 l)) w):=by
 have kc:=cv_run (P:=Tryz.prog) (src:=9) (dst:=22) (e:=5) (str l) Tryz.underlying9 Tryz.underlying22 Tryz.underlying5 w
 have hemp:l.isEmpty=false:=by cases l with | nil=>simp at hne | cons _ _=>rfl
 have ho:=cv_own w 5 l
 have hx:=cv_ext w 5 (str l)
 obtain ⟨hc1,hc2⟩:=cv_cap w 5 l.length (by unfold maxLen;omega)
 rw [str_size] at kc
 generalize cvW w 5 (str l)=w1 at *
 generalize cvC w 5 l.length=cc at *
 have HO:=Hy ho
 have HD:=Hy hd
 clear ho hd
 have hmv:IntKind.u64.wrap (IntKind.u64.wrap 9223372036854775808-1)=9223372036854775807:=by
  rw [IntKind.wrap_u64,IntKind.wrap_u64]
  decide
 go_enter Tryz.func141,Tryz.ntmps141
 go_wp2
 go_loop [12,13,101] (fun vu vn vi=>∃ (k acc:Nat) (a:Int),vu=.bool false∧vn=.int .u64 a∧vi=.int .i64 k∧k≤l.length∧Hid (a=(acc:Int)∧acc<9223372036854775808∧valL 16 l=valF 16 acc (l.drop k)))
  (fun _ _ vi=>l.length-(intOf vi).toNat)
 case atStart=>exact ⟨0,0,0,rfl,rfl,rfl,by omega,rfl,by omega,rfl⟩
 case round =>
  obtain ⟨k,acc,a,rfl,rfl,rfl,hk,hh⟩:=hrel
  obtain ⟨ha,hacc,hval⟩:=hh.out
  clear hh
  have a0:0≤a:=by omega
  have a1:a<9223372036854775808:=by omega
  by_cases hkn:k<l.length
  ·have hc:=HO.out.cell k hkn
   have hdig:=HD.out l[k] (List.getElem_mem hkn)
   rw [List.drop_eq_getElem_cons hkn,valF_cons] at hval
   generalize l[k]=c at *
   have hc256:c.toNat<256:=c.toNat_lt
   simp only [isDig,Bool.and_eq_true,Bool.or_eq_true,decide_eq_true_eq] at hdig
   obtain ⟨hdig,hdB⟩:=hdig
   rcases hdig with ⟨d0,d1⟩ | ⟨d0,d1⟩
   ·have HDV:Hid (digV c=c.toNat-48):=Hy (by unfold digV;rw [if_pos d1])
    rw [HDV.out] at hdB
    ·by_cases hcut:1152921504606846976≤acc
     ·have icut:(1152921504606846976:Int)≤a:=by omega
      have hge:9223372036854775808≤valL 16 l:=by rw [hval];exact Nat.le_trans (by omega) (valF_ge 16 (by omega) _ _)
      rw [puV_ge hge]
      clear hcut hacc ha hval hge
      go_wp2
      go_ret2
      exact ⟨rfl,hx⟩
     ·have hdv:((((c.toNat:Int)-48):Int))=(digV c:Int):=by rw [HDV.out];omega
      have hd0:(0:Int)≤(((c.toNat:Int)-48):Int):=by omega
      have hd1:(((c.toNat:Int)-48):Int)<16:=by omega
      by_cases hov:18446744073709551616≤a*16+((c.toNat:Int)-48)
      ·have icut:a<1152921504606846976:=by omega
       have hwr:IntKind.u64.wrap (a*16+((c.toNat:Int)-48))=a*16+((c.toNat:Int)-48)-18446744073709551616:=by
        rw [IntKind.wrap_u64];omega
       have hge:9223372036854775808≤valL 16 l:=by rw [hval];exact Nat.le_trans (by omega) (valF_ge 16 (by omega) _ _)
       rw [puV_ge hge]
       clear hcut hacc hval hge ha hdv
       go_wp2
       all_goals go_ret2
       all_goals exact ⟨rfl,hx⟩
      ·by_cases hbig:9223372036854775808≤a*16+((c.toNat:Int)-48)
       ·have icut:a<1152921504606846976:=by omega
        have hge:9223372036854775808≤valL 16 l:=by rw [hval];exact Nat.le_trans (by omega) (valF_ge 16 (by omega) _ _)
        rw [puV_ge hge]
        clear hcut hacc hval hge ha hdv
        go_wp2
        go_ret2
        exact ⟨rfl,hx⟩
       ·have HN:Hid (a*16+((c.toNat:Int)-48)=((acc*16+digV c:Nat):Int)∧acc*16+digV c<9223372036854775808∧valL 16 l=valF 16 (acc*16+digV c) (l.drop (k+1))):=Hy ⟨by push_cast;rw [← hdv,ha],by omega,hval⟩
        have icut:a<1152921504606846976:=by omega
        clear hcut hacc hval ha hdv
        go_wp2
        refine ⟨⟨k+1,acc*16+digV c,a*16+((c.toNat:Int)-48),rfl,(by first | rfl | (congr 1;omega)),(by first | rfl | (congr 1;omega)),by omega,HN⟩,by simp [intOf];omega⟩
   ·have HDV:Hid (digV c=c.toNat-87):=Hy (by unfold digV;rw [if_neg (by omega)])
    rw [HDV.out] at hdB
    have hor:=or32 c.toNat hc256 d0 d1
    ·by_cases hcut:1152921504606846976≤acc
     ·have icut:(1152921504606846976:Int)≤a:=by omega
      have hge:9223372036854775808≤valL 16 l:=by rw [hval];exact Nat.le_trans (by omega) (valF_ge 16 (by omega) _ _)
      rw [puV_ge hge]
      clear hcut hacc ha hval hge
      go_wp2_with (go_at_call 156;refine (pulow_c _ _).mono ?_;rintro e w2 ⟨rfl,rfl⟩;rw [hor])
      go_ret2
      exact ⟨rfl,hx⟩
     ·have hdv:((((c.toNat:Int)-87):Int))=(digV c:Int):=by rw [HDV.out];omega
      have hd0:(0:Int)≤(((c.toNat:Int)-87):Int):=by omega
      have hd1:(((c.toNat:Int)-87):Int)<16:=by omega
      by_cases hov:18446744073709551616≤a*16+((c.toNat:Int)-87)
      ·have icut:a<1152921504606846976:=by omega
       have hwr:IntKind.u64.wrap (a*16+((c.toNat:Int)-87))=a*16+((c.toNat:Int)-87)-18446744073709551616:=by
        rw [IntKind.wrap_u64];omega
       have hge:9223372036854775808≤valL 16 l:=by rw [hval];exact Nat.le_trans (by omega) (valF_ge 16 (by omega) _ _)
       rw [puV_ge hge]
       clear hcut hacc hval hge ha hdv
       go_wp2_with (go_at_call 156;refine (pulow_c _ _).mono ?_;rintro e w2 ⟨rfl,rfl⟩;rw [hor])
       all_goals go_ret2
       all_goals exact ⟨rfl,hx⟩
      ·by_cases hbig:9223372036854775808≤a*16+((c.toNat:Int)-87)
       ·have icut:a<1152921504606846976:=by omega
        have hge:9223372036854775808≤valL 16 l:=by rw [hval];exact Nat.le_trans (by omega) (valF_ge 16 (by omega) _ _)
        rw [puV_ge hge]
        clear hcut hacc hval hge ha hdv
        go_wp2_with (go_at_call 156;refine (pulow_c _ _).mono ?_;rintro e w2 ⟨rfl,rfl⟩;rw [hor])
        go_ret2
        exact ⟨rfl,hx⟩
       ·have HN:Hid (a*16+((c.toNat:Int)-87)=((acc*16+digV c:Nat):Int)∧acc*16+digV c<9223372036854775808∧valL 16 l=valF 16 (acc*16+digV c) (l.drop (k+1))):=Hy ⟨by push_cast;rw [← hdv,ha],by omega,hval⟩
        have icut:a<1152921504606846976:=by omega
        clear hcut hacc hval ha hdv
        go_wp2_with (go_at_call 156;refine (pulow_c _ _).mono ?_;rintro e w2 ⟨rfl,rfl⟩;rw [hor])
        refine ⟨⟨k+1,acc*16+digV c,a*16+((c.toNat:Int)-87),rfl,(by first | rfl | (congr 1;omega)),(by first | rfl | (congr 1;omega)),by omega,HN⟩,by simp [intOf];omega⟩
  ·obtain rfl:k=l.length:=by omega
   rw [List.drop_of_length_le (Nat.le_refl _)] at hval
   have hv:valL 16 l=acc:=hval
   have hr:puV 195 (valL 16 l)=.tuple #[.int .u64 a,.nilIface]:=by rw [hv,puV_lt hacc,ha]
   have HR:=Hy hr
   clear hacc hv hval ha hr
   go_wp2
   go_ret2
   exact ⟨by rw [HR.out];rfl,hx⟩
def ErrR (w:World):Prop:=∃ te pe,w.cell? ⟨7,0,none⟩=some (.iface te pe)
theorem ErrR.ext {w w':World} (h:ErrR w) (x:Ext w w'):ErrR w':=by
 obtain ⟨te,pe,hc⟩:=h
 exact ⟨te,pe,(x.cell (lt_of_cell hc)).trans hc⟩
theorem toErr_c (fn s:ByteArray) (base bits:Int) (w:World) (hlim:s.size≤281474976710656) (h:ErrR w) :
  Calls Tryz.prog 142 #[.string fn,.string s,.int .i64 base,.int .i64 bits,.iface 195 (.int .i64 1)] w fun e w'=>∃ N,e=.returned (.iface 197 (.pointer (some ⟨N,0,none⟩)))∧Ext w w':=by
 obtain ⟨te,pe,hc⟩:=h
 have hn:Go.Proofs.LaysPu.n17 Tryz.prog Tryz.laysPu14_ren:={ Tryz.laysPu14 with }
 have:=AnyPu.strconv_toError_range (P:=Tryz.prog) (ρ:=Tryz.laysPu14_ren) hn fn s base bits (.iface te pe) w hlim hc (.inr ⟨te,pe,rfl⟩)
 refine Calls.mono this ?_
 rintro e w' ⟨N,rfl,h1,h2,h3⟩
 exact ⟨N,rfl,h3⟩
def IsErr2 (v:Value) (_:World):Prop:=∃ N,v=.tuple #[.int .u64 9223372036854775807,.iface 197 (.pointer (some ⟨N,0,none⟩))]
theorem ParseUint10_ok (l:List UInt8) (hne:0<l.length) (hs:l.length≤140737488355328) (hd:∀ b∈l,isDig 10 b=true) (n:Nat) (hn:n=valL 10 l) (hlt:n<9223372036854775808) (w:World) :
  Calls Tryz.prog 110 #[.string (str l),.int .i64 10,.int .i64 63] w (Gives (.tuple #[.int .u64 (n:Int),.nilIface]) w):=by
 have C:=iParseUint10_c l hne hs hd
 rw [← hn,puV_lt hlt] at C
 have C:=Hy C
 clear hd hn hlt
 go_enter Tryz.func110,Tryz.ntmps110
 go_wp2_with (go_at_call 141;refine (C.out _).mono ?_;rintro e w1 ⟨rfl,hx⟩)
 go_ret2
 exact ⟨rfl,hx⟩
theorem ParseUint10_range (l:List UInt8) (hne:0<l.length) (hs:l.length≤140737488355328) (hd:∀ b∈l,isDig 10 b=true) (hge:9223372036854775808≤valL 10 l) (w:World) (hE:ErrR w) :
  Calls Tryz.prog 110 #[.string (str l),.int .i64 10,.int .i64 63] w (Ret IsErr2 w):=by
 have C:=iParseUint10_c l hne hs hd
 rw [puV_ge hge] at C
 have C:=Hy C
 clear hd hge
 go_enter Tryz.func110,Tryz.ntmps110
 go_wp2_with (first
  | (go_at_call 141;refine (C.out _).mono ?_;rintro e w1 ⟨rfl,hx⟩)
  | (go_at_call 142;refine (toErr_c _ _ _ _ _ (by rw [str_size];omega) (hE.ext hx)).mono ?_;rintro e w2 ⟨N,rfl,hx2⟩))
 go_ret2
 exact Ret.is rfl ⟨N,rfl⟩ Xq
theorem ParseUint16_ok (l:List UInt8) (hne:0<l.length) (hs:l.length≤140737488355328) (hd:∀ b∈l,isDig 16 b=true) (n:Nat) (hn:n=valL 16 l) (hlt:n<9223372036854775808) (w:World) :
  Calls Tryz.prog 110 #[.string (str l),.int .i64 16,.int .i64 63] w (Gives (.tuple #[.int .u64 (n:Int),.nilIface]) w):=by
 have C:=iParseUint16_c l hne hs hd
 rw [← hn,puV_lt hlt] at C
 have C:=Hy C
 clear hd hn hlt
 go_enter Tryz.func110,Tryz.ntmps110
 go_wp2_with (go_at_call 141;refine (C.out _).mono ?_;rintro e w1 ⟨rfl,hx⟩)
 go_ret2
 exact ⟨rfl,hx⟩
theorem ParseUint16_range (l:List UInt8) (hne:0<l.length) (hs:l.length≤140737488355328) (hd:∀ b∈l,isDig 16 b=true) (hge:9223372036854775808≤valL 16 l) (w:World) (hE:ErrR w) :
  Calls Tryz.prog 110 #[.string (str l),.int .i64 16,.int .i64 63] w (Ret IsErr2 w):=by
 have C:=iParseUint16_c l hne hs hd
 rw [puV_ge hge] at C
 have C:=Hy C
 clear hd hge
 go_enter Tryz.func110,Tryz.ntmps110
 go_wp2_with (first
  | (go_at_call 141;refine (C.out _).mono ?_;rintro e w1 ⟨rfl,hx⟩)
  | (go_at_call 142;refine (toErr_c _ _ _ _ _ (by rw [str_size];omega) (hE.ext hx)).mono ?_;rintro e w2 ⟨N,rfl,hx2⟩))
 go_ret2
 exact Ret.is rfl ⟨N,rfl⟩ Xq
end Go.Proofs.YthbofilcnpdghaaGreatDoor
end
