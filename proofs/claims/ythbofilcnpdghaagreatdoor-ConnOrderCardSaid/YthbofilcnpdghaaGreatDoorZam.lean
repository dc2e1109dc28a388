/-
Head's request: a good first line; all together.
-/
import Derived.Test.YthbofilcnpdghaaGreatDoorZal
set_option maxRecDepth 100000
set_option maxHeartbeats 8000000
set_option linter.unusedVariables false
set_option linter.unusedSimpArgs false
section
namespace Go.Proofs.YthbofilcnpdghaaGreatDoor
open Go.RowKit
theorem PsAt.fst {w:World} {o:Ow} {k P:Nat} {s:Pst} (h:PsAt w o k P s) (a b:List UInt8) (v:Int) :
  PsAt ((((w.setCell ⟨P,9,none⟩ (.string (str a))).setCell ⟨P,10,none⟩ (.string (str b))).setCell ⟨P,11,none⟩ (.int .i64 v)).setCell ⟨P,12,none⟩ (.slice none 0 0)) o k P { s with meth:=a,targ:=b,minor:=v } ∧
   Stp (KP k) w o ((((w.setCell ⟨P,9,none⟩ (.string (str a))).setCell ⟨P,10,none⟩ (.string (str b))).setCell ⟨P,11,none⟩ (.int .i64 v)).setCell ⟨P,12,none⟩ (.slice none 0 0)) o:=by
 obtain ⟨A,c,B,d,hr,h1,h2,h3,h4⟩:=h.row
 have st:Stp (fun i=>i=k) w o ((((w.setCell ⟨P,9,none⟩ (.string (str a))).setCell ⟨P,10,none⟩ (.string (str b))).setCell ⟨P,11,none⟩ (.int .i64 v)).setCell ⟨P,12,none⟩ (.slice none 0 0)) o:=(((Stp.set P 9 _ (fun _=>h.own)).tr (Stp.set P 10 _ (fun _=>h.own))).tr (Stp.set P 11 _ (fun _=>h.own))).tr (Stp.set P 12 _ (fun _=>h.own))
 refine ⟨PsAt.of h.own ?_ (h1.stp st (by omega)) h2 (h3.stp st (by omega)) h4,st.mono fun i hi=>.inl hi⟩
 exact (((hr.set 9 (.string (str a)) (s':={ s with meth:=a }) rfl).set 10 (.string (str b)) (s':={ s with meth:=a,targ:=b }) rfl).set 11 (.int .i64 v) (s':={ s with meth:=a,targ:=b,minor:=v }) rfl).set 12 _ rfl
theorem hRequest_good (k P:Nat) (hk:0<k) (s:Pst) (l a b t:List UInt8) (hne:l≠[]) (hl:l.length≤8192) (hw:w3 l=some (a,b,t)) (hgood:reqG (a,b,t)=true) (w:World) (o:Ow) (h:PsAt w o k P s) (hG:Gl w o) :
  Calls Tryz.prog 37 #[.pointer (some ⟨P,0,none⟩),.string (str l)] w (TurnsP k w o P (reqP s l)):=by
 obtain ⟨A,c,B,d,hr,h1,h2,h3,h4⟩:=h.row
 have c6:=hr.c6
 have f8:=hr.fz 8 (by decide)
 have c8:=hr.c8
 have HE:=Hy h
 have HZ:=Hy (show (w.setCell ⟨P,8,none⟩ (.func (.func 51) #[.pointer (some ⟨P,0,none⟩)] #[])).heap.size=w.heap.size from by simp)
 have HG:=Hy ((hG.stp (set_stp 8 (.func (.func 51) #[.pointer (some ⟨P,0,none⟩)] #[]) h.own) (by unfold KP;omega)).mx)
 have HROW:=Hy (hr.set 8 (.func (.func 51) #[.pointer (some ⟨P,0,none⟩)] #[]) (s':={ s with nx:=51 }) rfl)
 have e1:l.isEmpty=false:=by rw [List.isEmpty_eq_false_iff];exact hne
 have e2:(str l).toList.isEmpty=false:=by rw [Lib.toList_data];exact e1
 have hl2:l.length≤4000000000:=by omega
 clear hr h1 h2 h3 h4 h hG
 have HQ:=Hy (show reqP s l=({ s with nx:=51,meth:=a,targ:=b,minor:=(verH t).1 },0) from by unfold reqP;rw [if_neg (fun h=>hne h.1),hw];dsimp only;rw [hgood];rfl)
 have CS:=Hy (fun w hM=>SplitN_three l a b t hl2 hw w hM)
 obtain ⟨la,lb,lt⟩:=len_w3 hw 8192 hl
 have CT:=fun w=>Token_h a (by unfold maxLen;omega) w
 have CG:=fun w=>hTarget_c b (by omega) w
 have CV:=fun w=>hVersion_c t (by unfold maxLen;omega) w
 unfold reqG at hgood
 simp only [Bool.and_eq_true,decide_eq_true_eq] at hgood
 obtain ⟨⟨⟨g1,g2⟩,g3⟩,g4⟩:=hgood
 rw [g2] at CT
 rw [g3] at CG
 rw [g4] at CV
 obtain ⟨v,hv⟩:∃ v,v=(verH t).1:=⟨_,rfl⟩
 rw [← hv] at CV HQ
 have CT:=Hy CT
 have CG:=Hy CG
 have CV:=Hy CV
 have k2:(a.length:Int)≤32:=by omega
 clear hw hne hl hl2 g1 g2 g3 g4 hv la lb lt
 go_enter Tryz.func37,Tryz.ntmps37
 go_wp2_with (first
  | (go_at_call 52;refine (CS.out _ HG.out).mono ?_;rintro e w2 ⟨rfl,hx2,p0,p1,p2⟩;rw [HZ.out] at p0 p1 p2)
  | (go_at_call 54;refine (CT.out _).mono ?_;rintro e w3 ⟨rfl,hx3⟩;have q0:=(hx3.cell (lt_of_cell p0)).trans p0;have q1:=(hx3.cell (lt_of_cell p1)).trans p1;have q2:=(hx3.cell (lt_of_cell p2)).trans p2;clear p0 p1 p2)
  | (go_at_call 55;refine (CG.out _).mono ?_;rintro e w4 ⟨rfl,hx4⟩;have r0:=(hx4.cell (lt_of_cell q0)).trans q0;have r1:=(hx4.cell (lt_of_cell q1)).trans q1;have r2:=(hx4.cell (lt_of_cell q2)).trans q2;clear q0 q1 q2)
  | (go_at_call 56;refine (CV.out _).mono ?_;rintro e w5 ⟨rfl,rfl⟩)
  | (go_at_call 53;refine (demand_yes _ _).mono ?_;rintro e w6 ⟨rfl,rfl⟩))
 have hx:Ext (w.setCell ⟨P,8,none⟩ (.func (.func 51) #[.pointer (some ⟨P,0,none⟩)] #[])) w4:=Xq
 have hr4:=HROW.out.ext hx
 have f9:=hr4.fz 9 (by decide)
 have f10:=hr4.fz 10 (by decide)
 have f11:=hr4.fz 11 (by decide)
 have f12:=hr4.fz 12 (by decide)
 have k9:=(row_facts hr4 9 _ rfl).1
 have k10:=(row_facts hr4 10 _ rfl).1
 have k11:=(row_facts hr4 11 _ rfl).1
 have k12:=(row_facts hr4 12 _ rfl).1
 clear hr4
 go_region_with (fail)
 all_goals go_wp2
 all_goals go_end0
 all_goals rw [HQ.out]
 all_goals (
  obtain ⟨h5,h6⟩:=((HE.out.nxt 51).ext hx).fst a b v
  exact ⟨rfl,o,h5.ext Xq,((set_stp 8 _ HE.out.own).tr (Stp.ext hx)).tr (h6.tr (Stp.ext Xq))⟩)
theorem hRequest_c (k P:Nat) (hk:0<k) (s:Pst) (l:List UInt8) (hl:l.length≤8192) (w:World) (o:Ow) (h:PsAt w o k P s) (hG:Gl w o) :
  Calls Tryz.prog 37 #[.pointer (some ⟨P,0,none⟩),.string (str l)] w (TurnsP k w o P (reqP s l)):=by
 by_cases hl0:l=[]
 ·subst hl0
  by_cases he:s.empty<4
  ·exact hRequest_empty k P s he w o h
  ·exact hRequest_few0 k P hk s he w o h hG
 ·cases hw:w3 l with
  | none=>exact hRequest_few k P hk s l hl0 hl hw w o h hG
  | some p =>
   obtain ⟨a,b,t⟩:=p
   cases hg:reqG (a,b,t) with
   | false=>exact hRequest_bad k P hk s l a b t hl0 hl hw hg w o h hG
   | true=>exact hRequest_good k P hk s l a b t hl0 hl hw hg w o h hG
theorem hResponse_few (k P:Nat) (hk:0<k) (s:Pst) (l:List UInt8) (hl:l.length≤8192) (hw:w3 l=none) (w:World) (o:Ow) (h:PsAt w o k P s) (hG:Gl w o) :
  Calls Tryz.prog 38 #[.pointer (some ⟨P,0,none⟩),.string (str l)] w (TurnsP k w o P (rspP s l)):=by
 obtain ⟨A,c,B,d,hr,h1,h2,h3,h4⟩:=h.row
 have f8:=hr.fz 8 (by decide)
 have c8:=hr.c8
 have HE:=Hy h
 have HZ:=Hy (show (w.setCell ⟨P,8,none⟩ (.func (.func 51) #[.pointer (some ⟨P,0,none⟩)] #[])).heap.size=w.heap.size from by simp)
 have HG:=Hy (hG.stp (set_stp 8 (.func (.func 51) #[.pointer (some ⟨P,0,none⟩)] #[]) h.own) (by unfold KP;omega))
 have HROW:=Hy (hr.set 8 (.func (.func 51) #[.pointer (some ⟨P,0,none⟩)] #[]) (s':={ s with nx:=51 }) rfl)
 have hl2:l.length≤4000000000:=by omega
 clear hr h1 h2 h3 h4 h hG
 have HQ:=Hy (show rspP s l=({ s with nx:=51 },43) from by unfold rspP;rw [hw])
 obtain ⟨n,hn,CS⟩:=SplitN_few l hl2 hw
 have d1:((n:Int) == 3)=false:=by rw [beq_eq_false_iff_ne];omega
 have CS:=Hy CS
 clear hw HROW
 go_enter Tryz.func38,Tryz.ntmps38
 go_wp2_with (first
  | (go_at_call 52;refine (CS.out _ HG.out.mx).mono ?_;rintro e w2 ⟨rfl,hx2⟩)
  | (go_at_call 53;refine (demand_no _ _).mono ?_;rintro e w3 ⟨rfl,rfl⟩))
 simp only [bodyPost]
 rw [HQ.out]
 refine ⟨trivial,rfl,o,(HE.out.nxt _).ext Xq,(set_stp 8 _ HE.out.own).tr (Stp.ext Xq)⟩
theorem hResponse_bad (k P:Nat) (hk:0<k) (s:Pst) (l a b t:List UInt8) (hl:l.length≤8192) (hw:w3 l=some (a,b,t)) (hbad:rspG (a,b,t)=false) (w:World) (o:Ow) (h:PsAt w o k P s) (hG:Gl w o) :
  Calls Tryz.prog 38 #[.pointer (some ⟨P,0,none⟩),.string (str l)] w (TurnsP k w o P (rspP s l)):=by
 obtain ⟨A,c,B,d,hr,h1,h2,h3,h4⟩:=h.row
 have f8:=hr.fz 8 (by decide)
 have c8:=hr.c8
 have HE:=Hy h
 have HZ:=Hy (show (w.setCell ⟨P,8,none⟩ (.func (.func 51) #[.pointer (some ⟨P,0,none⟩)] #[])).heap.size=w.heap.size from by simp)
 have HG:=Hy (hG.stp (set_stp 8 (.func (.func 51) #[.pointer (some ⟨P,0,none⟩)] #[]) h.own) (by unfold KP;omega))
 have HROW:=Hy (hr.set 8 (.func (.func 51) #[.pointer (some ⟨P,0,none⟩)] #[]) (s':={ s with nx:=51 }) rfl)
 have hl2:l.length≤4000000000:=by omega
 clear hr h1 h2 h3 h4 h hG
 have HQ:=Hy (show rspP s l=({ s with nx:=51 },43) from by unfold rspP;rw [hw];dsimp only;rw [hbad];rfl)
 have CS:=Hy (fun w hM=>SplitN_three l a b t hl2 hw w hM)
 obtain ⟨la,lb,lt⟩:=len_w3 hw 8192 hl
 have CV:=fun w=>hVersion_c a (by unfold maxLen;omega) w
 have CD:=fun w hE=>Decimal_c b (by omega) w hE
 unfold rspG at hbad
 dsimp only at hbad
 unfold stN at hbad
 obtain ⟨gv,hgv⟩:∃ g,g=(verH a).2:=⟨_,rfl⟩
 obtain ⟨vv,hvv⟩:∃ g,g=(verH a).1:=⟨_,rfl⟩
 obtain ⟨n,hn⟩:∃ g,g=(numL 10 1000000000000000000 b).1:=⟨_,rfl⟩
 obtain ⟨en,hen⟩:∃ g,g=(numL 10 1000000000000000000 b).2:=⟨_,rfl⟩
 rw [← hgv,← hvv] at CV
 rw [← hn,← hen] at CD
 rw [← hgv,← hn,← hen] at hbad
 have CV:=Hy CV
 have CD:=Hy CD
 clear hgv hvv hn hen hw hl hl2
 by_cases k1:b.length=3
 rotate_left
 ·have k2:((b.length:Int) == 3)=false:=by rw [beq_eq_false_iff_ne];omega
  clear hbad
  go_enter Tryz.func38,Tryz.ntmps38
  go_wp2_with (first
   | (go_at_call 52;refine (CS.out _ HG.out.mx).mono ?_;rintro e w2 ⟨rfl,hx2,p0,p1,p2⟩;rw [HZ.out] at p0 p1 p2;have er2:=HG.out.er.ext hx2)
   | (go_at_call 56;refine (CV.out _).mono ?_;rintro e w3 ⟨rfl,rfl⟩)
   | (go_at_call 57;refine (CD.out _ er2).mono ?_;rintro e w4 ⟨rfl,hx4⟩;have r0:=(hx4.cell (lt_of_cell p0)).trans p0;have r1:=(hx4.cell (lt_of_cell p1)).trans p1;have r2:=(hx4.cell (lt_of_cell p2)).trans p2;clear p0 p1 p2 er2;have hr4:=HROW.out.ext (hx2.tr hx4);have f11:=hr4.fz 11 (by decide);have f13:=hr4.fz 13 (by decide);have f14:=hr4.fz 14 (by decide);have k11:=(row_facts hr4 11 _ rfl).1;have k13:=(row_facts hr4 13 _ rfl).1;have k14:=(row_facts hr4 14 _ rfl).1;clear hr4)
   | (go_at_call 53;refine (demand_c _ _ _).mono ?_;rintro e w6 ⟨hy,hn,rfl⟩;first | (obtain rfl:=hy rfl;clear hy hn) | (obtain rfl:=hn rfl;clear hy hn) | (obtain rfl:=hy d9;clear hy hn) | (obtain rfl:=hn d9;clear hy hn)))
  simp only [bodyPost]
  rw [HQ.out]
  refine ⟨trivial,rfl,o,(HE.out.nxt _).ext Xq,(set_stp 8 _ HE.out.own).tr (Stp.ext Xq)⟩
 ·rw [decide_eq_true k1,Bool.true_and] at hbad
  have k2:((b.length:Int) == 3)=true:=by rw [beq_iff_eq];omega
  clear k1 la lb lt
  cases gv with
  | false =>
   clear hbad
   go_enter Tryz.func38,Tryz.ntmps38
   go_wp2_with (first
    | (go_at_call 52;refine (CS.out _ HG.out.mx).mono ?_;rintro e w2 ⟨rfl,hx2,p0,p1,p2⟩;rw [HZ.out] at p0 p1 p2;have er2:=HG.out.er.ext hx2)
    | (go_at_call 56;refine (CV.out _).mono ?_;rintro e w3 ⟨rfl,rfl⟩)
    | (go_at_call 57;refine (CD.out _ er2).mono ?_;rintro e w4 ⟨rfl,hx4⟩;have r0:=(hx4.cell (lt_of_cell p0)).trans p0;have r1:=(hx4.cell (lt_of_cell p1)).trans p1;have r2:=(hx4.cell (lt_of_cell p2)).trans p2;clear p0 p1 p2 er2;have hr4:=HROW.out.ext (hx2.tr hx4);have f11:=hr4.fz 11 (by decide);have f13:=hr4.fz 13 (by decide);have f14:=hr4.fz 14 (by decide);have k11:=(row_facts hr4 11 _ rfl).1;have k13:=(row_facts hr4 13 _ rfl).1;have k14:=(row_facts hr4 14 _ rfl).1;clear hr4)
    | (go_at_call 53;refine (demand_c _ _ _).mono ?_;rintro e w6 ⟨hy,hn,rfl⟩;first | (obtain rfl:=hy rfl;clear hy hn) | (obtain rfl:=hn rfl;clear hy hn) | (obtain rfl:=hy d9;clear hy hn) | (obtain rfl:=hn d9;clear hy hn)))
   simp only [bodyPost]
   rw [HQ.out]
   refine ⟨trivial,rfl,o,(HE.out.nxt _).ext Xq,(set_stp 8 _ HE.out.own).tr (Stp.ext Xq)⟩
  | true =>
   rw [Bool.true_and] at hbad
   by_cases k3:en=0
   rotate_left
   ·have k4:(en == 0)=false:=by rw [beq_eq_false_iff_ne];exact k3
    clear hbad
    go_enter Tryz.func38,Tryz.ntmps38
    go_wp2_with (first
     | (go_at_call 52;refine (CS.out _ HG.out.mx).mono ?_;rintro e w2 ⟨rfl,hx2,p0,p1,p2⟩;rw [HZ.out] at p0 p1 p2;have er2:=HG.out.er.ext hx2)
     | (go_at_call 56;refine (CV.out _).mono ?_;rintro e w3 ⟨rfl,rfl⟩)
     | (go_at_call 57;refine (CD.out _ er2).mono ?_;rintro e w4 ⟨rfl,hx4⟩;have r0:=(hx4.cell (lt_of_cell p0)).trans p0;have r1:=(hx4.cell (lt_of_cell p1)).trans p1;have r2:=(hx4.cell (lt_of_cell p2)).trans p2;clear p0 p1 p2 er2;have hr4:=HROW.out.ext (hx2.tr hx4);have f11:=hr4.fz 11 (by decide);have f13:=hr4.fz 13 (by decide);have f14:=hr4.fz 14 (by decide);have k11:=(row_facts hr4 11 _ rfl).1;have k13:=(row_facts hr4 13 _ rfl).1;have k14:=(row_facts hr4 14 _ rfl).1;clear hr4)
     | (go_at_call 53;refine (demand_c _ _ _).mono ?_;rintro e w6 ⟨hy,hn,rfl⟩;first | (obtain rfl:=hy rfl;clear hy hn) | (obtain rfl:=hn rfl;clear hy hn) | (obtain rfl:=hy d9;clear hy hn) | (obtain rfl:=hn d9;clear hy hn)))
    simp only [bodyPost]
    rw [HQ.out]
    refine ⟨trivial,rfl,o,(HE.out.nxt _).ext Xq,(set_stp 8 _ HE.out.own).tr (Stp.ext Xq)⟩
   ·subst k3
    rw [decide_eq_true rfl,Bool.true_and] at hbad
    by_cases k5:n<100
    ·clear hbad
     go_enter Tryz.func38,Tryz.ntmps38
     go_wp2_with (first
      | (go_at_call 52;refine (CS.out _ HG.out.mx).mono ?_;rintro e w2 ⟨rfl,hx2,p0,p1,p2⟩;rw [HZ.out] at p0 p1 p2;have er2:=HG.out.er.ext hx2)
      | (go_at_call 56;refine (CV.out _).mono ?_;rintro e w3 ⟨rfl,rfl⟩)
      | (go_at_call 57;refine (CD.out _ er2).mono ?_;rintro e w4 ⟨rfl,hx4⟩;have r0:=(hx4.cell (lt_of_cell p0)).trans p0;have r1:=(hx4.cell (lt_of_cell p1)).trans p1;have r2:=(hx4.cell (lt_of_cell p2)).trans p2;clear p0 p1 p2 er2;have hr4:=HROW.out.ext (hx2.tr hx4);have f11:=hr4.fz 11 (by decide);have f13:=hr4.fz 13 (by decide);have f14:=hr4.fz 14 (by decide);have k11:=(row_facts hr4 11 _ rfl).1;have k13:=(row_facts hr4 13 _ rfl).1;have k14:=(row_facts hr4 14 _ rfl).1;clear hr4)
      | (go_at_call 53;refine (demand_c _ _ _).mono ?_;rintro e w6 ⟨hy,hn,rfl⟩;first | (obtain rfl:=hy rfl;clear hy hn) | (obtain rfl:=hn rfl;clear hy hn) | (obtain rfl:=hy d9;clear hy hn) | (obtain rfl:=hn d9;clear hy hn)))
     simp only [bodyPost]
     rw [HQ.out]
     refine ⟨trivial,rfl,o,(HE.out.nxt _).ext Xq,(set_stp 8 _ HE.out.own).tr (Stp.ext Xq)⟩
    ·rw [decide_eq_true (by omega),Bool.true_and] at hbad
     have k6:¬ n≤599:=by simpa using hbad
     have k7:100≤n:=by omega
     have d9:decide (n≤599)=false:=decide_eq_false k6
     clear hbad
     go_enter Tryz.func38,Tryz.ntmps38
     go_wp2_with (first
      | (go_at_call 52;refine (CS.out _ HG.out.mx).mono ?_;rintro e w2 ⟨rfl,hx2,p0,p1,p2⟩;rw [HZ.out] at p0 p1 p2;have er2:=HG.out.er.ext hx2)
      | (go_at_call 56;refine (CV.out _).mono ?_;rintro e w3 ⟨rfl,rfl⟩)
      | (go_at_call 57;refine (CD.out _ er2).mono ?_;rintro e w4 ⟨rfl,hx4⟩;have r0:=(hx4.cell (lt_of_cell p0)).trans p0;have r1:=(hx4.cell (lt_of_cell p1)).trans p1;have r2:=(hx4.cell (lt_of_cell p2)).trans p2;clear p0 p1 p2 er2;have hr4:=HROW.out.ext (hx2.tr hx4);have f11:=hr4.fz 11 (by decide);have f13:=hr4.fz 13 (by decide);have f14:=hr4.fz 14 (by decide);have k11:=(row_facts hr4 11 _ rfl).1;have k13:=(row_facts hr4 13 _ rfl).1;have k14:=(row_facts hr4 14 _ rfl).1;clear hr4)
      | (go_at_call 53;refine (demand_c _ _ _).mono ?_;rintro e w6 ⟨hy,hn,rfl⟩;first | (obtain rfl:=hy rfl;clear hy hn) | (obtain rfl:=hn rfl;clear hy hn) | (obtain rfl:=hy d9;clear hy hn) | (obtain rfl:=hn d9;clear hy hn)))
     simp only [bodyPost]
     rw [HQ.out]
     refine ⟨trivial,rfl,o,(HE.out.nxt _).ext Xq,(set_stp 8 _ HE.out.own).tr (Stp.ext Xq)⟩
theorem PsAt.rsp {w:World} {o:Ow} {k P:Nat} {s:Pst} (h:PsAt w o k P s) (v n:Int) (t:List UInt8) :
  PsAt (((w.setCell ⟨P,11,none⟩ (.int .i64 v)).setCell ⟨P,13,none⟩ (.int .i64 n)).setCell ⟨P,14,none⟩ (.string (str t))) o k P { s with minor:=v,status:=n,reason:=t } ∧
   Stp (KP k) w o (((w.setCell ⟨P,11,none⟩ (.int .i64 v)).setCell ⟨P,13,none⟩ (.int .i64 n)).setCell ⟨P,14,none⟩ (.string (str t))) o:=by
 obtain ⟨A,c,B,d,hr,h1,h2,h3,h4⟩:=h.row
 have st:Stp (fun i=>i=k) w o (((w.setCell ⟨P,11,none⟩ (.int .i64 v)).setCell ⟨P,13,none⟩ (.int .i64 n)).setCell ⟨P,14,none⟩ (.string (str t))) o:=((Stp.set P 11 _ (fun _=>h.own)).tr (Stp.set P 13 _ (fun _=>h.own))).tr (Stp.set P 14 _ (fun _=>h.own))
 refine ⟨PsAt.of h.own ?_ (h1.stp st (by omega)) h2 (h3.stp st (by omega)) h4,st.mono fun i hi=>.inl hi⟩
 exact ((hr.set 11 (.int .i64 v) (s':={ s with minor:=v }) rfl).set 13 (.int .i64 n) (s':={ s with minor:=v,status:=n }) rfl).set 14 _ rfl
theorem hResponse_good (k P:Nat) (hk:0<k) (s:Pst) (l a b t:List UInt8) (hl:l.length≤8192) (hw:w3 l=some (a,b,t)) (hgood:rspG (a,b,t)=true) (w:World) (o:Ow) (h:PsAt w o k P s) (hG:Gl w o) :
  Calls Tryz.prog 38 #[.pointer (some ⟨P,0,none⟩),.string (str l)] w (TurnsP k w o P (rspP s l)):=by
 obtain ⟨A,c,B,d,hr,h1,h2,h3,h4⟩:=h.row
 have f8:=hr.fz 8 (by decide)
 have c8:=hr.c8
 have HE:=Hy h
 have HZ:=Hy (show (w.setCell ⟨P,8,none⟩ (.func (.func 51) #[.pointer (some ⟨P,0,none⟩)] #[])).heap.size=w.heap.size from by simp)
 have HG:=Hy (hG.stp (set_stp 8 (.func (.func 51) #[.pointer (some ⟨P,0,none⟩)] #[]) h.own) (by unfold KP;omega))
 have HROW:=Hy (hr.set 8 (.func (.func 51) #[.pointer (some ⟨P,0,none⟩)] #[]) (s':={ s with nx:=51 }) rfl)
 have hl2:l.length≤4000000000:=by omega
 clear hr h1 h2 h3 h4 h hG
 have HQ:=Hy (show rspP s l=({ s with nx:=51,minor:=(verH a).1,status:=(stN b).1,reason:=t },0) from by unfold rspP;rw [hw];dsimp only;rw [hgood];rfl)
 have CS:=Hy (fun w hM=>SplitN_three l a b t hl2 hw w hM)
 obtain ⟨la,lb,lt⟩:=len_w3 hw 8192 hl
 have CV:=fun w=>hVersion_c a (by unfold maxLen;omega) w
 have CD:=fun w hE=>Decimal_c b (by omega) w hE
 unfold rspG at hgood
 unfold stN at hgood HQ
 simp only [Bool.and_eq_true,decide_eq_true_eq] at hgood
 obtain ⟨⟨⟨⟨g1,g2⟩,g3⟩,g4⟩,g5⟩:=hgood
 rw [g2] at CV
 rw [g3] at CD
 obtain ⟨vv,hvv⟩:∃ g,g=(verH a).1:=⟨_,rfl⟩
 obtain ⟨n,hn⟩:∃ g,g=(numL 10 1000000000000000000 b).1:=⟨_,rfl⟩
 rw [← hvv] at CV HQ
 rw [← hn] at CD HQ g4 g5
 have CV:=Hy CV
 have CD:=Hy CD
 have k2:((b.length:Int) == 3)=true:=by rw [beq_iff_eq];omega
 have k3:100≤n:=by omega
 have k4:n≤599:=by omega
 have d9:decide (n≤599)=true:=decide_eq_true k4
 clear hw hl hl2 g1 g2 g3 g4 g5 hvv hn la lb lt
 go_enter Tryz.func38,Tryz.ntmps38
 go_wp2_with (first
  | (go_at_call 52;refine (CS.out _ HG.out.mx).mono ?_;rintro e w2 ⟨rfl,hx2,p0,p1,p2⟩;rw [HZ.out] at p0 p1 p2;have er2:=HG.out.er.ext hx2)
  | (go_at_call 56;refine (CV.out _).mono ?_;rintro e w3 ⟨rfl,rfl⟩)
  | (go_at_call 57;refine (CD.out _ er2).mono ?_;rintro e w4 ⟨rfl,hx4⟩;have r0:=(hx4.cell (lt_of_cell p0)).trans p0;have r1:=(hx4.cell (lt_of_cell p1)).trans p1;have r2:=(hx4.cell (lt_of_cell p2)).trans p2;clear p0 p1 p2 er2;have hr4:=HROW.out.ext (hx2.tr hx4);have f11:=hr4.fz 11 (by decide);have f13:=hr4.fz 13 (by decide);have f14:=hr4.fz 14 (by decide);have k11:=(row_facts hr4 11 _ rfl).1;have k13:=(row_facts hr4 13 _ rfl).1;have k14:=(row_facts hr4 14 _ rfl).1;clear hr4)
  | (go_at_call 53;refine (demand_c _ _ _).mono ?_;rintro e w6 ⟨hy,hn,rfl⟩;first | (obtain rfl:=hy rfl;clear hy hn) | (obtain rfl:=hn rfl;clear hy hn) | (obtain rfl:=hy d9;clear hy hn) | (obtain rfl:=hn d9;clear hy hn)))
 go_end0
 rw [HQ.out]
 have hx:Ext (w.setCell ⟨P,8,none⟩ (.func (.func 51) #[.pointer (some ⟨P,0,none⟩)] #[])) w4:=hx2.tr hx4
 obtain ⟨h5,h6⟩:=((HE.out.nxt 51).ext hx).rsp vv n t
 exact ⟨rfl,o,h5,((set_stp 8 _ HE.out.own).tr (Stp.ext hx)).tr h6⟩
theorem hResponse_c (k P:Nat) (hk:0<k) (s:Pst) (l:List UInt8) (hl:l.length≤8192) (w:World) (o:Ow) (h:PsAt w o k P s) (hG:Gl w o) :
  Calls Tryz.prog 38 #[.pointer (some ⟨P,0,none⟩),.string (str l)] w (TurnsP k w o P (rspP s l)):=by
 cases hw:w3 l with
 | none=>exact hResponse_few k P hk s l hl hw w o h hG
 | some p =>
  obtain ⟨a,b,t⟩:=p
  cases hg:rspG (a,b,t) with
  | false=>exact hResponse_bad k P hk s l a b t hl hw hg w o h hG
  | true=>exact hResponse_good k P hk s l a b t hl hw hg w o h hG
theorem Value_h (l:List UInt8) (hs:l.length≤maxLen) (w:World):Calls Tryz.prog 80 #[.string (str l)] w (Gives (.bool (vlL l)) w):=Value_c l hs w
theorem PsAt.dn {w:World} {o:Ow} {k P:Nat} {s:Pst} (h:PsAt w o k P s):PsAt (w.setCell ⟨P,4,none⟩ (.bool true)) o k P { s with done:=true }:=by
 obtain ⟨A,c,B,d,hr,h1,h2,h3,h4⟩:=h.row
 exact PsAt.of h.own (hr.set 4 _ rfl) (h1.stp (Stp.set (K:=fun i=>i=k) P 4 _ (fun _=>h.own)) (by omega)) h2 (h3.stp (Stp.set (K:=fun i=>i=k) P 4 _ (fun _=>h.own)) (by omega)) h4
theorem hField_done (k P:Nat) (s:Pst) (w:World) (o:Ow) (h:PsAt w o k P s) :
  Calls Tryz.prog 51 #[.pointer (some ⟨P,0,none⟩),.string (str [])] w (TurnsP k w o P (fldP s [])):=by
 obtain ⟨A,c,B,d,hr,h1,h2,h3,h4⟩:=h.row
 have c4:=hr.c4
 have f4:=hr.fz 4 (by decide)
 have HE:=Hy h
 have HQ:=Hy (show fldP s []=({ s with done:=true },0) from if_pos rfl)
 clear hr h1 h2 h3 h4 h
 rw [show str ([]:List UInt8)=⟨#[]⟩ from rfl]
 go_enter Tryz.func51,Tryz.ntmps51
 go_wp2
 refine bodyPost_ret (results_none rfl _ _ _) rfl ?_
 rw [HQ.out]
 exact ⟨rfl,o,HE.out.dn,set_stp 4 _ HE.out.own⟩
theorem hField_nocut (k P:Nat) (s:Pst) (l:List UInt8) (hne:l≠[]) (hno:58∉l) (w:World) (o:Ow) (h:PsAt w o k P s) :
  Calls Tryz.prog 51 #[.pointer (some ⟨P,0,none⟩),.string (str l)] w (TurnsP k w o P (fldP s l)):=by
 have HE:=Hy h
 have HQ:=Hy (show fldP s l=(s,42) from by unfold fldP fldV;rw [if_neg hne,cutW_no hno])
 have CC:=Hy (fun w=>Cut_no l 58 hno w)
 have CT:=Hy (fun w=>show Calls Tryz.prog 79 #[.string ⟨#[]⟩] w (Gives (.string (str (trimL []))) w) from Trim_c [] (by decide) w)
 have e1:l.isEmpty=false:=by rw [List.isEmpty_eq_false_iff];exact hne
 have e2:(str l).toList.isEmpty=false:=by rw [Lib.toList_data];exact e1
 clear hno hne h
 go_enter Tryz.func51,Tryz.ntmps51
 go_wp2_with (first
  | (go_at_call 78;refine (CC.out _).mono ?_;rintro e w2 ⟨rfl,rfl⟩)
  | (go_at_call 79;refine (CT.out _).mono ?_;rintro e w3 ⟨rfl,hx3⟩)
  | (go_at_call 53;refine (demand_c _ _ _).mono ?_;rintro e w6 ⟨hy,hn,rfl⟩;first | (obtain rfl:=hy rfl;clear hy hn) | (obtain rfl:=hn rfl;clear hy hn)))
 simp only [bodyPost]
 rw [HQ.out]
 refine ⟨trivial,rfl,o,HE.out.ext Xq,Stp.ext Xq⟩
theorem hField_bad (k P:Nat) (s:Pst) (a r:List UInt8) (hno:58∉a) (hl:(a++58::r).length≤8192) (hbad:(tokL a && vlL (trimL r))=false) (w:World) (o:Ow) (h:PsAt w o k P s) :
  Calls Tryz.prog 51 #[.pointer (some ⟨P,0,none⟩),.string (str (a++58::r))] w (TurnsP k w o P (fldP s (a++58::r))):=by
 obtain ⟨A,c,B,d,hr,h1,h2,hs,hm⟩:=h.row
 have HROW:=Hy hr
 have HE:=Hy h
 have HS:=Hy hs
 have HQ:=Hy (show fldP s (a++58::r)=(s,42) from by unfold fldP fldV;rw [if_neg (by simp),cutW_at r hno];dsimp only;rw [hbad];rfl)
 clear hr h1 h2 hs h
 obtain ⟨sl,hsl⟩:∃ q,q=str (a++58::r):=⟨_,rfl⟩
 have e2:sl.toList.isEmpty=false:=by rw [hsl,Lib.toList_data];rw [List.isEmpty_eq_false_iff];simp
 have htl:=trim_len r
 have CC:=fun w=>Cut_at a r 58 hno (by unfold maxLen;simp at hl;omega) w
 have CT:=Hy (fun w=>Trim_c r (by unfold maxLen;simp at hl;omega) w)
 have CK:=fun w=>Token_h a (by unfold maxLen;simp at hl;omega) w
 have CV:=fun w=>Value_h (trimL r) (by unfold maxLen;simp at hl;omega) w
 rw [← hsl] at CC ⊢
 obtain ⟨v,hv⟩:∃ v,v=trimL r:=⟨_,rfl⟩
 have CT:Hid (∀ w,Calls Tryz.prog 79 #[.string (str r)] w (Gives (.string (str v)) w)):=by rw [hv];exact CT
 rw [← hv] at CV
 have CC:=Hy CC
 rw [← hv] at hbad
 obtain ⟨gt,hgt⟩:∃ g,g=tokL a:=⟨_,rfl⟩
 obtain ⟨gv,hgv⟩:∃ g,g=vlL v:=⟨_,rfl⟩
 rw [← hgt] at CK hbad
 rw [← hgv] at CV hbad
 have CK:=Hy CK
 have CV:=Hy CV
 obtain ⟨R,hR⟩:∃ R,R=fldP s (a++58::r):=⟨_,rfl⟩
 rw [← hR] at HQ ⊢
 clear hgt hgv hv hno hl hsl htl hR
 cases gt with
 | false =>
  clear hbad
  go_enter Tryz.func51,Tryz.ntmps51
  go_wp2_with (first
   | (go_at_call 78;refine (CC.out _).mono ?_;rintro e w2 ⟨rfl,q,rfl⟩)
   | (go_at_call 79;refine (CT.out _).mono ?_;rintro e w3 ⟨rfl,hx3⟩)
   | (go_at_call 54;refine (CK.out _).mono ?_;rintro e w4 ⟨rfl,hx4⟩)
   | (go_at_call 80;refine (CV.out _).mono ?_;rintro e w5 ⟨rfl,hx5⟩;have hxa:Ext w w5:=Xq;have hr5:=HROW.out.ext hxa;have c15:=hr5.c15;have f15:=hr5.fz 15 (by decide))
   | (go_at_call 53;refine (demand_c _ _ _).mono ?_;rintro e w6 ⟨hy,hn,rfl⟩;first | (obtain rfl:=hy rfl;clear hy hn) | (obtain rfl:=hn rfl;clear hy hn) | (obtain rfl:=hy d9;clear hy hn) | (obtain rfl:=hn d9;clear hy hn))
   | (at_builtin;refine wpL_put slt_fld (.tmp 41) (.tmp 45) rfl rfl rfl rfl ((HS.out.ext hxa).ext (Ext.al (Ext.rfl' w5) _)) hm (Src.ofSlice (size:=2) _ Tryz.underlying34 ⟨w5.heap.size,0,none⟩ 1 1 [.string (str a),.string (str v)] (by simp) (new_cells w5 #[.string (str a),.string (str v)] 72) (by simp [Value.oneCell'])) (by omega) (by simp only [maxLen];omega) ?_;intro A7 c7 w7 o7 hs7 hst7 hn7;have st7:Stp (fun i=>i=k+2) w o w7 o7:=(Stp.ext (hxa.al _)).tr hst7;have hr7:Prow w7 P s A c B d:=(st7.keep P (row_lt HROW.out) (by rw [HE.out.own];omega)).trans HROW.out;have k15:=hr7.c15;have g15:=hr7.fz 15 (by decide);clear c15 f15 hr5))
  simp only [bodyPost]
  rw [HQ.out]
  refine ⟨trivial,rfl,o,HE.out.ext Xq,Stp.ext Xq⟩
 | true =>
  rw [Bool.true_and] at hbad
  subst hbad
  go_enter Tryz.func51,Tryz.ntmps51
  go_wp2_with (first
   | (go_at_call 78;refine (CC.out _).mono ?_;rintro e w2 ⟨rfl,q,rfl⟩)
   | (go_at_call 79;refine (CT.out _).mono ?_;rintro e w3 ⟨rfl,hx3⟩)
   | (go_at_call 54;refine (CK.out _).mono ?_;rintro e w4 ⟨rfl,hx4⟩)
   | (go_at_call 80;refine (CV.out _).mono ?_;rintro e w5 ⟨rfl,hx5⟩;have hxa:Ext w w5:=Xq;have hr5:=HROW.out.ext hxa;have c15:=hr5.c15;have f15:=hr5.fz 15 (by decide))
   | (go_at_call 53;refine (demand_c _ _ _).mono ?_;rintro e w6 ⟨hy,hn,rfl⟩;first | (obtain rfl:=hy rfl;clear hy hn) | (obtain rfl:=hn rfl;clear hy hn) | (obtain rfl:=hy d9;clear hy hn) | (obtain rfl:=hn d9;clear hy hn))
   | (at_builtin;refine wpL_put slt_fld (.tmp 41) (.tmp 45) rfl rfl rfl rfl ((HS.out.ext hxa).ext (Ext.al (Ext.rfl' w5) _)) hm (Src.ofSlice (size:=2) _ Tryz.underlying34 ⟨w5.heap.size,0,none⟩ 1 1 [.string (str a),.string (str v)] (by simp) (new_cells w5 #[.string (str a),.string (str v)] 72) (by simp [Value.oneCell'])) (by omega) (by simp only [maxLen];omega) ?_;intro A7 c7 w7 o7 hs7 hst7 hn7;have st7:Stp (fun i=>i=k+2) w o w7 o7:=(Stp.ext (hxa.al _)).tr hst7;have hr7:Prow w7 P s A c B d:=(st7.keep P (row_lt HROW.out) (by rw [HE.out.own];omega)).trans HROW.out;have k15:=hr7.c15;have g15:=hr7.fz 15 (by decide);clear c15 f15 hr5))
  simp only [bodyPost]
  rw [HQ.out]
  refine ⟨trivial,rfl,o,HE.out.ext Xq,Stp.ext Xq⟩
theorem hField_long (k P:Nat) (s:Pst) (a r:List UInt8) (hno:58∉a) (hl:(a++58::r).length≤8192) (hgood:(tokL a && vlL (trimL r))=true) (hf:¬ s.fields.length<100) (w:World) (o:Ow) (h:PsAt w o k P s) :
  Calls Tryz.prog 51 #[.pointer (some ⟨P,0,none⟩),.string (str (a++58::r))] w (TurnsP k w o P (fldP s (a++58::r))):=by
 obtain ⟨A,c,B,d,hr,h1,h2,hs,hm⟩:=h.row
 have HROW:=Hy hr
 have HE:=Hy h
 have HS:=Hy hs
 have HQ:=Hy (show fldP s (a++58::r)=(s,44) from by unfold fldP fldV;rw [if_neg (by simp),cutW_at r hno];dsimp only;rw [hgood];exact if_neg hf)
 clear hr h1 h2 hs h
 obtain ⟨sl,hsl⟩:∃ q,q=str (a++58::r):=⟨_,rfl⟩
 have e2:sl.toList.isEmpty=false:=by rw [hsl,Lib.toList_data];rw [List.isEmpty_eq_false_iff];simp
 have htl:=trim_len r
 have CC:=fun w=>Cut_at a r 58 hno (by unfold maxLen;simp at hl;omega) w
 have CT:=Hy (fun w=>Trim_c r (by unfold maxLen;simp at hl;omega) w)
 have CK:=fun w=>Token_h a (by unfold maxLen;simp at hl;omega) w
 have CV:=fun w=>Value_h (trimL r) (by unfold maxLen;simp at hl;omega) w
 rw [← hsl] at CC ⊢
 obtain ⟨v,hv⟩:∃ v,v=trimL r:=⟨_,rfl⟩
 have CT:Hid (∀ w,Calls Tryz.prog 79 #[.string (str r)] w (Gives (.string (str v)) w)):=by rw [hv];exact CT
 rw [← hv] at CV
 have CC:=Hy CC
 rw [← hv] at hgood
 rw [Bool.and_eq_true] at hgood
 rw [hgood.1] at CK
 rw [hgood.2] at CV
 have CK:=Hy CK
 have CV:=Hy CV
 obtain ⟨R,hR⟩:∃ R,R=fldP s (a++58::r):=⟨_,rfl⟩
 rw [← hR] at HQ ⊢
 have d9:decide ((s.fields.length:Int)<100)=false:=decide_eq_false (by omega)
 clear hgood hv hno hl hsl htl hR
 go_enter Tryz.func51,Tryz.ntmps51
 go_wp2_with (first
  | (go_at_call 78;refine (CC.out _).mono ?_;rintro e w2 ⟨rfl,q,rfl⟩)
  | (go_at_call 79;refine (CT.out _).mono ?_;rintro e w3 ⟨rfl,hx3⟩)
  | (go_at_call 54;refine (CK.out _).mono ?_;rintro e w4 ⟨rfl,hx4⟩)
  | (go_at_call 80;refine (CV.out _).mono ?_;rintro e w5 ⟨rfl,hx5⟩;have hxa:Ext w w5:=Xq;have hr5:=HROW.out.ext hxa;have c15:=hr5.c15;have f15:=hr5.fz 15 (by decide))
  | (go_at_call 53;refine (demand_c _ _ _).mono ?_;rintro e w6 ⟨hy,hn,rfl⟩;first | (obtain rfl:=hy rfl;clear hy hn) | (obtain rfl:=hn rfl;clear hy hn) | (obtain rfl:=hy d9;clear hy hn) | (obtain rfl:=hn d9;clear hy hn))
  | (at_builtin;refine wpL_put slt_fld (.tmp 41) (.tmp 45) rfl rfl rfl rfl ((HS.out.ext hxa).ext (Ext.al (Ext.rfl' w5) _)) hm (Src.ofSlice (size:=2) _ Tryz.underlying34 ⟨w5.heap.size,0,none⟩ 1 1 [.string (str a),.string (str v)] (by simp) (new_cells w5 #[.string (str a),.string (str v)] 72) (by simp [Value.oneCell'])) (by omega) (by simp only [maxLen];omega) ?_;intro A7 c7 w7 o7 hs7 hst7 hn7;have st7:Stp (fun i=>i=k+2) w o w7 o7:=(Stp.ext (hxa.al _)).tr hst7;have hr7:Prow w7 P s A c B d:=(st7.keep P (row_lt HROW.out) (by rw [HE.out.own];omega)).trans HROW.out;have k15:=hr7.c15;have g15:=hr7.fz 15 (by decide);clear c15 f15 hr5))
 simp only [bodyPost]
 rw [HQ.out]
 refine ⟨trivial,rfl,o,HE.out.ext Xq,Stp.ext Xq⟩
theorem hField_good (k P:Nat) (s:Pst) (a r:List UInt8) (hno:58∉a) (hl:(a++58::r).length≤8192) (hgood:(tokL a && vlL (trimL r))=true) (hf:s.fields.length<100) (w:World) (o:Ow) (h:PsAt w o k P s) :
  Calls Tryz.prog 51 #[.pointer (some ⟨P,0,none⟩),.string (str (a++58::r))] w (TurnsP k w o P (fldP s (a++58::r))):=by
 obtain ⟨A,c,B,d,hr,h1,h2,hs,hm⟩:=h.row
 have HROW:=Hy hr
 have HE:=Hy h
 have HS:=Hy hs
 have HL:=Hy (And.intro h1 h2)
 have HQ:=Hy (show fldP s (a++58::r)=({ s with fields:=s.fields++[(a,trimL r)] },0) from by unfold fldP fldV;rw [if_neg (by simp),cutW_at r hno];dsimp only;rw [hgood];exact if_pos hf)
 clear hr h1 h2 hs h
 obtain ⟨sl,hsl⟩:∃ q,q=str (a++58::r):=⟨_,rfl⟩
 have e2:sl.toList.isEmpty=false:=by rw [hsl,Lib.toList_data];rw [List.isEmpty_eq_false_iff];simp
 have htl:=trim_len r
 have CC:=fun w=>Cut_at a r 58 hno (by unfold maxLen;simp at hl;omega) w
 have CT:=Hy (fun w=>Trim_c r (by unfold maxLen;simp at hl;omega) w)
 have CK:=fun w=>Token_h a (by unfold maxLen;simp at hl;omega) w
 have CV:=fun w=>Value_h (trimL r) (by unfold maxLen;simp at hl;omega) w
 rw [← hsl] at CC ⊢
 obtain ⟨v,hv⟩:∃ v,v=trimL r:=⟨_,rfl⟩
 have CT:Hid (∀ w,Calls Tryz.prog 79 #[.string (str r)] w (Gives (.string (str v)) w)):=by rw [hv];exact CT
 rw [← hv] at CV
 have CC:=Hy CC
 rw [← hv] at hgood HQ
 rw [Bool.and_eq_true] at hgood
 rw [hgood.1] at CK
 rw [hgood.2] at CV
 have CK:=Hy CK
 have CV:=Hy CV
 obtain ⟨R,hR⟩:∃ R,R=fldP s (a++58::r):=⟨_,rfl⟩
 rw [← hR] at HQ ⊢
 have d9:decide ((s.fields.length:Int)<100)=true:=decide_eq_true (by omega)
 clear hgood hv hno hl hsl htl hR
 go_enter Tryz.func51,Tryz.ntmps51
 go_wp2_with (first
  | (go_at_call 78;refine (CC.out _).mono ?_;rintro e w2 ⟨rfl,q,rfl⟩)
  | (go_at_call 79;refine (CT.out _).mono ?_;rintro e w3 ⟨rfl,hx3⟩)
  | (go_at_call 54;refine (CK.out _).mono ?_;rintro e w4 ⟨rfl,hx4⟩)
  | (go_at_call 80;refine (CV.out _).mono ?_;rintro e w5 ⟨rfl,hx5⟩;have hxa:Ext w w5:=Xq;have hr5:=HROW.out.ext hxa;have c15:=hr5.c15;have f15:=hr5.fz 15 (by decide))
  | (go_at_call 53;refine (demand_c _ _ _).mono ?_;rintro e w6 ⟨hy,hn,rfl⟩;first | (obtain rfl:=hy rfl;clear hy hn) | (obtain rfl:=hn rfl;clear hy hn) | (obtain rfl:=hy d9;clear hy hn) | (obtain rfl:=hn d9;clear hy hn))
  | (at_builtin;refine wpL_put slt_fld (.tmp 41) (.tmp 45) rfl rfl rfl rfl ((HS.out.ext hxa).ext (Ext.al (Ext.rfl' w5) _)) hm (Src.ofSlice (size:=2) _ Tryz.underlying34 ⟨w5.heap.size,0,none⟩ 1 1 [.string (str a),.string (str v)] (by simp) (new_cells w5 #[.string (str a),.string (str v)] 72) (by simp [Value.oneCell'])) (by omega) (by simp only [maxLen];omega) ?_;intro A7 c7 w7 o7 hs7 hst7 hn7;have st7:Stp (fun i=>i=k+2) w o w7 o7:=(Stp.ext (hxa.al _)).tr hst7;have hr7:Prow w7 P s A c B d:=(st7.keep P (row_lt HROW.out) (by rw [HE.out.own];omega)).trans HROW.out;have k15:=hr7.c15;have g15:=hr7.fz 15 (by decide);clear c15 f15 hr5))
 go_end0
 rw [HQ.out]
 have hp7:o7 P=k:=by rw [st7.own P (row_lt HROW.out)];exact HE.out.own
 have stf:Stp (fun i=>i=k) w7 o7 (w7.setCell ⟨P,15,none⟩ (.slice A7 (s.fields.length+1) c7)) o7:=Stp.set P 15 _ (fun _=>hp7)
 have hlen:(s.fields++[(a,v)]).length=s.fields.length+1:=by simp
 refine ⟨rfl,o7,PsAt.of hp7 (A:=A) (c:=c) (B:=A7) (d:=c7) ?_ ((HL.out.1.stp st7 (by omega)).stp stf (by omega)) HL.out.2 ?_ hn7,(st7.mono fun i hi=>.inr (.inr hi)).tr (stf.mono fun i hi=>.inl hi)⟩
 ·exact hr7.set 15 _ (by simp [Pst.cells])
 ·rw [hlen,fc_app]
  exact hs7.stp stf (by omega)
theorem hField_c (k P:Nat) (s:Pst) (l:List UInt8) (hl:l.length≤8192) (w:World) (o:Ow) (h:PsAt w o k P s) :
  Calls Tryz.prog 51 #[.pointer (some ⟨P,0,none⟩),.string (str l)] w (TurnsP k w o P (fldP s l)):=by
 by_cases hl0:l=[]
 ·subst hl0;exact hField_done k P s w o h
 ·rcases cut_cases l 58 with hno | ⟨a,r,rfl,hno⟩
  ·exact hField_nocut k P s l hl0 hno w o h
  ·cases hg:(tokL a && vlL (trimL r)) with
   | false=>exact hField_bad k P s a r hno hl hg w o h
   | true =>
    by_cases hf:s.fields.length<100
    ·exact hField_good k P s a r hno hl hg hf w o h
    ·exact hField_long k P s a r hno hl hg hf w o h
theorem line_c (k P:Nat) (hk:0<k) (s:Pst) (hs:Pok s) (l:List UInt8) (hl:l.length≤8192) (w:World) (o:Ow) (h:PsAt w o k P s) (hG:Gl w o) :
  Calls Tryz.prog s.nx #[.pointer (some ⟨P,0,none⟩),.string (str l)] w (TurnsP k w o P (lineP s l)):=by
 rcases hs.nx with e | e | e
 ·rw [e,show lineP s l=reqP s l from if_pos e]
  exact hRequest_c k P hk s l hl w o h hG
 ·rw [e,show lineP s l=rspP s l from by unfold lineP;rw [if_neg (by rw [e];decide),if_pos e]]
  exact hResponse_c k P hk s l hl w o h hG
 ·rw [e,show lineP s l=fldP s l from by unfold lineP;rw [if_neg (by rw [e];decide),if_neg (by rw [e];decide)]]
  exact hField_c k P s l hl w o h
theorem PsAt.al {w:World} {o:Ow} {k P:Nat} {s:Pst} (h:PsAt w o k P s):PsAt (w.setCell ⟨P,5,none⟩ (.int .i64 ((s.all+1:Nat):Int))) o k P { s with all:=s.all+1 }:=by
 obtain ⟨A,c,B,d,hr,h1,h2,h3,h4⟩:=h.row
 exact PsAt.of h.own (hr.set 5 _ rfl) (h1.stp (Stp.set (K:=fun i=>i=k) P 5 _ (fun _=>h.own)) (by omega)) h2 (h3.stp (Stp.set (K:=fun i=>i=k) P 5 _ (fun _=>h.own)) (by omega)) h4
theorem PsAt.crs {w:World} {o:Ow} {k P:Nat} {s:Pst} (h:PsAt w o k P s) (b:Bool):PsAt (w.setCell ⟨P,3,none⟩ (.bool b)) o k P { s with cr:=b }:=by
 obtain ⟨A,c,B,d,hr,h1,h2,h3,h4⟩:=h.row
 exact PsAt.of h.own (hr.set 3 _ rfl) (h1.stp (Stp.set (K:=fun i=>i=k) P 3 _ (fun _=>h.own)) (by omega)) h2 (h3.stp (Stp.set (K:=fun i=>i=k) P 3 _ (fun _=>h.own)) (by omega)) h4
theorem PsAt.nol {w:World} {o:Ow} {k P:Nat} {s:Pst} {A B:Option Addr} {c d:Nat} (h:o P=k) (hr:Prow w P s A c B d) (h1:Sl w o (k+1) 1 A s.line.length c (bc s.line)) (h2:A=none→c=0) (h3:Sl w o (k+2) 2 B s.fields.length d (fc s.fields)) (h4:B=none→d=0) :
  PsAt (w.setCell ⟨P,2,none⟩ (.slice A 0 c)) o k P { s with line:=[] }:=by
 have st:Stp (fun i=>i=k) w o (w.setCell ⟨P,2,none⟩ (.slice A 0 c)) o:=Stp.set P 2 _ (fun _=>h)
 have h0:=h1.take 0 (Nat.zero_le _)
 exact PsAt.of h (hr.set 2 _ rfl) (by simpa [bc] using h0.stp st (by omega)) h2 (h3.stp st (by omega)) h4
end Go.Proofs.YthbofilcnpdghaaGreatDoor
end
