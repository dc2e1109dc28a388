/-
Head's request: a first line that is none; one that is.
-/
import Derived.Test.YthbofilcnpdghaaGreatDoorZam
set_option maxRecDepth 100000
set_option maxHeartbeats 8000000
set_option linter.unusedVariables false
set_option linter.unusedSimpArgs false
section
namespace Go.Proofs.YthbofilcnpdghaaGreatDoor
open Go.RowKit
theorem len_w3 {l a b t:List UInt8} (h:w3 l=some (a,b,t)) (n:Nat) (hl:l.length ≤ n):a.length ≤ n∧b.length ≤ n∧t.length ≤ n:=by
 obtain ⟨e,_,_⟩:=w3_some h
 have:=congrArg List.length e
 simp at this
 omega
theorem hRequest_few (k P:Nat) (hk:0 < k) (s:Pst) (l:List UInt8) (hne:l ≠ []) (hl:l.length ≤ 8192) (hw:w3 l=none) (w:World) (o:Ow) (h:PsAt w o k P s) (hG:Gl w o) :
  Calls Tryz.prog 37 #[.pointer (some ⟨P,0,none⟩),.string (str l)] w (TurnsP k w o P (reqP s l)):=by
 obtain ⟨A,c,B,d,hr,h1,h2,h3,h4⟩:=h.row
 have c6:=hr.c6
 have f8:=hr.fz 8 (by decide)
 have c8:=hr.c8
 have HE:=Lib.hid h
 have HZ:=Lib.hid (show (w.setCell ⟨P,8,none⟩ (.func (.func 51) #[.pointer (some ⟨P,0,none⟩)] #[])).heap.size=w.heap.size from by simp)
 have HG:=Lib.hid ((hG.stp (set_stp 8 (.func (.func 51) #[.pointer (some ⟨P,0,none⟩)] #[]) h.own) (by unfold KP; omega)).mx)
 have e1:l.isEmpty=false:=by rw [List.isEmpty_eq_false_iff]; exact hne
 have e2:(str l).toList.isEmpty=false:=by rw [Lib.toList_data]; exact e1
 have hl2:l.length ≤ 4000000000:=by omega
 clear hr h1 h2 h3 h4 h hG
 have HQ:=Lib.hid (show reqP s l=({ s with nx:=51 },43) from by unfold reqP; rw [if_neg (fun h=>hne h.1),hw])
 obtain ⟨n,hn,CS⟩:=SplitN_few l hl2 hw
 have d1:((n:Int) == 3)=false:=by rw [beq_eq_false_iff_ne]; omega
 have CS:=Lib.hid CS
 clear hw hne
 go_enter Tryz.func37,Tryz.ntmps37
 go_wp2_with (first
  | (go_at_call 52; refine (CS.out _ HG.out).mono ?_; rintro e w2 ⟨rfl,hx2⟩)
  | (go_at_call 53; refine (demand_no _ _).mono ?_; rintro e w3 ⟨rfl,rfl⟩))
 simp only [bodyPost]
 rw [HQ.out]
 refine ⟨trivial,rfl,o,(HE.out.nxt _).ext (by (repeat first | exact Ex0 | assumption | refine Ex1 ?_ | refine Ex2 ?_ | refine Ex3 ?_ | refine Ex4 ?_ | refine Ex5 ?_)),(set_stp 8 _ HE.out.own).tr (Stp.ext (by (repeat first | exact Ex0 | assumption | refine Ex1 ?_ | refine Ex2 ?_ | refine Ex3 ?_ | refine Ex4 ?_ | refine Ex5 ?_)))⟩
theorem hRequest_bad (k P:Nat) (hk:0 < k) (s:Pst) (l a b t:List UInt8) (hne:l ≠ []) (hl:l.length ≤ 8192) (hw:w3 l=some (a,b,t)) (hbad:reqG (a,b,t)=false) (w:World) (o:Ow) (h:PsAt w o k P s) (hG:Gl w o) :
  Calls Tryz.prog 37 #[.pointer (some ⟨P,0,none⟩),.string (str l)] w (TurnsP k w o P (reqP s l)):=by
 obtain ⟨A,c,B,d,hr,h1,h2,h3,h4⟩:=h.row
 have c6:=hr.c6
 have f8:=hr.fz 8 (by decide)
 have c8:=hr.c8
 have HE:=Lib.hid h
 have HZ:=Lib.hid (show (w.setCell ⟨P,8,none⟩ (.func (.func 51) #[.pointer (some ⟨P,0,none⟩)] #[])).heap.size=w.heap.size from by simp)
 have HG:=Lib.hid ((hG.stp (set_stp 8 (.func (.func 51) #[.pointer (some ⟨P,0,none⟩)] #[]) h.own) (by unfold KP; omega)).mx)
 have e1:l.isEmpty=false:=by rw [List.isEmpty_eq_false_iff]; exact hne
 have e2:(str l).toList.isEmpty=false:=by rw [Lib.toList_data]; exact e1
 have hl2:l.length ≤ 4000000000:=by omega
 clear hr h1 h2 h3 h4 h hG
 have HQ:=Lib.hid (show reqP s l=({ s with nx:=51 },43) from by unfold reqP; rw [if_neg (fun h=>hne h.1),hw]; dsimp only; rw [hbad]; rfl)
 have CS:=Lib.hid (fun w hM=>SplitN_three l a b t hl2 hw w hM)
 obtain ⟨la,lb,lt⟩:=len_w3 hw 8192 hl
 have CT:=Lib.hid (fun w=>Token_h a (by unfold maxLen; omega) w)
 have CG:=Lib.hid (fun w=>hTarget_c b (by omega) w)
 have CV:=Lib.hid (fun w=>hVersion_c t (by unfold maxLen; omega) w)
 clear hw hne hl hl2
 unfold reqG at hbad
 dsimp only at hbad
 obtain ⟨gt,hgt⟩:∃ g,g=tokL a:=⟨_,rfl⟩
 obtain ⟨gg,hgg⟩:∃ g,g=tgH b:=⟨_,rfl⟩
 obtain ⟨gv,hgv⟩:∃ g,g=(verH t).2:=⟨_,rfl⟩
 rw [← hgt] at CT hbad
 rw [← hgg] at CG hbad
 rw [← hgv] at CV hbad
 clear hgt hgg hgv
 by_cases k1:32 < a.length
 ·have k2:¬ (a.length:Int) ≤ 32:=by omega
  clear hbad
  go_enter Tryz.func37,Tryz.ntmps37
  go_wp2_with (first
   | (go_at_call 52; refine (CS.out _ HG.out).mono ?_; rintro e w2 ⟨rfl,hx2,p0,p1,p2⟩; rw [HZ.out] at p0 p1 p2)
   | (go_at_call 54; refine (CT.out _).mono ?_; rintro e w3 ⟨rfl,hx3⟩; have q0:=(hx3.cell (lt_of_cell p0)).trans p0; have q1:=(hx3.cell (lt_of_cell p1)).trans p1; have q2:=(hx3.cell (lt_of_cell p2)).trans p2; clear p0 p1 p2)
   | (go_at_call 55; refine (CG.out _).mono ?_; rintro e w4 ⟨rfl,hx4⟩; have r0:=(hx4.cell (lt_of_cell q0)).trans q0; have r1:=(hx4.cell (lt_of_cell q1)).trans q1; have r2:=(hx4.cell (lt_of_cell q2)).trans q2; clear q0 q1 q2)
   | (go_at_call 56; refine (CV.out _).mono ?_; rintro e w5 ⟨rfl,rfl⟩)
   | (go_at_call 53; refine (demand_c _ _ _).mono ?_; rintro e w6 ⟨hy,hn,rfl⟩; first | (obtain rfl:=hy rfl; clear hy hn) | (obtain rfl:=hn rfl; clear hy hn)))
  simp only [bodyPost]
  rw [HQ.out]
  refine ⟨trivial,rfl,o,(HE.out.nxt _).ext (by (repeat first | exact Ex0 | assumption | refine Ex1 ?_ | refine Ex2 ?_ | refine Ex3 ?_ | refine Ex4 ?_ | refine Ex5 ?_)),(set_stp 8 _ HE.out.own).tr (Stp.ext (by (repeat first | exact Ex0 | assumption | refine Ex1 ?_ | refine Ex2 ?_ | refine Ex3 ?_ | refine Ex4 ?_ | refine Ex5 ?_)))⟩
 ·have k2:(a.length:Int) ≤ 32:=by omega
  rw [decide_eq_true (by omega),Bool.true_and] at hbad
  cases gt with
  | false =>
   clear hbad
   go_enter Tryz.func37,Tryz.ntmps37
   go_wp2_with (first
    | (go_at_call 52; refine (CS.out _ HG.out).mono ?_; rintro e w2 ⟨rfl,hx2,p0,p1,p2⟩; rw [HZ.out] at p0 p1 p2)
    | (go_at_call 54; refine (CT.out _).mono ?_; rintro e w3 ⟨rfl,hx3⟩; have q0:=(hx3.cell (lt_of_cell p0)).trans p0; have q1:=(hx3.cell (lt_of_cell p1)).trans p1; have q2:=(hx3.cell (lt_of_cell p2)).trans p2; clear p0 p1 p2)
    | (go_at_call 55; refine (CG.out _).mono ?_; rintro e w4 ⟨rfl,hx4⟩; have r0:=(hx4.cell (lt_of_cell q0)).trans q0; have r1:=(hx4.cell (lt_of_cell q1)).trans q1; have r2:=(hx4.cell (lt_of_cell q2)).trans q2; clear q0 q1 q2)
    | (go_at_call 56; refine (CV.out _).mono ?_; rintro e w5 ⟨rfl,rfl⟩)
    | (go_at_call 53; refine (demand_c _ _ _).mono ?_; rintro e w6 ⟨hy,hn,rfl⟩; first | (obtain rfl:=hy rfl; clear hy hn) | (obtain rfl:=hn rfl; clear hy hn)))
   simp only [bodyPost]
   rw [HQ.out]
   refine ⟨trivial,rfl,o,(HE.out.nxt _).ext (by (repeat first | exact Ex0 | assumption | refine Ex1 ?_ | refine Ex2 ?_ | refine Ex3 ?_ | refine Ex4 ?_ | refine Ex5 ?_)),(set_stp 8 _ HE.out.own).tr (Stp.ext (by (repeat first | exact Ex0 | assumption | refine Ex1 ?_ | refine Ex2 ?_ | refine Ex3 ?_ | refine Ex4 ?_ | refine Ex5 ?_)))⟩
  | true =>
   rw [Bool.true_and] at hbad
   cases gg with
   | false =>
    clear hbad
    go_enter Tryz.func37,Tryz.ntmps37
    go_wp2_with (first
     | (go_at_call 52; refine (CS.out _ HG.out).mono ?_; rintro e w2 ⟨rfl,hx2,p0,p1,p2⟩; rw [HZ.out] at p0 p1 p2)
     | (go_at_call 54; refine (CT.out _).mono ?_; rintro e w3 ⟨rfl,hx3⟩; have q0:=(hx3.cell (lt_of_cell p0)).trans p0; have q1:=(hx3.cell (lt_of_cell p1)).trans p1; have q2:=(hx3.cell (lt_of_cell p2)).trans p2; clear p0 p1 p2)
     | (go_at_call 55; refine (CG.out _).mono ?_; rintro e w4 ⟨rfl,hx4⟩; have r0:=(hx4.cell (lt_of_cell q0)).trans q0; have r1:=(hx4.cell (lt_of_cell q1)).trans q1; have r2:=(hx4.cell (lt_of_cell q2)).trans q2; clear q0 q1 q2)
     | (go_at_call 56; refine (CV.out _).mono ?_; rintro e w5 ⟨rfl,rfl⟩)
     | (go_at_call 53; refine (demand_c _ _ _).mono ?_; rintro e w6 ⟨hy,hn,rfl⟩; first | (obtain rfl:=hy rfl; clear hy hn) | (obtain rfl:=hn rfl; clear hy hn)))
    simp only [bodyPost]
    rw [HQ.out]
    refine ⟨trivial,rfl,o,(HE.out.nxt _).ext (by (repeat first | exact Ex0 | assumption | refine Ex1 ?_ | refine Ex2 ?_ | refine Ex3 ?_ | refine Ex4 ?_ | refine Ex5 ?_)),(set_stp 8 _ HE.out.own).tr (Stp.ext (by (repeat first | exact Ex0 | assumption | refine Ex1 ?_ | refine Ex2 ?_ | refine Ex3 ?_ | refine Ex4 ?_ | refine Ex5 ?_)))⟩
   | true =>
    rw [Bool.true_and] at hbad
    subst hbad
    go_enter Tryz.func37,Tryz.ntmps37
    go_wp2_with (first
     | (go_at_call 52; refine (CS.out _ HG.out).mono ?_; rintro e w2 ⟨rfl,hx2,p0,p1,p2⟩; rw [HZ.out] at p0 p1 p2)
     | (go_at_call 54; refine (CT.out _).mono ?_; rintro e w3 ⟨rfl,hx3⟩; have q0:=(hx3.cell (lt_of_cell p0)).trans p0; have q1:=(hx3.cell (lt_of_cell p1)).trans p1; have q2:=(hx3.cell (lt_of_cell p2)).trans p2; clear p0 p1 p2)
     | (go_at_call 55; refine (CG.out _).mono ?_; rintro e w4 ⟨rfl,hx4⟩; have r0:=(hx4.cell (lt_of_cell q0)).trans q0; have r1:=(hx4.cell (lt_of_cell q1)).trans q1; have r2:=(hx4.cell (lt_of_cell q2)).trans q2; clear q0 q1 q2)
     | (go_at_call 56; refine (CV.out _).mono ?_; rintro e w5 ⟨rfl,rfl⟩)
     | (go_at_call 53; refine (demand_c _ _ _).mono ?_; rintro e w6 ⟨hy,hn,rfl⟩; first | (obtain rfl:=hy rfl; clear hy hn) | (obtain rfl:=hn rfl; clear hy hn)))
    simp only [bodyPost]
    rw [HQ.out]
    refine ⟨trivial,rfl,o,(HE.out.nxt _).ext (by (repeat first | exact Ex0 | assumption | refine Ex1 ?_ | refine Ex2 ?_ | refine Ex3 ?_ | refine Ex4 ?_ | refine Ex5 ?_)),(set_stp 8 _ HE.out.own).tr (Stp.ext (by (repeat first | exact Ex0 | assumption | refine Ex1 ?_ | refine Ex2 ?_ | refine Ex3 ?_ | refine Ex4 ?_ | refine Ex5 ?_)))⟩
end Go.Proofs.YthbofilcnpdghaaGreatDoor
end
section
namespace Go.Proofs.YthbofilcnpdghaaGreatDoor
open Go.RowKit
theorem PsAt.fst {w:World} {o:Ow} {k P:Nat} {s:Pst} (h:PsAt w o k P s) (a b:List UInt8) (v:Int) :
  PsAt ((((w.setCell ⟨P,9,none⟩ (.string (str a))).setCell ⟨P,10,none⟩ (.string (str b))).setCell ⟨P,11,none⟩ (.int .i64 v)).setCell ⟨P,12,none⟩ (.slice none 0 0)) o k P { s with meth:=a,targ:=b,minor:=v } ∧
   Stp (KP k) w o ((((w.setCell ⟨P,9,none⟩ (.string (str a))).setCell ⟨P,10,none⟩ (.string (str b))).setCell ⟨P,11,none⟩ (.int .i64 v)).setCell ⟨P,12,none⟩ (.slice none 0 0)) o:=by
 obtain ⟨A,c,B,d,hr,h1,h2,h3,h4⟩:=h.row
 have st:Stp (fun i=>i=k) w o ((((w.setCell ⟨P,9,none⟩ (.string (str a))).setCell ⟨P,10,none⟩ (.string (str b))).setCell ⟨P,11,none⟩ (.int .i64 v)).setCell ⟨P,12,none⟩ (.slice none 0 0)) o:=(((Stp.set P 9 _ (fun _=>h.own)).tr (Stp.set P 10 _ (fun _=>h.own))).tr (Stp.set P 11 _ (fun _=>h.own))).tr (Stp.set P 12 _ (fun _=>h.own))
 refine ⟨PsAt.of h.own ?_ (h1.stp st (by omega)) h2 (h3.stp st (by omega)) h4,st.mono fun i hi=>.inl hi⟩
 exact (((hr.set 9 (.string (str a)) (s':={ s with meth:=a }) rfl).set 10 (.string (str b)) (s':={ s with meth:=a,targ:=b }) rfl).set 11 (.int .i64 v) (s':={ s with meth:=a,targ:=b,minor:=v }) rfl).set 12 _ rfl
theorem hRequest_good (k P:Nat) (hk:0 < k) (s:Pst) (l a b t:List UInt8) (hne:l ≠ []) (hl:l.length ≤ 8192) (hw:w3 l=some (a,b,t)) (hgood:reqG (a,b,t)=true) (w:World) (o:Ow) (h:PsAt w o k P s) (hG:Gl w o) :
  Calls Tryz.prog 37 #[.pointer (some ⟨P,0,none⟩),.string (str l)] w (TurnsP k w o P (reqP s l)):=by
 obtain ⟨A,c,B,d,hr,h1,h2,h3,h4⟩:=h.row
 have c6:=hr.c6
 have f8:=hr.fz 8 (by decide)
 have c8:=hr.c8
 have HE:=Lib.hid h
 have HZ:=Lib.hid (show (w.setCell ⟨P,8,none⟩ (.func (.func 51) #[.pointer (some ⟨P,0,none⟩)] #[])).heap.size=w.heap.size from by simp)
 have HG:=Lib.hid ((hG.stp (set_stp 8 (.func (.func 51) #[.pointer (some ⟨P,0,none⟩)] #[]) h.own) (by unfold KP; omega)).mx)
 have HROW:=Lib.hid (hr.set 8 (.func (.func 51) #[.pointer (some ⟨P,0,none⟩)] #[]) (s':={ s with nx:=51 }) rfl)
 have e1:l.isEmpty=false:=by rw [List.isEmpty_eq_false_iff]; exact hne
 have e2:(str l).toList.isEmpty=false:=by rw [Lib.toList_data]; exact e1
 have hl2:l.length ≤ 4000000000:=by omega
 clear hr h1 h2 h3 h4 h hG
 have HQ:=Lib.hid (show reqP s l=({ s with nx:=51,meth:=a,targ:=b,minor:=(verH t).1 },0) from by unfold reqP; rw [if_neg (fun h=>hne h.1),hw]; dsimp only; rw [hgood]; rfl)
 have CS:=Lib.hid (fun w hM=>SplitN_three l a b t hl2 hw w hM)
 obtain ⟨la,lb,lt⟩:=len_w3 hw 8192 hl
 have CT:=fun w=>Token_h a (by unfold maxLen; omega) w
 have CG:=fun w=>hTarget_c b (by omega) w
 have CV:=fun w=>hVersion_c t (by unfold maxLen; omega) w
 unfold reqG at hgood
 simp only [Bool.and_eq_true,decide_eq_true_eq] at hgood
 obtain ⟨⟨⟨g1,g2⟩,g3⟩,g4⟩:=hgood
 rw [g2] at CT
 rw [g3] at CG
 rw [g4] at CV
 obtain ⟨v,hv⟩:∃ v,v=(verH t).1:=⟨_,rfl⟩
 rw [← hv] at CV HQ
 have CT:=Lib.hid CT
 have CG:=Lib.hid CG
 have CV:=Lib.hid CV
 have k2:(a.length:Int) ≤ 32:=by omega
 clear hw hne hl hl2 g1 g2 g3 g4 hv la lb lt
 go_enter Tryz.func37,Tryz.ntmps37
 go_wp2_with (first
  | (go_at_call 52; refine (CS.out _ HG.out).mono ?_; rintro e w2 ⟨rfl,hx2,p0,p1,p2⟩; rw [HZ.out] at p0 p1 p2)
  | (go_at_call 54; refine (CT.out _).mono ?_; rintro e w3 ⟨rfl,hx3⟩; have q0:=(hx3.cell (lt_of_cell p0)).trans p0; have q1:=(hx3.cell (lt_of_cell p1)).trans p1; have q2:=(hx3.cell (lt_of_cell p2)).trans p2; clear p0 p1 p2)
  | (go_at_call 55; refine (CG.out _).mono ?_; rintro e w4 ⟨rfl,hx4⟩; have r0:=(hx4.cell (lt_of_cell q0)).trans q0; have r1:=(hx4.cell (lt_of_cell q1)).trans q1; have r2:=(hx4.cell (lt_of_cell q2)).trans q2; clear q0 q1 q2)
  | (go_at_call 56; refine (CV.out _).mono ?_; rintro e w5 ⟨rfl,rfl⟩)
  | (go_at_call 53; refine (demand_yes _ _).mono ?_; rintro e w6 ⟨rfl,rfl⟩))
 have hx:Ext (w.setCell ⟨P,8,none⟩ (.func (.func 51) #[.pointer (some ⟨P,0,none⟩)] #[])) w4:=by (repeat first | exact Ex0 | assumption | refine Ex1 ?_ | refine Ex2 ?_ | refine Ex3 ?_ | refine Ex4 ?_ | refine Ex5 ?_)
 have hr4:=HROW.out.ext hx
 have f9:=hr4.fz 9 (by decide)
 have f10:=hr4.fz 10 (by decide)
 have f11:=hr4.fz 11 (by decide)
 have f12:=hr4.fz 12 (by decide)
 have k9:=(row_facts hr4 9 _ rfl).1
 have k10:=(row_facts hr4 10 _ rfl).1
 have k11:=(row_facts hr4 11 _ rfl).1
 have k12:=(row_facts hr4 12 _ rfl).1
 clear hr4
 go_region_with (fail)
 all_goals go_wp2
 all_goals go_end0
 all_goals rw [HQ.out]
 all_goals (
  obtain ⟨h5,h6⟩:=((HE.out.nxt 51).ext hx).fst a b v
  exact ⟨rfl,o,h5.ext (by (repeat first | exact Ex0 | assumption | refine Ex1 ?_ | refine Ex2 ?_ | refine Ex3 ?_ | refine Ex4 ?_ | refine Ex5 ?_)),((set_stp 8 _ HE.out.own).tr (Stp.ext hx)).tr (h6.tr (Stp.ext (by (repeat first | exact Ex0 | assumption | refine Ex1 ?_ | refine Ex2 ?_ | refine Ex3 ?_ | refine Ex4 ?_ | refine Ex5 ?_))))⟩)
theorem hRequest_c (k P:Nat) (hk:0 < k) (s:Pst) (l:List UInt8) (hl:l.length ≤ 8192) (w:World) (o:Ow) (h:PsAt w o k P s) (hG:Gl w o) :
  Calls Tryz.prog 37 #[.pointer (some ⟨P,0,none⟩),.string (str l)] w (TurnsP k w o P (reqP s l)):=by
 by_cases hl0:l=[]
 ·subst hl0
  by_cases he:s.empty < 4
  ·exact hRequest_empty k P s he w o h
  ·exact hRequest_few0 k P hk s he w o h hG
 ·cases hw:w3 l with
  | none=>exact hRequest_few k P hk s l hl0 hl hw w o h hG
  | some p =>
   obtain ⟨a,b,t⟩:=p
   cases hg:reqG (a,b,t) with
   | false=>exact hRequest_bad k P hk s l a b t hl0 hl hw hg w o h hG
   | true=>exact hRequest_good k P hk s l a b t hl0 hl hw hg w o h hG
end Go.Proofs.YthbofilcnpdghaaGreatDoor
end
section
namespace Go.Proofs.YthbofilcnpdghaaGreatDoor
open Go.RowKit
theorem hResponse_few (k P:Nat) (hk:0 < k) (s:Pst) (l:List UInt8) (hl:l.length ≤ 8192) (hw:w3 l=none) (w:World) (o:Ow) (h:PsAt w o k P s) (hG:Gl w o) :
  Calls Tryz.prog 38 #[.pointer (some ⟨P,0,none⟩),.string (str l)] w (TurnsP k w o P (rspP s l)):=by
 obtain ⟨A,c,B,d,hr,h1,h2,h3,h4⟩:=h.row
 have f8:=hr.fz 8 (by decide)
 have c8:=hr.c8
 have HE:=Lib.hid h
 have HZ:=Lib.hid (show (w.setCell ⟨P,8,none⟩ (.func (.func 51) #[.pointer (some ⟨P,0,none⟩)] #[])).heap.size=w.heap.size from by simp)
 have HG:=Lib.hid (hG.stp (set_stp 8 (.func (.func 51) #[.pointer (some ⟨P,0,none⟩)] #[]) h.own) (by unfold KP; omega))
 have HROW:=Lib.hid (hr.set 8 (.func (.func 51) #[.pointer (some ⟨P,0,none⟩)] #[]) (s':={ s with nx:=51 }) rfl)
 have hl2:l.length ≤ 4000000000:=by omega
 clear hr h1 h2 h3 h4 h hG
 have HQ:=Lib.hid (show rspP s l=({ s with nx:=51 },43) from by unfold rspP; rw [hw])
 obtain ⟨n,hn,CS⟩:=SplitN_few l hl2 hw
 have d1:((n:Int) == 3)=false:=by rw [beq_eq_false_iff_ne]; omega
 have CS:=Lib.hid CS
 clear hw HROW
 go_enter Tryz.func38,Tryz.ntmps38
 go_wp2_with (first
  | (go_at_call 52; refine (CS.out _ HG.out.mx).mono ?_; rintro e w2 ⟨rfl,hx2⟩)
  | (go_at_call 53; refine (demand_no _ _).mono ?_; rintro e w3 ⟨rfl,rfl⟩))
 simp only [bodyPost]
 rw [HQ.out]
 refine ⟨trivial,rfl,o,(HE.out.nxt _).ext (by (repeat first | exact Ex0 | assumption | refine Ex1 ?_ | refine Ex2 ?_ | refine Ex3 ?_ | refine Ex4 ?_ | refine Ex5 ?_)),(set_stp 8 _ HE.out.own).tr (Stp.ext (by (repeat first | exact Ex0 | assumption | refine Ex1 ?_ | refine Ex2 ?_ | refine Ex3 ?_ | refine Ex4 ?_ | refine Ex5 ?_)))⟩
theorem hResponse_bad (k P:Nat) (hk:0 < k) (s:Pst) (l a b t:List UInt8) (hl:l.length ≤ 8192) (hw:w3 l=some (a,b,t)) (hbad:rspG (a,b,t)=false) (w:World) (o:Ow) (h:PsAt w o k P s) (hG:Gl w o) :
  Calls Tryz.prog 38 #[.pointer (some ⟨P,0,none⟩),.string (str l)] w (TurnsP k w o P (rspP s l)):=by
 obtain ⟨A,c,B,d,hr,h1,h2,h3,h4⟩:=h.row
 have f8:=hr.fz 8 (by decide)
 have c8:=hr.c8
 have HE:=Lib.hid h
 have HZ:=Lib.hid (show (w.setCell ⟨P,8,none⟩ (.func (.func 51) #[.pointer (some ⟨P,0,none⟩)] #[])).heap.size=w.heap.size from by simp)
 have HG:=Lib.hid (hG.stp (set_stp 8 (.func (.func 51) #[.pointer (some ⟨P,0,none⟩)] #[]) h.own) (by unfold KP; omega))
 have HROW:=Lib.hid (hr.set 8 (.func (.func 51) #[.pointer (some ⟨P,0,none⟩)] #[]) (s':={ s with nx:=51 }) rfl)
 have hl2:l.length ≤ 4000000000:=by omega
 clear hr h1 h2 h3 h4 h hG
 have HQ:=Lib.hid (show rspP s l=({ s with nx:=51 },43) from by unfold rspP; rw [hw]; dsimp only; rw [hbad]; rfl)
 have CS:=Lib.hid (fun w hM=>SplitN_three l a b t hl2 hw w hM)
 obtain ⟨la,lb,lt⟩:=len_w3 hw 8192 hl
 have CV:=fun w=>hVersion_c a (by unfold maxLen; omega) w
 have CD:=fun w hE=>Decimal_c b (by omega) w hE
 unfold rspG at hbad
 dsimp only at hbad
 unfold stN at hbad
 obtain ⟨gv,hgv⟩:∃ g,g=(verH a).2:=⟨_,rfl⟩
 obtain ⟨vv,hvv⟩:∃ g,g=(verH a).1:=⟨_,rfl⟩
 obtain ⟨n,hn⟩:∃ g,g=(numL 10 1000000000000000000 b).1:=⟨_,rfl⟩
 obtain ⟨en,hen⟩:∃ g,g=(numL 10 1000000000000000000 b).2:=⟨_,rfl⟩
 rw [← hgv,← hvv] at CV
 rw [← hn,← hen] at CD
 rw [← hgv,← hn,← hen] at hbad
 have CV:=Lib.hid CV
 have CD:=Lib.hid CD
 clear hgv hvv hn hen hw hl hl2
 by_cases k1:b.length=3
 rotate_left
 ·have k2:((b.length:Int) == 3)=false:=by rw [beq_eq_false_iff_ne]; omega
  clear hbad
  go_enter Tryz.func38,Tryz.ntmps38
  go_wp2_with (first
   | (go_at_call 52; refine (CS.out _ HG.out.mx).mono ?_; rintro e w2 ⟨rfl,hx2,p0,p1,p2⟩; rw [HZ.out] at p0 p1 p2; have er2:=HG.out.er.ext hx2)
   | (go_at_call 56; refine (CV.out _).mono ?_; rintro e w3 ⟨rfl,rfl⟩)
   | (go_at_call 57; refine (CD.out _ er2).mono ?_; rintro e w4 ⟨rfl,hx4⟩; have r0:=(hx4.cell (lt_of_cell p0)).trans p0; have r1:=(hx4.cell (lt_of_cell p1)).trans p1; have r2:=(hx4.cell (lt_of_cell p2)).trans p2; clear p0 p1 p2 er2; have hr4:=HROW.out.ext (hx2.tr hx4); have f11:=hr4.fz 11 (by decide); have f13:=hr4.fz 13 (by decide); have f14:=hr4.fz 14 (by decide); have k11:=(row_facts hr4 11 _ rfl).1; have k13:=(row_facts hr4 13 _ rfl).1; have k14:=(row_facts hr4 14 _ rfl).1; clear hr4)
   | (go_at_call 53; refine (demand_c _ _ _).mono ?_; rintro e w6 ⟨hy,hn,rfl⟩; first | (obtain rfl:=hy rfl; clear hy hn) | (obtain rfl:=hn rfl; clear hy hn) | (obtain rfl:=hy d9; clear hy hn) | (obtain rfl:=hn d9; clear hy hn)))
  simp only [bodyPost]
  rw [HQ.out]
  refine ⟨trivial,rfl,o,(HE.out.nxt _).ext (by (repeat first | exact Ex0 | assumption | refine Ex1 ?_ | refine Ex2 ?_ | refine Ex3 ?_ | refine Ex4 ?_ | refine Ex5 ?_)),(set_stp 8 _ HE.out.own).tr (Stp.ext (by (repeat first | exact Ex0 | assumption | refine Ex1 ?_ | refine Ex2 ?_ | refine Ex3 ?_ | refine Ex4 ?_ | refine Ex5 ?_)))⟩
 ·rw [decide_eq_true k1,Bool.true_and] at hbad
  have k2:((b.length:Int) == 3)=true:=by rw [beq_iff_eq]; omega
  clear k1 la lb lt
  cases gv with
  | false =>
   clear hbad
   go_enter Tryz.func38,Tryz.ntmps38
   go_wp2_with (first
    | (go_at_call 52; refine (CS.out _ HG.out.mx).mono ?_; rintro e w2 ⟨rfl,hx2,p0,p1,p2⟩; rw [HZ.out] at p0 p1 p2; have er2:=HG.out.er.ext hx2)
    | (go_at_call 56; refine (CV.out _).mono ?_; rintro e w3 ⟨rfl,rfl⟩)
    | (go_at_call 57; refine (CD.out _ er2).mono ?_; rintro e w4 ⟨rfl,hx4⟩; have r0:=(hx4.cell (lt_of_cell p0)).trans p0; have r1:=(hx4.cell (lt_of_cell p1)).trans p1; have r2:=(hx4.cell (lt_of_cell p2)).trans p2; clear p0 p1 p2 er2; have hr4:=HROW.out.ext (hx2.tr hx4); have f11:=hr4.fz 11 (by decide); have f13:=hr4.fz 13 (by decide); have f14:=hr4.fz 14 (by decide); have k11:=(row_facts hr4 11 _ rfl).1; have k13:=(row_facts hr4 13 _ rfl).1; have k14:=(row_facts hr4 14 _ rfl).1; clear hr4)
    | (go_at_call 53; refine (demand_c _ _ _).mono ?_; rintro e w6 ⟨hy,hn,rfl⟩; first | (obtain rfl:=hy rfl; clear hy hn) | (obtain rfl:=hn rfl; clear hy hn) | (obtain rfl:=hy d9; clear hy hn) | (obtain rfl:=hn d9; clear hy hn)))
   simp only [bodyPost]
   rw [HQ.out]
   refine ⟨trivial,rfl,o,(HE.out.nxt _).ext (by (repeat first | exact Ex0 | assumption | refine Ex1 ?_ | refine Ex2 ?_ | refine Ex3 ?_ | refine Ex4 ?_ | refine Ex5 ?_)),(set_stp 8 _ HE.out.own).tr (Stp.ext (by (repeat first | exact Ex0 | assumption | refine Ex1 ?_ | refine Ex2 ?_ | refine Ex3 ?_ | refine Ex4 ?_ | refine Ex5 ?_)))⟩
  | true =>
   rw [Bool.true_and] at hbad
   by_cases k3:en=0
   rotate_left
   ·have k4:(en == 0)=false:=by rw [beq_eq_false_iff_ne]; exact k3
    clear hbad
    go_enter Tryz.func38,Tryz.ntmps38
    go_wp2_with (first
     | (go_at_call 52; refine (CS.out _ HG.out.mx).mono ?_; rintro e w2 ⟨rfl,hx2,p0,p1,p2⟩; rw [HZ.out] at p0 p1 p2; have er2:=HG.out.er.ext hx2)
     | (go_at_call 56; refine (CV.out _).mono ?_; rintro e w3 ⟨rfl,rfl⟩)
     | (go_at_call 57; refine (CD.out _ er2).mono ?_; rintro e w4 ⟨rfl,hx4⟩; have r0:=(hx4.cell (lt_of_cell p0)).trans p0; have r1:=(hx4.cell (lt_of_cell p1)).trans p1; have r2:=(hx4.cell (lt_of_cell p2)).trans p2; clear p0 p1 p2 er2; have hr4:=HROW.out.ext (hx2.tr hx4); have f11:=hr4.fz 11 (by decide); have f13:=hr4.fz 13 (by decide); have f14:=hr4.fz 14 (by decide); have k11:=(row_facts hr4 11 _ rfl).1; have k13:=(row_facts hr4 13 _ rfl).1; have k14:=(row_facts hr4 14 _ rfl).1; clear hr4)
     | (go_at_call 53; refine (demand_c _ _ _).mono ?_; rintro e w6 ⟨hy,hn,rfl⟩; first | (obtain rfl:=hy rfl; clear hy hn) | (obtain rfl:=hn rfl; clear hy hn) | (obtain rfl:=hy d9; clear hy hn) | (obtain rfl:=hn d9; clear hy hn)))
    simp only [bodyPost]
    rw [HQ.out]
    refine ⟨trivial,rfl,o,(HE.out.nxt _).ext (by (repeat first | exact Ex0 | assumption | refine Ex1 ?_ | refine Ex2 ?_ | refine Ex3 ?_ | refine Ex4 ?_ | refine Ex5 ?_)),(set_stp 8 _ HE.out.own).tr (Stp.ext (by (repeat first | exact Ex0 | assumption | refine Ex1 ?_ | refine Ex2 ?_ | refine Ex3 ?_ | refine Ex4 ?_ | refine Ex5 ?_)))⟩
   ·subst k3
    rw [decide_eq_true rfl,Bool.true_and] at hbad
    by_cases k5:n < 100
    ·clear hbad
     go_enter Tryz.func38,Tryz.ntmps38
     go_wp2_with (first
      | (go_at_call 52; refine (CS.out _ HG.out.mx).mono ?_; rintro e w2 ⟨rfl,hx2,p0,p1,p2⟩; rw [HZ.out] at p0 p1 p2; have er2:=HG.out.er.ext hx2)
      | (go_at_call 56; refine (CV.out _).mono ?_; rintro e w3 ⟨rfl,rfl⟩)
      | (go_at_call 57; refine (CD.out _ er2).mono ?_; rintro e w4 ⟨rfl,hx4⟩; have r0:=(hx4.cell (lt_of_cell p0)).trans p0; have r1:=(hx4.cell (lt_of_cell p1)).trans p1; have r2:=(hx4.cell (lt_of_cell p2)).trans p2; clear p0 p1 p2 er2; have hr4:=HROW.out.ext (hx2.tr hx4); have f11:=hr4.fz 11 (by decide); have f13:=hr4.fz 13 (by decide); have f14:=hr4.fz 14 (by decide); have k11:=(row_facts hr4 11 _ rfl).1; have k13:=(row_facts hr4 13 _ rfl).1; have k14:=(row_facts hr4 14 _ rfl).1; clear hr4)
      | (go_at_call 53; refine (demand_c _ _ _).mono ?_; rintro e w6 ⟨hy,hn,rfl⟩; first | (obtain rfl:=hy rfl; clear hy hn) | (obtain rfl:=hn rfl; clear hy hn) | (obtain rfl:=hy d9; clear hy hn) | (obtain rfl:=hn d9; clear hy hn)))
     simp only [bodyPost]
     rw [HQ.out]
     refine ⟨trivial,rfl,o,(HE.out.nxt _).ext (by (repeat first | exact Ex0 | assumption | refine Ex1 ?_ | refine Ex2 ?_ | refine Ex3 ?_ | refine Ex4 ?_ | refine Ex5 ?_)),(set_stp 8 _ HE.out.own).tr (Stp.ext (by (repeat first | exact Ex0 | assumption | refine Ex1 ?_ | refine Ex2 ?_ | refine Ex3 ?_ | refine Ex4 ?_ | refine Ex5 ?_)))⟩
    ·rw [decide_eq_true (by omega),Bool.true_and] at hbad
     have k6:¬ n ≤ 599:=by simpa using hbad
     have k7:100 ≤ n:=by omega
     have d9:decide (n ≤ 599)=false:=decide_eq_false k6
     clear hbad
     go_enter Tryz.func38,Tryz.ntmps38
     go_wp2_with (first
      | (go_at_call 52; refine (CS.out _ HG.out.mx).mono ?_; rintro e w2 ⟨rfl,hx2,p0,p1,p2⟩; rw [HZ.out] at p0 p1 p2; have er2:=HG.out.er.ext hx2)
      | (go_at_call 56; refine (CV.out _).mono ?_; rintro e w3 ⟨rfl,rfl⟩)
      | (go_at_call 57; refine (CD.out _ er2).mono ?_; rintro e w4 ⟨rfl,hx4⟩; have r0:=(hx4.cell (lt_of_cell p0)).trans p0; have r1:=(hx4.cell (lt_of_cell p1)).trans p1; have r2:=(hx4.cell (lt_of_cell p2)).trans p2; clear p0 p1 p2 er2; have hr4:=HROW.out.ext (hx2.tr hx4); have f11:=hr4.fz 11 (by decide); have f13:=hr4.fz 13 (by decide); have f14:=hr4.fz 14 (by decide); have k11:=(row_facts hr4 11 _ rfl).1; have k13:=(row_facts hr4 13 _ rfl).1; have k14:=(row_facts hr4 14 _ rfl).1; clear hr4)
      | (go_at_call 53; refine (demand_c _ _ _).mono ?_; rintro e w6 ⟨hy,hn,rfl⟩; first | (obtain rfl:=hy rfl; clear hy hn) | (obtain rfl:=hn rfl; clear hy hn) | (obtain rfl:=hy d9; clear hy hn) | (obtain rfl:=hn d9; clear hy hn)))
     simp only [bodyPost]
     rw [HQ.out]
     refine ⟨trivial,rfl,o,(HE.out.nxt _).ext (by (repeat first | exact Ex0 | assumption | refine Ex1 ?_ | refine Ex2 ?_ | refine Ex3 ?_ | refine Ex4 ?_ | refine Ex5 ?_)),(set_stp 8 _ HE.out.own).tr (Stp.ext (by (repeat first | exact Ex0 | assumption | refine Ex1 ?_ | refine Ex2 ?_ | refine Ex3 ?_ | refine Ex4 ?_ | refine Ex5 ?_)))⟩
theorem PsAt.rsp {w:World} {o:Ow} {k P:Nat} {s:Pst} (h:PsAt w o k P s) (v n:Int) (t:List UInt8) :
  PsAt (((w.setCell ⟨P,11,none⟩ (.int .i64 v)).setCell ⟨P,13,none⟩ (.int .i64 n)).setCell ⟨P,14,none⟩ (.string (str t))) o k P { s with minor:=v,status:=n,reason:=t } ∧
   Stp (KP k) w o (((w.setCell ⟨P,11,none⟩ (.int .i64 v)).setCell ⟨P,13,none⟩ (.int .i64 n)).setCell ⟨P,14,none⟩ (.string (str t))) o:=by
 obtain ⟨A,c,B,d,hr,h1,h2,h3,h4⟩:=h.row
 have st:Stp (fun i=>i=k) w o (((w.setCell ⟨P,11,none⟩ (.int .i64 v)).setCell ⟨P,13,none⟩ (.int .i64 n)).setCell ⟨P,14,none⟩ (.string (str t))) o:=((Stp.set P 11 _ (fun _=>h.own)).tr (Stp.set P 13 _ (fun _=>h.own))).tr (Stp.set P 14 _ (fun _=>h.own))
 refine ⟨PsAt.of h.own ?_ (h1.stp st (by omega)) h2 (h3.stp st (by omega)) h4,st.mono fun i hi=>.inl hi⟩
 exact ((hr.set 11 (.int .i64 v) (s':={ s with minor:=v }) rfl).set 13 (.int .i64 n) (s':={ s with minor:=v,status:=n }) rfl).set 14 _ rfl
theorem hResponse_good (k P:Nat) (hk:0 < k) (s:Pst) (l a b t:List UInt8) (hl:l.length ≤ 8192) (hw:w3 l=some (a,b,t)) (hgood:rspG (a,b,t)=true) (w:World) (o:Ow) (h:PsAt w o k P s) (hG:Gl w o) :
  Calls Tryz.prog 38 #[.pointer (some ⟨P,0,none⟩),.string (str l)] w (TurnsP k w o P (rspP s l)):=by
 obtain ⟨A,c,B,d,hr,h1,h2,h3,h4⟩:=h.row
 have f8:=hr.fz 8 (by decide)
 have c8:=hr.c8
 have HE:=Lib.hid h
 have HZ:=Lib.hid (show (w.setCell ⟨P,8,none⟩ (.func (.func 51) #[.pointer (some ⟨P,0,none⟩)] #[])).heap.size=w.heap.size from by simp)
 have HG:=Lib.hid (hG.stp (set_stp 8 (.func (.func 51) #[.pointer (some ⟨P,0,none⟩)] #[]) h.own) (by unfold KP; omega))
 have HROW:=Lib.hid (hr.set 8 (.func (.func 51) #[.pointer (some ⟨P,0,none⟩)] #[]) (s':={ s with nx:=51 }) rfl)
 have hl2:l.length ≤ 4000000000:=by omega
 clear hr h1 h2 h3 h4 h hG
 have HQ:=Lib.hid (show rspP s l=({ s with nx:=51,minor:=(verH a).1,status:=(stN b).1,reason:=t },0) from by unfold rspP; rw [hw]; dsimp only; rw [hgood]; rfl)
 have CS:=Lib.hid (fun w hM=>SplitN_three l a b t hl2 hw w hM)
 obtain ⟨la,lb,lt⟩:=len_w3 hw 8192 hl
 have CV:=fun w=>hVersion_c a (by unfold maxLen; omega) w
 have CD:=fun w hE=>Decimal_c b (by omega) w hE
 unfold rspG at hgood
 unfold stN at hgood HQ
 simp only [Bool.and_eq_true,decide_eq_true_eq] at hgood
 obtain ⟨⟨⟨⟨g1,g2⟩,g3⟩,g4⟩,g5⟩:=hgood
 rw [g2] at CV
 rw [g3] at CD
 obtain ⟨vv,hvv⟩:∃ g,g=(verH a).1:=⟨_,rfl⟩
 obtain ⟨n,hn⟩:∃ g,g=(numL 10 1000000000000000000 b).1:=⟨_,rfl⟩
 rw [← hvv] at CV HQ
 rw [← hn] at CD HQ g4 g5
 have CV:=Lib.hid CV
 have CD:=Lib.hid CD
 have k2:((b.length:Int) == 3)=true:=by rw [beq_iff_eq]; omega
 have k3:100 ≤ n:=by omega
 have k4:n ≤ 599:=by omega
 have d9:decide (n ≤ 599)=true:=decide_eq_true k4
 clear hw hl hl2 g1 g2 g3 g4 g5 hvv hn la lb lt
 go_enter Tryz.func38,Tryz.ntmps38
 go_wp2_with (first
  | (go_at_call 52; refine (CS.out _ HG.out.mx).mono ?_; rintro e w2 ⟨rfl,hx2,p0,p1,p2⟩; rw [HZ.out] at p0 p1 p2; have er2:=HG.out.er.ext hx2)
  | (go_at_call 56; refine (CV.out _).mono ?_; rintro e w3 ⟨rfl,rfl⟩)
  | (go_at_call 57; refine (CD.out _ er2).mono ?_; rintro e w4 ⟨rfl,hx4⟩; have r0:=(hx4.cell (lt_of_cell p0)).trans p0; have r1:=(hx4.cell (lt_of_cell p1)).trans p1; have r2:=(hx4.cell (lt_of_cell p2)).trans p2; clear p0 p1 p2 er2; have hr4:=HROW.out.ext (hx2.tr hx4); have f11:=hr4.fz 11 (by decide); have f13:=hr4.fz 13 (by decide); have f14:=hr4.fz 14 (by decide); have k11:=(row_facts hr4 11 _ rfl).1; have k13:=(row_facts hr4 13 _ rfl).1; have k14:=(row_facts hr4 14 _ rfl).1; clear hr4)
  | (go_at_call 53; refine (demand_c _ _ _).mono ?_; rintro e w6 ⟨hy,hn,rfl⟩; first | (obtain rfl:=hy rfl; clear hy hn) | (obtain rfl:=hn rfl; clear hy hn) | (obtain rfl:=hy d9; clear hy hn) | (obtain rfl:=hn d9; clear hy hn)))
 go_end0
 rw [HQ.out]
 have hx:Ext (w.setCell ⟨P,8,none⟩ (.func (.func 51) #[.pointer (some ⟨P,0,none⟩)] #[])) w4:=hx2.tr hx4
 obtain ⟨h5,h6⟩:=((HE.out.nxt 51).ext hx).rsp vv n t
 exact ⟨rfl,o,h5,((set_stp 8 _ HE.out.own).tr (Stp.ext hx)).tr h6⟩
theorem hResponse_c (k P:Nat) (hk:0 < k) (s:Pst) (l:List UInt8) (hl:l.length ≤ 8192) (w:World) (o:Ow) (h:PsAt w o k P s) (hG:Gl w o) :
  Calls Tryz.prog 38 #[.pointer (some ⟨P,0,none⟩),.string (str l)] w (TurnsP k w o P (rspP s l)):=by
 cases hw:w3 l with
 | none=>exact hResponse_few k P hk s l hl hw w o h hG
 | some p =>
  obtain ⟨a,b,t⟩:=p
  cases hg:rspG (a,b,t) with
  | false=>exact hResponse_bad k P hk s l a b t hl hw hg w o h hG
  | true=>exact hResponse_good k P hk s l a b t hl hw hg w o h hG
end Go.Proofs.YthbofilcnpdghaaGreatDoor
end
