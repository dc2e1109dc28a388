/-
ConnOrder, walked.
-/
import Derived.Test.YthbofilcnpdghaaGreatDoorZbx
set_option maxRecDepth 100000
set_option maxHeartbeats 8000000
set_option linter.unusedVariables false
set_option linter.unusedSimpArgs false
namespace Go.Proofs.YthbofilcnpdghaaGreatDoor
open Go.RowKit
def LookL (w:World) (n:Nat) (v:Value) (wr:World):Prop:=∃ i,v=.int .i64 ((i:Nat):Int)∧i≤n∧Ext w wr
theorem connOrder_w (w:World) (hL:Lb w) (b:List UInt8) (B:Option Addr) (bn bd:Nat) (hn:bn=b.length) (hd:bn≤bd) (hnb:bn≤4611686018427387903) (hB:Rd w B (bc b)) (cs:List Int) (C:Option Addr) (m q:Nat) (hm:m=cs.length) (hmb:m≤4611686018427387903) (hcs:∀ c∈cs,-9223372036854775808≤c∧c≤9223372036854775807) (hC:Rd w C (cs.map (Value.int .i64))) :
  Calls Tryz.prog 5 #[.slice B bn bd,.slice C m q] w (Gives (.bool true) w):=by
 have HL:=Hy hL
 have HN:=Hy (show bn=b.length∧bn≤bd∧bn≤4611686018427387904 from ⟨hn,hd,by omega⟩)
 have HB:=Hy hB
 have HCC:=Hy hC
 have HCS:=Hy hcs
 have HMM:=Hy hm
 have CN:=Hy (show Calls Tryz.prog 7 #[.agg #[.int .i64 1000,.int .i64 0],.int .i64 0] w _ from nNew_c 20 (by decide) (by decide) 1000 0 (by decide) (by decide) w (fun _=>0))
 clear hL hn hd hnb hB hC hcs hm
 go_enter Tryz.func5,Tryz.ntmps5
 go_upto_region 4 with (first
  | (go_at_call 7;refine (CN.out).mono ?_;rintro e w1 ⟨c,o1,rfl,hC1,st1,hle⟩;have ST1:=Hy (no100 st1 (fun _ _=>by decide));have HC1:=Hy hC1;clear st1 hC1 hle)
  | (go_at_call 8;refine (nNum_c _ _).mono ?_;rintro e w2 ⟨rfl,hw⟩;subst hw)
  | (go_at_call 9;refine (knows_c w HL.out w1 (o99 o1) ((Old.start w).sto ST1.out (fun h=>h)) (fun b _=>o99_no o1 b)).mono ?_;rintro e w2 ⟨rfl,o2,st2,hn2⟩))
 have HO2:=Hy (((Old.start w).sto ST1.out (fun h=>h)).sto st2 (kc0 (by decide)))
 have HC2:=Hy ((HC1.out.o99 (by decide) (by decide)).sto st2 (kc0 (by decide)) (kc_no (k:=60) (j:=20) (by decide) (by decide) (by decide)).1 (fun a _=>(kc_no (k:=60) (j:=20) (by decide) (by decide) (by decide)).2 a.id))
 have HN2:=Hy hn2
 clear hn2 st2 ST1 HC1
 have CI:=nInput_c w HL.out 95 20 c (by decide) (by decide) (by decide) [] (newC 1000) (.inl (new_in (by decide))) b B bn bd HN.out.1 HN.out.2.1 HN.out.2.2 w2 o2 HO2.out HN2.out HC2.out (Ro.olds HB.out HO2.out)
 rw [put_new] at CI
 obtain ⟨z,hz⟩:∃ z,z=allC (newC 1000) b:=⟨_,rfl⟩
 have HRF:=Hy (show RefOk z.row from by rw [hz];exact reads_ref _ _ _ (fun st h=>by cases h))
 have HI:=Hy (show InI [] z from by rw [hz];exact all_in (new_in (by decide)) b)
 rw [← hz] at CI
 dsimp only at CI
 have CI:=Hy CI
 clear hz
 go_cut [7] (fun v7 wx=>∃ A d o,v7=.slice A z.evs.length d∧OrS w c (putC z) z.evs A z.evs.length d none [] wx o)
 case first =>
  go_wp2_with (go_at_call 10;refine (CI.out).mono ?_;rintro e w3 ⟨v,o3,rfl,⟨⟨A,d,es,rfl,e1,e2,e3⟩,h2,h3⟩,st3⟩)
  go_meet
  exact ⟨A,d,o3,rfl,HO2.out.sto st3 (kc0 (by decide)),h3,h2,⟨es,e1,e3⟩,.inl rfl⟩
 case rest =>
  obtain ⟨A,d,o3,rfl,hS⟩:=hcut
  obtain ⟨t,ht,hrow,hOI⟩:=OrI.start HI.out numF
  have HS:=Hy hS
  have HT:=Hy ht
  have HOI:=Hy hOI
  have HNL:=Hy (fun h=>no_last HI.out hrow h)
  have hmem:∀ x∈t,x∈z.row:=fun x hx=>by rw [hrow];exact List.mem_append_right _ hx
  have HRT:=Hy (show RefOk t from fun st h=>HRF.out st (hmem _ h))
  have HKT:=Hy (show RowOk t from fun x hx=>HI.out.r x (hmem x hx))
  obtain ⟨f1,f2,f3,f4⟩:=HI.out.few
  have HFW:=Hy (And.intro f1 f4)
  have HOO:=Hy HI.out.o
  obtain ⟨r,hr⟩:∃ r,r=z.reads:=⟨_,rfl⟩
  obtain ⟨zo,hzo⟩:∃ x,x=z.out:=⟨_,rfl⟩
  obtain ⟨l,hl⟩:∃ x,x=z.evs:=⟨_,rfl⟩
  obtain ⟨n,hn⟩:∃ x,x=l.length:=⟨_,rfl⟩
  have HZ:=Hy (And.intro hr (And.intro hzo hl))
  rw [← hr] at HOI HNL
  rw [← hzo] at HOI HFW
  rw [← hl,← hn] at HS
  rw [← hl] at HOI HFW
  rw [← hl,← hn]
  have HNN:=Hy hn
  have hn64:n≤64:=by rw [hn];exact HFW.out.1
  clear hS ht hrow hOI CI HO2 HC2 HN2 hmem f1 f2 f3 f4 hr hzo hl hn HRF
  have CO:=Hy (fun (w':World) (e:Ext w w')=>order_c n hn64 cs C m q HMM.out hmb HCS.out w' (HCC.out.ext e))
  go_upto_region 7 with (go_at_call 17;refine (CO.out _ (HS.out.old.ext.tr Xq)).mono ?_;rintro e w4 ⟨O,co,P,rfl,hP,hNS,hx4⟩)
  have HP:=Hy hP
  have HS4:=Hy (show OrS w c (putC z) l A n d O P w4 (oz wc o3) from by
   have h:=HS.out.oz hx4
   obtain ⟨O',c',hv,hro⟩:=hNS.ro (o':=oz wc o3) (fun b hb=>oz_new wc o3 hb)
   cases hv
   exact ⟨h.old,h.ol,h.cn,h.ev,hro⟩)
  clear hP hNS hx4 HS CO
  go_loopw [9] (fun v wr=>OrL w c l t zo r A n d O P v wr) (fun v _=>n-(intOf v).toNat)
  case atStart=>exact ⟨0,putC z,_,rfl,Nat.zero_le _,by rw [firstA_zero];exact HOI.out,HS4.out⟩
  case round =>
   obtain ⟨i,s,o,rfl,hin,hI,hS⟩:=hrel
   have HS:=Hy hS
   have HOI2:=Hy hI
   clear hS hI HS4 HOI
   by_cases hlt:i<n
   ·have hi1:(i:Int)<(n:Int):=by omega
    have hi0:(0:Int)≤(i:Int):=by omega
    have hPl:P.length=n:=by rw [HP.out.length_eq,List.length_range]
    obtain ⟨k,hk⟩:∃ k,P[i]?=some k:=⟨_,List.getElem?_eq_getElem (by rw [hPl];exact hlt)⟩
    obtain ⟨g,f,rfl⟩:=HS.out.adr hk
    have hkn:=perm_lt HP.out hk
    have hcell:=HS.out.cell hk
    have HPK:=Hy hk
    have hks:=Hy (fun w' (e:Ext wr w')=>(e.cell (lt_of_cell hcell)).trans hcell)
    obtain ⟨sd,hsd⟩:∃ x,x=decB (k:Int):=⟨_,rfl⟩
    obtain ⟨nx,hnx⟩:∃ x,x=(numF k).length:=⟨_,rfl⟩
    have CD:=Hy (fun (w':World) (e:Ext w w')=>(by have:=Digits_c (k:Int) w' (HL.out.pw.ext e) (by omega) (by omega);rw [← hsd] at this;exact this:Calls Tryz.prog 18 #[.int .i64 (k:Int)] w' (Gives (.string sd) w')))
    have hnx3:nx≤3:=by rw [hnx];exact numF_len k (by omega)
    have CV:∀ w,(convert 9 22 (.string sd)).run Tryz.prog w=.ok (.slice (some ⟨w.heap.size,0,none⟩) nx (cvC w 5 nx)) (cvW w 5 sd):=fun w=>by
     have h0:=cv_run (P:=Tryz.prog) (e:=5) sd Tryz.underlying9 Tryz.underlying22 Tryz.underlying5 w
     have hz:sd.size=nx:=by rw [hsd,hnx];unfold decB;rw [str_size];rfl
     rw [hz] at h0
     exact h0
    have RL:=Hy (fun (W:World)=>(by have h0:=cv_slW W (fun _=>0) 7 5 (numF k) (by unfold maxLen;have:=numF_len k (by omega);omega);rw [show str (numF k)=sd from by rw [hsd];rfl] at h0;exact h0.rd:Rd (cvW W 5 sd) (some ⟨W.heap.size,0,none⟩) (bc (numF k))))
    have CA:=Hy (fun (w':World) (o':Ow) (h:OrS w c s l A n d (some ⟨g,f,none⟩) P w' o') (X:Option Addr) (dx:Nat) (hX:Ro w' o' X (bc (numF k)))=>ansO_c HL.out h HT.out HKT.out HFW.out.2 HFW.out.1 HOI2.out (firstA_new HP.out HPK.out) (by rw [← HNN.out];exact hkn) hnx (dx:=dx) hX)
    have HKN:=Hy hkn
    clear hPl hk hkn hsd hnx
    go_upto_region 9 with (fail)
    go_cut [57] (fun v wx=>v=.bool false∧∃ s2 o2,OrI (addA (firstA P i) k) numF l t zo r s2∧OrS w c s2 l A n d (some ⟨g,f,none⟩) P wx o2)
    case first =>
     refine wp_region_noPanic ?_
     refine wp_region_held_drew (S:=fun w'=>w'.cell? ⟨g,f+i,none⟩=some (.int .i64 (k:Int))) (by kernel_rfl) (hks.out _ Xq) (fun hHeld=>?_)
     refine wpAnyH_take (i:=0) (oi:=?_) (v:=?_) ?_ (by kernel_rfl) (by kernel_rfl) (by kernel_rfl) (fun _ _ _ h=>h) (Or.inl ⟨?_,?_⟩) (by assumption) ?_
     rotate_left 2
     ·(simp only [List.getElem?_toArray,List.getElem?_cons_succ,List.getElem?_cons_zero];first | done | rfl)
     ·rfl
     ·intro w hSw
      try dsimp only at hSw
      go_simp <;> with_reducible rfl
     try simp only [Act.put,List.setIfInBounds_toArray,List.set_cons_zero,List.set_cons_succ]
     refine wpAnyH_take (i:=1) (oi:=?_) (v:=?_) ?_ (by kernel_rfl) (by kernel_rfl) (by kernel_rfl) (fun _ _ _ h=>h) (Or.inl ⟨?_,?_⟩) (by assumption) ?_
     rotate_left 2
     ·(simp only [List.getElem?_toArray,List.getElem?_cons_succ,List.getElem?_cons_zero];first | done | rfl)
     ·rfl
     ·intro w hSw
      try dsimp only at hSw
      go_simp <;> with_reducible rfl
     try simp only [Act.put,List.setIfInBounds_toArray,List.set_cons_zero,List.set_cons_succ]
     refine wpAnyH_take (i:=2) (oi:=?_) (v:=?_) ?_ (by kernel_rfl) (by kernel_rfl) (by kernel_rfl) (fun _ _ _ h=>h) (Or.inl ⟨?_,?_⟩) (by assumption) ?_
     rotate_left 2
     ·(simp only [List.getElem?_toArray,List.getElem?_cons_succ,List.getElem?_cons_zero];first | done | rfl)
     ·rfl
     ·intro w hSw
      try dsimp only at hSw
      go_simp <;> with_reducible rfl
     try simp only [Act.put,List.setIfInBounds_toArray,List.set_cons_zero,List.set_cons_succ]
     refine wpAnyH_take (i:=3) (oi:=?_) (v:=?_) ?_ (by kernel_rfl) (by kernel_rfl) (by kernel_rfl) (fun _ _ _ h=>h) (Or.inl ⟨?_,?_⟩) (by assumption) ?_
     rotate_left 2
     ·(simp only [List.getElem?_toArray,List.getElem?_cons_succ,List.getElem?_cons_zero];first | done | rfl)
     ·rfl
     ·intro w hSw
      try dsimp only at hSw
      go_simp <;> with_reducible rfl
     try simp only [Act.put,List.setIfInBounds_toArray,List.set_cons_zero,List.set_cons_succ]
     refine wpAnyH_take (i:=4) (oi:=?_) (v:=?_) ?_ (by kernel_rfl) (by kernel_rfl) (by kernel_rfl) (fun _ _ _ h=>h) (Or.inl ⟨?_,?_⟩) (by assumption) ?_
     rotate_left 2
     ·(simp only [List.getElem?_toArray,List.getElem?_cons_succ,List.getElem?_cons_zero];first | done | rfl)
     ·rfl
     ·intro w hSw
      try dsimp only at hSw
      go_simp <;> with_reducible rfl
     try simp only [Act.put,List.setIfInBounds_toArray,List.set_cons_zero,List.set_cons_succ]
     refine wpAnyH_take (i:=5) (oi:=?_) (v:=?_) ?_ (by kernel_rfl) (by kernel_rfl) (by kernel_rfl) (fun _ _ _ h=>h) (Or.inl ⟨?_,?_⟩) (by assumption) ?_
     rotate_left 2
     ·(simp only [List.getElem?_toArray,List.getElem?_cons_succ,List.getElem?_cons_zero];first | done | rfl)
     ·rfl
     ·intro w hSw
      try dsimp only at hSw
      go_simp <;> with_reducible rfl
     try simp only [Act.put,List.setIfInBounds_toArray,List.set_cons_zero,List.set_cons_succ]
     refine wpAnyH_take (i:=6) (oi:=?_) (v:=?_) ?_ (by kernel_rfl) (by kernel_rfl) (by kernel_rfl) (fun _ _ _ h=>h) (Or.inl ⟨?_,?_⟩) (by assumption) ?_
     rotate_left 2
     ·(simp only [List.getElem?_toArray,List.getElem?_cons_succ,List.getElem?_cons_zero];first | done | rfl)
     ·rfl
     ·intro w hSw
      try dsimp only at hSw
      go_simp <;> with_reducible rfl
     try simp only [Act.put,List.setIfInBounds_toArray,List.set_cons_zero,List.set_cons_succ]
     refine wpAnyH_take (i:=7) (oi:=?_) (v:=?_) ?_ (by kernel_rfl) (by kernel_rfl) (by kernel_rfl) (fun _ _ _ h=>h) (Or.inl ⟨?_,?_⟩) (by assumption) ?_
     rotate_left 2
     ·(simp only [List.getElem?_toArray,List.getElem?_cons_succ,List.getElem?_cons_zero];first | done | rfl)
     ·rfl
     ·intro w hSw
      try dsimp only at hSw
      go_simp <;> with_reducible rfl
     try simp only [Act.put,List.setIfInBounds_toArray,List.set_cons_zero,List.set_cons_succ]
     refine wpAnyH_take (i:=8) (oi:=?_) (v:=?_) ?_ (by kernel_rfl) (by kernel_rfl) (by kernel_rfl) (fun _ _ _ h=>h) (Or.inl ⟨?_,?_⟩) (by assumption) ?_
     rotate_left 2
     ·(simp only [List.getElem?_toArray,List.getElem?_cons_succ,List.getElem?_cons_zero];first | done | rfl)
     ·rfl
     ·intro w hSw
      try dsimp only at hSw
      go_simp <;> with_reducible rfl
     try simp only [Act.put,List.setIfInBounds_toArray,List.set_cons_zero,List.set_cons_succ]
     refine wpAnyH_ready (rs:=[9]) (by kernel_rfl) (by simp) ?_
     refine AllReadyH.cons rfl (fun K hK=>?_) AllReadyH.nil
     go_simp
     go_at_call 18
     refine (CD.out _ (HS.out.old.ext.tr Xq)).mono ?_
     rintro e w5 ⟨rfl,hx5⟩
     have HX5:=Hy (show Ext wr w5 from Xq)
     refine hK.out _ _ (hks.out _ HX5.out) (fun hHeld2=>?_)
     clear hHeld hx5
     clear hK K
     try simp only [List.getElem?_toArray,List.getElem?_cons_succ,List.getElem?_cons_zero,Act.put,List.setIfInBounds_toArray,List.set_cons_zero,List.set_cons_succ]
     refine wpAnyH_ready (rs:=[10]) (by kernel_rfl) (by simp) ?_
     refine AllReadyH.cons rfl (fun K hK=>?_) AllReadyH.nil
     go_simp
     obtain ⟨W6,hW6⟩:∃ W,W=cvW w5 5 sd:=⟨_,rfl⟩
     have x6:Ext wr W6:=by rw [hW6];exact HX5.out.tr (cv_ext _ _ _)
     have hro:Ro W6 (oz wr o) (some ⟨w5.heap.size,0,none⟩) (bc (numF k)):=by
      refine Ro.new (w1:=wr) (by rw [hW6];exact RL.out w5) x6 (by intro a ha;cases ha;exact HX5.out.size) (fun b hb=>oz_new wr o hb)
     rw [← hW6]
     have CA6:=Hy (fun (w':World) (e:Ext W6 w')=>CA.out w' (oz wr o) (HS.out.oz (x6.tr e)) (some ⟨w5.heap.size,0,none⟩) (cvC w5 5 nx) (hro.ext e))
     refine hK.out _ _ (hks.out _ x6) (fun hHeld3=>?_)
     clear hHeld2 x6 hro hW6
     clear hK K
     try simp only [List.getElem?_toArray,List.getElem?_cons_succ,List.getElem?_cons_zero,Act.put,List.setIfInBounds_toArray,List.set_cons_zero,List.set_cons_succ]
     refine wpAnyH_take (i:=11) (oi:=?_) (v:=?_) ?_ (by kernel_rfl) (by kernel_rfl) (by kernel_rfl) (fun _ _ _ h=>h) (Or.inl ⟨?_,?_⟩) (by assumption) ?_
     rotate_left 2
     ·(simp only [List.getElem?_toArray,List.getElem?_cons_succ,List.getElem?_cons_zero];first | done | rfl)
     ·rfl
     ·intro w hSw
      try dsimp only at hSw
      go_simp <;> with_reducible rfl
     try simp only [Act.put,List.setIfInBounds_toArray,List.set_cons_zero,List.set_cons_succ]
     refine wpAnyH_ready (rs:=[12]) (by kernel_rfl) (by simp) ?_
     refine AllReadyH.cons rfl (fun K hK=>?_) AllReadyH.nil
     go_simp
     go_at_call 13
     refine (CA6.out _ Xq).mono ?_
     rintro e w7 ⟨s2,o7,rfl,hI7,hS7⟩
     have HS7:=Hy hS7
     have HI7:=Hy hI7
     refine hK.out _ _ (hS7.cell HPK.out) (fun hHeld4=>?_)
     clear hHeld3 hS7 hI7
     clear hK K
     try simp only [List.getElem?_toArray,List.getElem?_cons_succ,List.getElem?_cons_zero,Act.put,List.setIfInBounds_toArray,List.set_cons_zero,List.set_cons_succ]
     refine wpAnyH_ready (rs:=[13]) (by kernel_rfl) (by simp) ?_
     refine AllReadyH.cons rfl (fun K hK=>?_) AllReadyH.nil
     go_simp
     go_at_call 8
     refine (nNum_c _ _).mono ?_
     rintro e w9 ⟨rfl,hw⟩
     subst hw
     refine hK.out _ _ hHeld4 (fun hHeld5=>?_)
     clear hHeld4
     clear hK K
     try simp only [List.getElem?_toArray,List.getElem?_cons_succ,List.getElem?_cons_zero,Act.put,List.setIfInBounds_toArray,List.set_cons_zero,List.set_cons_succ]
     refine wpAnyH_take (i:=14) (oi:=?_) (v:=?_) ?_ (by kernel_rfl) (by kernel_rfl) (by kernel_rfl) (fun _ _ _ h=>h) (Or.inl ⟨?_,?_⟩) (by assumption) ?_
     rotate_left 2
     ·(simp only [List.getElem?_toArray,List.getElem?_cons_succ,List.getElem?_cons_zero];first | done | rfl)
     ·rfl
     ·intro w hSw
      try dsimp only at hSw
      go_simp <;> with_reducible rfl
     try simp only [Act.put,List.setIfInBounds_toArray,List.set_cons_zero,List.set_cons_succ]
     refine wpAnyH_done (by kernel_rfl) ?_ _
     refine NoPanic.normal ?_
     try simp only [List.getElem?_toArray,List.getElem?_cons_succ,List.getElem?_cons_zero,Act.put,List.setIfInBounds_toArray,List.set_cons_zero,List.set_cons_succ]
     clear hHeld5
     go_wp2_with fail
     go_meet
     exact ⟨rfl,s2,o7,HI7.out,HS7.out⟩
    case rest =>
     obtain ⟨rfl,s2,o2,hI2,hS2⟩:=hcut
     rw [firstA_next HPK.out] at hI2
     have HI2:=Hy hI2
     have HS2:=Hy hS2
     clear hI2 hS2 CD CV RL CA hks hcell
     go_wp2
     go_roundw
     case rel=>exact ⟨i+1,s2,o2,by go_num,by omega,HI2.out,HS2.out⟩
     case measure=>simp [intOf];omega
   ·obtain rfl:i=n:=by omega
    have hi1:¬(i:Int)<(i:Int):=by omega
    clear hlt hin
    obtain ⟨g1,g2⟩:=HOI2.out.all HT.out (fun j hj=>firstA_all HP.out j (by rw [HNN.out];exact hj))
    obtain ⟨f1,f2,_⟩:=HOI2.out.fit HT.out HKT.out (fun j hj=>Nat.le_trans (numF_len j (by have:=HFW.out.1;omega)) (by decide)) HFW.out.2 HFW.out.1
    have hso:s.out.length≤1099511627776:=by omega
    have CA:=Hy (ansN_c HL.out HS.out g1 hso i)
    have CW:=Hy (fun (w':World) (o':Ow) (h:OrS w c s l A i d O P w' o')=>(by have:=nWaiting_c 20 c s (by rw [g1];simp) w' o' h.cn;rw [g1] at this;exact this:Calls Tryz.prog 16 #[.pointer (some ⟨c,0,none⟩)] w' (Tells (.int .i64 0) w')))
    obtain ⟨ko,hko⟩:∃ x,x=s.out.length:=⟨_,rfl⟩
    have CO:=Hy (fun (w':World) (o':Ow) (h:OrS w c s l A i d O P w' o')=>outO_c h hko)
    obtain ⟨ws,hws⟩:∃ x,x=wantR numF 0 l++lastR t:=⟨_,rfl⟩
    have hbod:BodS l 0 s.out ws:=by
     have h:=out_read HOO.out r numF HT.out HRT.out (fun j hj=>numF_len j (by have:=HFW.out.1;rw [← HZ.out.2.2] at hj;omega))
     rw [← HZ.out.2.2,← HZ.out.2.1] at h
     rw [g2,hws]
     exact h
    obtain ⟨lw,hlw⟩:∃ x,x=ws.length:=⟨_,rfl⟩
    have CB:=Hy (fun (w':World) (o':Ow) (s':Cst) (h:OrS w c s' l A i d O P w' o') (X:Option Addr) (dx:Nat) (hdx:ko≤dx) (hX:Rd w' X (bc s.out))=>((nBodiesL_c w' (HL.out.ext h.old.ext) l A i d HNN.out (h.meth HNN.out) s.out X ko dx hko hdx (by rw [hko];exact hso) hX ws hbod).mono (fun e w2 h=>by obtain ⟨v,rfl,⟨O2,c2,rfl,hr⟩,hx⟩:=h;exact ⟨O2,c2,by rw [hlw],hr,hx⟩):Calls Tryz.prog 19 #[.slice X ko dx,.slice A i d] w' (fun e w2=>∃ O2 c2,e=.returned (.tuple #[.slice O2 lw c2,.bool true])∧Rd w2 O2 (txV ws)∧Ext w' w2)))
    have HLW:=Hy hlw
    have HWS:=Hy hws
    have HRD:=Hy HOI2.out.rd
    have hlw2:lw=i∨(lw=i+1∧r=false):=by
     rw [hlw,hws,List.length_append,want_len,← HNN.out]
     rcases tail_len HT.out with ⟨_,h⟩ | h
     ·rw [h];left;rfl
     ·rw [h]
      right
      refine ⟨rfl,?_⟩
      cases hrr:r with
      | false=>rfl
      | true =>
       rw [HNL.out hrr] at h
       cases h
    have HL2:=Hy hlw2
    have k1:¬(lw:Int)<(i:Int):=by rcases hlw2 with h | h <;> omega
    have k2:¬(i:Int)+1<(lw:Int):=by rcases hlw2 with h | h <;> omega
    have k3:IntKind.i64.wrap ((i:Int)+1)=(i:Int)+1:=by rw [IntKind.wrap_i64];omega
    have kd1:decide (lw<i)=false:=by rw [decide_eq_false_iff_not];omega
    have kd2:decide ((i:Int)+1<(lw:Int))=false:=by rw [decide_eq_false_iff_not];exact k2
    clear g1 g2 f1 f2 hso hko hws hbod hlw HOI2 HFW hlw2
    go_upto_region 17 with (first
     | (go_at_call 13;refine (CA.out).mono ?_;clear CA;rintro e w5 ⟨o5,rfl,hS5⟩;have HS5:=Hy hS5;clear hS5)
     | (go_at_call 8;refine (nNum_c _ _).mono ?_;rintro e w9 ⟨rfl,hw⟩;subst hw)
     | (go_at_call 16;refine (CW.out _ _ HS5.out).mono ?_;rintro e w9 ⟨rfl,hw⟩;subst hw)
     | (go_at_call 14;refine (CO.out _ _ HS5.out).mono ?_;rintro e w6 ⟨X,dx,o6,rfl,hdx,hS6,hX⟩;have HS6:=Hy hS6;have HX:=Hy hX;have HDX:=Hy hdx;clear hS6 hX hdx)
     | (go_at_call 19;refine (CB.out _ _ _ HS6.out X dx HDX.out HX.out).mono ?_;rintro e w7 ⟨O2,c2,rfl,hO2,hx7⟩;have HO2:=Hy hO2;have HS7:=Hy (HS6.out.oz hx7);clear hO2 hx7))
    clear CW CO CB HS5 HS6 HX HDX HS k1 k2 k3 kd1 kd2
    go_loopw [12] (fun v wr=>LookL w7 i v wr) (fun v _=>i-(intOf v).toNat)
    case atStart=>exact ⟨0,rfl,Nat.zero_le _,Ext.rfl' _⟩
    case round =>
     obtain ⟨j,rfl,hj,hx⟩:=hrel
     have HXX:=Hy hx
     clear hx
     by_cases hlt:j<i
     ·have hj1:(j:Int)<(i:Int):=by omega
      have hj0:(0:Int)≤(j:Int):=by omega
      have hjl:(j:Int)<(lw:Int):=by rcases HL2.out with h | ⟨h,_⟩ <;> omega
      have hjll:j<l.length:=by rw [← HNN.out];exact hlt
      have hdr:=List.drop_eq_getElem_cons hjll
      obtain ⟨g,f,rfl,hcm⟩:=HS7.out.meth HNN.out j _ _ hdr
      have hwa:=want_at numF l 0 j _ _ hdr
      obtain ⟨me,hme⟩:∃ x,x=(l[j]'hjll).r.1:=⟨_,rfl⟩
      rw [← hme] at hcm hwa
      rw [Nat.zero_add] at hwa
      have hwb:ws[j]?=some (Lib.itoa 200++(if me=headM then [] else numF j)):=by
       rw [HWS.out,List.getElem?_append_left (by rw [want_len];exact hjll)]
       exact hwa
      obtain ⟨g2,f2,rfl,_,hcc⟩:=HO2.out.at_ (by unfold txV;rw [List.length_map];have:=(List.getElem?_eq_some_iff.1 hwb).1;omega)
      have hcw:=hcc j (.string (str (Lib.itoa 200++(if me=headM then [] else numF j)))) (by unfold txV;rw [List.getElem?_map,hwb];rfl)
      have hcm1:=(HXX.out.cell (lt_of_cell hcm)).trans hcm
      have hcw1:=(HXX.out.cell (lt_of_cell hcw)).trans hcw
      have hkm:=Hy (fun w' (e:Ext wr w')=>(e.cell (lt_of_cell hcm1)).trans hcm1)
      have hkw:=Hy (fun w' (e:Ext wr w')=>(e.cell (lt_of_cell hcw1)).trans hcw1)
      obtain ⟨sd,hsd⟩:∃ x,x=decB (j:Int):=⟨_,rfl⟩
      obtain ⟨sr,hsr⟩:∃ x,x=str (Lib.itoa 200++numF j):=⟨_,rfl⟩
      have CD:=Hy (fun (w':World) (e:Ext w w')=>(by have:=Digits_c (j:Int) w' (HL.out.pw.ext e) (by omega) (by omega);rw [← hsd] at this;exact this:Calls Tryz.prog 18 #[.int .i64 (j:Int)] w' (Gives (.string sd) w')))
      have hcat:∀ w,(Op.stringOp .add ⟨#[50,48,48]⟩ sd).run Tryz.prog w=.ok (.string sr) w:=fun w=>by
       have h1:=Lib.itoa_length_le (j:Int) (by omega) (by omega)
       have h2:=cat_ok (P:=Tryz.prog) (str [50,48,48]) (str (Lib.itoa (j:Int))) (by rw [str_size,str_size];simp;omega) w
       rw [hsd,hsr]
       rw [show (str [50,48,48]:ByteArray)=⟨#[50,48,48]⟩ from rfl] at h2
       unfold decB
       rw [h2,show Lib.itoa 200=[50,48,48] from by decide +kernel]
       unfold numF
       simp [str]
      by_cases hh:me=headM
      ·have hkw2:=Hy (fun w' (e:Ext wr w')=>(by have:=hkw.out w' e;rw [if_pos hh,List.append_nil,show str (Lib.itoa 200)=⟨#[50,48,48]⟩ from by decide +kernel] at this;exact this:w'.cell? ⟨g2,f2+j,none⟩=some (.string ⟨#[50,48,48]⟩)))
       have hkm2:=Hy (fun w' (e:Ext wr w')=>(by have:=hkm.out w' e;rw [hh,show str headM=⟨#[72,69,65,68]⟩ from rfl] at this;exact this:w'.cell? ⟨g,f+j*6+1,none⟩=some (.string ⟨#[72,69,65,68]⟩)))
       clear hcm hcm1 hcw hcw1 hkm hkw hwa hwb hcc hme hh hdr hjll hsd hsr hlt
       go_wp2_with (go_at_call 18;refine (CD.out _ (HS7.out.old.ext.tr HXX.out)).mono ?_;rintro e w8 ⟨rfl,hx8⟩;have c1:=hkw2.out w8 hx8;have c2:=hkm2.out w8 hx8)
       go_roundw
       case rel=>exact ⟨j+1,by go_num,by omega,HXX.out.tr Xq⟩
       case measure=>simp [intOf];omega
      ·have hkw2:=Hy (fun w' (e:Ext wr w')=>(by have:=hkw.out w' e;rw [if_neg hh,← hsr] at this;exact this:w'.cell? ⟨g2,f2+j,none⟩=some (.string sr)))
       obtain ⟨sv,hsv⟩:∃ x,x=str me:=⟨_,rfl⟩
       have hnn:¬ sv.toList=[72,69,65,68]:=by
        intro h
        apply hh
        rw [hsv] at h
        have h2:me=[72,69,65,68]:=by simpa using h
        exact h2
       have hne:(sv.toList == [72,69,65,68])=false:=by rw [beq_eq_false_iff_ne];exact hnn
       rw [← hsv] at hkm
       clear hcm hcm1 hcw hcw1 hkw hwa hwb hcc hme hh hdr hjll hsd hsr hsv hlt
       go_wp2_with (go_at_call 18;refine (CD.out _ (HS7.out.old.ext.tr HXX.out)).mono ?_;rintro e w8 ⟨rfl,hx8⟩;have c1:=hkw2.out w8 hx8;have c2:=hkm.out w8 hx8)
       go_roundw
       case rel=>exact ⟨j+1,by go_num,by omega,HXX.out.tr Xq⟩
       case measure=>simp [intOf];omega
     ·obtain rfl:j=i:=by omega
      have hj1:¬(j:Int)<(j:Int):=by omega
      clear hlt hj
      rcases HL2.out with h | ⟨h,hr⟩
      ·subst h
       have CR:=Hy (nReading_c 20 c { s with out:=[] } wr _ (HS7.out.oz HXX.out).cn)
       go_wp2_with (go_at_call 11;refine (CR.out).mono ?_;rintro e w9 ⟨rfl,hw⟩;subst hw)
       go_ret
       exact ⟨rfl,HS7.out.old.ext.tr HXX.out⟩
      ·have hne:¬(lw:Int)=(j:Int):=by omega
       have CR:=Hy (show Calls Tryz.prog 11 #[.pointer (some ⟨c,0,none⟩)] wr (Tells (.bool false) wr) from by have:=nReading_c 20 c { s with out:=[] } wr _ (HS7.out.oz HXX.out).cn;rw [show ({ s with out:=[] }:Cst).reads=false from HRD.out.trans hr] at this;exact this)
       clear h hr
       go_wp2_with (go_at_call 11;refine (CR.out).mono ?_;rintro e w9 ⟨rfl,hw⟩;subst hw)
       go_ret
       exact ⟨rfl,HS7.out.old.ext.tr HXX.out⟩
end Go.Proofs.YthbofilcnpdghaaGreatDoor
