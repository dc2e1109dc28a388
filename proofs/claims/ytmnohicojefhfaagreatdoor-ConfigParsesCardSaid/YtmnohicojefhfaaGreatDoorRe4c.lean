/-
The reference's check of a location: files.
-/
import Derived.Test.YtmnohicojefhfaaGreatDoorRe4
set_option maxRecDepth 100000
set_option maxHeartbeats 8000000
set_option linter.unusedVariables false
set_option linter.unusedSimpArgs false
namespace Go.Proofs.YtmnohicojefhfaaGreatDoor
open Go.RowKit
theorem con_seg (l:List UInt8):(l.contains 47)=!(l.all fun b=>!(b.toNat == 47)):=by
 induction l with
 | nil=>rfl
 | cons x l ih =>
  simp only [List.contains_cons,List.all_cons,ih]
  have:(47 == x)=(x.toNat == 47):=by
   by_cases h:x=47
   ·subst h; rfl
   ·rw [beq_eq_false_iff_ne.2 (Ne.symm h),Eq.comm,beq_eq_false_iff_ne]
    exact fun e=>h (UInt8.toNat_inj.1 (by show x.toNat=47; exact e))
  rw [this]
  cases (x.toNat == 47) <;> simp
theorem clean_ne:(cleanL []).2 ≠ 0:=by decide +kernel
theorem path_ne {l:List UInt8} (h:pathC l=true):0 < l.length:=by
 rcases Nat.eq_zero_or_pos l.length with h0 | h0
 ·rw [List.length_eq_zero_iff] at h0
  subst h0
  exfalso
  unfold pathC at h
  rw [Bool.and_eq_true] at h
  have:=of_decide_eq_true h.1
  exact clean_ne (by rw [this])
 ·exact h0
theorem last_bt (l:List UInt8) (h:0 < l.length):(l.getLast? == some 47)=(bt (str l) (l.length - 1) == 47):=by
 have e:l.getLast?=some (l[l.length - 1]'(by omega)):=by
  rw [List.getLast?_eq_getElem?]
  exact List.getElem?_eq_getElem (by omega)
 rw [e]
 unfold bt
 have e2:(str l).data.toList.getD (l.length - 1) 0=l[l.length - 1]'(by omega):=by
  simp [str,List.getD,List.getElem?_eq_getElem (show l.length - 1 < l.length by omega)]
 rw [e2]
 generalize l[l.length - 1]=x
 by_cases h:x=47
 ·subst h; rfl
 ·rw [beq_eq_false_iff_ne.2 (fun e=>h (by injection e)),Eq.comm,beq_eq_false_iff_ne]
  exact fun e=>h (UInt8.toNat_inj.1 (by show x.toNat=47; exact e))
theorem rlocation_1 (y:Lo14) (hS:LoS y) (c:Cf14) (UA:Option Addr) (uc:Nat) (SA:Option Addr) (sc:Nat) (w:World) (hk:y.kind=1) :
  Calls Tryz.prog 112 #[cfV c UA uc SA sc,.agg (LoV y)] w (Gives (.bool (locC c.ups y)) w):=by
 have CR:=Lib.hid (fun w=>rpath_c y.root hS.root w)
 have CG:=Lib.hid (fun w=>rsegment_c y.index (by have:=hS.index; unfold maxLen; omega) w)
 have HRL:=hS.root
 have CP:=Lib.hid (fun w=>rpath_c y.pre hS.pre w)
 obtain ⟨L,hL⟩:∃ b,b=locC c.ups y:=⟨_,rfl⟩
 rw [← hL]
 obtain ⟨a1,ha1⟩:∃ b,b=pathC y.pre:=⟨_,rfl⟩
 have HA:Hid (loc0 y=(a1 && inB y.rate 0 1000000 && inB y.burst 0 1000000 && (decide (0 < y.rate) || decide (y.burst=0)))):=Lib.hid (by rw [ha1]; rfl)
 have HLF:Hid (loc0 y=false → L=false):=Lib.hid (fun h=>by rw [hL]; unfold locC; simp [h])
 rw [← ha1] at CP
 obtain ⟨sp,hsp⟩:∃ s,s=str y.pre:=⟨_,rfl⟩
 obtain ⟨sr,hsr⟩:∃ s,s=str y.root:=⟨_,rfl⟩
 obtain ⟨si,hsi⟩:∃ s,s=str y.index:=⟨_,rfl⟩
 obtain ⟨su,hsu⟩:∃ s,s=str y.up:=⟨_,rfl⟩
 obtain ⟨sg,hsg⟩:∃ s,s=str y.goal:=⟨_,rfl⟩
 have HSP:=Lib.hid hsp
 have HSR:=Lib.hid hsr
 have HSI:=Lib.hid hsi
 have HSU:=Lib.hid hsu
 have HSG:=Lib.hid hsg
 rw [← hsp] at CP
 unfold cfV LoV
 rw [← hsp,← hsr,← hsi,← hsu,← hsg,hk]
 have HL:=Lib.hid hL
 have HK:=Lib.hid hk
 clear hsp hsr hsi hsu hsg ha1 hL hk
 obtain ⟨g,hg⟩:∃ g,g=w.heap.size:=⟨_,rfl⟩
 obtain ⟨W0,hW0⟩:∃ W,W=(w.alloc (.cells #[.int .i64 c.keep,.int .i64 c.body,.int .i64 c.store,.int .i64 c.conns,.slice UA c.ups.length uc,.slice SA c.srvs.length sc] 32)).alloc (.cells #[.string sp,.int .i64 1,.string sr,.string si,.int .i64 y.gzip,.int .i64 y.expires,.string su,.bool y.cache,.int .i64 y.rate,.int .i64 y.burst,.int .i64 y.status,.string sg] 90):=⟨_,rfl⟩
 have hx0:Ext w W0:=by rw [hW0]; exact ((Ext.rfl' w).al _).al _
 have hcl:Hid (∀ wx,Ext W0 wx → (∀ j u,(#[.int .i64 c.keep,.int .i64 c.body,.int .i64 c.store,.int .i64 c.conns,.slice UA c.ups.length uc,.slice SA c.srvs.length sc]:Array Value)[j]?=some u → wx.cell? ⟨g,j,none⟩=some u)∧(∀ j u,(#[.string sp,.int .i64 1,.string sr,.string si,.int .i64 y.gzip,.int .i64 y.expires,.string su,.bool y.cache,.int .i64 y.rate,.int .i64 y.burst,.int .i64 y.status,.string sg]:Array Value)[j]?=some u → wx.cell? ⟨g + 1,j,none⟩=some u)):=Lib.hid (fun wx hx=>by
  have hz:(w.alloc (.cells #[.int .i64 c.keep,.int .i64 c.body,.int .i64 c.store,.int .i64 c.conns,.slice UA c.ups.length uc,.slice SA c.srvs.length sc] 32)).heap.size=g + 1:=by rw [hg]; simp
  have ha:Ext (w.alloc (.cells #[.int .i64 c.keep,.int .i64 c.body,.int .i64 c.store,.int .i64 c.conns,.slice UA c.ups.length uc,.slice SA c.srvs.length sc] 32)) wx:=Ext.tr (by rw [hW0]; exact (Ext.rfl' _).al _) hx
  refine ⟨fun j u h=>by rw [hg]; exact ha.new j u h,fun j u h=>?_⟩
  rw [← hz]
  rw [hW0] at hx
  exact hx.new j u h)
 have hgl:g + 1 < W0.heap.size:=by rw [hW0,hg]; simp
 have z0:=(hcl.out W0 (Ext.rfl' _)).2 0 _ rfl
 have z8:=(hcl.out W0 (Ext.rfl' _)).2 8 _ rfl
 have z9:=(hcl.out W0 (Ext.rfl' _)).2 9 _ rfl
 go_enter Tryz.func112,Tryz.ntmps112
 go_upto_region 1 with (fail)
 rw [← hW0,← hg]
 clear hW0 hg
 obtain ⟨b0,hb0⟩:∃ b,b=loc0 y:=⟨_,rfl⟩
 rw [← hb0] at HA HLF
 have HB0:=Lib.hid hb0
 clear hb0
 go_cut [33] (fun v33 wx=>v33=.bool (!b0)∧Ext W0 wx)
 case first=>as_aux_lemma =>
  have C1:=Lib.hid (rinB_c y.rate 0 1000000)
  have C2:=Lib.hid (rinB_c y.burst 0 1000000)
  have HI:Hid (inB y.rate 0 1000000=true → 0 ≤ y.rate):=Lib.hid (fun h=>(inB_R h).1)
  generalize inB y.rate 0 1000000=i1 at *
  generalize inB y.burst 0 1000000=i2 at *
  by_cases hr:y.rate=0
  ·have d1:(y.rate == 0)=true:=beq_iff_eq.2 hr
   by_cases hb:y.burst=0
   ·have d2:(y.burst == 0)=true:=beq_iff_eq.2 hb
    have HBQ:Hid (b0=(a1 && i1 && i2)):=Lib.hid (by rw [HA.out]; simp [hb])
    have HBH:=Lib.hid hb
    clear hr hb
    go_wp2_with (first
     | (go_at_call 140; refine (CP.out _).mono ?_; rintro e' w1 ⟨rfl,hx1⟩; have q8:=(hcl.out _ hx1).2 8 _ rfl; have q9:=(hcl.out _ hx1).2 9 _ rfl; cases a1)
     | (go_at_call 66; refine (C1.out _).mono ?_; rintro e' w2 ⟨rfl,rfl⟩; clear C1)
     | (go_at_call 66; refine (C2.out _).mono ?_; rintro e' w2 ⟨rfl,rfl⟩))
    all_goals
     go_meet
     exact ⟨by rw [HBQ.out]; simp [*,HBH.out],by first | assumption | exact Ext.rfl' _⟩
   ·have d2:(y.burst == 0)=false:=beq_eq_false_iff_ne.2 hb
    have HBQ:Hid (b0=false):=Lib.hid (by rw [HA.out]; simp [hb,hr])
    have HBH:=Lib.hid hb
    clear hr hb
    go_wp2_with (first
     | (go_at_call 140; refine (CP.out _).mono ?_; rintro e' w1 ⟨rfl,hx1⟩; have q8:=(hcl.out _ hx1).2 8 _ rfl; have q9:=(hcl.out _ hx1).2 9 _ rfl; cases a1)
     | (go_at_call 66; refine (C1.out _).mono ?_; rintro e' w2 ⟨rfl,rfl⟩; clear C1)
     | (go_at_call 66; refine (C2.out _).mono ?_; rintro e' w2 ⟨rfl,rfl⟩))
    all_goals
     go_meet
     exact ⟨by rw [HBQ.out]; simp [*,HBH.out],by first | assumption | exact Ext.rfl' _⟩
  ·have d1:(y.rate == 0)=false:=beq_eq_false_iff_ne.2 hr
   have HBQ:Hid (b0=(a1 && i1 && i2)):=Lib.hid (by
    rw [HA.out]
    cases i1
    ·simp
    ·have h1:=HI.out rfl
     rw [decide_eq_true (show 0 < y.rate by omega)]; simp)
   have HBH:=Lib.hid hr
   clear hr
   go_wp2_with (first
    | (go_at_call 140; refine (CP.out _).mono ?_; rintro e' w1 ⟨rfl,hx1⟩; have q8:=(hcl.out _ hx1).2 8 _ rfl; have q9:=(hcl.out _ hx1).2 9 _ rfl; cases a1)
    | (go_at_call 66; refine (C1.out _).mono ?_; rintro e' w2 ⟨rfl,rfl⟩; clear C1)
    | (go_at_call 66; refine (C2.out _).mono ?_; rintro e' w2 ⟨rfl,rfl⟩))
   all_goals
    go_meet
    exact ⟨by rw [HBQ.out]; simp [*,HBH.out],by first | assumption | exact Ext.rfl' _⟩
 case rest =>
  obtain ⟨rfl,hx1⟩:=hcut
  obtain ⟨W1,rfl⟩:∃ W,W=wc:=⟨_,rfl⟩
  cases b0 with
  | false =>
   have HF:=Lib.hid (HLF.out rfl)
   go_wp2
   go_ret
   exact ⟨ret_bool (by rw [HF.out]),hx0.tr hx1⟩
  | true =>
  have e1:=(hcl.out _ hx1).2
  have c0:=e1 0 _ rfl
  have c1:=e1 1 _ rfl
  have c8:=e1 8 _ rfl
  have c9:=e1 9 _ rfl
  go_upto_region 4 with (fail)
  obtain ⟨W2,hW2⟩:∃ W,W=W1.alloc (.cells #[.string sp,.int .i64 1,.string ⟨#[]⟩,.string ⟨#[]⟩,.int .i64 0,.int .i64 0,.string ⟨#[]⟩,.bool false,.int .i64 y.rate,.int .i64 y.burst,.int .i64 0,.string ⟨#[]⟩] 90):=⟨_,rfl⟩
  have hx2:Ext W1 W2:=by rw [hW2]; exact (Ext.rfl' W1).al _
  have hr2:W2.heap[W1.heap.size]?=some (.cells #[.string sp,.int .i64 1,.string ⟨#[]⟩,.string ⟨#[]⟩,.int .i64 0,.int .i64 0,.string ⟨#[]⟩,.bool false,.int .i64 y.rate,.int .i64 y.burst,.int .i64 0,.string ⟨#[]⟩] 90 (0,0)):=by rw [hW2]; exact heap_alloc_new W1 _
  have hRg:W0.heap.size ≤ W1.heap.size:=hx1.size
  obtain ⟨R,hR⟩:∃ R,R=W1.heap.size:=⟨_,rfl⟩
  rw [← hW2,← hR]
  rw [← hR] at hr2 hRg
  clear hW2 hR c0 c1 c8 c9 e1
  have hxW:=hx1.tr hx2
  have hrl:=row_lt hr2
  have hgR:g + 1 ≠ R:=by omega
  have hgR0:g ≠ R:=by omega
  have e1:=(hcl.out _ hxW).2
  have c1:=e1 1 _ rfl
  have HLV:Hid (L=(pathC y.root && (decide (y.root=[47]) || !(y.root.getLast? == some 47)) && segC y.index && inB y.gzip 0 9 && inB y.expires 0 31536000 && decide (y=ownLo y))):=Lib.hid (by
   rw [HL.out]
   unfold locC
   rw [if_pos HK.out,← HB0.out,own_rest]
   unfold loc1 segC
   rw [con_seg,Bool.not_not]
   generalize pathC y.root=a
   generalize (decide (y.root=[47]) || !(y.root.getLast? == some 47))=b
   generalize bytesC 33 y.index=d
   generalize (y.index.all fun b=>!(b.toNat == 47))=e
   generalize decide (y.index=[46])=f
   generalize decide (y.index=[46,46])=h
   generalize inB y.gzip 0 9=p
   generalize inB y.expires 0 31536000=q
   cases a <;> cases b <;> cases d <;> cases e <;> cases f <;> cases h <;> cases p <;> cases q <;> simp)
  have HOWN:Hid (ownLo y=⟨y.pre,1,y.root,y.index,y.gzip,y.expires,[],false,y.rate,y.burst,0,[]⟩):=Lib.hid (by
   unfold ownLo
   rw [if_pos HK.out]; rfl)
  have e2:=e1 2 _ rfl
  have e3:=e1 3 _ rfl
  have e4:=e1 4 _ rfl
  have e5:=e1 5 _ rfl
  have r2':=row_facts hr2 2 _ rfl
  have r3':=row_facts hr2 3 _ rfl
  have r4':=row_facts hr2 4 _ rfl
  have r5':=row_facts hr2 5 _ rfl
  have HR2:=Lib.hid hr2
  clear e1 hr2
  go_upto_region 11 with (fail)
  obtain ⟨W3,hW3⟩:∃ W,W=(((W2.setCell ⟨R,2,none⟩ (.string sr)).setCell ⟨R,3,none⟩ (.string si)).setCell ⟨R,4,none⟩ (.int .i64 y.gzip)).setCell ⟨R,5,none⟩ (.int .i64 y.expires):=⟨_,rfl⟩
  have hx3:Ext W0 W3:=by rw [hW3]; exact (((hxW.st hRg _).st hRg _).st hRg _).st hRg _
  have hr3:=row_set (row_set (row_set (row_set HR2.out 2 (.string sr)) 3 (.string si)) 4 (.int .i64 y.gzip)) 5 (.int .i64 y.expires)
  rw [← hW3] at hr3 ⊢
  have HR3:=Lib.hid hr3
  have hR3l:=row_lt hr3
  clear hW3 HR2 r2' r3' r4' r5' e2 e3 e4 e5 c1 hr3 hx1 hx2 hxW
  have t2:=(hcl.out _ hx3).2 2 _ rfl
  rw [← HSR.out] at CR
  rw [← HSI.out] at CG
  have HPN:Hid (pathC y.root=true → 0 < y.root.length):=Lib.hid path_ne
  have HLB:=Lib.hid (last_bt y.root)
  obtain ⟨r1,hr1⟩:∃ b,b=pathC y.root:=⟨_,rfl⟩
  obtain ⟨r3,hr3⟩:∃ b,b=segC y.index:=⟨_,rfl⟩
  rw [← hr1] at CR HLV HPN
  rw [← hr3] at CG HLV
  clear hr1 hr3
  cases r1 with
  | false =>
   have HDR:Hid True:=Lib.hid trivial
   clear HRL
   go_wp2_with (first
    | (go_at_call 140; refine (CR.out _).mono ?_; rintro e' w3 ⟨rfl,hx4⟩; have u2:=(hcl.out _ (hx3.tr hx4)).2 2 _ rfl; have u3:=(hcl.out _ (hx3.tr hx4)).2 3 _ rfl; have u4:=(hcl.out _ (hx3.tr hx4)).2 4 _ rfl; have u5:=(hcl.out _ (hx3.tr hx4)).2 5 _ rfl)
    | (go_at_call 141; refine (CG.out _).mono ?_; rintro e' w4 ⟨rfl,hx5⟩; have v4:=(hcl.out _ ((hx3.tr hx4).tr hx5)).2 4 _ rfl; have v5:=(hcl.out _ ((hx3.tr hx4).tr hx5)).2 5 _ rfl)
    | (go_at_call 66; refine (rinB_c _ _ _ _).mono ?_; rintro e' w2 ⟨rfl,rfl⟩))
   go_ret
   exact ⟨ret_bool (by rw [HLV.out]; simp [*,HDR.out]),by first | exact hx0.tr (hx3.tr (hx4.tr hx5)) | exact hx0.tr (hx3.tr hx4) | exact hx0.tr hx3⟩
  | true =>
  have hpos:=HPN.out rfl
  have hszr:sr.size=y.root.length:=by rw [HSR.out,str_size]
  by_cases hroot:y.root=[47]
  ·have t1:sr.toList=[47]:=by rw [HSR.out,str_tl]; exact hroot
   have t3:(sr.toList == [47])=true:=by rw [t1]; rfl
   have HDR:Hid ((decide (y.root=[47]) || !(y.root.getLast? == some 47))=true):=Lib.hid (by rw [decide_eq_true hroot]; rfl)
   clear hroot hpos hszr HRL
   cases r3 with
   | false =>
    go_wp2_with (first
     | (go_at_call 140; refine (CR.out _).mono ?_; rintro e' w3 ⟨rfl,hx4⟩; have u2:=(hcl.out _ (hx3.tr hx4)).2 2 _ rfl; have u3:=(hcl.out _ (hx3.tr hx4)).2 3 _ rfl; have u4:=(hcl.out _ (hx3.tr hx4)).2 4 _ rfl; have u5:=(hcl.out _ (hx3.tr hx4)).2 5 _ rfl)
     | (go_at_call 141; refine (CG.out _).mono ?_; rintro e' w4 ⟨rfl,hx5⟩; have v4:=(hcl.out _ ((hx3.tr hx4).tr hx5)).2 4 _ rfl; have v5:=(hcl.out _ ((hx3.tr hx4).tr hx5)).2 5 _ rfl)
     | (go_at_call 66; refine (rinB_c _ _ _ _).mono ?_; rintro e' w2 ⟨rfl,rfl⟩))
    go_ret
    exact ⟨ret_bool (by rw [HLV.out]; simp [*,HDR.out]),by first | exact hx0.tr (hx3.tr (hx4.tr hx5)) | exact hx0.tr (hx3.tr hx4) | exact hx0.tr hx3⟩
   | true =>
   cases h5:inB y.gzip 0 9 with
   | false =>
    go_wp2_with (first
     | (go_at_call 140; refine (CR.out _).mono ?_; rintro e' w3 ⟨rfl,hx4⟩; have u2:=(hcl.out _ (hx3.tr hx4)).2 2 _ rfl; have u3:=(hcl.out _ (hx3.tr hx4)).2 3 _ rfl; have u4:=(hcl.out _ (hx3.tr hx4)).2 4 _ rfl; have u5:=(hcl.out _ (hx3.tr hx4)).2 5 _ rfl)
     | (go_at_call 141; refine (CG.out _).mono ?_; rintro e' w4 ⟨rfl,hx5⟩; have v4:=(hcl.out _ ((hx3.tr hx4).tr hx5)).2 4 _ rfl; have v5:=(hcl.out _ ((hx3.tr hx4).tr hx5)).2 5 _ rfl)
     | (go_at_call 66; refine (rinB_c _ _ _ _).mono ?_; rintro e' w2 ⟨rfl,rfl⟩))
    go_ret
    exact ⟨ret_bool (by rw [HLV.out]; simp [*,HDR.out]),by first | exact hx0.tr (hx3.tr (hx4.tr hx5)) | exact hx0.tr (hx3.tr hx4) | exact hx0.tr hx3⟩
   | true =>
   cases h6:inB y.expires 0 31536000 with
   | false =>
    go_wp2_with (first
     | (go_at_call 140; refine (CR.out _).mono ?_; rintro e' w3 ⟨rfl,hx4⟩; have u2:=(hcl.out _ (hx3.tr hx4)).2 2 _ rfl; have u3:=(hcl.out _ (hx3.tr hx4)).2 3 _ rfl; have u4:=(hcl.out _ (hx3.tr hx4)).2 4 _ rfl; have u5:=(hcl.out _ (hx3.tr hx4)).2 5 _ rfl)
     | (go_at_call 141; refine (CG.out _).mono ?_; rintro e' w4 ⟨rfl,hx5⟩; have v4:=(hcl.out _ ((hx3.tr hx4).tr hx5)).2 4 _ rfl; have v5:=(hcl.out _ ((hx3.tr hx4).tr hx5)).2 5 _ rfl)
     | (go_at_call 66; refine (rinB_c _ _ _ _).mono ?_; rintro e' w2 ⟨rfl,rfl⟩))
    go_ret
    exact ⟨ret_bool (by rw [HLV.out]; simp [*,HDR.out]),by first | exact hx0.tr (hx3.tr (hx4.tr hx5)) | exact hx0.tr (hx3.tr hx4) | exact hx0.tr hx3⟩
   | true =>
   have HLV:Hid (L=decide (y=ownLo y)):=Lib.hid (by rw [HLV.out,HDR.out,h5,h6]; simp)
   go_upto_region 29 with (first
    | (go_at_call 140; refine (CR.out _).mono ?_; rintro e' w3 ⟨rfl,hx4⟩; have u2:=(hcl.out _ (hx3.tr hx4)).2 2 _ rfl; have u3:=(hcl.out _ (hx3.tr hx4)).2 3 _ rfl; have u4:=(hcl.out _ (hx3.tr hx4)).2 4 _ rfl; have u5:=(hcl.out _ (hx3.tr hx4)).2 5 _ rfl)
    | (go_at_call 141; refine (CG.out _).mono ?_; rintro e' w4 ⟨rfl,hx5⟩; have v4:=(hcl.out _ ((hx3.tr hx4).tr hx5)).2 4 _ rfl; have v5:=(hcl.out _ ((hx3.tr hx4).tr hx5)).2 5 _ rfl)
    | (go_at_call 66; refine (rinB_c _ _ _ _).mono ?_; rintro e' w2 ⟨rfl,rfl⟩))
   clear h5 h6 u2 u3 u4 u5 v4 v5
   obtain ⟨W9,hW9⟩:∃ x,x=w2:=⟨_,rfl⟩
   rw [← hW9] at hx5 ⊢
   clear hW9
   have hxr:=hx4.tr hx5
   have hx0r:=hx3.tr hxr
   have h1:=(hcl.out _ hx0r).2
   have l0:=h1 0 _ rfl
   have l1:=h1 1 _ rfl
   have l2:=h1 2 _ rfl
   have l3:=h1 3 _ rfl
   have l4:=h1 4 _ rfl
   have l5:=h1 5 _ rfl
   have l6:=h1 6 _ rfl
   have l7:=h1 7 _ rfl
   have l8:=h1 8 _ rfl
   have l9:=h1 9 _ rfl
   have la:=h1 10 _ rfl
   have lb:=h1 11 _ rfl
   clear h1
   have hr9:=(hxr.block R hR3l).trans HR3.out
   have f0:=(row_facts hr9 0 _ rfl).1
   have f1:=(row_facts hr9 1 _ rfl).1
   have f2:=(row_facts hr9 2 _ rfl).1
   have f3:=(row_facts hr9 3 _ rfl).1
   have f4:=(row_facts hr9 4 _ rfl).1
   have f5:=(row_facts hr9 5 _ rfl).1
   have f6:=(row_facts hr9 6 _ rfl).1
   have f7:=(row_facts hr9 7 _ rfl).1
   have f8:=(row_facts hr9 8 _ rfl).1
   have f9:=(row_facts hr9 9 _ rfl).1
   have fa:=(row_facts hr9 10 _ rfl).1
   have fb:=(row_facts hr9 11 _ rfl).1
   clear hr9
   have HEQ:∀ w',(binOp .eql 90 (.agg #[.string sp,.int .i64 1,.string sr,.string si,.int .i64 y.gzip,.int .i64 y.expires,.string su,.bool y.cache,.int .i64 y.rate,.int .i64 y.burst,.int .i64 y.status,.string sg]) (.agg #[.string sp,.int .i64 1,.string sr,.string si,.int .i64 y.gzip,.int .i64 y.expires,.string ⟨#[]⟩,.bool false,.int .i64 y.rate,.int .i64 y.burst,.int .i64 0,.string ⟨#[]⟩])).run Tryz.prog w'=.ok (.bool L) w':=fun w'=>by
    have h:=eq_locR y (ownLo y) w'
    rw [HLV.out]
    rw [HOWN.out] at h ⊢
    unfold LoV at h
    dsimp only at h
    rw [← HSP.out,← HSR.out,← HSI.out,← HSU.out,← HSG.out,HK.out] at h
    exact h
   go_wp2
   go_ret
   exact ⟨rfl,hx0.tr hx0r⟩
  ·have t1:¬ sr.toList=[47]:=by rw [HSR.out,str_tl]; exact hroot
   have t3:(sr.toList == [47])=false:=beq_eq_false_iff_ne.2 t1
   have hbl:=HLB.out hpos
   rw [← HSR.out,← hszr] at hbl
   rw [← hszr] at hpos HRL
   obtain ⟨k,hk⟩:∃ k,k=sr.size - 1:=⟨_,rfl⟩
   rw [← hk] at hbl
   have w1:IntKind.i64.wrap ((sr.size:Int) - 1)=(k:Int):=by rw [IntKind.wrap_i64]; omega
   have hnn:k < sr.size:=by omega
   have b0':(0:Int) ≤ (k:Int):=by omega
   have b1':(k:Int) < (sr.size:Int):=by omega
   have hbt:=bt_get sr k hnn
   clear hk hpos HRL hszr
   by_cases hb:bt sr k=47
   ·have HDR:Hid ((decide (y.root=[47]) || !(y.root.getLast? == some 47))=false):=Lib.hid (by rw [decide_eq_false hroot,hbl,hb]; rfl)
    clear hroot hbl
    go_wp2_with (first
     | (go_at_call 140; refine (CR.out _).mono ?_; rintro e' w3 ⟨rfl,hx4⟩; have u2:=(hcl.out _ (hx3.tr hx4)).2 2 _ rfl; have u3:=(hcl.out _ (hx3.tr hx4)).2 3 _ rfl; have u4:=(hcl.out _ (hx3.tr hx4)).2 4 _ rfl; have u5:=(hcl.out _ (hx3.tr hx4)).2 5 _ rfl)
     | (go_at_call 141; refine (CG.out _).mono ?_; rintro e' w4 ⟨rfl,hx5⟩; have v4:=(hcl.out _ ((hx3.tr hx4).tr hx5)).2 4 _ rfl; have v5:=(hcl.out _ ((hx3.tr hx4).tr hx5)).2 5 _ rfl)
     | (go_at_call 66; refine (rinB_c _ _ _ _).mono ?_; rintro e' w2 ⟨rfl,rfl⟩))
    go_ret
    exact ⟨ret_bool (by rw [HLV.out]; simp [*,HDR.out]),by first | exact hx0.tr (hx3.tr (hx4.tr hx5)) | exact hx0.tr (hx3.tr hx4) | exact hx0.tr hx3⟩
   ·have q1:((bt sr k:Int) == 47)=false:=by rw [beq_eq_false_iff_ne]; omega
    have HDR:Hid ((decide (y.root=[47]) || !(y.root.getLast? == some 47))=true):=Lib.hid (by rw [decide_eq_false hroot,hbl,beq_eq_false_iff_ne.2 hb]; rfl)
    clear hroot hbl hb
    cases r3 with
    | false =>
     go_wp2_with (first
      | (go_at_call 140; refine (CR.out _).mono ?_; rintro e' w3 ⟨rfl,hx4⟩; have u2:=(hcl.out _ (hx3.tr hx4)).2 2 _ rfl; have u3:=(hcl.out _ (hx3.tr hx4)).2 3 _ rfl; have u4:=(hcl.out _ (hx3.tr hx4)).2 4 _ rfl; have u5:=(hcl.out _ (hx3.tr hx4)).2 5 _ rfl)
      | (go_at_call 141; refine (CG.out _).mono ?_; rintro e' w4 ⟨rfl,hx5⟩; have v4:=(hcl.out _ ((hx3.tr hx4).tr hx5)).2 4 _ rfl; have v5:=(hcl.out _ ((hx3.tr hx4).tr hx5)).2 5 _ rfl)
      | (go_at_call 66; refine (rinB_c _ _ _ _).mono ?_; rintro e' w2 ⟨rfl,rfl⟩))
     go_ret
     exact ⟨ret_bool (by rw [HLV.out]; simp [*,HDR.out]),by first | exact hx0.tr (hx3.tr (hx4.tr hx5)) | exact hx0.tr (hx3.tr hx4) | exact hx0.tr hx3⟩
    | true =>
    cases h5:inB y.gzip 0 9 with
    | false =>
     go_wp2_with (first
      | (go_at_call 140; refine (CR.out _).mono ?_; rintro e' w3 ⟨rfl,hx4⟩; have u2:=(hcl.out _ (hx3.tr hx4)).2 2 _ rfl; have u3:=(hcl.out _ (hx3.tr hx4)).2 3 _ rfl; have u4:=(hcl.out _ (hx3.tr hx4)).2 4 _ rfl; have u5:=(hcl.out _ (hx3.tr hx4)).2 5 _ rfl)
      | (go_at_call 141; refine (CG.out _).mono ?_; rintro e' w4 ⟨rfl,hx5⟩; have v4:=(hcl.out _ ((hx3.tr hx4).tr hx5)).2 4 _ rfl; have v5:=(hcl.out _ ((hx3.tr hx4).tr hx5)).2 5 _ rfl)
      | (go_at_call 66; refine (rinB_c _ _ _ _).mono ?_; rintro e' w2 ⟨rfl,rfl⟩))
     go_ret
     exact ⟨ret_bool (by rw [HLV.out]; simp [*,HDR.out]),by first | exact hx0.tr (hx3.tr (hx4.tr hx5)) | exact hx0.tr (hx3.tr hx4) | exact hx0.tr hx3⟩
    | true =>
    cases h6:inB y.expires 0 31536000 with
    | false =>
     go_wp2_with (first
      | (go_at_call 140; refine (CR.out _).mono ?_; rintro e' w3 ⟨rfl,hx4⟩; have u2:=(hcl.out _ (hx3.tr hx4)).2 2 _ rfl; have u3:=(hcl.out _ (hx3.tr hx4)).2 3 _ rfl; have u4:=(hcl.out _ (hx3.tr hx4)).2 4 _ rfl; have u5:=(hcl.out _ (hx3.tr hx4)).2 5 _ rfl)
      | (go_at_call 141; refine (CG.out _).mono ?_; rintro e' w4 ⟨rfl,hx5⟩; have v4:=(hcl.out _ ((hx3.tr hx4).tr hx5)).2 4 _ rfl; have v5:=(hcl.out _ ((hx3.tr hx4).tr hx5)).2 5 _ rfl)
      | (go_at_call 66; refine (rinB_c _ _ _ _).mono ?_; rintro e' w2 ⟨rfl,rfl⟩))
     go_ret
     exact ⟨ret_bool (by rw [HLV.out]; simp [*,HDR.out]),by first | exact hx0.tr (hx3.tr (hx4.tr hx5)) | exact hx0.tr (hx3.tr hx4) | exact hx0.tr hx3⟩
    | true =>
    have HLV:Hid (L=decide (y=ownLo y)):=Lib.hid (by rw [HLV.out,HDR.out,h5,h6]; simp)
    go_upto_region 29 with (first
     | (go_at_call 140; refine (CR.out _).mono ?_; rintro e' w3 ⟨rfl,hx4⟩; have u2:=(hcl.out _ (hx3.tr hx4)).2 2 _ rfl; have u3:=(hcl.out _ (hx3.tr hx4)).2 3 _ rfl; have u4:=(hcl.out _ (hx3.tr hx4)).2 4 _ rfl; have u5:=(hcl.out _ (hx3.tr hx4)).2 5 _ rfl)
     | (go_at_call 141; refine (CG.out _).mono ?_; rintro e' w4 ⟨rfl,hx5⟩; have v4:=(hcl.out _ ((hx3.tr hx4).tr hx5)).2 4 _ rfl; have v5:=(hcl.out _ ((hx3.tr hx4).tr hx5)).2 5 _ rfl)
     | (go_at_call 66; refine (rinB_c _ _ _ _).mono ?_; rintro e' w2 ⟨rfl,rfl⟩))
    clear h5 h6 u2 u3 u4 u5 v4 v5
    obtain ⟨W9,hW9⟩:∃ x,x=w2:=⟨_,rfl⟩
    rw [← hW9] at hx5 ⊢
    clear hW9
    have hxr:=hx4.tr hx5
    have hx0r:=hx3.tr hxr
    have h1:=(hcl.out _ hx0r).2
    have l0:=h1 0 _ rfl
    have l1:=h1 1 _ rfl
    have l2:=h1 2 _ rfl
    have l3:=h1 3 _ rfl
    have l4:=h1 4 _ rfl
    have l5:=h1 5 _ rfl
    have l6:=h1 6 _ rfl
    have l7:=h1 7 _ rfl
    have l8:=h1 8 _ rfl
    have l9:=h1 9 _ rfl
    have la:=h1 10 _ rfl
    have lb:=h1 11 _ rfl
    clear h1
    have hr9:=(hxr.block R hR3l).trans HR3.out
    have f0:=(row_facts hr9 0 _ rfl).1
    have f1:=(row_facts hr9 1 _ rfl).1
    have f2:=(row_facts hr9 2 _ rfl).1
    have f3:=(row_facts hr9 3 _ rfl).1
    have f4:=(row_facts hr9 4 _ rfl).1
    have f5:=(row_facts hr9 5 _ rfl).1
    have f6:=(row_facts hr9 6 _ rfl).1
    have f7:=(row_facts hr9 7 _ rfl).1
    have f8:=(row_facts hr9 8 _ rfl).1
    have f9:=(row_facts hr9 9 _ rfl).1
    have fa:=(row_facts hr9 10 _ rfl).1
    have fb:=(row_facts hr9 11 _ rfl).1
    clear hr9
    have HEQ:∀ w',(binOp .eql 90 (.agg #[.string sp,.int .i64 1,.string sr,.string si,.int .i64 y.gzip,.int .i64 y.expires,.string su,.bool y.cache,.int .i64 y.rate,.int .i64 y.burst,.int .i64 y.status,.string sg]) (.agg #[.string sp,.int .i64 1,.string sr,.string si,.int .i64 y.gzip,.int .i64 y.expires,.string ⟨#[]⟩,.bool false,.int .i64 y.rate,.int .i64 y.burst,.int .i64 0,.string ⟨#[]⟩])).run Tryz.prog w'=.ok (.bool L) w':=fun w'=>by
     have h:=eq_locR y (ownLo y) w'
     rw [HLV.out]
     rw [HOWN.out] at h ⊢
     unfold LoV at h
     dsimp only at h
     rw [← HSP.out,← HSR.out,← HSI.out,← HSU.out,← HSG.out,HK.out] at h
     exact h
    go_wp2
    go_ret
    exact ⟨rfl,hx0.tr hx0r⟩
end Go.Proofs.YtmnohicojefhfaaGreatDoor
