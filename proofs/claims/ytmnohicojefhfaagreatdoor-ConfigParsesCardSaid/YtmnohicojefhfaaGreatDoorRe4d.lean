/-
The reference's check of a location: a fixed answer; any location.
-/
import Derived.Test.YtmnohicojefhfaaGreatDoorRe4b
import Derived.Test.YtmnohicojefhfaaGreatDoorRe4c
set_option maxRecDepth 100000
set_option maxHeartbeats 8000000
set_option linter.unusedVariables false
set_option linter.unusedSimpArgs false
namespace Go.Proofs.YtmnohicojefhfaaGreatDoor
open Go.RowKit
theorem rlocation_3 (y:Lo14) (hS:LoS y) (c:Cf14) (UA:Option Addr) (uc:Nat) (SA:Option Addr) (sc:Nat) (w:World) (hk:y.kind=3) :
  Calls Tryz.prog 112 #[cfV c UA uc SA sc,.agg (LoV y)] w (Gives (.bool (locC c.ups y)) w):=by
 have CB:=Lib.hid (fun w=>rbytes_c 32 (by omega) y.goal (by have:=hS.goal; unfold maxLen; omega) w)
 have CT:=Lib.hid (fun w=>rTrim_c y.goal (by have:=hS.goal; unfold maxLen; omega) w)
 have CP:=Lib.hid (fun w=>rpath_c y.pre hS.pre w)
 obtain ⟨L,hL⟩:∃ b,b=locC c.ups y:=⟨_,rfl⟩
 rw [← hL]
 obtain ⟨a1,ha1⟩:∃ b,b=pathC y.pre:=⟨_,rfl⟩
 have HA:Hid (loc0 y=(a1 && inB y.rate 0 1000000 && inB y.burst 0 1000000 && (decide (0 < y.rate) || decide (y.burst=0)))):=Lib.hid (by rw [ha1]; rfl)
 have HLF:Hid (loc0 y=false → L=false):=Lib.hid (fun h=>by rw [hL]; unfold locC; simp [h])
 rw [← ha1] at CP
 obtain ⟨sp,hsp⟩:∃ s,s=str y.pre:=⟨_,rfl⟩
 obtain ⟨sr,hsr⟩:∃ s,s=str y.root:=⟨_,rfl⟩
 obtain ⟨si,hsi⟩:∃ s,s=str y.index:=⟨_,rfl⟩
 obtain ⟨su,hsu⟩:∃ s,s=str y.up:=⟨_,rfl⟩
 obtain ⟨sg,hsg⟩:∃ s,s=str y.goal:=⟨_,rfl⟩
 have HSP:=Lib.hid hsp
 have HSR:=Lib.hid hsr
 have HSI:=Lib.hid hsi
 have HSU:=Lib.hid hsu
 have HSG:=Lib.hid hsg
 rw [← hsp] at CP
 unfold cfV LoV
 rw [← hsp,← hsr,← hsi,← hsu,← hsg,hk]
 have HL:=Lib.hid hL
 have HK:=Lib.hid hk
 clear hsp hsr hsi hsu hsg ha1 hL hk
 obtain ⟨g,hg⟩:∃ g,g=w.heap.size:=⟨_,rfl⟩
 obtain ⟨W0,hW0⟩:∃ W,W=(w.alloc (.cells #[.int .i64 c.keep,.int .i64 c.body,.int .i64 c.store,.int .i64 c.conns,.slice UA c.ups.length uc,.slice SA c.srvs.length sc] 32)).alloc (.cells #[.string sp,.int .i64 3,.string sr,.string si,.int .i64 y.gzip,.int .i64 y.expires,.string su,.bool y.cache,.int .i64 y.rate,.int .i64 y.burst,.int .i64 y.status,.string sg] 90):=⟨_,rfl⟩
 have hx0:Ext w W0:=by rw [hW0]; exact ((Ext.rfl' w).al _).al _
 have hcl:Hid (∀ wx,Ext W0 wx → (∀ j u,(#[.int .i64 c.keep,.int .i64 c.body,.int .i64 c.store,.int .i64 c.conns,.slice UA c.ups.length uc,.slice SA c.srvs.length sc]:Array Value)[j]?=some u → wx.cell? ⟨g,j,none⟩=some u)∧(∀ j u,(#[.string sp,.int .i64 3,.string sr,.string si,.int .i64 y.gzip,.int .i64 y.expires,.string su,.bool y.cache,.int .i64 y.rate,.int .i64 y.burst,.int .i64 y.status,.string sg]:Array Value)[j]?=some u → wx.cell? ⟨g + 1,j,none⟩=some u)):=Lib.hid (fun wx hx=>by
  have hz:(w.alloc (.cells #[.int .i64 c.keep,.int .i64 c.body,.int .i64 c.store,.int .i64 c.conns,.slice UA c.ups.length uc,.slice SA c.srvs.length sc] 32)).heap.size=g + 1:=by rw [hg]; simp
  have ha:Ext (w.alloc (.cells #[.int .i64 c.keep,.int .i64 c.body,.int .i64 c.store,.int .i64 c.conns,.slice UA c.ups.length uc,.slice SA c.srvs.length sc] 32)) wx:=Ext.tr (by rw [hW0]; exact (Ext.rfl' _).al _) hx
  refine ⟨fun j u h=>by rw [hg]; exact ha.new j u h,fun j u h=>?_⟩
  rw [← hz]
  rw [hW0] at hx
  exact hx.new j u h)
 have hgl:g + 1 < W0.heap.size:=by rw [hW0,hg]; simp
 have z0:=(hcl.out W0 (Ext.rfl' _)).2 0 _ rfl
 have z8:=(hcl.out W0 (Ext.rfl' _)).2 8 _ rfl
 have z9:=(hcl.out W0 (Ext.rfl' _)).2 9 _ rfl
 go_enter Tryz.func112,Tryz.ntmps112
 go_upto_region 1 with (fail)
 rw [← hW0,← hg]
 clear hW0 hg
 obtain ⟨b0,hb0⟩:∃ b,b=loc0 y:=⟨_,rfl⟩
 rw [← hb0] at HA HLF
 have HB0:=Lib.hid hb0
 clear hb0
 go_cut [33] (fun v33 wx=>v33=.bool (!b0)∧Ext W0 wx)
 case first=>as_aux_lemma =>
  have C1:=Lib.hid (rinB_c y.rate 0 1000000)
  have C2:=Lib.hid (rinB_c y.burst 0 1000000)
  have HI:Hid (inB y.rate 0 1000000=true → 0 ≤ y.rate):=Lib.hid (fun h=>(inB_R h).1)
  generalize inB y.rate 0 1000000=i1 at *
  generalize inB y.burst 0 1000000=i2 at *
  by_cases hr:y.rate=0
  ·have d1:(y.rate == 0)=true:=beq_iff_eq.2 hr
   by_cases hb:y.burst=0
   ·have d2:(y.burst == 0)=true:=beq_iff_eq.2 hb
    have HBQ:Hid (b0=(a1 && i1 && i2)):=Lib.hid (by rw [HA.out]; simp [hb])
    have HBH:=Lib.hid hb
    clear hr hb
    go_wp2_with (first
     | (go_at_call 140; refine (CP.out _).mono ?_; rintro e' w1 ⟨rfl,hx1⟩; have q8:=(hcl.out _ hx1).2 8 _ rfl; have q9:=(hcl.out _ hx1).2 9 _ rfl; cases a1)
     | (go_at_call 66; refine (C1.out _).mono ?_; rintro e' w2 ⟨rfl,rfl⟩; clear C1)
     | (go_at_call 66; refine (C2.out _).mono ?_; rintro e' w2 ⟨rfl,rfl⟩))
    all_goals
     go_meet
     exact ⟨by rw [HBQ.out]; simp [*,HBH.out],by first | assumption | exact Ext.rfl' _⟩
   ·have d2:(y.burst == 0)=false:=beq_eq_false_iff_ne.2 hb
    have HBQ:Hid (b0=false):=Lib.hid (by rw [HA.out]; simp [hb,hr])
    have HBH:=Lib.hid hb
    clear hr hb
    go_wp2_with (first
     | (go_at_call 140; refine (CP.out _).mono ?_; rintro e' w1 ⟨rfl,hx1⟩; have q8:=(hcl.out _ hx1).2 8 _ rfl; have q9:=(hcl.out _ hx1).2 9 _ rfl; cases a1)
     | (go_at_call 66; refine (C1.out _).mono ?_; rintro e' w2 ⟨rfl,rfl⟩; clear C1)
     | (go_at_call 66; refine (C2.out _).mono ?_; rintro e' w2 ⟨rfl,rfl⟩))
    all_goals
     go_meet
     exact ⟨by rw [HBQ.out]; simp [*,HBH.out],by first | assumption | exact Ext.rfl' _⟩
  ·have d1:(y.rate == 0)=false:=beq_eq_false_iff_ne.2 hr
   have HBQ:Hid (b0=(a1 && i1 && i2)):=Lib.hid (by
    rw [HA.out]
    cases i1
    ·simp
    ·have h1:=HI.out rfl
     rw [decide_eq_true (show 0 < y.rate by omega)]; simp)
   have HBH:=Lib.hid hr
   clear hr
   go_wp2_with (first
    | (go_at_call 140; refine (CP.out _).mono ?_; rintro e' w1 ⟨rfl,hx1⟩; have q8:=(hcl.out _ hx1).2 8 _ rfl; have q9:=(hcl.out _ hx1).2 9 _ rfl; cases a1)
    | (go_at_call 66; refine (C1.out _).mono ?_; rintro e' w2 ⟨rfl,rfl⟩; clear C1)
    | (go_at_call 66; refine (C2.out _).mono ?_; rintro e' w2 ⟨rfl,rfl⟩))
   all_goals
    go_meet
    exact ⟨by rw [HBQ.out]; simp [*,HBH.out],by first | assumption | exact Ext.rfl' _⟩
 case rest =>
  obtain ⟨rfl,hx1⟩:=hcut
  obtain ⟨W1,rfl⟩:∃ W,W=wc:=⟨_,rfl⟩
  cases b0 with
  | false =>
   have HF:=Lib.hid (HLF.out rfl)
   go_wp2
   go_ret
   exact ⟨ret_bool (by rw [HF.out]),hx0.tr hx1⟩
  | true =>
  have e1:=(hcl.out _ hx1).2
  have c0:=e1 0 _ rfl
  have c1:=e1 1 _ rfl
  have c8:=e1 8 _ rfl
  have c9:=e1 9 _ rfl
  go_upto_region 4 with (fail)
  obtain ⟨W2,hW2⟩:∃ W,W=W1.alloc (.cells #[.string sp,.int .i64 3,.string ⟨#[]⟩,.string ⟨#[]⟩,.int .i64 0,.int .i64 0,.string ⟨#[]⟩,.bool false,.int .i64 y.rate,.int .i64 y.burst,.int .i64 0,.string ⟨#[]⟩] 90):=⟨_,rfl⟩
  have hx2:Ext W1 W2:=by rw [hW2]; exact (Ext.rfl' W1).al _
  have hr2:W2.heap[W1.heap.size]?=some (.cells #[.string sp,.int .i64 3,.string ⟨#[]⟩,.string ⟨#[]⟩,.int .i64 0,.int .i64 0,.string ⟨#[]⟩,.bool false,.int .i64 y.rate,.int .i64 y.burst,.int .i64 0,.string ⟨#[]⟩] 90 (0,0)):=by rw [hW2]; exact heap_alloc_new W1 _
  have hRg:W0.heap.size ≤ W1.heap.size:=hx1.size
  obtain ⟨R,hR⟩:∃ R,R=W1.heap.size:=⟨_,rfl⟩
  rw [← hW2,← hR]
  rw [← hR] at hr2 hRg
  clear hW2 hR c0 c1 c8 c9 e1
  have hxW:=hx1.tr hx2
  have hrl:=row_lt hr2
  have hgR:g + 1 ≠ R:=by omega
  have hgR0:g ≠ R:=by omega
  have e1:=(hcl.out _ hxW).2
  have c1:=e1 1 _ rfl
  have HLV:Hid (L=(inB y.status 200 599 && decide (y.goal.length ≤ 1024) && bytesC 32 y.goal && decide (trimL y.goal=y.goal) && decide (y=ownLo y))):=Lib.hid (by
   rw [HL.out]
   unfold locC
   rw [if_neg (by rw [HK.out]; decide),if_neg (by rw [HK.out]; decide),if_pos HK.out,← HB0.out,own_rest]
   unfold loc3
   simp)
  have HOWN:Hid (ownLo y=⟨y.pre,3,[],[],0,0,[],false,y.rate,y.burst,y.status,y.goal⟩):=Lib.hid (by
   unfold ownLo
   rw [if_neg (by rw [HK.out]; decide),if_neg (by rw [HK.out]; decide),HK.out]; rfl)
  have e10:=e1 10 _ rfl
  have e11:=e1 11 _ rfl
  have r10:=row_facts hr2 10 _ rfl
  have r11:=row_facts hr2 11 _ rfl
  have HR2:=Lib.hid hr2
  clear e1 hr2
  go_upto_region 27 with (fail)
  obtain ⟨W3,hW3⟩:∃ W,W=(W2.setCell ⟨R,10,none⟩ (.int .i64 y.status)).setCell ⟨R,11,none⟩ (.string sg):=⟨_,rfl⟩
  have hx3:Ext W0 W3:=by rw [hW3]; exact (hxW.st hRg _).st hRg _
  have hr3:=row_set (row_set HR2.out 10 (.int .i64 y.status)) 11 (.string sg)
  rw [← hW3] at hr3 ⊢
  have HR3:=Lib.hid hr3
  have hR3l:=row_lt hr3
  clear hW3 HR2 r10 r11 e10 e11 c1 hr3 hx1 hx2 hxW
  have t10:=(hcl.out _ hx3).2 10 _ rfl
  have t11:=(hcl.out _ hx3).2 11 _ rfl
  have hsz:sg.size=y.goal.length:=by rw [HSG.out,str_size]
  obtain ⟨t,ht⟩:∃ t,t=str (trimL y.goal):=⟨_,rfl⟩
  rw [← ht] at CT
  rw [← HSG.out] at CB CT
  obtain ⟨b3,hb3⟩:∃ b,b=bytesC 32 y.goal:=⟨_,rfl⟩
  rw [← hb3] at CB HLV
  clear hb3
  have n1:decide ((1024:Int) < (sg.size:Int))=!(decide (y.goal.length ≤ 1024)):=by
   rw [hsz]
   by_cases h:y.goal.length ≤ 1024
   ·rw [decide_eq_true h,decide_eq_false (by omega)]; rfl
   ·rw [decide_eq_false h,decide_eq_true (by omega)]; rfl
  obtain ⟨b2,hb2⟩:∃ b,b=decide (y.goal.length ≤ 1024):=⟨_,rfl⟩
  rw [← hb2] at HLV n1
  clear hb2 hsz
  cases h1:inB y.status 200 599 with
  | false =>
   have HTG:Hid True:=Lib.hid trivial
   first
    | (go_region_with (first
      | (go_at_call 66; refine (rinB_c _ _ _ _).mono ?_; rintro e' w2 ⟨rfl,rfl⟩)
      | (go_at_call 142; refine (CB.out _).mono ?_; rintro e' w3 ⟨rfl,hx4⟩; have u11:=(hcl.out w3 (hx3.tr (by (repeat first | exact Ex0 | assumption | refine Ex1 ?_ | refine Ex2 ?_ | refine Ex3 ?_ | refine Ex4 ?_ | refine Ex5 ?_)))).2 11 _ rfl)
      | (go_at_call 143; refine (CT.out _).mono ?_; rintro e' w4 ⟨rfl,hx5⟩; have v11:=(hcl.out w4 (hx3.tr (by (repeat first | exact Ex0 | assumption | refine Ex1 ?_ | refine Ex2 ?_ | refine Ex3 ?_ | refine Ex4 ?_ | refine Ex5 ?_)))).2 11 _ rfl)))
    | fail
   all_goals
    go_wp2
    go_ret
    exact ⟨ret_bool (by rw [HLV.out]; simp [*,HTG.out]),hx0.tr (hx3.tr (by (repeat first | exact Ex0 | assumption | refine Ex1 ?_ | refine Ex2 ?_ | refine Ex3 ?_ | refine Ex4 ?_ | refine Ex5 ?_)))⟩
  | true =>
  cases b2 with
  | false =>
   have HTG:Hid True:=Lib.hid trivial
   have n1:decide ((1024:Int) < (sg.size:Int))=true:=n1
   first
    | (go_region_with (first
      | (go_at_call 66; refine (rinB_c _ _ _ _).mono ?_; rintro e' w2 ⟨rfl,rfl⟩)
      | (go_at_call 142; refine (CB.out _).mono ?_; rintro e' w3 ⟨rfl,hx4⟩; have u11:=(hcl.out w3 (hx3.tr (by (repeat first | exact Ex0 | assumption | refine Ex1 ?_ | refine Ex2 ?_ | refine Ex3 ?_ | refine Ex4 ?_ | refine Ex5 ?_)))).2 11 _ rfl)
      | (go_at_call 143; refine (CT.out _).mono ?_; rintro e' w4 ⟨rfl,hx5⟩; have v11:=(hcl.out w4 (hx3.tr (by (repeat first | exact Ex0 | assumption | refine Ex1 ?_ | refine Ex2 ?_ | refine Ex3 ?_ | refine Ex4 ?_ | refine Ex5 ?_)))).2 11 _ rfl)))
    | fail
   all_goals
    go_wp2
    go_ret
    exact ⟨ret_bool (by rw [HLV.out]; simp [*,HTG.out]),hx0.tr (hx3.tr (by (repeat first | exact Ex0 | assumption | refine Ex1 ?_ | refine Ex2 ?_ | refine Ex3 ?_ | refine Ex4 ?_ | refine Ex5 ?_)))⟩
  | true =>
  have n1:decide ((1024:Int) < (sg.size:Int))=false:=n1
  cases b3 with
  | false =>
   have HTG:Hid True:=Lib.hid trivial
   first
    | (go_region_with (first
      | (go_at_call 66; refine (rinB_c _ _ _ _).mono ?_; rintro e' w2 ⟨rfl,rfl⟩)
      | (go_at_call 142; refine (CB.out _).mono ?_; rintro e' w3 ⟨rfl,hx4⟩; have u11:=(hcl.out w3 (hx3.tr (by (repeat first | exact Ex0 | assumption | refine Ex1 ?_ | refine Ex2 ?_ | refine Ex3 ?_ | refine Ex4 ?_ | refine Ex5 ?_)))).2 11 _ rfl)
      | (go_at_call 143; refine (CT.out _).mono ?_; rintro e' w4 ⟨rfl,hx5⟩; have v11:=(hcl.out w4 (hx3.tr (by (repeat first | exact Ex0 | assumption | refine Ex1 ?_ | refine Ex2 ?_ | refine Ex3 ?_ | refine Ex4 ?_ | refine Ex5 ?_)))).2 11 _ rfl)))
    | fail
   all_goals
    go_wp2
    go_ret
    exact ⟨ret_bool (by rw [HLV.out]; simp [*,HTG.out]),hx0.tr (hx3.tr (by (repeat first | exact Ex0 | assumption | refine Ex1 ?_ | refine Ex2 ?_ | refine Ex3 ?_ | refine Ex4 ?_ | refine Ex5 ?_)))⟩
  | true =>
  by_cases htg:trimL y.goal=y.goal
  ·obtain rfl:sg=t:=by rw [ht,HSG.out,htg]
   have HLV:Hid (L=decide (y=ownLo y)):=Lib.hid (by rw [HLV.out,decide_eq_true htg,h1]; rfl)
   clear ht htg
   first
    | (go_region_with (first
      | (go_at_call 66; refine (rinB_c _ _ _ _).mono ?_; rintro e' w2 ⟨rfl,rfl⟩)
      | (go_at_call 142; refine (CB.out _).mono ?_; rintro e' w3 ⟨rfl,hx4⟩; have u11:=(hcl.out w3 (hx3.tr (by (repeat first | exact Ex0 | assumption | refine Ex1 ?_ | refine Ex2 ?_ | refine Ex3 ?_ | refine Ex4 ?_ | refine Ex5 ?_)))).2 11 _ rfl)
      | (go_at_call 143; refine (CT.out _).mono ?_; rintro e' w4 ⟨rfl,hx5⟩; have v11:=(hcl.out w4 (hx3.tr (by (repeat first | exact Ex0 | assumption | refine Ex1 ?_ | refine Ex2 ?_ | refine Ex3 ?_ | refine Ex4 ?_ | refine Ex5 ?_)))).2 11 _ rfl)))
    | fail
   all_goals
    go_upto_region 29 with (fail)
    refine (fun (h:∀ W9,Ext W3 W9 → Code.wp _ _ _ _ W9)=>h _ (by (repeat first | exact Ex0 | assumption | refine Ex1 ?_ | refine Ex2 ?_ | refine Ex3 ?_ | refine Ex4 ?_ | refine Ex5 ?_))) ?_
    intro W9 hxr
    have hx0r:=hx3.tr hxr
    clear t10 t11
    have h1:=(hcl.out _ hx0r).2
    have l0:=h1 0 _ rfl
    have l1:=h1 1 _ rfl
    have l2:=h1 2 _ rfl
    have l3:=h1 3 _ rfl
    have l4:=h1 4 _ rfl
    have l5:=h1 5 _ rfl
    have l6:=h1 6 _ rfl
    have l7:=h1 7 _ rfl
    have l8:=h1 8 _ rfl
    have l9:=h1 9 _ rfl
    have la:=h1 10 _ rfl
    have lb:=h1 11 _ rfl
    clear h1
    have hr9:=(hxr.block R hR3l).trans HR3.out
    have f0:=(row_facts hr9 0 _ rfl).1
    have f1:=(row_facts hr9 1 _ rfl).1
    have f2:=(row_facts hr9 2 _ rfl).1
    have f3:=(row_facts hr9 3 _ rfl).1
    have f4:=(row_facts hr9 4 _ rfl).1
    have f5:=(row_facts hr9 5 _ rfl).1
    have f6:=(row_facts hr9 6 _ rfl).1
    have f7:=(row_facts hr9 7 _ rfl).1
    have f8:=(row_facts hr9 8 _ rfl).1
    have f9:=(row_facts hr9 9 _ rfl).1
    have fa:=(row_facts hr9 10 _ rfl).1
    have fb:=(row_facts hr9 11 _ rfl).1
    clear hr9
    have HEQ:∀ w',(binOp .eql 90 (.agg #[.string sp,.int .i64 3,.string sr,.string si,.int .i64 y.gzip,.int .i64 y.expires,.string su,.bool y.cache,.int .i64 y.rate,.int .i64 y.burst,.int .i64 y.status,.string sg]) (.agg #[.string sp,.int .i64 3,.string ⟨#[]⟩,.string ⟨#[]⟩,.int .i64 0,.int .i64 0,.string ⟨#[]⟩,.bool false,.int .i64 y.rate,.int .i64 y.burst,.int .i64 y.status,.string sg])).run Tryz.prog w'=.ok (.bool L) w':=fun w'=>by
     have h:=eq_locR y (ownLo y) w'
     rw [HLV.out]
     rw [HOWN.out] at h ⊢
     unfold LoV at h
     dsimp only at h
     rw [← HSP.out,← HSR.out,← HSI.out,← HSU.out,← HSG.out,HK.out] at h
     exact h
    go_wp2
    go_ret
    exact ⟨rfl,hx0.tr hx0r⟩
  ·have g1:¬ t.toList=sg.toList:=by rw [ht,HSG.out,str_tl,str_tl]; exact htg
   have g2:(t.toList == sg.toList)=false:=beq_eq_false_iff_ne.2 g1
   have HTG:Hid (decide (trimL y.goal=y.goal)=false):=Lib.hid (decide_eq_false htg)
   clear ht htg
   first
    | (go_region_with (first
      | (go_at_call 66; refine (rinB_c _ _ _ _).mono ?_; rintro e' w2 ⟨rfl,rfl⟩)
      | (go_at_call 142; refine (CB.out _).mono ?_; rintro e' w3 ⟨rfl,hx4⟩; have u11:=(hcl.out w3 (hx3.tr (by (repeat first | exact Ex0 | assumption | refine Ex1 ?_ | refine Ex2 ?_ | refine Ex3 ?_ | refine Ex4 ?_ | refine Ex5 ?_)))).2 11 _ rfl)
      | (go_at_call 143; refine (CT.out _).mono ?_; rintro e' w4 ⟨rfl,hx5⟩; have v11:=(hcl.out w4 (hx3.tr (by (repeat first | exact Ex0 | assumption | refine Ex1 ?_ | refine Ex2 ?_ | refine Ex3 ?_ | refine Ex4 ?_ | refine Ex5 ?_)))).2 11 _ rfl)))
    | fail
   all_goals
    go_wp2
    go_ret
    exact ⟨ret_bool (by rw [HLV.out]; simp [*,HTG.out]),hx0.tr (hx3.tr (by (repeat first | exact Ex0 | assumption | refine Ex1 ?_ | refine Ex2 ?_ | refine Ex3 ?_ | refine Ex4 ?_ | refine Ex5 ?_)))⟩
theorem rlocation_c (y:Lo14) (hS:LoS y) (c:Cf14) (U:List (Up14 × Hd)) (UA:Option Addr) (uc:Nat) (SA:Option Addr) (sc:Nat) (w:World) (hU:U.map (·.1)=c.ups) (hul:c.ups.length ≤ 1099511627776) (hrd:Rd w UA (U.flatMap upV)) :
  Calls Tryz.prog 112 #[cfV c UA uc SA sc,.agg (LoV y)] w (Gives (.bool (locC c.ups y)) w):=by
 by_cases h1:y.kind=1
 ·exact rlocation_1 y hS c UA uc SA sc w h1
 ·by_cases h2:y.kind=2
  ·exact rlocation_2 y hS c U UA uc SA sc w h2 hU hul hrd
  ·by_cases h3:y.kind=3
   ·exact rlocation_3 y hS c UA uc SA sc w h3
   ·exact rlocation_0 y hS c UA uc SA sc w y.kind rfl h1 h2 h3
end Go.Proofs.YtmnohicojefhfaaGreatDoor
