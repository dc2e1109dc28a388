/-
A location's check: handed on to an upstream; of no kind.
-/
import Derived.Test.YtmnohicojefhfaaGreatDoorCh7
import Derived.Deep.RegionHeld3
import Derived.Deep.RegionWith
set_option maxRecDepth 100000
set_option maxHeartbeats 8000000
set_option linter.unusedVariables false
set_option linter.unusedSimpArgs false
section
namespace Go.Proofs.YtmnohicojefhfaaGreatDoor
open Go.RowKit
theorem loF1_c (nm up:List UInt8) (B:Option Addr) (n d:Nat) (t r:Int) (p:Nat) (w:World) (hc:w.cell? ⟨p,6,none⟩=some (.string (str up))) :
  Calls Tryz.prog 127 #[.agg #[.string (str nm),.slice B n d,.int .i64 t,.int .i64 r],.pointer (some ⟨p,0,none⟩)] w (Gives (.bool (decide (nm=up))) w):=by
 have hx:∀ o,(w.alloc o).cell? ⟨p,6,none⟩=some (.string (str up)):=fun o=>(((Ext.rfl' w).al o).cell (lt_of_cell hc)).trans hc
 have hne:p ≠ w.heap.size:=by have:p < w.heap.size:=lt_of_cell hc; omega
 obtain ⟨s,hs⟩:∃ s,s=str nm:=⟨_,rfl⟩
 obtain ⟨u,hu⟩:∃ s,s=str up:=⟨_,rfl⟩
 rw [← hs]
 rw [← hu] at hx
 clear hc
 by_cases h:nm=up
 ·obtain rfl:s=u:=by rw [hs,hu,h]
  rw [decide_eq_true h]
  clear hs hu h
  go_enter Tryz.func127,Tryz.ntmps127
  go_wp2
  go_ret
  exact ⟨ret_bool (by simp),by (repeat first | exact Ex0 | assumption | refine Ex1 ?_ | refine Ex2 ?_ | refine Ex3 ?_ | refine Ex4 ?_ | refine Ex5 ?_)⟩
 ·have g1:¬ s.toList=u.toList:=by rw [hs,hu,str_tl,str_tl]; exact h
  have g2:(s.toList == u.toList)=false:=beq_eq_false_iff_ne.2 g1
  rw [decide_eq_false h]
  clear hs hu h
  go_enter Tryz.func127,Tryz.ntmps127
  go_wp2
  go_ret
  exact ⟨ret_bool (by simp),by (repeat first | exact Ex0 | assumption | refine Ex1 ?_ | refine Ex2 ?_ | refine Ex3 ?_ | refine Ex4 ?_ | refine Ex5 ?_)⟩
theorem cLoRight_2 (l:Lo14) (hS:LoS l) (U:List (Up14 × Hd)) (UA:Option Addr) (uc:Nat) (w:World) (hul:U.length ≤ 1099511627776) (hrd:Rd w UA (U.flatMap upV)) (hk:l.kind=2) :
  Calls Tryz.prog 82 #[.agg (LoV l),.slice UA U.length uc] w (Gives (.bool (locC (U.map (·.1)) l)) w):=by
 have HL:Hid (locC (U.map (·.1)) l=(loc0 l && loc2 (U.map (·.1)) l && decide (restC l=lo0))):=Lib.hid (by unfold locC; rw [if_neg (by rw [hk]; decide),if_pos hk])
 have HL1:Hid (loc2 (U.map (·.1)) l=(U.any (fun x=>decide (x.1.name=l.up)) && inB l.gzip 0 9)):=Lib.hid (by unfold loc2; rw [List.any_map]; rfl)
 have HL2:Hid (restC l=⟨[],0,l.root,l.index,0,l.expires,[],false,0,0,l.status,l.goal⟩):=Lib.hid (by unfold restC; rw [if_neg (by rw [hk]; decide),if_pos hk])
 have CU:Hid (∀ w' p,Ext w w' → w'.cell? ⟨p,6,none⟩=some (.string (str l.up)) → Calls Tryz.prog 69 #[.slice UA U.length uc,.func (.func 127) #[] #[.pointer (some ⟨p,0,none⟩)]] w' (Gives (.bool (U.any (fun x=>decide (x.1.name=l.up)))) w')):=Lib.hid (fun w' p hx hc =>
  conU_c (fun x:Up14 × Hd=>.string (str x.1.name)) (fun x=>.slice x.2.1 x.1.peers.length x.2.2) (fun x=>.int .i64 x.1.timeout) (fun x=>.int .i64 x.1.retries) U UA uc 127 #[.pointer (some ⟨p,0,none⟩)] (fun x=>decide (x.1.name=l.up)) w' hul (fun _ _=>by kernel_rfl) (hrd.ext hx)
   (fun x _ w2 h2=>loF1_c x.1.name l.up x.2.1 x.1.peers.length x.2.2 x.1.timeout x.1.retries p w2 ((h2.cell (lt_of_cell hc)).trans hc)))
 generalize locC (U.map (·.1)) l=LL at *
 generalize restC l=RR at *
 obtain ⟨b1,hb1⟩:∃ b,b=loc2 (U.map (·.1)) l:=⟨_,rfl⟩
 rw [← hb1] at HL HL1
 clear hb1 hrd
 obtain ⟨q,hq⟩:∃ b,b=U.any (fun x=>decide (x.1.name=l.up)):=⟨_,rfl⟩
 rw [← hq] at CU HL1
 clear hq
 obtain ⟨UL,hUL⟩:∃ n,n=U.length:=⟨_,rfl⟩
 rw [← hUL] at CU hul ⊢
 clear hUL
 have CP:=Lib.hid (fun w=>cpath_c l.pre hS.pre w)
 obtain ⟨b0,hb0⟩:∃ b,b=loc0 l:=⟨_,rfl⟩
 rw [← hb0] at HL
 obtain ⟨pre,k,root,index,g,e,up,ca,r,bu,st,goal⟩:=l
 dsimp only at *
 subst hk
 have HB0:Hid (b0=(pathC pre && inB r 0 1000000 && inB bu 0 1000000 && (decide (0 < r) || decide (bu=0)))):=Lib.hid hb0
 obtain ⟨a1,ha1⟩:∃ b,b=pathC pre:=⟨_,rfl⟩
 obtain ⟨sp,hsp⟩:∃ s,s=str pre:=⟨_,rfl⟩
 obtain ⟨sr,hsr⟩:∃ s,s=str root:=⟨_,rfl⟩
 obtain ⟨si,hsi⟩:∃ s,s=str index:=⟨_,rfl⟩
 obtain ⟨su,hsu⟩:∃ s,s=str up:=⟨_,rfl⟩
 obtain ⟨sg,hsg⟩:∃ s,s=str goal:=⟨_,rfl⟩
 have HSR:=Lib.hid hsr
 have HSI:=Lib.hid hsi
 have HSU:=Lib.hid hsu
 have HSG:=Lib.hid hsg
 rw [← ha1] at CP HB0
 rw [← hsp] at CP
 unfold LoV
 dsimp only
 rw [← hsp,← hsr,← hsi,← hsu,← hsg]
 clear ha1 hsp hsr hsi hsu hsg hb0
 have hx0:=(Ext.rfl' w).al (.cells #[.string sp,.int .i64 2,.string sr,.string si,.int .i64 g,.int .i64 e,.string su,.bool ca,.int .i64 r,.int .i64 bu,.int .i64 st,.string sg] 81)
 go_enter Tryz.func82,Tryz.ntmps82
 go_upto_region 1 with (fail)
 obtain ⟨W0,hW0⟩:∃ W,W=w.alloc (.cells #[.string sp,.int .i64 2,.string sr,.string si,.int .i64 g,.int .i64 e,.string su,.bool ca,.int .i64 r,.int .i64 bu,.int .i64 st,.string sg] 81):=⟨_,rfl⟩
 rw [← hW0]
 rw [← hW0] at hx0
 have hcl:Hid (∀ wx,Ext W0 wx → ∀ j u,(#[.string sp,.int .i64 2,.string sr,.string si,.int .i64 g,.int .i64 e,.string su,.bool ca,.int .i64 r,.int .i64 bu,.int .i64 st,.string sg]:Array Value)[j]?=some u → wx.cell? ⟨w.heap.size,j,none⟩=some u):=Lib.hid (fun wx hx=>by rw [hW0] at hx; exact fun j u h=>hx.new j u h)
 have hlt0:w.heap.size < W0.heap.size:=by rw [hW0]; simp
 clear hW0
 have z0:=hcl.out W0 (Ext.rfl' _) 0 _ rfl
 go_cut [5] (fun v5 wx=>v5=.bool b0∧Ext W0 wx)
 case first=>as_aux_lemma =>
  by_cases hr:0 < r
  ·have d1:decide (0 < r)=true:=decide_eq_true hr
   have HD:Hid ((decide (0 < r) || decide (bu=0))=true):=Lib.hid (by rw [d1]; rfl)
   go_wp2_with (first
    | (go_at_call 124; refine (CP.out _).mono ?_; rintro e w1 ⟨rfl,hx1⟩; have q8:=hcl.out _ hx1 8 _ rfl; have q9:=hcl.out _ hx1 9 _ rfl; cases a1)
    | (go_at_call 29; refine (cinB_c _ _ _ _).mono ?_; rintro e w2 ⟨rfl,rfl⟩))
   all_goals
    go_meet
    exact ⟨by rw [HB0.out,HD.out]; simp [*],by assumption⟩
  ·have d1:decide (0 < r)=false:=decide_eq_false hr
   by_cases hb:bu=0
   ·have d2:(bu == 0)=true:=beq_iff_eq.2 hb
    have HD:Hid ((decide (0 < r) || decide (bu=0))=true):=Lib.hid (by rw [decide_eq_true hb]; simp)
    clear hb
    go_wp2_with (first
     | (go_at_call 124; refine (CP.out _).mono ?_; rintro e w1 ⟨rfl,hx1⟩; have q8:=hcl.out _ hx1 8 _ rfl; have q9:=hcl.out _ hx1 9 _ rfl; cases a1)
     | (go_at_call 29; refine (cinB_c _ _ _ _).mono ?_; rintro e w2 ⟨rfl,rfl⟩))
    all_goals
     go_meet
     exact ⟨by rw [HB0.out,HD.out]; simp [*],by assumption⟩
   ·have d2:(bu == 0)=false:=beq_eq_false_iff_ne.2 hb
    have HD:Hid ((decide (0 < r) || decide (bu=0))=false):=Lib.hid (by rw [decide_eq_false hb,d1]; rfl)
    go_wp2_with (first
     | (go_at_call 124; refine (CP.out _).mono ?_; rintro e w1 ⟨rfl,hx1⟩; have q8:=hcl.out _ hx1 8 _ rfl; have q9:=hcl.out _ hx1 9 _ rfl; cases a1)
     | (go_at_call 29; refine (cinB_c _ _ _ _).mono ?_; rintro e w2 ⟨rfl,rfl⟩))
    all_goals
     go_meet
     exact ⟨by rw [HB0.out,HD.out]; simp [*],by assumption⟩
 case rest =>
  rw [← HSU.out] at CU
  obtain ⟨rfl,hw1⟩:=hcut
  obtain ⟨W1,rfl⟩:∃ W,W=wc:=⟨_,rfl⟩
  have e1:=hcl.out _ hw1
  have c0:=e1 0 _ rfl
  have c1:=e1 1 _ rfl
  have c2:=e1 2 _ rfl
  have c3:=e1 3 _ rfl
  have c4:=e1 4 _ rfl
  have c5:=e1 5 _ rfl
  have c6:=e1 6 _ rfl
  have c7:=e1 7 _ rfl
  have c8:=e1 8 _ rfl
  have c9:=e1 9 _ rfl
  have ca1:=e1 10 _ rfl
  have cb1:=e1 11 _ rfl
  clear e1
  have hne:w.heap.size ≠ W1.heap.size:=by have:=hw1.size; omega
  go_upto_region 4 with (fail)
  obtain ⟨W2,hW2⟩:∃ W,W=W1.alloc (.cells #[.string ⟨#[]⟩,.int .i64 0,.string sr,.string si,.int .i64 g,.int .i64 e,.string su,.bool ca,.int .i64 0,.int .i64 0,.int .i64 st,.string sg] 81):=⟨_,rfl⟩
  have hx2:Ext W1 W2:=by rw [hW2]; exact (Ext.rfl' W1).al _
  have hr2:W2.heap[W1.heap.size]?=some (.cells #[.string ⟨#[]⟩,.int .i64 0,.string sr,.string si,.int .i64 g,.int .i64 e,.string su,.bool ca,.int .i64 0,.int .i64 0,.int .i64 st,.string sg] 81 (0,0)):=by rw [hW2]; exact heap_alloc_new W1 _
  rw [← hW2]
  clear hW2 c0 c1 c2 c3 c4 c5 c6 c7 c8 c9 ca1 cb1
  obtain ⟨R,hR⟩:∃ R,R=W1.heap.size:=⟨_,rfl⟩
  rw [← hR] at hr2 hne ⊢
  have HRR:=Lib.hid hR
  clear hR
  have hw2:=hw1.tr hx2
  have hrl:=row_lt hr2
  have e1:=hcl.out _ hw2
  have c1:=e1 1 _ rfl
  go_upto_block 0 with (fail)
  clear c1
  obtain ⟨b9,hb9⟩:∃ b,b=decide (RR=lo0):=⟨_,rfl⟩
  have HB9:Hid (b9=decide ((⟨[],0,root,index,0,e,[],false,0,0,st,goal⟩:Lo14)=lo0)):=Lib.hid (by rw [hb9,HL2.out])
  obtain ⟨bF,hbF⟩:∃ b,b=(b0 && b1):=⟨_,rfl⟩
  have HFIN:Hid (LL=(bF && b9)):=Lib.hid (by rw [HL.out,hbF,hb9])
  have HBF:=Lib.hid hbF
  clear hb9 hbF
  go_cut [5] (fun v5 wx=>v5=.bool bF∧Ext W0 wx∧wx.heap[R]?=some (.cells #[.string ⟨#[]⟩,.int .i64 0,.string sr,.string si,.int .i64 0,.int .i64 e,.string ⟨#[]⟩,.bool false,.int .i64 0,.int .i64 0,.int .i64 st,.string sg] 81 (0,0)))
  case rest =>
   obtain ⟨rfl,hwF,hrF⟩:=hcut
   obtain ⟨W9,rfl⟩:∃ W,W=wc:=⟨_,rfl⟩
   have f0:=(row_facts hrF 0 _ rfl).1
   have f1:=(row_facts hrF 1 _ rfl).1
   have f2:=(row_facts hrF 2 _ rfl).1
   have f3:=(row_facts hrF 3 _ rfl).1
   have f4:=(row_facts hrF 4 _ rfl).1
   have f5:=(row_facts hrF 5 _ rfl).1
   have f6:=(row_facts hrF 6 _ rfl).1
   have f7:=(row_facts hrF 7 _ rfl).1
   have f8:=(row_facts hrF 8 _ rfl).1
   have f9:=(row_facts hrF 9 _ rfl).1
   have fa:=(row_facts hrF 10 _ rfl).1
   have fb:=(row_facts hrF 11 _ rfl).1
   clear hrF
   cases bF with
   | false =>
    go_wp2
    go_ret
    exact ⟨ret_bool (by rw [HFIN.out]; simp),hx0.tr hwF⟩
   | true =>
    have HEQ:∀ w',(binOp .eql 81 (.agg #[.string ⟨#[]⟩,.int .i64 0,.string sr,.string si,.int .i64 0,.int .i64 e,.string ⟨#[]⟩,.bool false,.int .i64 0,.int .i64 0,.int .i64 st,.string sg]) (.agg #[.string ⟨#[]⟩,.int .i64 0,.string ⟨#[]⟩,.string ⟨#[]⟩,.int .i64 0,.int .i64 0,.string ⟨#[]⟩,.bool false,.int .i64 0,.int .i64 0,.int .i64 0,.string ⟨#[]⟩])).run Tryz.prog w'=.ok (.bool b9) w':=fun w'=>by
     have h:=eq_loc (⟨[],0,root,index,0,e,[],false,0,0,st,goal⟩:Lo14) lo0 w'
     rw [HB9.out]
     simp only [HSU.out,HSR.out,HSI.out,HSG.out]
     exact h
    go_wp2
    go_ret
    exact ⟨ret_bool (by rw [HFIN.out]; simp),hx0.tr hwF⟩
  case first =>
   go_upto_region 11 with (fail)
   have y6:=e1 6 _ rfl
   clear e1
   have hmf:∀ (fn:Fn) (first cap:Array Value) (w:World),(Instr.makeFunc fn first cap).run Tryz.prog w=.ok (.func fn first cap) w:=fun _ _ _ _=>rfl
   go_cut [5] (fun v5 wx=>v5=.bool bF∧Ext W2 wx)
   case first =>
    have CU2:=Lib.hid (CU.out W2 w.heap.size (hx0.tr hw2) y6)
    cases b0
    all_goals
     go_wp2_with (first
      | (go_at_call 69; refine CU2.out.mono ?_; rintro e' w3 ⟨rfl,hx3⟩; have u4:=hcl.out _ (hw2.tr hx3) 4 _ rfl; cases q)
      | (go_at_call 29; refine (cinB_c _ _ _ _).mono ?_; rintro e' w2 ⟨rfl,rfl⟩))
     all_goals
      go_meet
      exact ⟨by rw [HBF.out,HL1.out]; simp [*],by first | exact Ext.rfl' _ | exact hx3⟩
   case rest =>
    obtain ⟨rfl,hw7⟩:=hcut
    obtain ⟨W7,rfl⟩:∃ W,W=wc:=⟨_,rfl⟩
    have r7:=(hw7.block R hrl).trans hr2
    have s4:=row_facts r7 4 _ rfl
    have s6:=row_facts r7 6 _ rfl
    have s7:=row_facts r7 7 _ rfl
    have HR7:=Lib.hid r7
    have HWW:=Lib.hid (hw2.tr hw7)
    clear r7
    have hR0:W0.heap.size ≤ R:=by rw [HRR.out]; exact hw1.size
    go_wp2
    go_meet
    refine ⟨rfl,(((HWW.out.st hR0 _).st hR0 _).st hR0 _),?_⟩
    have:=row_set (row_set (row_set HR7.out 6 (.string ⟨#[]⟩)) 7 (.bool false)) 4 (.int .i64 0)
    exact this
theorem cLoRight_0 (l:Lo14) (hS:LoS l) (ups:List Up14) (UV:Value) (w:World) (h1:l.kind ≠ 1) (h2:l.kind ≠ 2) (h3:l.kind ≠ 3):Calls Tryz.prog 82 #[.agg (LoV l),UV] w (Gives (.bool (locC ups l)) w):=by
 rw [show locC ups l=false from by unfold locC; rw [if_neg h1,if_neg h2,if_neg h3]]
 have HL:Hid (loc0 l=loc0 l):=Lib.hid rfl
 have k1:(l.kind == 1)=false:=beq_eq_false_iff_ne.2 h1
 have k2:(l.kind == 2)=false:=beq_eq_false_iff_ne.2 h2
 have k3:(l.kind == 3)=false:=beq_eq_false_iff_ne.2 h3
 have CP:=Lib.hid (fun w=>cpath_c l.pre hS.pre w)
 obtain ⟨b0,hb0⟩:∃ b,b=loc0 l:=⟨_,rfl⟩
 rw [← hb0] at HL
 obtain ⟨pre,k,root,index,g,e,up,ca,r,bu,st,goal⟩:=l
 dsimp only at *
 skip
 have HB0:Hid (b0=(pathC pre && inB r 0 1000000 && inB bu 0 1000000 && (decide (0 < r) || decide (bu=0)))):=Lib.hid hb0
 obtain ⟨a1,ha1⟩:∃ b,b=pathC pre:=⟨_,rfl⟩
 obtain ⟨sp,hsp⟩:∃ s,s=str pre:=⟨_,rfl⟩
 obtain ⟨sr,hsr⟩:∃ s,s=str root:=⟨_,rfl⟩
 obtain ⟨si,hsi⟩:∃ s,s=str index:=⟨_,rfl⟩
 obtain ⟨su,hsu⟩:∃ s,s=str up:=⟨_,rfl⟩
 obtain ⟨sg,hsg⟩:∃ s,s=str goal:=⟨_,rfl⟩
 have HSR:=Lib.hid hsr
 have HSI:=Lib.hid hsi
 have HSU:=Lib.hid hsu
 have HSG:=Lib.hid hsg
 rw [← ha1] at CP HB0
 rw [← hsp] at CP
 unfold LoV
 dsimp only
 rw [← hsp,← hsr,← hsi,← hsu,← hsg]
 clear ha1 hsp hsr hsi hsu hsg hb0
 have hx0:=(Ext.rfl' w).al (.cells #[.string sp,.int .i64 k,.string sr,.string si,.int .i64 g,.int .i64 e,.string su,.bool ca,.int .i64 r,.int .i64 bu,.int .i64 st,.string sg] 81)
 go_enter Tryz.func82,Tryz.ntmps82
 go_upto_region 1 with (fail)
 obtain ⟨W0,hW0⟩:∃ W,W=w.alloc (.cells #[.string sp,.int .i64 k,.string sr,.string si,.int .i64 g,.int .i64 e,.string su,.bool ca,.int .i64 r,.int .i64 bu,.int .i64 st,.string sg] 81):=⟨_,rfl⟩
 rw [← hW0]
 rw [← hW0] at hx0
 have hcl:Hid (∀ wx,Ext W0 wx → ∀ j u,(#[.string sp,.int .i64 k,.string sr,.string si,.int .i64 g,.int .i64 e,.string su,.bool ca,.int .i64 r,.int .i64 bu,.int .i64 st,.string sg]:Array Value)[j]?=some u → wx.cell? ⟨w.heap.size,j,none⟩=some u):=Lib.hid (fun wx hx=>by rw [hW0] at hx; exact fun j u h=>hx.new j u h)
 have hlt0:w.heap.size < W0.heap.size:=by rw [hW0]; simp
 clear hW0
 have z0:=hcl.out W0 (Ext.rfl' _) 0 _ rfl
 go_cut [5] (fun v5 wx=>v5=.bool b0∧Ext W0 wx)
 case first=>as_aux_lemma =>
  by_cases hr:0 < r
  ·have d1:decide (0 < r)=true:=decide_eq_true hr
   have HD:Hid ((decide (0 < r) || decide (bu=0))=true):=Lib.hid (by rw [d1]; rfl)
   go_wp2_with (first
    | (go_at_call 124; refine (CP.out _).mono ?_; rintro e w1 ⟨rfl,hx1⟩; have q8:=hcl.out _ hx1 8 _ rfl; have q9:=hcl.out _ hx1 9 _ rfl; cases a1)
    | (go_at_call 29; refine (cinB_c _ _ _ _).mono ?_; rintro e w2 ⟨rfl,rfl⟩))
   all_goals
    go_meet
    exact ⟨by rw [HB0.out,HD.out]; simp [*],by assumption⟩
  ·have d1:decide (0 < r)=false:=decide_eq_false hr
   by_cases hb:bu=0
   ·have d2:(bu == 0)=true:=beq_iff_eq.2 hb
    have HD:Hid ((decide (0 < r) || decide (bu=0))=true):=Lib.hid (by rw [decide_eq_true hb]; simp)
    clear hb
    go_wp2_with (first
     | (go_at_call 124; refine (CP.out _).mono ?_; rintro e w1 ⟨rfl,hx1⟩; have q8:=hcl.out _ hx1 8 _ rfl; have q9:=hcl.out _ hx1 9 _ rfl; cases a1)
     | (go_at_call 29; refine (cinB_c _ _ _ _).mono ?_; rintro e w2 ⟨rfl,rfl⟩))
    all_goals
     go_meet
     exact ⟨by rw [HB0.out,HD.out]; simp [*],by assumption⟩
   ·have d2:(bu == 0)=false:=beq_eq_false_iff_ne.2 hb
    have HD:Hid ((decide (0 < r) || decide (bu=0))=false):=Lib.hid (by rw [decide_eq_false hb,d1]; rfl)
    go_wp2_with (first
     | (go_at_call 124; refine (CP.out _).mono ?_; rintro e w1 ⟨rfl,hx1⟩; have q8:=hcl.out _ hx1 8 _ rfl; have q9:=hcl.out _ hx1 9 _ rfl; cases a1)
     | (go_at_call 29; refine (cinB_c _ _ _ _).mono ?_; rintro e w2 ⟨rfl,rfl⟩))
    all_goals
     go_meet
     exact ⟨by rw [HB0.out,HD.out]; simp [*],by assumption⟩
 case rest =>
  obtain ⟨rfl,hw1⟩:=hcut
  obtain ⟨W1,rfl⟩:∃ W,W=wc:=⟨_,rfl⟩
  have e1:=hcl.out _ hw1
  have c0:=e1 0 _ rfl
  have c1:=e1 1 _ rfl
  have c2:=e1 2 _ rfl
  have c3:=e1 3 _ rfl
  have c4:=e1 4 _ rfl
  have c5:=e1 5 _ rfl
  have c6:=e1 6 _ rfl
  have c7:=e1 7 _ rfl
  have c8:=e1 8 _ rfl
  have c9:=e1 9 _ rfl
  have ca1:=e1 10 _ rfl
  have cb1:=e1 11 _ rfl
  clear e1
  have hne:w.heap.size ≠ W1.heap.size:=by have:=hw1.size; omega
  go_upto_region 4 with (fail)
  obtain ⟨W2,hW2⟩:∃ W,W=W1.alloc (.cells #[.string ⟨#[]⟩,.int .i64 0,.string sr,.string si,.int .i64 g,.int .i64 e,.string su,.bool ca,.int .i64 0,.int .i64 0,.int .i64 st,.string sg] 81):=⟨_,rfl⟩
  have hx2:Ext W1 W2:=by rw [hW2]; exact (Ext.rfl' W1).al _
  have hr2:W2.heap[W1.heap.size]?=some (.cells #[.string ⟨#[]⟩,.int .i64 0,.string sr,.string si,.int .i64 g,.int .i64 e,.string su,.bool ca,.int .i64 0,.int .i64 0,.int .i64 st,.string sg] 81 (0,0)):=by rw [hW2]; exact heap_alloc_new W1 _
  rw [← hW2]
  clear hW2 c0 c1 c2 c3 c4 c5 c6 c7 c8 c9 ca1 cb1
  obtain ⟨R,hR⟩:∃ R,R=W1.heap.size:=⟨_,rfl⟩
  rw [← hR] at hr2 hne ⊢
  have HRR:=Lib.hid hR
  clear hR
  have hw2:=hw1.tr hx2
  have hrl:=row_lt hr2
  have e1:=hcl.out _ hw2
  have c1:=e1 1 _ rfl
  go_upto_block 0 with (fail)
  clear c1
  go_wp2
  go_ret
  exact ⟨rfl,hx0.tr hw2⟩
end Go.Proofs.YtmnohicojefhfaaGreatDoor
end
section
namespace Go.Proofs.YtmnohicojefhfaaGreatDoor
open Go.RowKit
theorem cLoRight_3 (l:Lo14) (hS:LoS l) (ups:List Up14) (UV:Value) (w:World) (hk:l.kind=3) :
  Calls Tryz.prog 82 #[.agg (LoV l),UV] w (Gives (.bool (locC ups l)) w):=by
 have HL:Hid (locC ups l=(loc0 l && loc3 l && decide (restC l=lo0))):=Lib.hid (by unfold locC; rw [if_neg (by rw [hk]; decide),if_neg (by rw [hk]; decide),if_pos hk])
 have HL1:Hid (loc3 l=(inB l.status 200 599 && decide (l.goal.length ≤ 1024) && bytesC 32 l.goal && decide (trimL l.goal=l.goal))):=Lib.hid rfl
 have HL2:Hid (restC l=⟨[],0,l.root,l.index,l.gzip,l.expires,l.up,l.cache,0,0,0,[]⟩):=Lib.hid (by unfold restC; rw [if_neg (by rw [hk]; decide),if_neg (by rw [hk]; decide)])
 have CB:=Lib.hid (fun w=>cbytes_c 32 (by omega) l.goal w)
 have CT:=Lib.hid (fun w=>Trim_c l.goal (by have:=hS.goal; simp only [maxLen]; omega) w)
 have CI:=Lib.hid (fun w=>cinB_c l.status 200 599 w)
 generalize locC ups l=LL at *
 generalize restC l=RR at *
 obtain ⟨b1,hb1⟩:∃ b,b=loc3 l:=⟨_,rfl⟩
 rw [← hb1] at HL HL1
 clear hb1
 obtain ⟨q1,hq1⟩:∃ b,b=inB l.status 200 599:=⟨_,rfl⟩
 obtain ⟨q3,hq3⟩:∃ b,b=bytesC 32 l.goal:=⟨_,rfl⟩
 rw [← hq1] at CI HL1
 rw [← hq3] at CB HL1
 clear hq1 hq3
 have CP:=Lib.hid (fun w=>cpath_c l.pre hS.pre w)
 obtain ⟨b0,hb0⟩:∃ b,b=loc0 l:=⟨_,rfl⟩
 rw [← hb0] at HL
 obtain ⟨pre,k,root,index,g,e,up,ca,r,bu,st,goal⟩:=l
 dsimp only at *
 subst hk
 have HB0:Hid (b0=(pathC pre && inB r 0 1000000 && inB bu 0 1000000 && (decide (0 < r) || decide (bu=0)))):=Lib.hid hb0
 obtain ⟨a1,ha1⟩:∃ b,b=pathC pre:=⟨_,rfl⟩
 obtain ⟨sp,hsp⟩:∃ s,s=str pre:=⟨_,rfl⟩
 obtain ⟨sr,hsr⟩:∃ s,s=str root:=⟨_,rfl⟩
 obtain ⟨si,hsi⟩:∃ s,s=str index:=⟨_,rfl⟩
 obtain ⟨su,hsu⟩:∃ s,s=str up:=⟨_,rfl⟩
 obtain ⟨sg,hsg⟩:∃ s,s=str goal:=⟨_,rfl⟩
 have HSR:=Lib.hid hsr
 have HSI:=Lib.hid hsi
 have HSU:=Lib.hid hsu
 have HSG:=Lib.hid hsg
 rw [← ha1] at CP HB0
 rw [← hsp] at CP
 unfold LoV
 dsimp only
 rw [← hsp,← hsr,← hsi,← hsu,← hsg]
 clear ha1 hsp hsr hsi hsu hsg hb0
 have hx0:=(Ext.rfl' w).al (.cells #[.string sp,.int .i64 3,.string sr,.string si,.int .i64 g,.int .i64 e,.string su,.bool ca,.int .i64 r,.int .i64 bu,.int .i64 st,.string sg] 81)
 go_enter Tryz.func82,Tryz.ntmps82
 go_upto_region 1 with (fail)
 obtain ⟨W0,hW0⟩:∃ W,W=w.alloc (.cells #[.string sp,.int .i64 3,.string sr,.string si,.int .i64 g,.int .i64 e,.string su,.bool ca,.int .i64 r,.int .i64 bu,.int .i64 st,.string sg] 81):=⟨_,rfl⟩
 rw [← hW0]
 rw [← hW0] at hx0
 have hcl:Hid (∀ wx,Ext W0 wx → ∀ j u,(#[.string sp,.int .i64 3,.string sr,.string si,.int .i64 g,.int .i64 e,.string su,.bool ca,.int .i64 r,.int .i64 bu,.int .i64 st,.string sg]:Array Value)[j]?=some u → wx.cell? ⟨w.heap.size,j,none⟩=some u):=Lib.hid (fun wx hx=>by rw [hW0] at hx; exact fun j u h=>hx.new j u h)
 have hlt0:w.heap.size < W0.heap.size:=by rw [hW0]; simp
 clear hW0
 have z0:=hcl.out W0 (Ext.rfl' _) 0 _ rfl
 go_cut [5] (fun v5 wx=>v5=.bool b0∧Ext W0 wx)
 case first=>as_aux_lemma =>
  by_cases hr:0 < r
  ·have d1:decide (0 < r)=true:=decide_eq_true hr
   have HD:Hid ((decide (0 < r) || decide (bu=0))=true):=Lib.hid (by rw [d1]; rfl)
   go_wp2_with (first
    | (go_at_call 124; refine (CP.out _).mono ?_; rintro e w1 ⟨rfl,hx1⟩; have q8:=hcl.out _ hx1 8 _ rfl; have q9:=hcl.out _ hx1 9 _ rfl; cases a1)
    | (go_at_call 29; refine (cinB_c _ _ _ _).mono ?_; rintro e w2 ⟨rfl,rfl⟩))
   all_goals
    go_meet
    exact ⟨by rw [HB0.out,HD.out]; simp [*],by assumption⟩
  ·have d1:decide (0 < r)=false:=decide_eq_false hr
   by_cases hb:bu=0
   ·have d2:(bu == 0)=true:=beq_iff_eq.2 hb
    have HD:Hid ((decide (0 < r) || decide (bu=0))=true):=Lib.hid (by rw [decide_eq_true hb]; simp)
    clear hb
    go_wp2_with (first
     | (go_at_call 124; refine (CP.out _).mono ?_; rintro e w1 ⟨rfl,hx1⟩; have q8:=hcl.out _ hx1 8 _ rfl; have q9:=hcl.out _ hx1 9 _ rfl; cases a1)
     | (go_at_call 29; refine (cinB_c _ _ _ _).mono ?_; rintro e w2 ⟨rfl,rfl⟩))
    all_goals
     go_meet
     exact ⟨by rw [HB0.out,HD.out]; simp [*],by assumption⟩
   ·have d2:(bu == 0)=false:=beq_eq_false_iff_ne.2 hb
    have HD:Hid ((decide (0 < r) || decide (bu=0))=false):=Lib.hid (by rw [decide_eq_false hb,d1]; rfl)
    go_wp2_with (first
     | (go_at_call 124; refine (CP.out _).mono ?_; rintro e w1 ⟨rfl,hx1⟩; have q8:=hcl.out _ hx1 8 _ rfl; have q9:=hcl.out _ hx1 9 _ rfl; cases a1)
     | (go_at_call 29; refine (cinB_c _ _ _ _).mono ?_; rintro e w2 ⟨rfl,rfl⟩))
    all_goals
     go_meet
     exact ⟨by rw [HB0.out,HD.out]; simp [*],by assumption⟩
 case rest =>
  rw [← HSG.out] at CB CT
  obtain ⟨rfl,hw1⟩:=hcut
  obtain ⟨W1,rfl⟩:∃ W,W=wc:=⟨_,rfl⟩
  have e1:=hcl.out _ hw1
  have c0:=e1 0 _ rfl
  have c1:=e1 1 _ rfl
  have c2:=e1 2 _ rfl
  have c3:=e1 3 _ rfl
  have c4:=e1 4 _ rfl
  have c5:=e1 5 _ rfl
  have c6:=e1 6 _ rfl
  have c7:=e1 7 _ rfl
  have c8:=e1 8 _ rfl
  have c9:=e1 9 _ rfl
  have ca1:=e1 10 _ rfl
  have cb1:=e1 11 _ rfl
  clear e1
  have hne:w.heap.size ≠ W1.heap.size:=by have:=hw1.size; omega
  go_upto_region 4 with (fail)
  obtain ⟨W2,hW2⟩:∃ W,W=W1.alloc (.cells #[.string ⟨#[]⟩,.int .i64 0,.string sr,.string si,.int .i64 g,.int .i64 e,.string su,.bool ca,.int .i64 0,.int .i64 0,.int .i64 st,.string sg] 81):=⟨_,rfl⟩
  have hx2:Ext W1 W2:=by rw [hW2]; exact (Ext.rfl' W1).al _
  have hr2:W2.heap[W1.heap.size]?=some (.cells #[.string ⟨#[]⟩,.int .i64 0,.string sr,.string si,.int .i64 g,.int .i64 e,.string su,.bool ca,.int .i64 0,.int .i64 0,.int .i64 st,.string sg] 81 (0,0)):=by rw [hW2]; exact heap_alloc_new W1 _
  rw [← hW2]
  clear hW2 c0 c1 c2 c3 c4 c5 c6 c7 c8 c9 ca1 cb1
  obtain ⟨R,hR⟩:∃ R,R=W1.heap.size:=⟨_,rfl⟩
  rw [← hR] at hr2 hne ⊢
  have HRR:=Lib.hid hR
  clear hR
  have hw2:=hw1.tr hx2
  have hrl:=row_lt hr2
  have e1:=hcl.out _ hw2
  have c1:=e1 1 _ rfl
  go_upto_block 0 with (fail)
  clear c1
  obtain ⟨b9,hb9⟩:∃ b,b=decide (RR=lo0):=⟨_,rfl⟩
  have HB9:Hid (b9=decide ((⟨[],0,root,index,g,e,up,ca,0,0,0,[]⟩:Lo14)=lo0)):=Lib.hid (by rw [hb9,HL2.out])
  obtain ⟨bF,hbF⟩:∃ b,b=(b0 && b1):=⟨_,rfl⟩
  have HFIN:Hid (LL=(bF && b9)):=Lib.hid (by rw [HL.out,hbF,hb9])
  have HBF:=Lib.hid hbF
  clear hb9 hbF
  go_cut [5] (fun v5 wx=>v5=.bool bF∧Ext W0 wx∧wx.heap[R]?=some (.cells #[.string ⟨#[]⟩,.int .i64 0,.string sr,.string si,.int .i64 g,.int .i64 e,.string su,.bool ca,.int .i64 0,.int .i64 0,.int .i64 0,.string ⟨#[]⟩] 81 (0,0)))
  case rest =>
   obtain ⟨rfl,hwF,hrF⟩:=hcut
   obtain ⟨W9,rfl⟩:∃ W,W=wc:=⟨_,rfl⟩
   have f0:=(row_facts hrF 0 _ rfl).1
   have f1:=(row_facts hrF 1 _ rfl).1
   have f2:=(row_facts hrF 2 _ rfl).1
   have f3:=(row_facts hrF 3 _ rfl).1
   have f4:=(row_facts hrF 4 _ rfl).1
   have f5:=(row_facts hrF 5 _ rfl).1
   have f6:=(row_facts hrF 6 _ rfl).1
   have f7:=(row_facts hrF 7 _ rfl).1
   have f8:=(row_facts hrF 8 _ rfl).1
   have f9:=(row_facts hrF 9 _ rfl).1
   have fa:=(row_facts hrF 10 _ rfl).1
   have fb:=(row_facts hrF 11 _ rfl).1
   clear hrF
   cases bF with
   | false =>
    go_wp2
    go_ret
    exact ⟨ret_bool (by rw [HFIN.out]; simp),hx0.tr hwF⟩
   | true =>
    have HEQ:∀ w',(binOp .eql 81 (.agg #[.string ⟨#[]⟩,.int .i64 0,.string sr,.string si,.int .i64 g,.int .i64 e,.string su,.bool ca,.int .i64 0,.int .i64 0,.int .i64 0,.string ⟨#[]⟩]) (.agg #[.string ⟨#[]⟩,.int .i64 0,.string ⟨#[]⟩,.string ⟨#[]⟩,.int .i64 0,.int .i64 0,.string ⟨#[]⟩,.bool false,.int .i64 0,.int .i64 0,.int .i64 0,.string ⟨#[]⟩])).run Tryz.prog w'=.ok (.bool b9) w':=fun w'=>by
     have h:=eq_loc (⟨[],0,root,index,g,e,up,ca,0,0,0,[]⟩:Lo14) lo0 w'
     rw [HB9.out]
     simp only [HSU.out,HSR.out,HSI.out,HSG.out]
     exact h
    go_wp2
    go_ret
    exact ⟨ret_bool (by rw [HFIN.out]; simp),hx0.tr hwF⟩
  case first =>
   go_upto_region 14 with (fail)
   have y10:=e1 10 _ rfl
   have y11:=e1 11 _ rfl
   have hsz:sg.size=goal.length:=by rw [HSG.out,str_size]
   have hks:Hid (∀ w',Ext W2 w' → w'.cell? ⟨w.heap.size,10,none⟩=some (.int .i64 st)∧w'.cell? ⟨w.heap.size,11,none⟩=some (.string sg)):=Lib.hid (fun w' hx=>⟨hcl.out _ (hw2.tr hx) 10 _ rfl,hcl.out _ (hw2.tr hx) 11 _ rfl⟩)
   clear e1
   go_cut [5] (fun v5 wx=>v5=.bool bF∧Ext W2 wx)
   case rest =>
    obtain ⟨rfl,hw7⟩:=hcut
    obtain ⟨W7,rfl⟩:∃ W,W=wc:=⟨_,rfl⟩
    have r7:=(hw7.block R hrl).trans hr2
    have s10:=row_facts r7 10 _ rfl
    have s11:=row_facts r7 11 _ rfl
    have HR7:=Lib.hid r7
    have HWW:=Lib.hid (hw2.tr hw7)
    clear r7 y10 y11
    have hR0:W0.heap.size ≤ R:=by rw [HRR.out]; exact hw1.size
    go_wp2
    go_meet
    refine ⟨rfl,((HWW.out.st hR0 _).st hR0 _),?_⟩
    have:=row_set (row_set HR7.out 10 (.int .i64 0)) 11 (.string ⟨#[]⟩)
    exact this
   case first =>
    obtain ⟨t,ht⟩:∃ s,s=str (trimL goal):=⟨_,rfl⟩
    rw [← ht] at CT
    have HT:=Lib.hid ht
    clear ht
    have D1:Hid ((true && true)=true):=Lib.hid rfl
    have D2:Hid ((true && true)=true):=Lib.hid rfl
    cases b0 with
    | false =>
     clear hsz
     go_quiet (fail)
     all_goals go_wp2_with fail
     all_goals go_meet
     all_goals (refine ⟨by rw [HBF.out,HL1.out]; simp only [D1.out,D2.out,Bool.and_true,Bool.true_and,Bool.and_false,Bool.false_and,Bool.and_self],by (repeat first | exact Ex0 | assumption | refine Ex1 ?_ | refine Ex2 ?_ | refine Ex3 ?_ | refine Ex4 ?_ | refine Ex5 ?_)⟩)
    | true =>
    cases q1 with
    | false =>
     clear hsz
     go_quiet (first | (go_at_call 29; exact Calls.quiet_of_same (CI.out _)))
     all_goals go_wp2_with fail
     all_goals go_meet
     all_goals (refine ⟨by rw [HBF.out,HL1.out]; simp only [D1.out,D2.out,Bool.and_true,Bool.true_and,Bool.and_false,Bool.false_and,Bool.and_self],by (repeat first | exact Ex0 | assumption | refine Ex1 ?_ | refine Ex2 ?_ | refine Ex3 ?_ | refine Ex4 ?_ | refine Ex5 ?_)⟩)
    | true =>
    by_cases hl:goal.length ≤ 1024
    ·have D1:Hid (decide (goal.length ≤ 1024)=true):=Lib.hid (decide_eq_true hl)
     have hl2:decide ((sg.size:Int) ≤ 1024)=true:=decide_eq_true (by rw [hsz]; omega)
     have hl3:(sg.size:Int) ≤ 1024:=by rw [hsz]; omega
     clear hsz hl
     cases q3 with
     | false =>
      first
       | (go_region_with (first
         | (go_at_call 29; refine (CI.out _).mono ?_; rintro e' w3 ⟨rfl,rfl⟩)
         | (go_at_call 105; refine (CB.out _).mono ?_; rintro e' w3 ⟨rfl,hx3⟩)))
       | fail
      all_goals go_wp2_with fail
      all_goals go_meet
      all_goals (refine ⟨by rw [HBF.out,HL1.out]; simp only [D1.out,D2.out,Bool.and_true,Bool.true_and,Bool.and_false,Bool.false_and,Bool.and_self],by (repeat first | exact Ex0 | assumption | refine Ex1 ?_ | refine Ex2 ?_ | refine Ex3 ?_ | refine Ex4 ?_ | refine Ex5 ?_)⟩)
     | true =>
      by_cases hg:trimL goal=goal
      ·obtain rfl:t=sg:=by rw [HT.out,HSG.out,hg]
       have D2:Hid (decide (trimL goal=goal)=true):=Lib.hid (decide_eq_true hg)
       clear hg
       go_region_held3 (fun w'=>w'.cell? ⟨w.heap.size,10,none⟩=some (.int .i64 st)∧w'.cell? ⟨w.heap.size,11,none⟩=some (.string t)) (exact hks.out _ (by (repeat first | exact Ex0 | assumption | refine Ex1 ?_ | refine Ex2 ?_ | refine Ex3 ?_ | refine Ex4 ?_ | refine Ex5 ?_))) (first
        | (go_at_call 29; refine (CI.out _).mono ?_; rintro e' w3 ⟨rfl,rfl⟩)
        | (go_at_call 105; refine (CB.out _).mono ?_; rintro e' w3 ⟨rfl,hx3⟩)
        | (go_at_call 128; refine (CT.out _).mono ?_; rintro e' w4 ⟨rfl,hx4⟩))
       all_goals go_wp2_with fail
       all_goals go_meet
       all_goals (refine ⟨by rw [HBF.out,HL1.out]; simp only [D1.out,D2.out,Bool.and_true,Bool.true_and,Bool.and_false,Bool.false_and,Bool.and_self],by (repeat first | exact Ex0 | assumption | refine Ex1 ?_ | refine Ex2 ?_ | refine Ex3 ?_ | refine Ex4 ?_ | refine Ex5 ?_)⟩)
      ·have g1:¬ t.toList=sg.toList:=by rw [HT.out,HSG.out,str_tl,str_tl]; exact hg
       have g2:(t.toList == sg.toList)=false:=beq_eq_false_iff_ne.2 g1
       have D2:Hid (decide (trimL goal=goal)=false):=Lib.hid (decide_eq_false hg)
       clear hg
       go_region_held3 (fun w'=>w'.cell? ⟨w.heap.size,10,none⟩=some (.int .i64 st)∧w'.cell? ⟨w.heap.size,11,none⟩=some (.string sg)) (exact hks.out _ (by (repeat first | exact Ex0 | assumption | refine Ex1 ?_ | refine Ex2 ?_ | refine Ex3 ?_ | refine Ex4 ?_ | refine Ex5 ?_))) (first
        | (go_at_call 29; refine (CI.out _).mono ?_; rintro e' w3 ⟨rfl,rfl⟩)
        | (go_at_call 105; refine (CB.out _).mono ?_; rintro e' w3 ⟨rfl,hx3⟩)
        | (go_at_call 128; refine (CT.out _).mono ?_; rintro e' w4 ⟨rfl,hx4⟩))
       all_goals go_wp2_with fail
       all_goals go_meet
       all_goals (refine ⟨by rw [HBF.out,HL1.out]; simp only [D1.out,D2.out,Bool.and_true,Bool.true_and,Bool.and_false,Bool.false_and,Bool.and_self],by (repeat first | exact Ex0 | assumption | refine Ex1 ?_ | refine Ex2 ?_ | refine Ex3 ?_ | refine Ex4 ?_ | refine Ex5 ?_)⟩)
    ·have D1:Hid (decide (goal.length ≤ 1024)=false):=Lib.hid (decide_eq_false hl)
     have hl2:decide ((sg.size:Int) ≤ 1024)=false:=decide_eq_false (by rw [hsz]; omega)
     have hl3:¬ (sg.size:Int) ≤ 1024:=by rw [hsz]; omega
     clear hsz hl
     go_quiet (first | (go_at_call 29; exact Calls.quiet_of_same (CI.out _)))
     all_goals go_wp2_with fail
     all_goals go_meet
     all_goals (refine ⟨by rw [HBF.out,HL1.out]; simp only [D1.out,D2.out,Bool.and_true,Bool.true_and,Bool.and_false,Bool.false_and,Bool.and_self],by (repeat first | exact Ex0 | assumption | refine Ex1 ?_ | refine Ex2 ?_ | refine Ex3 ?_ | refine Ex4 ?_ | refine Ex5 ?_)⟩)
end Go.Proofs.YtmnohicojefhfaaGreatDoor
end
section
namespace Go.Proofs.YtmnohicojefhfaaGreatDoor
open Go.RowKit
theorem cLoRight_c (l:Lo14) (hS:LoS l) (U:List (Up14 × Hd)) (UA:Option Addr) (uc:Nat) (w:World) (hul:U.length ≤ 1099511627776) (hrd:Rd w UA (U.flatMap upV)) :
  Calls Tryz.prog 82 #[.agg (LoV l),.slice UA U.length uc] w (Gives (.bool (locC (U.map (·.1)) l)) w):=by
 by_cases h1:l.kind=1
 ·exact cLoRight_1 l hS _ _ w h1
 ·by_cases h2:l.kind=2
  ·exact cLoRight_2 l hS U UA uc w hul hrd h2
  ·by_cases h3:l.kind=3
   ·exact cLoRight_3 l hS _ _ w h3
   ·exact cLoRight_0 l hS _ _ w h1 h2 h3
theorem srF1_c (l:Lo14) (hS:LoS l) (U:List (Up14 × Hd)) (UA:Option Addr) (uc g:Nat) (w:World) (hul:U.length ≤ 1099511627776) (hrd:Rd w UA (U.flatMap upV)) (hc:w.cell? ⟨g,0,none⟩=some (.slice UA U.length uc)) :
  Calls Tryz.prog 81 #[.agg (LoV l),.pointer (some ⟨g,0,none⟩)] w (Gives (.bool (locC (U.map (·.1)) l)) w):=by
 have C:=Lib.hid (fun w' (hx:Ext w w')=>cLoRight_c l hS U UA uc w' hul (hrd.ext hx))
 have hne:g ≠ w.heap.size:=by have:g < w.heap.size:=lt_of_cell hc; omega
 have hc2:=fun o=>(((Ext.rfl' w).al o).cell (lt_of_cell hc)).trans hc
 unfold LoV at *
 generalize locC (U.map (·.1)) l=b at *
 obtain ⟨pre,k,root,index,gz,e,up,ca,r,bu,st,goal⟩:=l
 dsimp only at *
 obtain ⟨sp,hsp⟩:∃ s,s=str pre:=⟨_,rfl⟩
 obtain ⟨sr,hsr⟩:∃ s,s=str root:=⟨_,rfl⟩
 obtain ⟨si,hsi⟩:∃ s,s=str index:=⟨_,rfl⟩
 obtain ⟨su,hsu⟩:∃ s,s=str up:=⟨_,rfl⟩
 obtain ⟨sg,hsg⟩:∃ s,s=str goal:=⟨_,rfl⟩
 rw [← hsp,← hsr,← hsi,← hsu,← hsg] at C ⊢
 clear hsp hsr hsi hsu hsg hrd hS hc
 generalize U.length=n at *
 go_enter Tryz.func81,Tryz.ntmps81
 go_wp2_with (go_at_call 82; refine (C.out _ (by (repeat first | exact Ex0 | assumption | refine Ex1 ?_ | refine Ex2 ?_ | refine Ex3 ?_ | refine Ex4 ?_ | refine Ex5 ?_))).mono ?_; rintro e' w1 ⟨rfl,hx1⟩)
 go_ret
 exact ⟨rfl,by (repeat first | exact Ex0 | assumption | refine Ex1 ?_ | refine Ex2 ?_ | refine Ex3 ?_ | refine Ex4 ?_ | refine Ex5 ?_)⟩
theorem srF2_c (l:Lo14) (w:World):Calls Tryz.prog 84 #[.agg (LoV l)] w (Gives (.string (str l.pre)) w):=by
 unfold LoV
 obtain ⟨pre,k,root,index,gz,e,up,ca,r,bu,st,goal⟩:=l
 dsimp only at *
 generalize str pre=sp at *
 generalize str root=sr at *
 generalize str index=si at *
 generalize str up=su at *
 generalize str goal=sg at *
 go_enter Tryz.func84,Tryz.ntmps84
 go_wp2
 go_ret
 exact ⟨rfl,by (repeat first | exact Ex0 | assumption | refine Ex1 ?_ | refine Ex2 ?_ | refine Ex3 ?_ | refine Ex4 ?_ | refine Ex5 ?_)⟩
theorem strC_fm (l:List (List UInt8)):strC l=l.flatMap fun x=>[.string (str x)]:=by
 induction l with
 | nil=>rfl
 | cons x l ih=>rw [List.flatMap_cons,← ih]; rfl
structure SrS (s:Sr14):Prop where
 nl:s.names.length ≤ 1099511627776
 ll:s.locs.length ≤ 1099511627776
 names:∀ n ∈ s.names,n.length ≤ 140737488355328
 locs:∀ l ∈ s.locs,LoS l
theorem key_str {s:List UInt8} (h:s.length ≤ 140737488355328):keyOf Tryz.prog 9 (.string (str s))=some (.string s):=by
 have:=WideMaps.keyOf_string_mk (P:=Tryz.prog) Tryz.underlying9 (s:=str s) (by rw [str_size]; simp only [maxLen]; omega)
 rw [str_data] at this
 exact this
theorem cSrRight_c (s:Sr14) (hS:SrS s) (NA LA:Option Addr) (nc lc:Nat) (U:List (Up14 × Hd)) (UA:Option Addr) (uc:Nat) (w:World) (hE:ErrR w) (hul:U.length ≤ 1099511627776) (hrd:Rd w UA (U.flatMap upV))
  (hN:Rd w NA (strC s.names)) (hL:Rd w LA (s.locs.flatMap loV)) :
  Calls Tryz.prog 36 #[.agg #[.slice NA s.names.length nc,.bool s.dflt,.slice LA s.locs.length lc],.slice UA U.length uc] w (Gives (.bool (srC (U.map (·.1)) s)) w):=by
 have CN:=Lib.hid (fun w' (hx:Ext w w')=>allT_c (fun x:List UInt8=>str x) s.names NA nc 79 #[] hostC w' hS.nl (fun _ _=>by kernel_rfl) (by rw [← strC_fm]; exact hN.ext hx) (fun x hxm w2 h2=>chost_c x (hS.names x hxm) w2 (hE.ext (hx.tr h2))))
 have CL:=Lib.hid (fun w' g (hx:Ext w w') (hg:w'.cell? ⟨g,0,none⟩=some (.slice UA U.length uc))=>allL_c (fun l:Lo14=>str l.pre) (fun l=>l.kind) (fun l=>str l.root) (fun l=>str l.index) (fun l=>l.gzip) (fun l=>l.expires) (fun l=>str l.up) (fun l=>l.cache) (fun l=>l.rate) (fun l=>l.burst) (fun l=>l.status) (fun l=>str l.goal)
  s.locs LA lc 81 #[.pointer (some ⟨g,0,none⟩)] (locC (U.map fun x:Up14 × Hd=>x.1)) w' hS.ll (fun _ _=>by kernel_rfl) (hL.ext hx) (fun l hl w2 h2=>srF1_c l (hS.locs l hl) U UA uc g w2 hul (hrd.ext (hx.tr h2)) ((h2.cell (lt_of_cell hg)).trans hg)))
 have CU:=Lib.hid (fun w' (hx:Ext w w')=>unlL_c (fun l:Lo14=>str l.pre) (fun l=>l.kind) (fun l=>str l.root) (fun l=>str l.index) (fun l=>l.gzip) (fun l=>l.expires) (fun l=>str l.up) (fun l=>l.cache) (fun l=>l.rate) (fun l=>l.burst) (fun l=>l.status) (fun l=>str l.goal)
  s.locs LA lc 84 #[] (fun l=>.string (str l.pre)) (fun l=>.string l.pre) (decide ((s.locs.map (·.pre)).Nodup)) w' (Nat.le_trans hS.ll (by omega)) (fun _ _=>by kernel_rfl) (hL.ext hx) (fun l hl=>key_str (hS.locs l hl).pre)
  (by rw [decide_eq_true_iff]; exact (nodup_inj (f:=Lit.string) (fun a b e=>by injection e) _ _).symm) (fun l _ w2 _=>srF2_c l w2))
 have HP:=Lib.hid (show srC (U.map (·.1)) s=(decide (s.names.length ≤ 32) && s.names.all hostC && inB s.locs.length 1 32 && s.locs.all (locC (U.map (·.1))) && decide ((s.locs.map (·.pre)).Nodup)) from rfl)
 obtain ⟨LL,hLL⟩:∃ b,b=srC (U.map (·.1)) s:=⟨_,rfl⟩
 rw [← hLL] at HP ⊢
 obtain ⟨q2,h2⟩:∃ b,b=s.names.all hostC:=⟨_,rfl⟩
 obtain ⟨q4,h4⟩:∃ b,b=s.locs.all (locC (U.map (·.1))):=⟨_,rfl⟩
 obtain ⟨q5,h5⟩:∃ b,b=decide ((s.locs.map (·.pre)).Nodup):=⟨_,rfl⟩
 rw [← h2] at CN HP
 rw [← h4] at CL HP
 rw [← h5] at CU HP
 have hnl:=hS.nl
 have hll:=hS.ll
 clear hLL h2 h4 h5 hS hrd hN hL hE
 obtain ⟨n,hn⟩:∃ n,n=s.names.length:=⟨_,rfl⟩
 obtain ⟨m,hm⟩:∃ n,n=s.locs.length:=⟨_,rfl⟩
 obtain ⟨ul,hul2⟩:∃ n,n=U.length:=⟨_,rfl⟩
 rw [← hn] at CN HP hnl ⊢
 rw [← hm] at CL CU HP hll ⊢
 rw [← hul2] at CL ⊢
 clear hn hm hul2 hul
 obtain ⟨df,hdf⟩:∃ b,b=s.dflt:=⟨_,rfl⟩
 rw [← hdf]
 clear hdf
 have hmf:∀ (fn:Fn) (first cap:Array Value) (w:World),(Instr.makeFunc fn first cap).run Tryz.prog w=.ok (.func fn first cap) w:=fun _ _ _ _=>rfl
 obtain ⟨W0,hW0⟩:∃ W,W=(w.alloc (.cells #[.slice NA n nc,.bool df,.slice LA m lc] 78)).alloc (.cells #[.slice UA ul uc] 22):=⟨_,rfl⟩
 have hx0:Ext w W0:=by rw [hW0]; exact ((Ext.rfl' w).al _).al _
 have hxa:Ext (w.alloc (.cells #[.slice NA n nc,.bool df,.slice LA m lc] 78)) W0:=by rw [hW0]; exact (Ext.rfl' _).al _
 have hz:(w.alloc (.cells #[.slice NA n nc,.bool df,.slice LA m lc] 78)).heap.size=w.heap.size + 1:=by simp
 have hcl:Hid (∀ wx,Ext W0 wx → (wx.cell? ⟨w.heap.size,0,none⟩=some (.slice NA n nc)∧wx.cell? ⟨w.heap.size,2,none⟩=some (.slice LA m lc))∧wx.cell? ⟨w.heap.size + 1,0,none⟩=some (.slice UA ul uc)):=Lib.hid (fun wx hx =>
  ⟨⟨(hxa.tr hx).new 0 _ rfl,(hxa.tr hx).new 2 _ rfl⟩,by rw [← hz]; exact Ext.new (by rw [hW0] at hx; exact hx) 0 _ rfl⟩)
 clear hxa hz
 go_enter Tryz.func36,Tryz.ntmps36
 go_upto_region 1 with (fail)
 rw [← hW0]
 clear hW0
 obtain ⟨⟨z0,z2⟩,z3⟩:=hcl.out W0 (Ext.rfl' _)
 by_cases hn32:n ≤ 32
 ·have d1:decide ((n:Int) ≤ 32)=true:=decide_eq_true (by omega)
  have D1:Hid (decide (n ≤ 32)=true):=Lib.hid (decide_eq_true hn32)
  go_wp2_with (first
   | (go_at_call 78; refine (CN.out _ hx0).mono ?_; rintro e w1 ⟨rfl,hx1⟩; obtain ⟨⟨x0,x2⟩,x3⟩:=hcl.out w1 hx1; cases q2)
   | (go_at_call 29; refine (cinB_c _ _ _ _).mono ?_; rintro e w2 ⟨rfl,rfl⟩)
   | (go_at_call 80; refine (CL.out _ _ (hx0.tr hx1) x3).mono ?_; rintro e w5 ⟨rfl,hx5⟩; obtain ⟨⟨y0,y2⟩,y3⟩:=hcl.out w5 (hx1.tr hx5); cases q4)
   | (go_at_call 83; refine (CU.out _ ((hx0.tr hx1).tr hx5)).mono ?_; rintro e w6 ⟨rfl,hx6⟩))
  all_goals (go_ret; exact ⟨ret_bool (by rw [HP.out,D1.out]; simp [*]),by (repeat first | exact Ex0 | assumption | refine Ex1 ?_ | refine Ex2 ?_ | refine Ex3 ?_ | refine Ex4 ?_ | refine Ex5 ?_)⟩)
 ·have d1:decide ((n:Int) ≤ 32)=false:=decide_eq_false (by omega)
  have D1:Hid (decide (n ≤ 32)=false):=Lib.hid (decide_eq_false hn32)
  go_wp2
  go_ret
  exact ⟨ret_bool (by rw [HP.out,D1.out]; simp),by (repeat first | exact Ex0 | assumption | refine Ex1 ?_ | refine Ex2 ?_ | refine Ex3 ?_ | refine Ex4 ?_ | refine Ex5 ?_)⟩
end Go.Proofs.YtmnohicojefhfaaGreatDoor
end
section
namespace Go.Proofs.YtmnohicojefhfaaGreatDoor
open Go.RowKit
theorem slt_strH:SlT Tryz.prog 55 9 (.string ⟨#[]⟩) 1 16:=⟨Tryz.underlying55,by kernel_rfl,rfl,by omega⟩
structure CfR (w:World) (c:Cf14) (U:List (Up14 × Hd)) (UA:Option Addr) (S:List (Sr14 × Hd × Hd)) (SA:Option Addr):Prop where
 hU:U.map (·.1)=c.ups
 hS:S.map (·.1)=c.srvs
 ups:Rd w UA (U.flatMap upV)
 srvs:Rd w SA (S.flatMap srV)
 peers:∀ x ∈ U,Rd w x.2.1 (x.1.peers.flatMap peV)
 names:∀ x ∈ S,Rd w x.2.1.1 (strC x.1.names)
 locs:∀ x ∈ S,Rd w x.2.2.1 (x.1.locs.flatMap loV)
theorem CfR.ext {w w':World} {c:Cf14} {U:List (Up14 × Hd)} {UA:Option Addr} {S:List (Sr14 × Hd × Hd)} {SA:Option Addr} (h:CfR w c U UA S SA) (e:Ext w w'):CfR w' c U UA S SA :=
 ⟨h.hU,h.hS,h.ups.ext e,h.srvs.ext e,fun x hx=>(h.peers x hx).ext e,fun x hx=>(h.names x hx).ext e,fun x hx=>(h.locs x hx).ext e⟩
structure UpS (u:Up14):Prop where
 name:u.name.length ≤ 140737488355328
 pl:u.peers.length ≤ 1099511627776
 ids:∀ p ∈ u.peers,I64 p.id
structure CfS (c:Cf14):Prop where
 ul:c.ups.length ≤ 1099511627776
 sl:c.srvs.length ≤ 1099511627776
 ups:∀ u ∈ c.ups,UpS u
 srvs:∀ s ∈ c.srvs,SrS s
 nm:(c.srvs.flatMap (·.names)).length ≤ 8796093022208
theorem chF1_c (nm:List UInt8) (B:Option Addr) (n d:Nat) (t r:Int) (w:World):Calls Tryz.prog 33 #[.agg #[.string (str nm),.slice B n d,.int .i64 t,.int .i64 r]] w (Gives (.string (str nm)) w):=by
 generalize str nm=s at *
 go_enter Tryz.func33,Tryz.ntmps33
 go_wp2
 go_ret
 exact ⟨rfl,by (repeat first | exact Ex0 | assumption | refine Ex1 ?_ | refine Ex2 ?_ | refine Ex3 ?_ | refine Ex4 ?_ | refine Ex5 ?_)⟩
theorem chF3_c (s:ByteArray) (w:World):Calls Tryz.prog 38 #[.string s] w (Gives (.string s) w):=by
 go_enter Tryz.func38,Tryz.ntmps38
 go_wp2
 go_ret
 exact ⟨rfl,by (repeat first | exact Ex0 | assumption | refine Ex1 ?_ | refine Ex2 ?_ | refine Ex3 ?_ | refine Ex4 ?_ | refine Ex5 ?_)⟩
theorem chF2_c (s:Sr14) (hS:SrS s) (NA LA:Option Addr) (nc lc:Nat) (U:List (Up14 × Hd)) (UA:Option Addr) (uc g:Nat) (w:World) (hE:ErrR w) (hul:U.length ≤ 1099511627776) (hrd:Rd w UA (U.flatMap upV))
  (hN:Rd w NA (strC s.names)) (hL:Rd w LA (s.locs.flatMap loV)) (hc:w.cell? ⟨g,4,none⟩=some (.slice UA U.length uc)) :
  Calls Tryz.prog 35 #[.agg #[.slice NA s.names.length nc,.bool s.dflt,.slice LA s.locs.length lc],.pointer (some ⟨g,0,none⟩)] w (Gives (.bool (srC (U.map (·.1)) s)) w):=by
 have C:=Lib.hid (fun w' (hx:Ext w w')=>cSrRight_c s hS NA LA nc lc U UA uc w' (hE.ext hx) hul (hrd.ext hx) (hN.ext hx) (hL.ext hx))
 have hne:g ≠ w.heap.size:=by have:g < w.heap.size:=lt_of_cell hc; omega
 have hc2:=fun o=>(((Ext.rfl' w).al o).cell (lt_of_cell hc)).trans hc
 generalize srC (U.map (·.1)) s=b at *
 clear hrd hN hL hS hE hc
 generalize U.length=n at *
 generalize s.names.length=m at *
 generalize s.locs.length=k at *
 generalize s.dflt=df at *
 go_enter Tryz.func35,Tryz.ntmps35
 go_wp2_with (go_at_call 36; refine (C.out _ (by (repeat first | exact Ex0 | assumption | refine Ex1 ?_ | refine Ex2 ?_ | refine Ex3 ?_ | refine Ex4 ?_ | refine Ex5 ?_))).mono ?_; rintro e' w1 ⟨rfl,hx1⟩)
 go_ret
 exact ⟨rfl,by (repeat first | exact Ex0 | assumption | refine Ex1 ?_ | refine Ex2 ?_ | refine Ex3 ?_ | refine Ex4 ?_ | refine Ex5 ?_)⟩
theorem names_take (S:List (Sr14 × Hd × Hd)) (k:Nat) (hk:k < S.length):((S.take (k + 1)).flatMap fun x=>x.1.names)=((S.take k).flatMap fun x=>x.1.names) ++ S[k].1.names:=by
 rw [List.take_succ_eq_append_getElem hk,List.flatMap_append]; simp
theorem names_le (S:List (Sr14 × Hd × Hd)) (k:Nat):((S.take k).flatMap fun x=>x.1.names).length ≤ (S.flatMap fun x=>x.1.names).length:=by
 conv=>rhs; rw [← List.take_append_drop k S,List.flatMap_append,List.length_append]
 omega
theorem dflt_take (S:List (Sr14 × Hd × Hd)) (k:Nat) (hk:k < S.length):((S.take (k + 1)).filter fun x=>x.1.dflt).length=((S.take k).filter fun x=>x.1.dflt).length + if S[k].1.dflt then 1 else 0:=by
 rw [List.take_succ_eq_append_getElem hk,List.filter_append,List.length_append]
 by_cases h:S[k].1.dflt=true <;> simp [h]
theorem strC_app (a b:List (List UInt8)):strC (a ++ b)=strC a ++ strC b:=List.map_append
theorem strC_one (l:List (List UInt8)):∀ u ∈ strC l,u.oneCell'=true:=by
 intro u hu
 obtain ⟨x,_,rfl⟩:=List.mem_map.1 hu
 rfl
def okE (b:Bool):Int:=if b then 0 else 60
def ChAt (w:World) (S:List (Sr14 × Hd × Hd)) (wr:World) (k:Nat) (A:Option Addr) (n c d:Nat):Prop :=
 n=((S.take k).flatMap fun x=>x.1.names).length∧d=((S.take k).filter fun x=>x.1.dflt).length∧∃ o,Sl wr o 1 1 A n c (strC ((S.take k).flatMap fun x=>x.1.names))∧(A=none → c=0)∧Stp (fun i=>i=1) w (fun _=>0) wr o
theorem cCheck_c (c:Cf14) (U:List (Up14 × Hd)) (UA:Option Addr) (uc:Nat) (S:List (Sr14 × Hd × Hd)) (SA:Option Addr) (sc:Nat) (w:World) (hE:ErrR w) (hR:CfR w c U UA S SA) (hZ:CfS c) :
  Calls Tryz.prog 15 #[.agg #[.int .i64 c.keep,.int .i64 c.body,.int .i64 c.store,.int .i64 c.conns,.slice UA c.ups.length uc,.slice SA c.srvs.length sc]] w (Gives (.int .i64 (okE (goodC c))) w):=by
 have hUl:U.length=c.ups.length:=by rw [← hR.hU,List.length_map]
 have hSl:S.length=c.srvs.length:=by rw [← hR.hS,List.length_map]
 have hul:=hZ.ul
 have hsl:=hZ.sl
 have hupm:∀ x ∈ U,UpS x.1:=fun x hx=>hZ.ups x.1 (by rw [← hR.hU]; exact List.mem_map_of_mem hx)
 have hsrm:∀ x ∈ S,SrS x.1:=fun x hx=>hZ.srvs x.1 (by rw [← hR.hS]; exact List.mem_map_of_mem hx)
 have hnm:(c.srvs.flatMap (·.names))=S.flatMap fun x=>x.1.names:=by rw [← hR.hS,List.flatMap_map]
 have CAU:=Lib.hid (fun w' (hx:Ext w w')=>allU_c (fun x:Up14 × Hd=>str x.1.name) (fun x=>x.2.1) (fun x=>x.1.peers.length) (fun x=>x.2.2) (fun x=>x.1.timeout) (fun x=>x.1.retries) U UA uc 31 #[] (fun x=>upC x.1) w' (by omega) (fun _ _=>by kernel_rfl) (hR.ups.ext hx)
  (fun x hxm w2 h2=>cUpRight_c x.1 x.2.1 x.2.2 w2 (hupm x hxm).name (hupm x hxm).pl (hupm x hxm).ids ((hR.peers x hxm).ext (hx.tr h2))))
 have CUU:=Lib.hid (fun w' (hx:Ext w w')=>unlU_c (fun x:Up14 × Hd=>str x.1.name) (fun x=>x.2.1) (fun x=>x.1.peers.length) (fun x=>x.2.2) (fun x=>x.1.timeout) (fun x=>x.1.retries) U UA uc 33 #[] (fun x=>.string (str x.1.name)) (fun x=>.string x.1.name) (decide ((U.map fun x=>x.1.name).Nodup)) w' (by omega) (fun _ _=>by kernel_rfl) (hR.ups.ext hx)
  (fun x hxm=>key_str (hupm x hxm).name) (by rw [decide_eq_true_iff]; exact (nodup_inj (f:=Lit.string) (fun a b e=>by injection e) _ _).symm) (fun x hxm w2 h2=>chF1_c x.1.name x.2.1 x.1.peers.length x.2.2 x.1.timeout x.1.retries w2))
 have CAS:=Lib.hid (fun w' g (hx:Ext w w') (hg:w'.cell? ⟨g,4,none⟩=some (.slice UA U.length uc))=>allS_c (fun x:Sr14 × Hd × Hd=>x.2.1.1) (fun x=>x.1.names.length) (fun x=>x.2.1.2) (fun x=>x.1.dflt) (fun x=>x.2.2.1) (fun x=>x.1.locs.length) (fun x=>x.2.2.2) S SA sc 35 #[.pointer (some ⟨g,0,none⟩)] (fun x=>srC (U.map fun y:Up14 × Hd=>y.1) x.1) w' (by omega) (fun _ _=>by kernel_rfl) (hR.srvs.ext hx)
  (fun x hxm w2 h2=>chF2_c x.1 (hsrm x hxm) x.2.1.1 x.2.2.1 x.2.1.2 x.2.2.2 U UA uc g w2 (hE.ext (hx.tr h2)) (by omega) (hR.ups.ext (hx.tr h2)) ((hR.names x hxm).ext (hx.tr h2)) ((hR.locs x hxm).ext (hx.tr h2)) ((h2.cell (lt_of_cell hg)).trans hg)))
 have CUT:=Lib.hid (fun w' (A:Option Addr) (cc:Nat) (hrd:Rd w' A (strC (S.flatMap fun x=>x.1.names)))=>unlT_c (fun x:List UInt8=>str x) (S.flatMap fun x=>x.1.names) A cc 38 #[] (fun x=>.string (str x)) (fun x=>.string x) (decide ((S.flatMap fun x=>x.1.names).Nodup)) w' (by have:=hZ.nm; rw [hnm] at this; omega) (fun _ _=>by kernel_rfl) (by rw [← strC_fm]; exact hrd)
  (fun x hxm=>by obtain ⟨y,hy,hxy⟩:=List.mem_flatMap.1 hxm; exact key_str ((hsrm y hy).names x hxy)) (by rw [decide_eq_true_iff]; have:=nodup_inj (f:=Lit.string) (fun a b e=>by injection e) (fun x:List UInt8=>x) (S.flatMap fun x=>x.1.names); rw [List.map_id'] at this; exact this.symm) (fun x _ w2 _=>chF3_c (str x) w2))
 obtain ⟨G,hG⟩:∃ b,b=goodC c:=⟨_,rfl⟩
 have HP:Hid (G=(inB c.keep 0 3600 && inB c.body 0 1048576 && inB c.store 0 1048576 && inB c.conns 1 1000 && decide (U.length ≤ 16) && (U.all fun x=>upC x.1) && decide ((U.map fun x=>x.1.name).Nodup) && inB S.length 1 32 && (S.all fun x=>srC (U.map (·.1)) x.1) &&
  decide ((S.flatMap fun x=>x.1.names).Nodup) && decide ((S.filter fun x=>x.1.dflt).length ≤ 1))):=Lib.hid (by
  rw [hG]
  unfold goodC
  rw [hnm,← hUl,← hSl,← hR.hU,← hR.hS,List.all_map,List.all_map,List.map_map,List.filter_map,List.length_map]
  rfl)
 rw [← hG,← hUl,← hSl]
 obtain ⟨q6,h6⟩:∃ b,b=U.all fun x=>upC x.1:=⟨_,rfl⟩
 obtain ⟨q7,h7⟩:∃ b,b=decide ((U.map fun x=>x.1.name).Nodup):=⟨_,rfl⟩
 obtain ⟨q9,h9⟩:∃ b,b=S.all fun x=>srC (U.map (·.1)) x.1:=⟨_,rfl⟩
 obtain ⟨qa,ha⟩:∃ b,b=decide ((S.flatMap fun x=>x.1.names).Nodup):=⟨_,rfl⟩
 rw [← h6] at CAU HP
 rw [← h7] at CUU HP
 rw [← h9] at CAS HP
 rw [← ha] at CUT HP
 have hnz:=hZ.nm
 rw [hnm] at hnz
 have HRR:=Lib.hid hR
 have hSL:S.length ≤ 1099511627776:=by omega
 have HNZ:=Lib.hid hnz
 clear hG h6 h7 h9 ha hE hZ hupm hsrm hnm hul hsl hUl hSl hR hnz
 obtain ⟨ul,hul⟩:∃ n,n=U.length:=⟨_,rfl⟩
 rw [← hul] at CAU CUU CAS HP ⊢
 clear hul
 obtain ⟨kp,bd,st,cn,ups,srvs⟩:=c
 dsimp only at *
 obtain ⟨W0,hW0⟩:∃ W,W=w.alloc (.cells #[.int .i64 kp,.int .i64 bd,.int .i64 st,.int .i64 cn,.slice UA ul uc,.slice SA S.length sc] 25):=⟨_,rfl⟩
 have hx0:Ext w W0:=by rw [hW0]; exact (Ext.rfl' w).al _
 have hcl:Hid (∀ wx,Ext W0 wx → ∀ j u,(#[.int .i64 kp,.int .i64 bd,.int .i64 st,.int .i64 cn,.slice UA ul uc,.slice SA S.length sc]:Array Value)[j]?=some u → wx.cell? ⟨w.heap.size,j,none⟩=some u):=Lib.hid (fun wx hx=>by rw [hW0] at hx; exact fun j u h=>hx.new j u h)
 go_enter Tryz.func15,Tryz.ntmps15
 go_upto_region 3 with (fail)
 rw [← hW0]
 clear hW0
 have z5:=hcl.out W0 (Ext.rfl' _) 5 _ rfl
 go_wp2
 clear z5
 go_loopw [3,4,11] (fun v3 v4 v11 wr=>∃ (k:Nat) (A:Option Addr) (n cc d:Nat),v3=.slice A n cc∧v4=.int .i64 (d:Int)∧v11=.int .i64 (k:Int)∧k ≤ S.length∧ChAt W0 S wr k A n cc d) (fun _ _ v11 _=>S.length - (intOf v11).toNat)
 case atStart=>exact ⟨0,none,0,0,0,rfl,rfl,rfl,Nat.zero_le _,rfl,rfl,fun _=>0,Sl.nil_ _ _ _ _ _,fun _=>rfl,Stp.rfl'⟩
 case round =>
  obtain ⟨k,A,n,cc,d,rfl,rfl,rfl,hk,hn,hd,o,hs,hna,hst⟩:=hrel
  have hxw:Ext W0 wr:=hst.toExt (fun _ _=>by omega)
  by_cases hlt:k < S.length
  ·obtain ⟨b,g,rfl,hbl,hc⟩:=(HRR.out.srvs.ext (hx0.tr hxw)).row (sz:=3) (fun _=>rfl) (by omega) hlt
   have hrow:=(HRR.out.names S[k] (List.getElem_mem hlt)).ext (hx0.tr hxw)
   have hNT:=names_take S k hlt
   have hDT:=dflt_take S k hlt
   have hNL:=names_le S (k + 1)
   have hnz:=HNZ.out
   have hdl:d ≤ k:=by
    rw [hd]
    refine Nat.le_trans (List.length_filter_le _ _) ?_
    rw [List.length_take]; omega
   obtain ⟨x,hxk⟩:∃ x,x=S[k]:=⟨_,rfl⟩
   rw [← hxk] at hc hrow hNT hDT
   clear hxk
   rw [hNT,List.length_append,← hn] at hNL
   rw [← hd] at hDT
   have k0:wr.cell? ⟨b,g + k * 3,none⟩=some (.slice x.2.1.1 x.1.names.length x.2.1.2):=hc 0 _ rfl
   have k1:wr.cell? ⟨b,g + k * 3 + 1,none⟩=some (.bool x.1.dflt):=hc 1 _ rfl
   have k2:wr.cell? ⟨b,g + k * 3 + 2,none⟩=some (.slice x.2.2.1 x.1.locs.length x.2.2.2):=hc 2 _ rfl
   have j0:(0:Int) ≤ (k:Int):=by omega
   have j1:(k:Int) < (S.length:Int):=by omega
   have hkk:IntKind.i64.wrap ((k:Int) + 1)=((k + 1:Nat):Int):=by rw [IntKind.wrap_i64]; omega
   have hdd:IntKind.i64.wrap ((d:Int) + 1)=((d + 1:Nat):Int):=by rw [IntKind.wrap_i64]; omega
   obtain ⟨m,hm⟩:∃ m,m=x.1.names.length:=⟨_,rfl⟩
   obtain ⟨df,hdf⟩:∃ m,m=x.1.dflt:=⟨_,rfl⟩
   rw [← hm] at k0 hNL
   rw [← hdf] at k1 hDT
   have HM:=Lib.hid hm
   have HNN:=Lib.hid hn
   have HDD:=Lib.hid hd
   have HNT:=Lib.hid hNT
   have HDT:=Lib.hid hDT
   have HROW:=Lib.hid hrow
   obtain ⟨o1,ho1⟩:∃ o1:Ow,o1=fun b=>if b < wr.heap.size then o b else 0:=⟨_,rfl⟩
   have hst1:∀ ob,Stp (fun i=>i=1) W0 (fun _=>0) (wr.alloc ob) o1:=fun ob=>hst.tr (Stp.ext2 ((Ext.rfl' wr).al ob) (fun b hb=>by rw [ho1]; exact if_pos hb))
   have hsl1:∀ ob,Sl (wr.alloc ob) o1 1 1 A n cc (strC ((S.take k).flatMap fun x=>x.1.names)):=fun ob=>hs.stp (K:=fun _=>False) (Stp.ext2 ((Ext.rfl' wr).al ob) (fun b hb=>by rw [ho1]; exact if_pos hb)) (fun x=>x)
   have hoz:o1 wr.heap.size=0:=by rw [ho1]; simp
   have HST:=Lib.hid hst1
   have HSL1:=Lib.hid hsl1
   have HOZ:=Lib.hid hoz
   clear hc hrow hNT hDT hn hd hm hdf ho1 hst1 hsl1 hoz hs hst hnz
   have hNM:=HNZ.out
   go_upto_region 6 with (fail)
   obtain ⟨W5,hW5⟩:∃ W,W=wr.alloc (.cells #[.slice x.2.1.1 m x.2.1.2,.bool df,.slice x.2.2.1 x.1.locs.length x.2.2.2] 78):=⟨_,rfl⟩
   have HST5:=Lib.hid (HST.out (.cells #[.slice x.2.1.1 m x.2.1.2,.bool df,.slice x.2.2.1 x.1.locs.length x.2.2.2] 78))
   have HSL5:=Lib.hid (HSL1.out (.cells #[.slice x.2.1.1 m x.2.1.2,.bool df,.slice x.2.2.1 x.1.locs.length x.2.2.2] 78))
   have b5:W5.heap[wr.heap.size]?=some (.cells #[.slice x.2.1.1 m x.2.1.2,.bool df,.slice x.2.2.1 x.1.locs.length x.2.2.2] 78 (0,0)):=by rw [hW5]; exact heap_alloc_new wr _
   have hx5:Ext wr W5:=by rw [hW5]; exact (Ext.rfl' wr).al _
   rw [← hW5] at HST5 HSL5 ⊢
   clear hW5 k0 k1 k2
   obtain ⟨gx,hgx⟩:∃ g,g=wr.heap.size:=⟨_,rfl⟩
   rw [← hgx] at b5 HOZ ⊢
   clear hgx
   have a0:=(row_facts b5 0 _ rfl).1
   have B5:=Lib.hid b5
   clear b5
   go_upto_region 7 with (first
    | (at_builtin; refine wpL_put slt_strH (.tmp 15) (.tmp 17) rfl rfl rfl rfl HSL5.out hna (Sl.src Tryz.underlying55 (HROW.out.ext hx5) (by rw [HM.out]; simp [strC]) (by omega) (strC_one _) _) (by omega) (by simp only [maxLen]; omega) ?_; intro A5 c5 w5 o5 hs5 st5 hn5; have HS5:=Lib.hid hs5; have HT5:=Lib.hid st5; have b6:=Lib.hid ((st5.keep gx (row_lt B5.out) (by rw [HOZ.out]; omega)).trans B5.out); clear hs5 st5))
   have a1:=(row_facts b6.out 1 _ rfl).1
   cases df with
   | false =>
    go_wp2
    go_roundw
    case rel =>
     refine ⟨k + 1,A5,n + m,c5,d,rfl,rfl,rfl,by omega,?_,?_,o5,?_,hn5,HST5.out.tr HT5.out⟩
     ·rw [HNT.out,List.length_append,← HNN.out,HM.out]
     ·rw [HDT.out]; rfl
     ·rw [HNT.out,strC_app]; exact HS5.out
    case measure=>simp [intOf]; omega
   | true =>
    go_wp2
    go_roundw
    case rel =>
     refine ⟨k + 1,A5,n + m,c5,d + 1,rfl,rfl,rfl,by omega,?_,?_,o5,?_,hn5,HST5.out.tr HT5.out⟩
     ·rw [HNT.out,List.length_append,← HNN.out,HM.out]
     ·rw [HDT.out]; rfl
     ·rw [HNT.out,strC_app]; exact HS5.out
    case measure=>simp [intOf]; omega
  ·have htk:S.take k=S:=List.take_of_length_le (by omega)
   rw [htk] at hn hd hs
   have CUTN:=fun w' (hx:Ext wr w')=>CUT.out w' A cc (hs.rd.ext hx)
   rw [← hn] at CUTN
   have HUT:=Lib.hid CUTN
   have HP2:=HP.out
   rw [← hd] at HP2
   have HPP:=Lib.hid HP2
   have e1:=hcl.out wr hxw
   have c0:=e1 0 _ rfl
   have c1:=e1 1 _ rfl
   have c2:=e1 2 _ rfl
   have c3:=e1 3 _ rfl
   have c4:=e1 4 _ rfl
   have c5:=e1 5 _ rfl
   have hxz:=hx0.tr hxw
   have hdl:d ≤ S.length:=by rw [hd]; exact List.length_filter_le _ _
   clear e1 hn hd hs hst CUTN HP2 htk hna HP CUT
   have hmf:∀ (fn:Fn) (first cap:Array Value) (w:World),(Instr.makeFunc fn first cap).run Tryz.prog w=.ok (.func fn first cap) w:=fun _ _ _ _=>rfl
   go_upto_region 10 with (fail)
   go_cut [7] (fun v7 wx=>v7=.bool G∧Ext wr wx)
   case first =>
    by_cases hd1:d ≤ 1
    ·have D1:Hid (decide (d ≤ 1)=true):=Lib.hid (decide_eq_true hd1)
     have dd1:decide ((d:Int) ≤ 1)=true:=decide_eq_true (by omega)
     have dd2:(d:Int) ≤ 1:=by omega
     by_cases hu:ul ≤ 16
     ·have D2:Hid (decide (ul ≤ 16)=true):=Lib.hid (decide_eq_true hu)
      have du1:decide ((ul:Int) ≤ 16)=true:=decide_eq_true (by omega)
      as_aux_lemma =>
       go_wp2_with (first
        | (go_at_call 29; refine (cinB_c _ _ _ _).mono ?_; rintro e w2 ⟨rfl,rfl⟩)
        | (go_at_call 30; refine (CAU.out _ hxz).mono ?_; rintro e w5 ⟨rfl,hx5⟩; have f4:=hcl.out _ (hxw.tr hx5) 4 _ rfl; cases q6)
        | (go_at_call 32; refine (CUU.out _ (hxz.tr hx5)).mono ?_; rintro e w6 ⟨rfl,hx6⟩; have g5:=hcl.out _ ((hxw.tr hx5).tr hx6) 5 _ rfl; have g4:=hcl.out _ ((hxw.tr hx5).tr hx6) 4 _ rfl; cases q7)
        | (go_at_call 34; refine (CAS.out _ _ ((hxz.tr hx5).tr hx6) g4).mono ?_; rintro e w7 ⟨rfl,hx7⟩; have CT2:=(HUT.out _ (((hx5.tr hx6).tr hx7))); cases q9)
        | (go_at_call 37; refine CT2.mono ?_; rintro e w8 ⟨rfl,hx8⟩; cases qa))
       all_goals go_meet
       all_goals (refine ⟨by rw [HPP.out,D1.out,D2.out]; simp [*],by (repeat first | exact Ex0 | assumption | refine Ex1 ?_ | refine Ex2 ?_ | refine Ex3 ?_ | refine Ex4 ?_ | refine Ex5 ?_)⟩)
     ·have D2:Hid (decide (ul ≤ 16)=false):=Lib.hid (decide_eq_false hu)
      have du1:decide ((ul:Int) ≤ 16)=false:=decide_eq_false (by omega)
      as_aux_lemma =>
       go_wp2_with (first
        | (go_at_call 29; refine (cinB_c _ _ _ _).mono ?_; rintro e w2 ⟨rfl,rfl⟩)
        | (go_at_call 30; refine (CAU.out _ hxz).mono ?_; rintro e w5 ⟨rfl,hx5⟩; have f4:=hcl.out _ (hxw.tr hx5) 4 _ rfl; cases q6)
        | (go_at_call 32; refine (CUU.out _ (hxz.tr hx5)).mono ?_; rintro e w6 ⟨rfl,hx6⟩; have g5:=hcl.out _ ((hxw.tr hx5).tr hx6) 5 _ rfl; have g4:=hcl.out _ ((hxw.tr hx5).tr hx6) 4 _ rfl; cases q7)
        | (go_at_call 34; refine (CAS.out _ _ ((hxz.tr hx5).tr hx6) g4).mono ?_; rintro e w7 ⟨rfl,hx7⟩; have CT2:=(HUT.out _ (((hx5.tr hx6).tr hx7))); cases q9)
        | (go_at_call 37; refine CT2.mono ?_; rintro e w8 ⟨rfl,hx8⟩; cases qa))
       all_goals go_meet
       all_goals (refine ⟨by rw [HPP.out,D1.out,D2.out]; simp [*],by (repeat first | exact Ex0 | assumption | refine Ex1 ?_ | refine Ex2 ?_ | refine Ex3 ?_ | refine Ex4 ?_ | refine Ex5 ?_)⟩)
    ·have D1:Hid (decide (d ≤ 1)=false):=Lib.hid (decide_eq_false hd1)
     have dd1:decide ((d:Int) ≤ 1)=false:=decide_eq_false (by omega)
     have dd2:¬ (d:Int) ≤ 1:=by omega
     by_cases hu:ul ≤ 16
     ·have D2:Hid (decide (ul ≤ 16)=true):=Lib.hid (decide_eq_true hu)
      have du1:decide ((ul:Int) ≤ 16)=true:=decide_eq_true (by omega)
      as_aux_lemma =>
       go_wp2_with (first
        | (go_at_call 29; refine (cinB_c _ _ _ _).mono ?_; rintro e w2 ⟨rfl,rfl⟩)
        | (go_at_call 30; refine (CAU.out _ hxz).mono ?_; rintro e w5 ⟨rfl,hx5⟩; have f4:=hcl.out _ (hxw.tr hx5) 4 _ rfl; cases q6)
        | (go_at_call 32; refine (CUU.out _ (hxz.tr hx5)).mono ?_; rintro e w6 ⟨rfl,hx6⟩; have g5:=hcl.out _ ((hxw.tr hx5).tr hx6) 5 _ rfl; have g4:=hcl.out _ ((hxw.tr hx5).tr hx6) 4 _ rfl; cases q7)
        | (go_at_call 34; refine (CAS.out _ _ ((hxz.tr hx5).tr hx6) g4).mono ?_; rintro e w7 ⟨rfl,hx7⟩; have CT2:=(HUT.out _ (((hx5.tr hx6).tr hx7))); cases q9)
        | (go_at_call 37; refine CT2.mono ?_; rintro e w8 ⟨rfl,hx8⟩; cases qa))
       all_goals go_meet
       all_goals (refine ⟨by rw [HPP.out,D1.out,D2.out]; simp [*],by (repeat first | exact Ex0 | assumption | refine Ex1 ?_ | refine Ex2 ?_ | refine Ex3 ?_ | refine Ex4 ?_ | refine Ex5 ?_)⟩)
     ·have D2:Hid (decide (ul ≤ 16)=false):=Lib.hid (decide_eq_false hu)
      have du1:decide ((ul:Int) ≤ 16)=false:=decide_eq_false (by omega)
      as_aux_lemma =>
       go_wp2_with (first
        | (go_at_call 29; refine (cinB_c _ _ _ _).mono ?_; rintro e w2 ⟨rfl,rfl⟩)
        | (go_at_call 30; refine (CAU.out _ hxz).mono ?_; rintro e w5 ⟨rfl,hx5⟩; have f4:=hcl.out _ (hxw.tr hx5) 4 _ rfl; cases q6)
        | (go_at_call 32; refine (CUU.out _ (hxz.tr hx5)).mono ?_; rintro e w6 ⟨rfl,hx6⟩; have g5:=hcl.out _ ((hxw.tr hx5).tr hx6) 5 _ rfl; have g4:=hcl.out _ ((hxw.tr hx5).tr hx6) 4 _ rfl; cases q7)
        | (go_at_call 34; refine (CAS.out _ _ ((hxz.tr hx5).tr hx6) g4).mono ?_; rintro e w7 ⟨rfl,hx7⟩; have CT2:=(HUT.out _ (((hx5.tr hx6).tr hx7))); cases q9)
        | (go_at_call 37; refine CT2.mono ?_; rintro e w8 ⟨rfl,hx8⟩; cases qa))
       all_goals go_meet
       all_goals (refine ⟨by rw [HPP.out,D1.out,D2.out]; simp [*],by (repeat first | exact Ex0 | assumption | refine Ex1 ?_ | refine Ex2 ?_ | refine Ex3 ?_ | refine Ex4 ?_ | refine Ex5 ?_)⟩)
   case rest =>
    obtain ⟨rfl,hxf⟩:=hcut
    cases G with
    | false =>
     go_wp2
     go_ret
     exact ⟨rfl,(hx0.tr hxw).tr hxf⟩
    | true =>
     go_wp2
     go_ret
     exact ⟨rfl,(hx0.tr hxw).tr hxf⟩
end Go.Proofs.YtmnohicojefhfaaGreatDoor
end
