/-
A location's check: the walk.
-/
import Derived.Test.YtmnohicojefhfaaGreatDoorCHb
set_option maxRecDepth 100000
set_option maxHeartbeats 8000000
set_option linter.unusedVariables false
set_option linter.unusedSimpArgs false
namespace Go.Proofs.YtmnohicojefhfaaGreatDoor
open Go.RowKit
def LoV (l:Lo14):Array Value:=#[.string (str l.pre),.int .i64 l.kind,.string (str l.root),.string (str l.index),.int .i64 l.gzip,.int .i64 l.expires,.string (str l.up),.bool l.cache,.int .i64 l.rate,.int .i64 l.burst,.int .i64 l.status,.string (str l.goal)]
structure LoS (l:Lo14):Prop where
 pre:l.pre.length ≤ 140737488355328
 root:l.root.length ≤ 140737488355328
 index:l.index.length ≤ 140737488355328
 goal:l.goal.length ≤ 140737488355328
theorem cLoRight_1 (l:Lo14) (hS:LoS l) (ups:List Up14) (UV:Value) (w:World) (hk:l.kind=1):Calls Tryz.prog 82 #[.agg (LoV l),UV] w (Gives (.bool (locC ups l)) w):=by
 have HL:Hid (locC ups l=(loc0 l && loc1 l && decide (restC l=lo0))):=Lib.hid (if_pos hk)
 have CR:=Lib.hid (fun w=>cpath_c l.root hS.root w)
 have CS:=Lib.hid (fun w=>suf_c l.root hS.root w)
 have CB:=Lib.hid (fun w=>cbytes_c 33 (by omega) l.index w)
 have CC:=Lib.hid (fun w=>contains1_c l.index w)
 have HL1:Hid (loc1 l=(pathC l.root && (decide (l.root=[47]) || !(l.root.getLast? == some 47)) && bytesC 33 l.index && !(l.index.contains 47) && !(decide (l.index=[46])) && !(decide (l.index=[46,46])) && inB l.gzip 0 9 && inB l.expires 0 31536000)):=Lib.hid rfl
 have HL2:Hid (restC l=⟨[],0,[],[],0,0,l.up,l.cache,0,0,l.status,l.goal⟩):=Lib.hid (by unfold restC; rw [if_pos hk])
 generalize locC ups l=LL at *
 generalize restC l=RR at *
 obtain ⟨b1,hb1⟩:∃ b,b=loc1 l:=⟨_,rfl⟩
 rw [← hb1] at HL HL1
 clear hb1
 obtain ⟨r1,hr1⟩:∃ b,b=pathC l.root:=⟨_,rfl⟩
 obtain ⟨r2,hr2'⟩:∃ b,b=(l.root.getLast? == some 47):=⟨_,rfl⟩
 obtain ⟨r3,hr3'⟩:∃ b,b=bytesC 33 l.index:=⟨_,rfl⟩
 obtain ⟨r4,hr4'⟩:∃ b,b=l.index.contains 47:=⟨_,rfl⟩
 rw [← hr1] at CR HL1
 rw [← hr2'] at CS HL1
 rw [← hr3'] at CB HL1
 rw [← hr4'] at CC HL1
 clear hr1 hr2' hr3' hr4'
 have CP:=Lib.hid (fun w=>cpath_c l.pre hS.pre w)
 obtain ⟨b0,hb0⟩:∃ b,b=loc0 l:=⟨_,rfl⟩
 rw [← hb0] at HL
 obtain ⟨pre,k,root,index,g,e,up,ca,r,bu,st,goal⟩:=l
 dsimp only at *
 subst hk
 have HB0:Hid (b0=(pathC pre && inB r 0 1000000 && inB bu 0 1000000 && (decide (0 < r) || decide (bu=0)))):=Lib.hid hb0
 obtain ⟨a1,ha1⟩:∃ b,b=pathC pre:=⟨_,rfl⟩
 obtain ⟨sp,hsp⟩:∃ s,s=str pre:=⟨_,rfl⟩
 obtain ⟨sr,hsr⟩:∃ s,s=str root:=⟨_,rfl⟩
 obtain ⟨si,hsi⟩:∃ s,s=str index:=⟨_,rfl⟩
 obtain ⟨su,hsu⟩:∃ s,s=str up:=⟨_,rfl⟩
 obtain ⟨sg,hsg⟩:∃ s,s=str goal:=⟨_,rfl⟩
 have HSR:=Lib.hid hsr
 have HSI:=Lib.hid hsi
 have HSU:=Lib.hid hsu
 have HSG:=Lib.hid hsg
 rw [← ha1] at CP HB0
 rw [← hsp] at CP
 unfold LoV
 dsimp only
 rw [← hsp,← hsr,← hsi,← hsu,← hsg]
 clear ha1 hsp hsr hsi hsu hsg hb0
 have hx0:=(Ext.rfl' w).al (.cells #[.string sp,.int .i64 1,.string sr,.string si,.int .i64 g,.int .i64 e,.string su,.bool ca,.int .i64 r,.int .i64 bu,.int .i64 st,.string sg] 81)
 go_enter Tryz.func82,Tryz.ntmps82
 go_upto_region 1 with (fail)
 obtain ⟨W0,hW0⟩:∃ W,W=w.alloc (.cells #[.string sp,.int .i64 1,.string sr,.string si,.int .i64 g,.int .i64 e,.string su,.bool ca,.int .i64 r,.int .i64 bu,.int .i64 st,.string sg] 81):=⟨_,rfl⟩
 rw [← hW0]
 rw [← hW0] at hx0
 have hcl:Hid (∀ wx,Ext W0 wx → ∀ j u,(#[.string sp,.int .i64 1,.string sr,.string si,.int .i64 g,.int .i64 e,.string su,.bool ca,.int .i64 r,.int .i64 bu,.int .i64 st,.string sg]:Array Value)[j]?=some u → wx.cell? ⟨w.heap.size,j,none⟩=some u):=Lib.hid (fun wx hx=>by rw [hW0] at hx; exact fun j u h=>hx.new j u h)
 have hlt0:w.heap.size < W0.heap.size:=by rw [hW0]; simp
 clear hW0
 have z0:=hcl.out W0 (Ext.rfl' _) 0 _ rfl
 go_cut [5] (fun v5 wx=>v5=.bool b0∧Ext W0 wx)
 case first=>as_aux_lemma =>
  by_cases hr:0 < r
  ·have d1:decide (0 < r)=true:=decide_eq_true hr
   have HD:Hid ((decide (0 < r) || decide (bu=0))=true):=Lib.hid (by rw [d1]; rfl)
   go_wp2_with (first
    | (go_at_call 124; refine (CP.out _).mono ?_; rintro e w1 ⟨rfl,hx1⟩; have q8:=hcl.out _ hx1 8 _ rfl; have q9:=hcl.out _ hx1 9 _ rfl; cases a1)
    | (go_at_call 29; refine (cinB_c _ _ _ _).mono ?_; rintro e w2 ⟨rfl,rfl⟩))
   all_goals
    go_meet
    exact ⟨by rw [HB0.out,HD.out]; simp [*],by assumption⟩
  ·have d1:decide (0 < r)=false:=decide_eq_false hr
   by_cases hb:bu=0
   ·have d2:(bu == 0)=true:=beq_iff_eq.2 hb
    have HD:Hid ((decide (0 < r) || decide (bu=0))=true):=Lib.hid (by rw [decide_eq_true hb]; simp)
    clear hb
    go_wp2_with (first
     | (go_at_call 124; refine (CP.out _).mono ?_; rintro e w1 ⟨rfl,hx1⟩; have q8:=hcl.out _ hx1 8 _ rfl; have q9:=hcl.out _ hx1 9 _ rfl; cases a1)
     | (go_at_call 29; refine (cinB_c _ _ _ _).mono ?_; rintro e w2 ⟨rfl,rfl⟩))
    all_goals
     go_meet
     exact ⟨by rw [HB0.out,HD.out]; simp [*],by assumption⟩
   ·have d2:(bu == 0)=false:=beq_eq_false_iff_ne.2 hb
    have HD:Hid ((decide (0 < r) || decide (bu=0))=false):=Lib.hid (by rw [decide_eq_false hb,d1]; rfl)
    go_wp2_with (first
     | (go_at_call 124; refine (CP.out _).mono ?_; rintro e w1 ⟨rfl,hx1⟩; have q8:=hcl.out _ hx1 8 _ rfl; have q9:=hcl.out _ hx1 9 _ rfl; cases a1)
     | (go_at_call 29; refine (cinB_c _ _ _ _).mono ?_; rintro e w2 ⟨rfl,rfl⟩))
    all_goals
     go_meet
     exact ⟨by rw [HB0.out,HD.out]; simp [*],by assumption⟩
 case rest =>
  rw [← HSR.out] at CR CS
  rw [← HSI.out] at CB CC
  obtain ⟨rfl,hw1⟩:=hcut
  obtain ⟨W1,rfl⟩:∃ W,W=wc:=⟨_,rfl⟩
  have e1:=hcl.out _ hw1
  have c0:=e1 0 _ rfl
  have c1:=e1 1 _ rfl
  have c2:=e1 2 _ rfl
  have c3:=e1 3 _ rfl
  have c4:=e1 4 _ rfl
  have c5:=e1 5 _ rfl
  have c6:=e1 6 _ rfl
  have c7:=e1 7 _ rfl
  have c8:=e1 8 _ rfl
  have c9:=e1 9 _ rfl
  have ca1:=e1 10 _ rfl
  have cb1:=e1 11 _ rfl
  clear e1
  have hne:w.heap.size ≠ W1.heap.size:=by have:=hw1.size; omega
  go_upto_region 4 with (fail)
  obtain ⟨W2,hW2⟩:∃ W,W=W1.alloc (.cells #[.string ⟨#[]⟩,.int .i64 0,.string sr,.string si,.int .i64 g,.int .i64 e,.string su,.bool ca,.int .i64 0,.int .i64 0,.int .i64 st,.string sg] 81):=⟨_,rfl⟩
  have hx2:Ext W1 W2:=by rw [hW2]; exact (Ext.rfl' W1).al _
  have hr2:W2.heap[W1.heap.size]?=some (.cells #[.string ⟨#[]⟩,.int .i64 0,.string sr,.string si,.int .i64 g,.int .i64 e,.string su,.bool ca,.int .i64 0,.int .i64 0,.int .i64 st,.string sg] 81 (0,0)):=by rw [hW2]; exact heap_alloc_new W1 _
  rw [← hW2]
  clear hW2 c0 c1 c2 c3 c4 c5 c6 c7 c8 c9 ca1 cb1
  obtain ⟨R,hR⟩:∃ R,R=W1.heap.size:=⟨_,rfl⟩
  rw [← hR] at hr2 hne ⊢
  have HRR:=Lib.hid hR
  clear hR
  have hw2:=hw1.tr hx2
  have hrl:=row_lt hr2
  have e1:=hcl.out _ hw2
  have c1:=e1 1 _ rfl
  go_upto_block 0 with (fail)
  clear c1
  obtain ⟨b9,hb9⟩:∃ b,b=decide (RR=lo0):=⟨_,rfl⟩
  have HB9:Hid (b9=decide ((⟨[],0,[],[],0,0,up,ca,0,0,st,goal⟩:Lo14)=lo0)):=Lib.hid (by rw [hb9,HL2.out])
  obtain ⟨bF,hbF⟩:∃ b,b=(b0 && b1):=⟨_,rfl⟩
  have HFIN:Hid (LL=(bF && b9)):=Lib.hid (by rw [HL.out,hbF,hb9])
  have HBF:=Lib.hid hbF
  clear hb9 hbF
  go_cut [5] (fun v5 wx=>v5=.bool bF∧Ext W0 wx∧wx.heap[R]?=some (.cells #[.string ⟨#[]⟩,.int .i64 0,.string ⟨#[]⟩,.string ⟨#[]⟩,.int .i64 0,.int .i64 0,.string su,.bool ca,.int .i64 0,.int .i64 0,.int .i64 st,.string sg] 81 (0,0)))
  case rest =>
   obtain ⟨rfl,hwF,hrF⟩:=hcut
   obtain ⟨W9,rfl⟩:∃ W,W=wc:=⟨_,rfl⟩
   have f0:=(row_facts hrF 0 _ rfl).1
   have f1:=(row_facts hrF 1 _ rfl).1
   have f2:=(row_facts hrF 2 _ rfl).1
   have f3:=(row_facts hrF 3 _ rfl).1
   have f4:=(row_facts hrF 4 _ rfl).1
   have f5:=(row_facts hrF 5 _ rfl).1
   have f6:=(row_facts hrF 6 _ rfl).1
   have f7:=(row_facts hrF 7 _ rfl).1
   have f8:=(row_facts hrF 8 _ rfl).1
   have f9:=(row_facts hrF 9 _ rfl).1
   have fa:=(row_facts hrF 10 _ rfl).1
   have fb:=(row_facts hrF 11 _ rfl).1
   clear hrF
   cases bF with
   | false =>
    go_wp2
    go_ret
    exact ⟨ret_bool (by rw [HFIN.out]; simp),hx0.tr hwF⟩
   | true =>
    have HEQ:∀ w',(binOp .eql 81 (.agg #[.string ⟨#[]⟩,.int .i64 0,.string ⟨#[]⟩,.string ⟨#[]⟩,.int .i64 0,.int .i64 0,.string su,.bool ca,.int .i64 0,.int .i64 0,.int .i64 st,.string sg]) (.agg #[.string ⟨#[]⟩,.int .i64 0,.string ⟨#[]⟩,.string ⟨#[]⟩,.int .i64 0,.int .i64 0,.string ⟨#[]⟩,.bool false,.int .i64 0,.int .i64 0,.int .i64 0,.string ⟨#[]⟩])).run Tryz.prog w'=.ok (.bool b9) w':=fun w'=>by
     have h:=eq_loc (⟨[],0,[],[],0,0,up,ca,0,0,st,goal⟩:Lo14) lo0 w'
     rw [HB9.out]
     simp only [HSU.out,HSR.out,HSI.out,HSG.out]
     exact h
    go_wp2
    go_ret
    exact ⟨ret_bool (by rw [HFIN.out]; simp),hx0.tr hwF⟩
  case first =>
   go_upto_region 7 with (fail)
   obtain ⟨x1,hx1⟩:∃ b,b=(b0 && r1 && (decide (root=[47]) || !r2) && r3 && !r4 && !(decide (index=[46])) && !(decide (index=[46,46]))):=⟨_,rfl⟩
   have HX1:=Lib.hid hx1
   clear hx1
   have y2:=e1 2 _ rfl
   have y3:=e1 3 _ rfl
   clear e1
   go_cut [5] (fun v5 wx=>v5=.bool x1∧Ext W2 wx)
   case first =>
    cases b0 with
    | false =>
     go_wp2
     go_meet
     exact ⟨by rw [HX1.out]; simp,Ext.rfl' _⟩
    | true =>
     by_cases hroot:root=[47]
     ·have t1:sr.toList=[47]:=by rw [HSR.out,str_tl]; exact hroot
      have DR:Hid (decide (root=[47])=true):=Lib.hid (decide_eq_true hroot)
      clear hroot
      by_cases hi1:index=[46]
      ·have t3:si.toList=[46]:=by rw [HSI.out,str_tl]; exact hi1
       have DI:Hid (decide (index=[46])=true):=Lib.hid (decide_eq_true hi1)
       have DJ:Hid (decide (index=[46,46])=false):=Lib.hid (decide_eq_false (by rw [hi1]; simp))
       clear hi1
       as_aux_lemma =>
        go_wp2_with (first
         | (go_at_call 124; refine (CR.out _).mono ?_; rintro e' w3 ⟨rfl,hx3⟩; have u2:=hcl.out _ (hw2.tr hx3) 2 _ rfl; have u3:=hcl.out _ (hw2.tr hx3) 3 _ rfl; cases r1)
         | (go_at_call 125; refine (CS.out _).mono ?_; rintro e' w4 ⟨rfl,rfl⟩; cases r2)
         | (go_at_call 105; refine (CB.out _).mono ?_; rintro e' w5 ⟨rfl,hx5⟩; have v3:=hcl.out _ ((hw2.tr hx3).tr hx5) 3 _ rfl; cases r3)
         | (go_at_call 126; refine (CC.out _).mono ?_; rintro e' w6 ⟨rfl,rfl⟩; cases r4))
        all_goals
         go_meet
         exact ⟨by rw [HX1.out]; simp [DR.out,DI.out,DJ.out],by first | exact Ext.rfl' _ | exact hx3 | exact hx3.tr hx5⟩
      ·have t3:¬ si.toList=[46]:=by rw [HSI.out,str_tl]; exact hi1
       have t4:(si.toList == [46])=false:=beq_eq_false_iff_ne.2 t3
       have DI:Hid (decide (index=[46])=false):=Lib.hid (decide_eq_false hi1)
       by_cases hi2:index=[46,46]
       ·have t5:si.toList=[46,46]:=by rw [HSI.out,str_tl]; exact hi2
        have DJ:Hid (decide (index=[46,46])=true):=Lib.hid (decide_eq_true hi2)
        clear hi1 hi2 t3 t4
        as_aux_lemma =>
         go_wp2_with (first
          | (go_at_call 124; refine (CR.out _).mono ?_; rintro e' w3 ⟨rfl,hx3⟩; have u2:=hcl.out _ (hw2.tr hx3) 2 _ rfl; have u3:=hcl.out _ (hw2.tr hx3) 3 _ rfl; cases r1)
          | (go_at_call 125; refine (CS.out _).mono ?_; rintro e' w4 ⟨rfl,rfl⟩; cases r2)
          | (go_at_call 105; refine (CB.out _).mono ?_; rintro e' w5 ⟨rfl,hx5⟩; have v3:=hcl.out _ ((hw2.tr hx3).tr hx5) 3 _ rfl; cases r3)
          | (go_at_call 126; refine (CC.out _).mono ?_; rintro e' w6 ⟨rfl,rfl⟩; cases r4))
         all_goals
          go_meet
          exact ⟨by rw [HX1.out]; simp [DR.out,DI.out,DJ.out],by first | exact Ext.rfl' _ | exact hx3 | exact hx3.tr hx5⟩
       ·have t5:¬ si.toList=[46,46]:=by rw [HSI.out,str_tl]; exact hi2
        have t6:(si.toList == [46,46])=false:=beq_eq_false_iff_ne.2 t5
        have DJ:Hid (decide (index=[46,46])=false):=Lib.hid (decide_eq_false hi2)
        clear hi1 hi2
        as_aux_lemma =>
         go_wp2_with (first
          | (go_at_call 124; refine (CR.out _).mono ?_; rintro e' w3 ⟨rfl,hx3⟩; have u2:=hcl.out _ (hw2.tr hx3) 2 _ rfl; have u3:=hcl.out _ (hw2.tr hx3) 3 _ rfl; cases r1)
          | (go_at_call 125; refine (CS.out _).mono ?_; rintro e' w4 ⟨rfl,rfl⟩; cases r2)
          | (go_at_call 105; refine (CB.out _).mono ?_; rintro e' w5 ⟨rfl,hx5⟩; have v3:=hcl.out _ ((hw2.tr hx3).tr hx5) 3 _ rfl; cases r3)
          | (go_at_call 126; refine (CC.out _).mono ?_; rintro e' w6 ⟨rfl,rfl⟩; cases r4))
         all_goals
          go_meet
          exact ⟨by rw [HX1.out]; simp [DR.out,DI.out,DJ.out],by first | exact Ext.rfl' _ | exact hx3 | exact hx3.tr hx5⟩
     ·have t1:¬ sr.toList=[47]:=by rw [HSR.out,str_tl]; exact hroot
      have t2:(sr.toList == [47])=false:=beq_eq_false_iff_ne.2 t1
      have DR:Hid (decide (root=[47])=false):=Lib.hid (decide_eq_false hroot)
      clear hroot
      by_cases hi1:index=[46]
      ·have t3:si.toList=[46]:=by rw [HSI.out,str_tl]; exact hi1
       have DI:Hid (decide (index=[46])=true):=Lib.hid (decide_eq_true hi1)
       have DJ:Hid (decide (index=[46,46])=false):=Lib.hid (decide_eq_false (by rw [hi1]; simp))
       clear hi1
       as_aux_lemma =>
        go_wp2_with (first
         | (go_at_call 124; refine (CR.out _).mono ?_; rintro e' w3 ⟨rfl,hx3⟩; have u2:=hcl.out _ (hw2.tr hx3) 2 _ rfl; have u3:=hcl.out _ (hw2.tr hx3) 3 _ rfl; cases r1)
         | (go_at_call 125; refine (CS.out _).mono ?_; rintro e' w4 ⟨rfl,rfl⟩; cases r2)
         | (go_at_call 105; refine (CB.out _).mono ?_; rintro e' w5 ⟨rfl,hx5⟩; have v3:=hcl.out _ ((hw2.tr hx3).tr hx5) 3 _ rfl; cases r3)
         | (go_at_call 126; refine (CC.out _).mono ?_; rintro e' w6 ⟨rfl,rfl⟩; cases r4))
        all_goals
         go_meet
         exact ⟨by rw [HX1.out]; simp [DR.out,DI.out,DJ.out],by first | exact Ext.rfl' _ | exact hx3 | exact hx3.tr hx5⟩
      ·have t3:¬ si.toList=[46]:=by rw [HSI.out,str_tl]; exact hi1
       have t4:(si.toList == [46])=false:=beq_eq_false_iff_ne.2 t3
       have DI:Hid (decide (index=[46])=false):=Lib.hid (decide_eq_false hi1)
       by_cases hi2:index=[46,46]
       ·have t5:si.toList=[46,46]:=by rw [HSI.out,str_tl]; exact hi2
        have DJ:Hid (decide (index=[46,46])=true):=Lib.hid (decide_eq_true hi2)
        clear hi1 hi2 t3 t4
        as_aux_lemma =>
         go_wp2_with (first
          | (go_at_call 124; refine (CR.out _).mono ?_; rintro e' w3 ⟨rfl,hx3⟩; have u2:=hcl.out _ (hw2.tr hx3) 2 _ rfl; have u3:=hcl.out _ (hw2.tr hx3) 3 _ rfl; cases r1)
          | (go_at_call 125; refine (CS.out _).mono ?_; rintro e' w4 ⟨rfl,rfl⟩; cases r2)
          | (go_at_call 105; refine (CB.out _).mono ?_; rintro e' w5 ⟨rfl,hx5⟩; have v3:=hcl.out _ ((hw2.tr hx3).tr hx5) 3 _ rfl; cases r3)
          | (go_at_call 126; refine (CC.out _).mono ?_; rintro e' w6 ⟨rfl,rfl⟩; cases r4))
         all_goals
          go_meet
          exact ⟨by rw [HX1.out]; simp [DR.out,DI.out,DJ.out],by first | exact Ext.rfl' _ | exact hx3 | exact hx3.tr hx5⟩
       ·have t5:¬ si.toList=[46,46]:=by rw [HSI.out,str_tl]; exact hi2
        have t6:(si.toList == [46,46])=false:=beq_eq_false_iff_ne.2 t5
        have DJ:Hid (decide (index=[46,46])=false):=Lib.hid (decide_eq_false hi2)
        clear hi1 hi2
        as_aux_lemma =>
         go_wp2_with (first
          | (go_at_call 124; refine (CR.out _).mono ?_; rintro e' w3 ⟨rfl,hx3⟩; have u2:=hcl.out _ (hw2.tr hx3) 2 _ rfl; have u3:=hcl.out _ (hw2.tr hx3) 3 _ rfl; cases r1)
          | (go_at_call 125; refine (CS.out _).mono ?_; rintro e' w4 ⟨rfl,rfl⟩; cases r2)
          | (go_at_call 105; refine (CB.out _).mono ?_; rintro e' w5 ⟨rfl,hx5⟩; have v3:=hcl.out _ ((hw2.tr hx3).tr hx5) 3 _ rfl; cases r3)
          | (go_at_call 126; refine (CC.out _).mono ?_; rintro e' w6 ⟨rfl,rfl⟩; cases r4))
         all_goals
          go_meet
          exact ⟨by rw [HX1.out]; simp [DR.out,DI.out,DJ.out],by first | exact Ext.rfl' _ | exact hx3 | exact hx3.tr hx5⟩
   case rest =>
    obtain ⟨rfl,hw7⟩:=hcut
    obtain ⟨W7,rfl⟩:∃ W,W=wc:=⟨_,rfl⟩
    have g4:=hcl.out _ (hw2.tr hw7) 4 _ rfl
    have g5:=hcl.out _ (hw2.tr hw7) 5 _ rfl
    obtain ⟨x2,hx2⟩:∃ b,b=(x1 && inB g 0 9 && inB e 0 31536000):=⟨_,rfl⟩
    have HX2:=Lib.hid hx2
    clear hx2
    go_upto_region 8 with (fail)
    go_cut [5] (fun v5 wx=>v5=.bool x2∧wx=W7)
    case first =>
     cases x1
     all_goals
      go_wp2_with (go_at_call 29; refine (cinB_c _ _ _ _).mono ?_; rintro e' w2 ⟨rfl,rfl⟩)
      all_goals
       go_meet
       exact ⟨by rw [HX2.out]; simp [*],rfl⟩
    case rest =>
     obtain ⟨rfl,rfl⟩:=hcut
     have r7:=(hw7.block R hrl).trans hr2
     have s2:=row_facts r7 2 _ rfl
     have s3:=row_facts r7 3 _ rfl
     have s4:=row_facts r7 4 _ rfl
     have s5:=row_facts r7 5 _ rfl
     have HR7:=Lib.hid r7
     have HWW:=Lib.hid (hw2.tr hw7)
     clear r7 g4 g5
     have hR0:W0.heap.size ≤ R:=by rw [HRR.out]; exact hw1.size
     go_wp2
     go_meet
     refine ⟨by rw [HBF.out,HL1.out,HX2.out,HX1.out]; simp [Bool.and_assoc],((((HWW.out.st hR0 _).st hR0 _).st hR0 _).st hR0 _),?_⟩
     have:=row_set (row_set (row_set (row_set HR7.out 2 (.string ⟨#[]⟩)) 3 (.string ⟨#[]⟩)) 4 (.int .i64 0)) 5 (.int .i64 0)
     exact this
end Go.Proofs.YtmnohicojefhfaaGreatDoor
