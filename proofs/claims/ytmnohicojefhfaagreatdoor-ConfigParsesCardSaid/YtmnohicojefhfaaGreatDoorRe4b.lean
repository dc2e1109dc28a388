/-
The reference's check of a location: handed on to an upstream.
-/
import Derived.Test.YtmnohicojefhfaaGreatDoorRe4
set_option maxRecDepth 100000
set_option maxHeartbeats 8000000
set_option linter.unusedVariables false
set_option linter.unusedSimpArgs false
namespace Go.Proofs.YtmnohicojefhfaaGreatDoor
open Go.RowKit
theorem rlocation_2 (y:Lo14) (hS:LoS y) (c:Cf14) (U:List (Up14 × Hd)) (UA:Option Addr) (uc:Nat) (SA:Option Addr) (sc:Nat) (w:World) (hk:y.kind=2) (hU:U.map (·.1)=c.ups) (hul:c.ups.length ≤ 1099511627776) (hrd:Rd w UA (U.flatMap upV)) :
  Calls Tryz.prog 112 #[cfV c UA uc SA sc,.agg (LoV y)] w (Gives (.bool (locC c.ups y)) w):=by
 have HRD:=Lib.hid (fun w' (hx:Ext w w')=>hrd.ext hx)
 have hUl:U.length=c.ups.length:=by rw [← hU,List.length_map]
 have HANY:Hid ((c.ups.any fun u=>decide (u.name=y.up))=(U.any fun x=>decide (x.1.name=y.up))):=Lib.hid (by rw [← hU,List.any_map]; rfl)
 clear hrd hU
 have CP:=Lib.hid (fun w=>rpath_c y.pre hS.pre w)
 obtain ⟨L,hL⟩:∃ b,b=locC c.ups y:=⟨_,rfl⟩
 rw [← hL]
 obtain ⟨a1,ha1⟩:∃ b,b=pathC y.pre:=⟨_,rfl⟩
 have HA:Hid (loc0 y=(a1 && inB y.rate 0 1000000 && inB y.burst 0 1000000 && (decide (0 < y.rate) || decide (y.burst=0)))):=Lib.hid (by rw [ha1]; rfl)
 have HLF:Hid (loc0 y=false → L=false):=Lib.hid (fun h=>by rw [hL]; unfold locC; simp [h])
 rw [← ha1] at CP
 obtain ⟨sp,hsp⟩:∃ s,s=str y.pre:=⟨_,rfl⟩
 obtain ⟨sr,hsr⟩:∃ s,s=str y.root:=⟨_,rfl⟩
 obtain ⟨si,hsi⟩:∃ s,s=str y.index:=⟨_,rfl⟩
 obtain ⟨su,hsu⟩:∃ s,s=str y.up:=⟨_,rfl⟩
 obtain ⟨sg,hsg⟩:∃ s,s=str y.goal:=⟨_,rfl⟩
 have HSP:=Lib.hid hsp
 have HSR:=Lib.hid hsr
 have HSI:=Lib.hid hsi
 have HSU:=Lib.hid hsu
 have HSG:=Lib.hid hsg
 rw [← hsp] at CP
 unfold cfV LoV
 rw [← hsp,← hsr,← hsi,← hsu,← hsg,hk]
 have HL:=Lib.hid hL
 have HK:=Lib.hid hk
 clear hsp hsr hsi hsu hsg ha1 hL hk
 obtain ⟨g,hg⟩:∃ g,g=w.heap.size:=⟨_,rfl⟩
 obtain ⟨W0,hW0⟩:∃ W,W=(w.alloc (.cells #[.int .i64 c.keep,.int .i64 c.body,.int .i64 c.store,.int .i64 c.conns,.slice UA c.ups.length uc,.slice SA c.srvs.length sc] 32)).alloc (.cells #[.string sp,.int .i64 2,.string sr,.string si,.int .i64 y.gzip,.int .i64 y.expires,.string su,.bool y.cache,.int .i64 y.rate,.int .i64 y.burst,.int .i64 y.status,.string sg] 90):=⟨_,rfl⟩
 have hx0:Ext w W0:=by rw [hW0]; exact ((Ext.rfl' w).al _).al _
 have hcl:Hid (∀ wx,Ext W0 wx → (∀ j u,(#[.int .i64 c.keep,.int .i64 c.body,.int .i64 c.store,.int .i64 c.conns,.slice UA c.ups.length uc,.slice SA c.srvs.length sc]:Array Value)[j]?=some u → wx.cell? ⟨g,j,none⟩=some u)∧(∀ j u,(#[.string sp,.int .i64 2,.string sr,.string si,.int .i64 y.gzip,.int .i64 y.expires,.string su,.bool y.cache,.int .i64 y.rate,.int .i64 y.burst,.int .i64 y.status,.string sg]:Array Value)[j]?=some u → wx.cell? ⟨g + 1,j,none⟩=some u)):=Lib.hid (fun wx hx=>by
  have hz:(w.alloc (.cells #[.int .i64 c.keep,.int .i64 c.body,.int .i64 c.store,.int .i64 c.conns,.slice UA c.ups.length uc,.slice SA c.srvs.length sc] 32)).heap.size=g + 1:=by rw [hg]; simp
  have ha:Ext (w.alloc (.cells #[.int .i64 c.keep,.int .i64 c.body,.int .i64 c.store,.int .i64 c.conns,.slice UA c.ups.length uc,.slice SA c.srvs.length sc] 32)) wx:=Ext.tr (by rw [hW0]; exact (Ext.rfl' _).al _) hx
  refine ⟨fun j u h=>by rw [hg]; exact ha.new j u h,fun j u h=>?_⟩
  rw [← hz]
  rw [hW0] at hx
  exact hx.new j u h)
 have hgl:g + 1 < W0.heap.size:=by rw [hW0,hg]; simp
 have z0:=(hcl.out W0 (Ext.rfl' _)).2 0 _ rfl
 have z8:=(hcl.out W0 (Ext.rfl' _)).2 8 _ rfl
 have z9:=(hcl.out W0 (Ext.rfl' _)).2 9 _ rfl
 go_enter Tryz.func112,Tryz.ntmps112
 go_upto_region 1 with (fail)
 rw [← hW0,← hg]
 clear hW0 hg
 obtain ⟨b0,hb0⟩:∃ b,b=loc0 y:=⟨_,rfl⟩
 rw [← hb0] at HA HLF
 have HB0:=Lib.hid hb0
 clear hb0
 go_cut [33] (fun v33 wx=>v33=.bool (!b0)∧Ext W0 wx)
 case first=>as_aux_lemma =>
  have C1:=Lib.hid (rinB_c y.rate 0 1000000)
  have C2:=Lib.hid (rinB_c y.burst 0 1000000)
  have HI:Hid (inB y.rate 0 1000000=true → 0 ≤ y.rate):=Lib.hid (fun h=>(inB_R h).1)
  generalize inB y.rate 0 1000000=i1 at *
  generalize inB y.burst 0 1000000=i2 at *
  by_cases hr:y.rate=0
  ·have d1:(y.rate == 0)=true:=beq_iff_eq.2 hr
   by_cases hb:y.burst=0
   ·have d2:(y.burst == 0)=true:=beq_iff_eq.2 hb
    have HBQ:Hid (b0=(a1 && i1 && i2)):=Lib.hid (by rw [HA.out]; simp [hb])
    have HBH:=Lib.hid hb
    clear hr hb
    go_wp2_with (first
     | (go_at_call 140; refine (CP.out _).mono ?_; rintro e' w1 ⟨rfl,hx1⟩; have q8:=(hcl.out _ hx1).2 8 _ rfl; have q9:=(hcl.out _ hx1).2 9 _ rfl; cases a1)
     | (go_at_call 66; refine (C1.out _).mono ?_; rintro e' w2 ⟨rfl,rfl⟩; clear C1)
     | (go_at_call 66; refine (C2.out _).mono ?_; rintro e' w2 ⟨rfl,rfl⟩))
    all_goals
     go_meet
     exact ⟨by rw [HBQ.out]; simp [*,HBH.out],by first | assumption | exact Ext.rfl' _⟩
   ·have d2:(y.burst == 0)=false:=beq_eq_false_iff_ne.2 hb
    have HBQ:Hid (b0=false):=Lib.hid (by rw [HA.out]; simp [hb,hr])
    have HBH:=Lib.hid hb
    clear hr hb
    go_wp2_with (first
     | (go_at_call 140; refine (CP.out _).mono ?_; rintro e' w1 ⟨rfl,hx1⟩; have q8:=(hcl.out _ hx1).2 8 _ rfl; have q9:=(hcl.out _ hx1).2 9 _ rfl; cases a1)
     | (go_at_call 66; refine (C1.out _).mono ?_; rintro e' w2 ⟨rfl,rfl⟩; clear C1)
     | (go_at_call 66; refine (C2.out _).mono ?_; rintro e' w2 ⟨rfl,rfl⟩))
    all_goals
     go_meet
     exact ⟨by rw [HBQ.out]; simp [*,HBH.out],by first | assumption | exact Ext.rfl' _⟩
  ·have d1:(y.rate == 0)=false:=beq_eq_false_iff_ne.2 hr
   have HBQ:Hid (b0=(a1 && i1 && i2)):=Lib.hid (by
    rw [HA.out]
    cases i1
    ·simp
    ·have h1:=HI.out rfl
     rw [decide_eq_true (show 0 < y.rate by omega)]; simp)
   have HBH:=Lib.hid hr
   clear hr
   go_wp2_with (first
    | (go_at_call 140; refine (CP.out _).mono ?_; rintro e' w1 ⟨rfl,hx1⟩; have q8:=(hcl.out _ hx1).2 8 _ rfl; have q9:=(hcl.out _ hx1).2 9 _ rfl; cases a1)
    | (go_at_call 66; refine (C1.out _).mono ?_; rintro e' w2 ⟨rfl,rfl⟩; clear C1)
    | (go_at_call 66; refine (C2.out _).mono ?_; rintro e' w2 ⟨rfl,rfl⟩))
   all_goals
    go_meet
    exact ⟨by rw [HBQ.out]; simp [*,HBH.out],by first | assumption | exact Ext.rfl' _⟩
 case rest =>
  obtain ⟨rfl,hx1⟩:=hcut
  obtain ⟨W1,rfl⟩:∃ W,W=wc:=⟨_,rfl⟩
  cases b0 with
  | false =>
   have HF:=Lib.hid (HLF.out rfl)
   go_wp2
   go_ret
   exact ⟨ret_bool (by rw [HF.out]),hx0.tr hx1⟩
  | true =>
  have e1:=(hcl.out _ hx1).2
  have c0:=e1 0 _ rfl
  have c1:=e1 1 _ rfl
  have c8:=e1 8 _ rfl
  have c9:=e1 9 _ rfl
  go_upto_region 4 with (fail)
  obtain ⟨W2,hW2⟩:∃ W,W=W1.alloc (.cells #[.string sp,.int .i64 2,.string ⟨#[]⟩,.string ⟨#[]⟩,.int .i64 0,.int .i64 0,.string ⟨#[]⟩,.bool false,.int .i64 y.rate,.int .i64 y.burst,.int .i64 0,.string ⟨#[]⟩] 90):=⟨_,rfl⟩
  have hx2:Ext W1 W2:=by rw [hW2]; exact (Ext.rfl' W1).al _
  have hr2:W2.heap[W1.heap.size]?=some (.cells #[.string sp,.int .i64 2,.string ⟨#[]⟩,.string ⟨#[]⟩,.int .i64 0,.int .i64 0,.string ⟨#[]⟩,.bool false,.int .i64 y.rate,.int .i64 y.burst,.int .i64 0,.string ⟨#[]⟩] 90 (0,0)):=by rw [hW2]; exact heap_alloc_new W1 _
  have hRg:W0.heap.size ≤ W1.heap.size:=hx1.size
  obtain ⟨R,hR⟩:∃ R,R=W1.heap.size:=⟨_,rfl⟩
  rw [← hW2,← hR]
  rw [← hR] at hr2 hRg
  clear hW2 hR c0 c1 c8 c9 e1
  have hxW:=hx1.tr hx2
  have hrl:=row_lt hr2
  have hgR:g + 1 ≠ R:=by omega
  have hgR0:g ≠ R:=by omega
  have e1:=(hcl.out _ hxW).2
  have c1:=e1 1 _ rfl
  have HLV:Hid (L=((U.any fun x=>decide (x.1.name=y.up)) && inB y.gzip 0 9 && decide (y=ownLo y))):=Lib.hid (by
   rw [HL.out]
   unfold locC
   rw [if_neg (by rw [HK.out]; decide),if_pos HK.out,← HB0.out,own_rest]
   unfold loc2
   rw [HANY.out]
   simp)
  have HOWN:Hid (ownLo y=⟨y.pre,2,[],[],y.gzip,0,y.up,y.cache,y.rate,y.burst,0,[]⟩):=Lib.hid (by
   unfold ownLo
   rw [if_neg (by rw [HK.out]; decide),if_pos HK.out]; rfl)
  have e6:=e1 6 _ rfl
  have e7:=e1 7 _ rfl
  have e4:=e1 4 _ rfl
  have r6:=row_facts hr2 6 _ rfl
  have r7:=row_facts hr2 7 _ rfl
  have r4:=row_facts hr2 4 _ rfl
  have HR2:=Lib.hid hr2
  clear e1 hr2
  go_upto_region 17 with (fail)
  obtain ⟨W3,hW3⟩:∃ W,W=((W2.setCell ⟨R,6,none⟩ (.string su)).setCell ⟨R,7,none⟩ (.bool y.cache)).setCell ⟨R,4,none⟩ (.int .i64 y.gzip):=⟨_,rfl⟩
  have hx3:Ext W0 W3:=by rw [hW3]; exact ((hxW.st hRg _).st hRg _).st hRg _
  have hr3:=row_set (row_set (row_set HR2.out 6 (.string su)) 7 (.bool y.cache)) 4 (.int .i64 y.gzip)
  rw [← hW3] at hr3 ⊢
  have HR3:=Lib.hid hr3
  have hR3l:=row_lt hr3
  clear hW3 HR2 r4 r6 r7 e4 e6 e7 c1 hr3 hx1 hx2 hxW
  go_wp2
  go_loopw [6,7] (fun v6 v7 wr=>∃ (i:Nat) (b:Bool),v6=.bool b∧v7=.int .i64 (i:Int)∧i ≤ U.length∧Hid (b=(U.take i).any fun x=>decide (x.1.name=y.up))∧Ext W3 wr) (fun _ v7 _=>U.length - (intOf v7).toNat)
  case atStart=>exact ⟨0,false,rfl,rfl,Nat.zero_le _,Lib.hid rfl,Ext.rfl' _⟩
  case round =>
   obtain ⟨i,b,rfl,rfl,hi,HB,hxr⟩:=hrel
   have hx0r:=hx3.tr hxr
   have q4:=(hcl.out _ hx0r).1 4 _ rfl
   rw [← hUl] at q4
   by_cases hlt:i < U.length
   ·obtain ⟨bp,gp,hB,_,hc⟩:=(HRD.out _ (hx0.tr hx0r)).row (sz:=4) (fun _=>rfl) (by omega) hlt
    have i0:(0:Int) ≤ (i:Int):=by omega
    have i1:(i:Int) < (U.length:Int):=by omega
    have hkk:IntKind.i64.wrap ((i:Int) + 1)=((i + 1:Nat):Int):=by rw [IntKind.wrap_i64]; omega
    have m0:wr.cell? ⟨bp,gp + i * 4,none⟩=some (.string (str U[i].1.name)):=hc 0 _ rfl
    have m6:=(hcl.out _ hx0r).2 6 _ rfl
    have HBS:Hid (((U.take (i + 1)).any fun x=>decide (x.1.name=y.up))=(b || decide (U[i].1.name=y.up))):=Lib.hid (by
     rw [List.take_succ_eq_append_getElem hlt,List.any_append,← HB.out]; simp)
    rw [hB] at q4
    obtain ⟨t,ht⟩:∃ t,t=str U[i].1.name:=⟨_,rfl⟩
    obtain ⟨n,hn⟩:∃ n,n=U[i].1.name:=⟨_,rfl⟩
    rw [← ht] at m0
    rw [← hn] at ht HBS
    clear hc hn
    have hks:Hid (∀ w',Ext wr w' → w'.cell? ⟨g,4,none⟩=some (.slice (some ⟨bp,gp,none⟩) U.length uc)∧w'.cell? ⟨bp,gp + i * 4,none⟩=some (.string t)∧w'.cell? ⟨g + 1,6,none⟩=some (.string su)):=Lib.hid (fun w' e=>⟨(e.cell (lt_of_cell q4)).trans q4,(e.cell (lt_of_cell m0)).trans m0,(e.cell (lt_of_cell m6)).trans m6⟩)
    go_upto_region 21 with (fail)
    cases b with
    | true =>
     have HBT:Hid (true=(U.take (i + 1)).any fun x=>decide (x.1.name=y.up)):=Lib.hid (by rw [HBS.out]; rfl)
     clear ht
     go_quiet (fail)
     go_wp2
     go_roundw
     case rel=>exact ⟨i + 1,true,rfl,by simp,by omega,HBT,hxr.tr (by (repeat first | exact Ex0 | assumption | refine Ex1 ?_ | refine Ex2 ?_ | refine Ex3 ?_ | refine Ex4 ?_ | refine Ex5 ?_))⟩
     case measure=>simp [intOf]; omega
    | false =>
    by_cases he:n=y.up
    ·obtain rfl:t=su:=by rw [ht,HSU.out,he]
     have HBT:Hid (true=(U.take (i + 1)).any fun x=>decide (x.1.name=y.up)):=Lib.hid (by rw [HBS.out,decide_eq_true he]; rfl)
     clear ht he
     go_region_held3 (fun w'=>w'.cell? ⟨g,4,none⟩=some (.slice (some ⟨bp,gp,none⟩) U.length uc)∧w'.cell? ⟨bp,gp + i * 4,none⟩=some (.string t)∧w'.cell? ⟨g + 1,6,none⟩=some (.string t)) (exact hks.out _ (by (repeat first | exact Ex0 | assumption | refine Ex1 ?_ | refine Ex2 ?_ | refine Ex3 ?_ | refine Ex4 ?_ | refine Ex5 ?_))) (fail)
     go_wp2
     go_roundw
     case rel=>exact ⟨i + 1,true,rfl,by simp,by omega,HBT,hxr.tr (by (repeat first | exact Ex0 | assumption | refine Ex1 ?_ | refine Ex2 ?_ | refine Ex3 ?_ | refine Ex4 ?_ | refine Ex5 ?_))⟩
     case measure=>simp [intOf]; omega
    ·have g1:¬ t.toList=su.toList:=by rw [ht,HSU.out,str_tl,str_tl]; exact he
     have g2:(t.toList == su.toList)=false:=beq_eq_false_iff_ne.2 g1
     have HBT:Hid (false=(U.take (i + 1)).any fun x=>decide (x.1.name=y.up)):=Lib.hid (by rw [HBS.out,decide_eq_false he]; rfl)
     clear ht he
     go_region_held3 (fun w'=>w'.cell? ⟨g,4,none⟩=some (.slice (some ⟨bp,gp,none⟩) U.length uc)∧w'.cell? ⟨bp,gp + i * 4,none⟩=some (.string t)∧w'.cell? ⟨g + 1,6,none⟩=some (.string su)) (exact hks.out _ (by (repeat first | exact Ex0 | assumption | refine Ex1 ?_ | refine Ex2 ?_ | refine Ex3 ?_ | refine Ex4 ?_ | refine Ex5 ?_))) (fail)
     go_wp2
     go_roundw
     case rel=>exact ⟨i + 1,false,rfl,by simp,by omega,HBT,hxr.tr (by (repeat first | exact Ex0 | assumption | refine Ex1 ?_ | refine Ex2 ?_ | refine Ex3 ?_ | refine Ex4 ?_ | refine Ex5 ?_))⟩
     case measure=>simp [intOf]; omega
   ·have i1:¬ (i:Int) < (U.length:Int):=by omega
    have htk:U.take i=U:=List.take_of_length_le (by omega)
    rw [htk] at HB
    have HLV:Hid (L=(b && inB y.gzip 0 9 && decide (y=ownLo y))):=Lib.hid (by rw [HLV.out,← HB.out])
    clear HB htk
    go_upto_region 22 with (fail)
    clear q4 i1
    have e4:=(hcl.out _ hx0r).2 4 _ rfl
    cases b with
    | false =>
     go_wp2_with (go_at_call 66; refine (rinB_c _ _ _ _).mono ?_; rintro e' w2 ⟨rfl,rfl⟩)
     go_ret
     exact ⟨ret_bool (by rw [HLV.out]; rfl),hx0.tr hx0r⟩
    | true =>
    cases h5:inB y.gzip 0 9 with
    | false =>
     go_wp2_with (go_at_call 66; refine (rinB_c _ _ _ _).mono ?_; rintro e' w2 ⟨rfl,rfl⟩)
     go_ret
     exact ⟨ret_bool (by rw [HLV.out,h5]; rfl),hx0.tr hx0r⟩
    | true =>
    have HLV:Hid (L=decide (y=ownLo y)):=Lib.hid (by rw [HLV.out,h5]; rfl)
    go_upto_region 29 with (go_at_call 66; refine (rinB_c _ _ _ _).mono ?_; rintro e' w2 ⟨rfl,rfl⟩)
    clear h5
    obtain ⟨W9,hW9⟩:∃ x,x=w2:=⟨_,rfl⟩
    rw [← hW9] at hxr hx0r e4 ⊢
    clear hW9 e4
    have h1:=(hcl.out _ hx0r).2
    have l0:=h1 0 _ rfl
    have l1:=h1 1 _ rfl
    have l2:=h1 2 _ rfl
    have l3:=h1 3 _ rfl
    have l4:=h1 4 _ rfl
    have l5:=h1 5 _ rfl
    have l6:=h1 6 _ rfl
    have l7:=h1 7 _ rfl
    have l8:=h1 8 _ rfl
    have l9:=h1 9 _ rfl
    have la:=h1 10 _ rfl
    have lb:=h1 11 _ rfl
    clear h1
    have hr9:=(hxr.block R hR3l).trans HR3.out
    have f0:=(row_facts hr9 0 _ rfl).1
    have f1:=(row_facts hr9 1 _ rfl).1
    have f2:=(row_facts hr9 2 _ rfl).1
    have f3:=(row_facts hr9 3 _ rfl).1
    have f4:=(row_facts hr9 4 _ rfl).1
    have f5:=(row_facts hr9 5 _ rfl).1
    have f6:=(row_facts hr9 6 _ rfl).1
    have f7:=(row_facts hr9 7 _ rfl).1
    have f8:=(row_facts hr9 8 _ rfl).1
    have f9:=(row_facts hr9 9 _ rfl).1
    have fa:=(row_facts hr9 10 _ rfl).1
    have fb:=(row_facts hr9 11 _ rfl).1
    clear hr9
    have HEQ:∀ w',(binOp .eql 90 (.agg #[.string sp,.int .i64 2,.string sr,.string si,.int .i64 y.gzip,.int .i64 y.expires,.string su,.bool y.cache,.int .i64 y.rate,.int .i64 y.burst,.int .i64 y.status,.string sg]) (.agg #[.string sp,.int .i64 2,.string ⟨#[]⟩,.string ⟨#[]⟩,.int .i64 y.gzip,.int .i64 0,.string su,.bool y.cache,.int .i64 y.rate,.int .i64 y.burst,.int .i64 0,.string ⟨#[]⟩])).run Tryz.prog w'=.ok (.bool L) w':=fun w'=>by
     have h:=eq_locR y (ownLo y) w'
     rw [HLV.out]
     rw [HOWN.out] at h ⊢
     unfold LoV at h
     dsimp only at h
     rw [← HSP.out,← HSR.out,← HSI.out,← HSU.out,← HSG.out,HK.out] at h
     exact h
    go_wp2
    go_ret
    exact ⟨rfl,hx0.tr hx0r⟩
end Go.Proofs.YtmnohicojefhfaaGreatDoor
