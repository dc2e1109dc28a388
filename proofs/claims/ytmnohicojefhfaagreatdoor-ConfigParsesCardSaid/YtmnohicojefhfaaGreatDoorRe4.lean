/-
The reference's check of a location.
-/
import Derived.Test.YtmnohicojefhfaaGreatDoorREa
import Derived.Test.YtmnohicojefhfaaGreatDoorCh7
import Derived.Test.YtmnohicojefhfaaGreatDoorCIa
set_option maxRecDepth 100000
set_option maxHeartbeats 8000000
set_option linter.unusedVariables false
set_option linter.unusedSimpArgs false
namespace Go.Proofs.YtmnohicojefhfaaGreatDoor
open Go.RowKit
theorem eq_locR (a b:Lo14) (w:World):(binOp .eql 90 (.agg (LoV a)) (.agg (LoV b))).run Tryz.prog w=.ok (.bool (decide (a=b))) w:=by
 obtain ⟨a0,a1,a2,a3,a4,a5,a6,a7,a8,a9,aa,ab⟩:=a
 obtain ⟨b0,b1,b2,b3,b4,b5,b6,b7,b8,b9,ba,bb⟩:=b
 have e:∀ (c:Prop) [Decidable c] (d:Prop) [Decidable d],(if c then (.ok (.bool (decide d)) w:Result Value) else .ok (.bool false) w)=.ok (.bool (decide (c∧d))) w:=fun c _ d _=>by by_cases h:c <;> simp [h]
 have e0:∀ (c:Prop) [Decidable c],(if c then (.ok (.bool true) w:Result Value) else .ok (.bool false) w)=.ok (.bool (decide c)) w:=fun c _=>by by_cases h:c <;> simp [h]
 simp [go_sem,LoV]
 simp only [e0,e,Lo14.mk.injEq]
 simp only [Bool.decide_and]
def ownLo (y:Lo14):Lo14 :=
 if y.kind=1 then { lo0 with pre:=y.pre,kind:=1,rate:=y.rate,burst:=y.burst,root:=y.root,index:=y.index,gzip:=y.gzip,expires:=y.expires }
 else if y.kind=2 then { lo0 with pre:=y.pre,kind:=2,rate:=y.rate,burst:=y.burst,up:=y.up,cache:=y.cache,gzip:=y.gzip }
 else { lo0 with pre:=y.pre,kind:=y.kind,rate:=y.rate,burst:=y.burst,status:=y.status,goal:=y.goal }
theorem own_rest (y:Lo14):decide (restC y=lo0)=decide (y=ownLo y):=by
 apply decide_eq_decide.2
 obtain ⟨y0,y1,y2,y3,y4,y5,y6,y7,y8,y9,ya,yb⟩:=y
 unfold restC ownLo lo0
 by_cases h1:y1=1
 ·subst h1; simp
 ·by_cases h2:y1=2
  ·subst h2; simp
  ·simp [h1,h2]
theorem inB_R {n a b:Int} (h:inB n a b=true):a ≤ n∧n ≤ b:=by
 unfold inB at h
 simpa using h
theorem rlocation_0 (y:Lo14) (hS:LoS y) (c:Cf14) (UA:Option Addr) (uc:Nat) (SA:Option Addr) (sc:Nat) (w:World) (k:Int) (hk:y.kind=k) (h1:k ≠ 1) (h2:k ≠ 2) (h3:k ≠ 3) :
  Calls Tryz.prog 112 #[cfV c UA uc SA sc,.agg (LoV y)] w (Gives (.bool (locC c.ups y)) w):=by
 have CP:=Lib.hid (fun w=>rpath_c y.pre hS.pre w)
 obtain ⟨L,hL⟩:∃ b,b=locC c.ups y:=⟨_,rfl⟩
 rw [← hL]
 obtain ⟨a1,ha1⟩:∃ b,b=pathC y.pre:=⟨_,rfl⟩
 have HA:Hid (loc0 y=(a1 && inB y.rate 0 1000000 && inB y.burst 0 1000000 && (decide (0 < y.rate) || decide (y.burst=0)))):=Lib.hid (by rw [ha1]; rfl)
 have HLF:Hid (loc0 y=false → L=false):=Lib.hid (fun h=>by rw [hL]; unfold locC; simp [h])
 rw [← ha1] at CP
 obtain ⟨sp,hsp⟩:∃ s,s=str y.pre:=⟨_,rfl⟩
 obtain ⟨sr,hsr⟩:∃ s,s=str y.root:=⟨_,rfl⟩
 obtain ⟨si,hsi⟩:∃ s,s=str y.index:=⟨_,rfl⟩
 obtain ⟨su,hsu⟩:∃ s,s=str y.up:=⟨_,rfl⟩
 obtain ⟨sg,hsg⟩:∃ s,s=str y.goal:=⟨_,rfl⟩
 have HSP:=Lib.hid hsp
 have HSR:=Lib.hid hsr
 have HSI:=Lib.hid hsi
 have HSU:=Lib.hid hsu
 have HSG:=Lib.hid hsg
 rw [← hsp] at CP
 unfold cfV LoV
 rw [← hsp,← hsr,← hsi,← hsu,← hsg,hk]
 have HL:=Lib.hid hL
 have HK:=Lib.hid hk
 clear hsp hsr hsi hsu hsg ha1 hL hk
 obtain ⟨g,hg⟩:∃ g,g=w.heap.size:=⟨_,rfl⟩
 obtain ⟨W0,hW0⟩:∃ W,W=(w.alloc (.cells #[.int .i64 c.keep,.int .i64 c.body,.int .i64 c.store,.int .i64 c.conns,.slice UA c.ups.length uc,.slice SA c.srvs.length sc] 32)).alloc (.cells #[.string sp,.int .i64 k,.string sr,.string si,.int .i64 y.gzip,.int .i64 y.expires,.string su,.bool y.cache,.int .i64 y.rate,.int .i64 y.burst,.int .i64 y.status,.string sg] 90):=⟨_,rfl⟩
 have hx0:Ext w W0:=by rw [hW0]; exact ((Ext.rfl' w).al _).al _
 have hcl:Hid (∀ wx,Ext W0 wx → (∀ j u,(#[.int .i64 c.keep,.int .i64 c.body,.int .i64 c.store,.int .i64 c.conns,.slice UA c.ups.length uc,.slice SA c.srvs.length sc]:Array Value)[j]?=some u → wx.cell? ⟨g,j,none⟩=some u)∧(∀ j u,(#[.string sp,.int .i64 k,.string sr,.string si,.int .i64 y.gzip,.int .i64 y.expires,.string su,.bool y.cache,.int .i64 y.rate,.int .i64 y.burst,.int .i64 y.status,.string sg]:Array Value)[j]?=some u → wx.cell? ⟨g + 1,j,none⟩=some u)):=Lib.hid (fun wx hx=>by
  have hz:(w.alloc (.cells #[.int .i64 c.keep,.int .i64 c.body,.int .i64 c.store,.int .i64 c.conns,.slice UA c.ups.length uc,.slice SA c.srvs.length sc] 32)).heap.size=g + 1:=by rw [hg]; simp
  have ha:Ext (w.alloc (.cells #[.int .i64 c.keep,.int .i64 c.body,.int .i64 c.store,.int .i64 c.conns,.slice UA c.ups.length uc,.slice SA c.srvs.length sc] 32)) wx:=Ext.tr (by rw [hW0]; exact (Ext.rfl' _).al _) hx
  refine ⟨fun j u h=>by rw [hg]; exact ha.new j u h,fun j u h=>?_⟩
  rw [← hz]
  rw [hW0] at hx
  exact hx.new j u h)
 have hgl:g + 1 < W0.heap.size:=by rw [hW0,hg]; simp
 have z0:=(hcl.out W0 (Ext.rfl' _)).2 0 _ rfl
 have z8:=(hcl.out W0 (Ext.rfl' _)).2 8 _ rfl
 have z9:=(hcl.out W0 (Ext.rfl' _)).2 9 _ rfl
 go_enter Tryz.func112,Tryz.ntmps112
 go_upto_region 1 with (fail)
 rw [← hW0,← hg]
 clear hW0 hg
 obtain ⟨b0,hb0⟩:∃ b,b=loc0 y:=⟨_,rfl⟩
 rw [← hb0] at HA HLF
 have HB0:=Lib.hid hb0
 clear hb0
 go_cut [33] (fun v33 wx=>v33=.bool (!b0)∧Ext W0 wx)
 case first=>as_aux_lemma =>
  have C1:=Lib.hid (rinB_c y.rate 0 1000000)
  have C2:=Lib.hid (rinB_c y.burst 0 1000000)
  have HI:Hid (inB y.rate 0 1000000=true → 0 ≤ y.rate):=Lib.hid (fun h=>(inB_R h).1)
  generalize inB y.rate 0 1000000=i1 at *
  generalize inB y.burst 0 1000000=i2 at *
  by_cases hr:y.rate=0
  ·have d1:(y.rate == 0)=true:=beq_iff_eq.2 hr
   by_cases hb:y.burst=0
   ·have d2:(y.burst == 0)=true:=beq_iff_eq.2 hb
    have HBQ:Hid (b0=(a1 && i1 && i2)):=Lib.hid (by rw [HA.out]; simp [hb])
    have HBH:=Lib.hid hb
    clear hr hb
    go_wp2_with (first
     | (go_at_call 140; refine (CP.out _).mono ?_; rintro e' w1 ⟨rfl,hx1⟩; have q8:=(hcl.out _ hx1).2 8 _ rfl; have q9:=(hcl.out _ hx1).2 9 _ rfl; cases a1)
     | (go_at_call 66; refine (C1.out _).mono ?_; rintro e' w2 ⟨rfl,rfl⟩; clear C1)
     | (go_at_call 66; refine (C2.out _).mono ?_; rintro e' w2 ⟨rfl,rfl⟩))
    all_goals
     go_meet
     exact ⟨by rw [HBQ.out]; simp [*,HBH.out],by first | assumption | exact Ext.rfl' _⟩
   ·have d2:(y.burst == 0)=false:=beq_eq_false_iff_ne.2 hb
    have HBQ:Hid (b0=false):=Lib.hid (by rw [HA.out]; simp [hb,hr])
    have HBH:=Lib.hid hb
    clear hr hb
    go_wp2_with (first
     | (go_at_call 140; refine (CP.out _).mono ?_; rintro e' w1 ⟨rfl,hx1⟩; have q8:=(hcl.out _ hx1).2 8 _ rfl; have q9:=(hcl.out _ hx1).2 9 _ rfl; cases a1)
     | (go_at_call 66; refine (C1.out _).mono ?_; rintro e' w2 ⟨rfl,rfl⟩; clear C1)
     | (go_at_call 66; refine (C2.out _).mono ?_; rintro e' w2 ⟨rfl,rfl⟩))
    all_goals
     go_meet
     exact ⟨by rw [HBQ.out]; simp [*,HBH.out],by first | assumption | exact Ext.rfl' _⟩
  ·have d1:(y.rate == 0)=false:=beq_eq_false_iff_ne.2 hr
   have HBQ:Hid (b0=(a1 && i1 && i2)):=Lib.hid (by
    rw [HA.out]
    cases i1
    ·simp
    ·have h1:=HI.out rfl
     rw [decide_eq_true (show 0 < y.rate by omega)]; simp)
   have HBH:=Lib.hid hr
   clear hr
   go_wp2_with (first
    | (go_at_call 140; refine (CP.out _).mono ?_; rintro e' w1 ⟨rfl,hx1⟩; have q8:=(hcl.out _ hx1).2 8 _ rfl; have q9:=(hcl.out _ hx1).2 9 _ rfl; cases a1)
    | (go_at_call 66; refine (C1.out _).mono ?_; rintro e' w2 ⟨rfl,rfl⟩; clear C1)
    | (go_at_call 66; refine (C2.out _).mono ?_; rintro e' w2 ⟨rfl,rfl⟩))
   all_goals
    go_meet
    exact ⟨by rw [HBQ.out]; simp [*,HBH.out],by first | assumption | exact Ext.rfl' _⟩
 case rest =>
  obtain ⟨rfl,hx1⟩:=hcut
  obtain ⟨W1,rfl⟩:∃ W,W=wc:=⟨_,rfl⟩
  cases b0 with
  | false =>
   have HF:=Lib.hid (HLF.out rfl)
   go_wp2
   go_ret
   exact ⟨ret_bool (by rw [HF.out]),hx0.tr hx1⟩
  | true =>
  have e1:=(hcl.out _ hx1).2
  have c0:=e1 0 _ rfl
  have c1:=e1 1 _ rfl
  have c8:=e1 8 _ rfl
  have c9:=e1 9 _ rfl
  go_upto_region 4 with (fail)
  obtain ⟨W2,hW2⟩:∃ W,W=W1.alloc (.cells #[.string sp,.int .i64 k,.string ⟨#[]⟩,.string ⟨#[]⟩,.int .i64 0,.int .i64 0,.string ⟨#[]⟩,.bool false,.int .i64 y.rate,.int .i64 y.burst,.int .i64 0,.string ⟨#[]⟩] 90):=⟨_,rfl⟩
  have hx2:Ext W1 W2:=by rw [hW2]; exact (Ext.rfl' W1).al _
  have hr2:W2.heap[W1.heap.size]?=some (.cells #[.string sp,.int .i64 k,.string ⟨#[]⟩,.string ⟨#[]⟩,.int .i64 0,.int .i64 0,.string ⟨#[]⟩,.bool false,.int .i64 y.rate,.int .i64 y.burst,.int .i64 0,.string ⟨#[]⟩] 90 (0,0)):=by rw [hW2]; exact heap_alloc_new W1 _
  have hRg:W0.heap.size ≤ W1.heap.size:=hx1.size
  obtain ⟨R,hR⟩:∃ R,R=W1.heap.size:=⟨_,rfl⟩
  rw [← hW2,← hR]
  rw [← hR] at hr2 hRg
  clear hW2 hR c0 c1 c8 c9 e1
  have hxW:=hx1.tr hx2
  have hrl:=row_lt hr2
  have hgR:g + 1 ≠ R:=by omega
  have hgR0:g ≠ R:=by omega
  have e1:=(hcl.out _ hxW).2
  have c1:=e1 1 _ rfl
  have k1:(k == 1)=false:=beq_eq_false_iff_ne.2 h1
  have k2:(k == 2)=false:=beq_eq_false_iff_ne.2 h2
  have k3:(k == 3)=false:=beq_eq_false_iff_ne.2 h3
  have HF:Hid (L=false):=Lib.hid (by rw [HL.out]; unfold locC; rw [HK.out,if_neg h1,if_neg h2,if_neg h3])
  clear h1 h2 h3
  go_wp2
  go_ret
  exact ⟨ret_bool (by rw [HF.out]),hx0.tr hxW⟩
end Go.Proofs.YtmnohicojefhfaaGreatDoor
