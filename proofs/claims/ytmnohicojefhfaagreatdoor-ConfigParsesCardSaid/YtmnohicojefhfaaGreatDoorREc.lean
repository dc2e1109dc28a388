/-
The reference's check of a server.
-/
import Derived.Test.YtmnohicojefhfaaGreatDoorRe4d
import Derived.Test.YtmnohicojefhfaaGreatDoorCHc
import Derived.Test.YtmnohicojefhfaaGreatDoorONa
set_option maxRecDepth 100000
set_option maxHeartbeats 8000000
set_option linter.unusedVariables false
set_option linter.unusedSimpArgs false
section
namespace Go.Proofs.YtmnohicojefhfaaGreatDoor
open Go.RowKit
theorem rserver_c (s:Sr14) (hS:SrS s) (NA LA:Option Addr) (nc lc:Nat) (c:Cf14) (U:List (Up14 × Hd)) (UA:Option Addr) (uc:Nat) (SA:Option Addr) (sc:Nat) (w:World) (hU:U.map (·.1)=c.ups) (hul:c.ups.length ≤ 1099511627776) (hrd:Rd w UA (U.flatMap upV))
  (hN:Rd w NA (strC s.names)) (hL:Rd w LA (s.locs.flatMap loV)) :
  Calls Tryz.prog 68 #[cfV c UA uc SA sc,.agg #[.slice NA s.names.length nc,.bool s.dflt,.slice LA s.locs.length lc]] w (Gives (.bool (srC c.ups s)) w):=by
 have CH:=Lib.hid (fun n (h:n ∈ s.names) w=>rhost_c n (hS.names n h) w)
 have CL:=Lib.hid (fun l (h:l ∈ s.locs) w' (hx:Ext w w')=>rlocation_c l (hS.locs l h) c U UA uc SA sc w' hU hul (hrd.ext hx))
 rw [strC_fm] at hN
 have HN:=Lib.hid (fun w' (hx:Ext w w')=>hN.ext hx)
 have HL:=Lib.hid (fun w' (hx:Ext w w')=>hL.ext hx)
 have hnl:=hS.nl
 have hll:=hS.ll
 have HP:=Lib.hid (show srC c.ups s=(decide (s.names.length ≤ 32) && s.names.all hostC && inB s.locs.length 1 32 && s.locs.all (locC c.ups) && decide ((s.locs.map (·.pre)).Nodup)) from rfl)
 unfold cfV at CL ⊢
 clear hN hL hS hrd hU
 obtain ⟨g,hg⟩:∃ g,g=w.heap.size:=⟨_,rfl⟩
 obtain ⟨W0,hW0⟩:∃ W,W=(w.alloc (.cells #[.int .i64 c.keep,.int .i64 c.body,.int .i64 c.store,.int .i64 c.conns,.slice UA c.ups.length uc,.slice SA c.srvs.length sc] 32)).alloc (.cells #[.slice NA s.names.length nc,.bool s.dflt,.slice LA s.locs.length lc] 88):=⟨_,rfl⟩
 have hx0:Ext w W0:=by rw [hW0]; exact ((Ext.rfl' w).al _).al _
 have hcl:Hid (∀ wx,Ext W0 wx → (∀ j u,(#[.int .i64 c.keep,.int .i64 c.body,.int .i64 c.store,.int .i64 c.conns,.slice UA c.ups.length uc,.slice SA c.srvs.length sc]:Array Value)[j]?=some u → wx.cell? ⟨g,j,none⟩=some u)∧(∀ j u,(#[.slice NA s.names.length nc,.bool s.dflt,.slice LA s.locs.length lc]:Array Value)[j]?=some u → wx.cell? ⟨g + 1,j,none⟩=some u)):=Lib.hid (fun wx hx=>by
  have hz:(w.alloc (.cells #[.int .i64 c.keep,.int .i64 c.body,.int .i64 c.store,.int .i64 c.conns,.slice UA c.ups.length uc,.slice SA c.srvs.length sc] 32)).heap.size=g + 1:=by rw [hg]; simp
  have ha:Ext (w.alloc (.cells #[.int .i64 c.keep,.int .i64 c.body,.int .i64 c.store,.int .i64 c.conns,.slice UA c.ups.length uc,.slice SA c.srvs.length sc] 32)) wx:=Ext.tr (by rw [hW0]; exact (Ext.rfl' _).al _) hx
  refine ⟨fun j u h=>by rw [hg]; exact ha.new j u h,fun j u h=>?_⟩
  rw [← hz]
  rw [hW0] at hx
  exact hx.new j u h)
 have z0:=(hcl.out W0 (Ext.rfl' _)).2 0 _ rfl
 have z2:=(hcl.out W0 (Ext.rfl' _)).2 2 _ rfl
 go_enter Tryz.func68,Tryz.ntmps68
 go_upto_region 1 with (fail)
 rw [← hW0,← hg]
 clear hW0 hg
 by_cases hn:s.names.length ≤ 32
 rotate_left
 ·have n1:decide ((32:Int) < (s.names.length:Int))=true:=by rw [decide_eq_true_eq]; omega
  go_wp2_with (go_at_call 66; refine (rinB_c _ _ _ _).mono ?_; rintro e' w2 ⟨rfl,hw⟩; have hw:=hw.symm; subst hw)
  go_ret
  exact ⟨ret_bool (by rw [HP.out,decide_eq_false hn]; rfl),by (repeat first | exact Ex0 | assumption | refine Ex1 ?_ | refine Ex2 ?_ | refine Ex3 ?_ | refine Ex4 ?_ | refine Ex5 ?_)⟩
 have n1:decide ((32:Int) < (s.names.length:Int))=false:=by rw [decide_eq_false_iff_not]; omega
 cases h1:inB s.locs.length 1 32 with
 | false =>
  go_wp2_with (go_at_call 66; refine (rinB_c _ _ _ _).mono ?_; rintro e' w2 ⟨rfl,hw⟩; have hw:=hw.symm; subst hw)
  go_ret
  exact ⟨ret_bool (by rw [HP.out,h1]; simp),by (repeat first | exact Ex0 | assumption | refine Ex1 ?_ | refine Ex2 ?_ | refine Ex3 ?_ | refine Ex4 ?_ | refine Ex5 ?_)⟩
 | true =>
 have HP:Hid (srC c.ups s=(s.names.all hostC && s.locs.all (locC c.ups) && decide ((s.locs.map (·.pre)).Nodup))):=Lib.hid (by rw [HP.out,h1,decide_eq_true hn]; simp)
 go_upto_region 3 with (go_at_call 66; refine (rinB_c _ _ _ _).mono ?_; rintro e' w2 ⟨rfl,hw⟩; have hw:=hw.symm; subst hw)
 clear h1 n1 hn z0 z2
 have hxs:Ext W0 W0:=Ext.rfl' _
 go_wp2
 go_loopw [5] (fun v5 wr=>∃ i:Nat,v5=.int .i64 (i:Int)∧i ≤ s.names.length∧Hid (AllT hostC s.names i)∧Ext W0 wr) (fun v5 _=>s.names.length - (intOf v5).toNat)
 case atStart=>exact ⟨0,rfl,Nat.zero_le _,Lib.hid (show AllT hostC s.names 0 from rfl),hxs⟩
 case round =>
  clear hxs
  obtain ⟨i,rfl,hi,HA,hxr⟩:=hrel
  have q0:=(hcl.out _ hxr).2 0 _ rfl
  by_cases hlt:i < s.names.length
  ·obtain ⟨bp,gp,hB,_,hc⟩:=(HN.out _ (hx0.tr hxr)).row (sz:=1) (fun _=>rfl) (by omega) hlt
   have m0:wr.cell? ⟨bp,gp + i,none⟩=some (.string (str s.names[i])):=by have:=hc 0 _ rfl; simpa using this
   have i0:(0:Int) ≤ (i:Int):=by omega
   have i1:(i:Int) < (s.names.length:Int):=by omega
   have hkk:IntKind.i64.wrap ((i:Int) + 1)=((i + 1:Nat):Int):=by rw [IntKind.wrap_i64]; omega
   have HAS:=Lib.hid (fun h=>HA.out.succ hlt h)
   have HAN:=Lib.hid (fun h=>all_not hostC s.names i hlt h)
   have CHi:=Lib.hid (CH.out _ (List.getElem_mem hlt))
   rw [hB] at q0
   obtain ⟨b,hb⟩:∃ b,b=hostC s.names[i]:=⟨_,rfl⟩
   obtain ⟨t,ht⟩:∃ t,t=str s.names[i]:=⟨_,rfl⟩
   rw [← hb] at HAS HAN CHi
   rw [← ht] at m0 CHi
   clear hc hb ht hB
   cases b with
   | false =>
    have HF:=Lib.hid (HAN.out rfl)
    go_wp2_with (go_at_call 111; refine (CHi.out _).mono ?_; rintro e' w2 ⟨rfl,hx2⟩)
    go_ret
    exact ⟨ret_bool (by rw [HP.out,HF.out]; rfl),hx0.tr (hxr.tr hx2)⟩
   | true =>
    have HT:=Lib.hid (HAS.out rfl)
    go_wp2_with (go_at_call 111; refine (CHi.out _).mono ?_; rintro e' w2 ⟨rfl,hx2⟩)
    go_roundw
    case rel=>exact ⟨i + 1,by simp,by omega,HT,hxr.tr hx2⟩
    case measure=>simp [intOf]; omega
  ·have i1:¬ (i:Int) < (s.names.length:Int):=by omega
   have HA:=Lib.hid (HA.out.all (by omega))
   have HP:Hid (srC c.ups s=(s.locs.all (locC c.ups) && decide ((s.locs.map (·.pre)).Nodup))):=Lib.hid (by rw [HP.out,HA.out,Bool.true_and])
   clear HA CH HN hnl
   go_wp2
   clear q0 i1 hi
   go_loopw [6] (fun v6 wx=>∃ m:Nat,v6=.int .i64 (m:Int)∧m ≤ s.locs.length∧Hid (AllN (locC c.ups) (fun p:Lo14=>p.pre) s.locs m)∧Ext W0 wx) (fun v6 _=>s.locs.length - (intOf v6).toNat)
   case atStart=>exact ⟨0,rfl,Nat.zero_le _,Lib.hid (AllN.zero _ _ _),hxr⟩
   case round =>
    clear hxr
    obtain ⟨m,rfl,hm,HA,hxr⟩:=hrel
    have q2:=(hcl.out _ hxr).2 2 _ rfl
    by_cases hlt2:m < s.locs.length
    ·obtain ⟨bp,gp,hB,_,hc⟩:=(HL.out _ (hx0.tr hxr)).row (sz:=12) (fun _=>rfl) (by omega) hlt2
     have i0:(0:Int) ≤ (m:Int):=by omega
     have i1:(m:Int) < (s.locs.length:Int):=by omega
     have hkk:IntKind.i64.wrap ((m:Int) + 1)=((m + 1:Nat):Int):=by rw [IntKind.wrap_i64]; omega
     have HAS:=Lib.hid (fun h h2=>HA.out.succ hlt2 h h2)
     have HAN:=Lib.hid (fun h=>all_not (locC c.ups) s.locs m hlt2 h)
     have HNN:=Lib.hid (fun j (hj:j < m) (h:(s.locs[j]'(by omega)).pre=s.locs[m].pre)=>nodup_not (fun p:Lo14=>p.pre) s.locs m j hlt2 hj h)
     have CLi:=Lib.hid (CL.out _ (List.getElem_mem hlt2))
     rw [hB] at q2
     obtain ⟨b,hb⟩:∃ b,b=locC c.ups s.locs[m]:=⟨_,rfl⟩
     rw [← hb] at HAS HAN CLi
     obtain ⟨y,hy⟩:∃ y,y=s.locs[m]:=⟨_,rfl⟩
     rw [← hy] at hc CLi HNN HAS
     have HC:=Lib.hid (fun w' (e:Ext wr w') j u h=>(e.cell (lt_of_cell (hc j u h))).trans (hc j u h))
     have HQ2:=Lib.hid (fun w' (e:Ext wr w')=>(e.cell (lt_of_cell q2)).trans q2)
     have hks:Hid (∀ w',Ext wr w' → (w'.cell? ⟨g,0,none⟩=some (.int .i64 c.keep)∧w'.cell? ⟨g,1,none⟩=some (.int .i64 c.body)∧w'.cell? ⟨g,2,none⟩=some (.int .i64 c.store)∧w'.cell? ⟨g,3,none⟩=some (.int .i64 c.conns)∧w'.cell? ⟨g,4,none⟩=some (.slice UA c.ups.length uc)∧w'.cell? ⟨g,5,none⟩=some (.slice SA c.srvs.length sc)∧w'.cell? ⟨g + 1,2,none⟩=some (.slice (some ⟨bp,gp,none⟩) s.locs.length lc) ∧
       w'.cell? ⟨bp,gp + m * 12,none⟩=some (.string (str y.pre))∧w'.cell? ⟨bp,gp + m * 12 + 1,none⟩=some (.int .i64 y.kind)∧w'.cell? ⟨bp,gp + m * 12 + 2,none⟩=some (.string (str y.root))∧w'.cell? ⟨bp,gp + m * 12 + 3,none⟩=some (.string (str y.index))∧w'.cell? ⟨bp,gp + m * 12 + 4,none⟩=some (.int .i64 y.gzip)∧w'.cell? ⟨bp,gp + m * 12 + 5,none⟩=some (.int .i64 y.expires)∧w'.cell? ⟨bp,gp + m * 12 + 6,none⟩=some (.string (str y.up))∧w'.cell? ⟨bp,gp + m * 12 + 7,none⟩=some (.bool y.cache)∧w'.cell? ⟨bp,gp + m * 12 + 8,none⟩=some (.int .i64 y.rate)∧w'.cell? ⟨bp,gp + m * 12 + 9,none⟩=some (.int .i64 y.burst)∧w'.cell? ⟨bp,gp + m * 12 + 10,none⟩=some (.int .i64 y.status)∧w'.cell? ⟨bp,gp + m * 12 + 11,none⟩=some (.string (str y.goal)))):=Lib.hid (fun w' e=>by
      have hh:=(hcl.out _ (hxr.tr e)).1
      exact ⟨hh 0 _ rfl,hh 1 _ rfl,hh 2 _ rfl,hh 3 _ rfl,hh 4 _ rfl,hh 5 _ rfl,HQ2.out _ e,HC.out _ e 0 _ rfl,HC.out _ e 1 _ rfl,HC.out _ e 2 _ rfl,HC.out _ e 3 _ rfl,HC.out _ e 4 _ rfl,HC.out _ e 5 _ rfl,HC.out _ e 6 _ rfl,HC.out _ e 7 _ rfl,HC.out _ e 8 _ rfl,HC.out _ e 9 _ rfl,HC.out _ e 10 _ rfl,HC.out _ e 11 _ rfl⟩)
     have HB:=Lib.hid hB
     clear hb hB hy
     unfold LoV at CLi
     have hxw:=hx0.tr hxr
     have HM0:=Lib.hid (fun w' (e:Ext wr w')=>HC.out w' e 0 _ rfl)
     clear hc
     go_upto_region 11 with (fail)
     refine wp_region_noPanic ?_
     refine wp_region_held_drew (S:=fun w'=>w'.cell? ⟨g,0,none⟩=some (.int .i64 c.keep)∧w'.cell? ⟨g,1,none⟩=some (.int .i64 c.body)∧w'.cell? ⟨g,2,none⟩=some (.int .i64 c.store)∧w'.cell? ⟨g,3,none⟩=some (.int .i64 c.conns)∧w'.cell? ⟨g,4,none⟩=some (.slice UA c.ups.length uc)∧w'.cell? ⟨g,5,none⟩=some (.slice SA c.srvs.length sc)∧w'.cell? ⟨g + 1,2,none⟩=some (.slice (some ⟨bp,gp,none⟩) s.locs.length lc) ∧
       w'.cell? ⟨bp,gp + m * 12,none⟩=some (.string (str y.pre))∧w'.cell? ⟨bp,gp + m * 12 + 1,none⟩=some (.int .i64 y.kind)∧w'.cell? ⟨bp,gp + m * 12 + 2,none⟩=some (.string (str y.root))∧w'.cell? ⟨bp,gp + m * 12 + 3,none⟩=some (.string (str y.index))∧w'.cell? ⟨bp,gp + m * 12 + 4,none⟩=some (.int .i64 y.gzip)∧w'.cell? ⟨bp,gp + m * 12 + 5,none⟩=some (.int .i64 y.expires)∧w'.cell? ⟨bp,gp + m * 12 + 6,none⟩=some (.string (str y.up))∧w'.cell? ⟨bp,gp + m * 12 + 7,none⟩=some (.bool y.cache)∧w'.cell? ⟨bp,gp + m * 12 + 8,none⟩=some (.int .i64 y.rate)∧w'.cell? ⟨bp,gp + m * 12 + 9,none⟩=some (.int .i64 y.burst)∧w'.cell? ⟨bp,gp + m * 12 + 10,none⟩=some (.int .i64 y.status)∧w'.cell? ⟨bp,gp + m * 12 + 11,none⟩=some (.string (str y.goal))) (by kernel_rfl) (hks.out _ (by (repeat first | exact Ex0 | assumption | refine Ex1 ?_ | refine Ex2 ?_ | refine Ex3 ?_ | refine Ex4 ?_ | refine Ex5 ?_))) (fun hHeld=>?_)
     refine wpAnyH_take (i:=0) (oi:=?_) (v:=?_) ?_ (by kernel_rfl) (by kernel_rfl) (by kernel_rfl) (fun _ _ _ h=>h) (Or.inl ⟨?_,?_⟩) (by assumption) ?_
     rotate_left 2
     ·(simp only [List.getElem?_toArray,List.getElem?_cons_succ,List.getElem?_cons_zero]; first | done | rfl)
     ·rfl
     ·intro w hSw
      try dsimp only at hSw
      go_simp <;> with_reducible rfl
     try simp only [Act.put,List.setIfInBounds_toArray,List.set_cons_zero,List.set_cons_succ]
     refine wpAnyH_take (i:=1) (oi:=?_) (v:=?_) ?_ (by kernel_rfl) (by kernel_rfl) (by kernel_rfl) (fun _ _ _ h=>h) (Or.inl ⟨?_,?_⟩) (by assumption) ?_
     rotate_left 2
     ·(simp only [List.getElem?_toArray,List.getElem?_cons_succ,List.getElem?_cons_zero]; first | done | rfl)
     ·rfl
     ·intro w hSw
      try dsimp only at hSw
      go_simp <;> with_reducible rfl
     try simp only [Act.put,List.setIfInBounds_toArray,List.set_cons_zero,List.set_cons_succ]
     refine wpAnyH_take (i:=2) (oi:=?_) (v:=?_) ?_ (by kernel_rfl) (by kernel_rfl) (by kernel_rfl) (fun _ _ _ h=>h) (Or.inl ⟨?_,?_⟩) (by assumption) ?_
     rotate_left 2
     ·(simp only [List.getElem?_toArray,List.getElem?_cons_succ,List.getElem?_cons_zero]; first | done | rfl)
     ·rfl
     ·intro w hSw
      try dsimp only at hSw
      go_simp <;> with_reducible rfl
     try simp only [Act.put,List.setIfInBounds_toArray,List.set_cons_zero,List.set_cons_succ]
     refine wpAnyH_take (i:=3) (oi:=?_) (v:=?_) ?_ (by kernel_rfl) (by kernel_rfl) (by kernel_rfl) (fun _ _ _ h=>h) (Or.inl ⟨?_,?_⟩) (by assumption) ?_
     rotate_left 2
     ·(simp only [List.getElem?_toArray,List.getElem?_cons_succ,List.getElem?_cons_zero]; first | done | rfl)
     ·rfl
     ·intro w hSw
      try dsimp only at hSw
      go_simp <;> with_reducible rfl
     try simp only [Act.put,List.setIfInBounds_toArray,List.set_cons_zero,List.set_cons_succ]
     refine wpAnyH_take (i:=4) (oi:=?_) (v:=?_) ?_ (by kernel_rfl) (by kernel_rfl) (by kernel_rfl) (fun _ _ _ h=>h) (Or.inl ⟨?_,?_⟩) (by assumption) ?_
     rotate_left 2
     ·(simp only [List.getElem?_toArray,List.getElem?_cons_succ,List.getElem?_cons_zero]; first | done | rfl)
     ·rfl
     ·intro w hSw
      try dsimp only at hSw
      go_simp <;> with_reducible rfl
     try simp only [Act.put,List.setIfInBounds_toArray,List.set_cons_zero,List.set_cons_succ]
     refine wpAnyH_take (i:=5) (oi:=?_) (v:=?_) ?_ (by kernel_rfl) (by kernel_rfl) (by kernel_rfl) (fun _ _ _ h=>h) (Or.inl ⟨?_,?_⟩) (by assumption) ?_
     rotate_left 2
     ·(simp only [List.getElem?_toArray,List.getElem?_cons_succ,List.getElem?_cons_zero]; first | done | rfl)
     ·rfl
     ·intro w hSw
      try dsimp only at hSw
      go_simp <;> with_reducible rfl
     try simp only [Act.put,List.setIfInBounds_toArray,List.set_cons_zero,List.set_cons_succ]
     refine wpAnyH_ready (rs:=[6]) (by kernel_rfl) (by simp) ?_
     refine AllReadyH.cons rfl (fun K hK=>?_) AllReadyH.nil
     go_simp
     go_at_call 112
     refine (CLi.out _ (hxw.tr (by (repeat first | exact Ex0 | assumption | refine Ex1 ?_ | refine Ex2 ?_ | refine Ex3 ?_ | refine Ex4 ?_ | refine Ex5 ?_)))).mono ?_
     rintro e' w2 ⟨rfl,hx2⟩
     refine hK.out _ _ (hks.out _ (by (repeat first | exact Ex0 | assumption | refine Ex1 ?_ | refine Ex2 ?_ | refine Ex3 ?_ | refine Ex4 ?_ | refine Ex5 ?_))) (fun hHeld=>?_)
     clear hK K
     try simp only [List.getElem?_toArray,List.getElem?_cons_succ,List.getElem?_cons_zero,Act.put,List.setIfInBounds_toArray,List.set_cons_zero,List.set_cons_succ]
     refine wpAnyH_take (i:=7) (oi:=?_) (v:=?_) ?_ (by kernel_rfl) (by kernel_rfl) (by kernel_rfl) (fun _ _ _ h=>h) (Or.inl ⟨?_,?_⟩) (by assumption) ?_
     rotate_left 2
     ·(simp only [List.getElem?_toArray,List.getElem?_cons_succ,List.getElem?_cons_zero]; first | done | rfl)
     ·rfl
     ·intro w hSw
      try dsimp only at hSw
      go_simp <;> with_reducible rfl
     try simp only [Act.put,List.setIfInBounds_toArray,List.set_cons_zero,List.set_cons_succ]
     refine wpAnyH_done (by kernel_rfl) ?_ _
     refine NoPanic.normal ?_
     cases b with
     | false =>
      have HF:=Lib.hid (HAN.out rfl)
      clear hks HAS HNN
      go_wp2
      go_ret
      exact ⟨ret_bool (by rw [HP.out,HF.out]; rfl),hxw.tr (by (repeat first | exact Ex0 | assumption | refine Ex1 ?_ | refine Ex2 ?_ | refine Ex3 ?_ | refine Ex4 ?_ | refine Ex5 ?_))⟩
     | true =>
     have HAT:=Lib.hid (HAS.out rfl)
     clear HAS
     go_upto_region 13 with (fail)
     clear hks
     refine (fun (h:∀ W9,Ext wr W9 → Code.wp _ _ _ _ W9)=>h _ (by (repeat first | exact Ex0 | assumption | refine Ex1 ?_ | refine Ex2 ?_ | refine Ex3 ?_ | refine Ex4 ?_ | refine Ex5 ?_))) ?_
     intro W9 hx9
     clear hx2
     have hx19:=hxr.tr hx9
     have hxw9:=hxw.tr hx9
     go_wp2
     go_loopw [7] (fun v7 wx=>∃ k:Nat,v7=.int .i64 (k:Int)∧k ≤ m∧Hid (Dif (fun p:Lo14=>p.pre) s.locs k y.pre)∧Ext W9 wx) (fun v7 _=>m - (intOf v7).toNat)
     case atStart=>exact ⟨0,rfl,Nat.zero_le _,Lib.hid (Dif.zero _ _ _),Ext.rfl' _⟩
     case round =>
      obtain ⟨k,rfl,hk,HD,hxk⟩:=hrel
      have hxq:=hx9.tr hxk
      by_cases hkt:k < m
      ·have hkl:k < s.locs.length:=by omega
       obtain ⟨bp2,gp2,hB2,_,hc⟩:=(HL.out _ (hxw9.tr hxk)).row (sz:=12) (fun _=>rfl) (by omega) hkl
       rw [HB.out] at hB2
       cases hB2
       have n0:wr.cell? ⟨bp,gp + k * 12,none⟩=some (.string (str s.locs[k].pre)):=hc 0 _ rfl
       have m0:wr.cell? ⟨bp,gp + m * 12,none⟩=some (.string (str y.pre)):=HM0.out _ hxq
       have q2:=HQ2.out _ hxq
       have k0:(0:Int) ≤ (k:Int):=by omega
       have k1:(k:Int) < (s.locs.length:Int):=by omega
       have k2:(k:Int) < (m:Int):=by omega
       have hkj:IntKind.i64.wrap ((k:Int) + 1)=((k + 1:Nat):Int):=by rw [IntKind.wrap_i64]; omega
       have HDS:Hid (s.locs[k].pre ≠ y.pre → Dif (fun p:Lo14=>p.pre) s.locs (k + 1) y.pre):=Lib.hid (fun h=>HD.out.succ hkl h)
       have HNK:=Lib.hid (HNN.out k hkt)
       obtain ⟨yk,hyk⟩:∃ z,z=s.locs[k].pre:=⟨_,rfl⟩
       rw [← hyk] at n0 HDS HNK
       obtain ⟨yi,hyi⟩:∃ z,z=y.pre:=⟨_,rfl⟩
       rw [← hyi] at m0
       obtain ⟨sk,hsk⟩:∃ z,z=str yk:=⟨_,rfl⟩
       obtain ⟨si,hsi⟩:∃ z,z=str yi:=⟨_,rfl⟩
       rw [← hsk] at n0
       rw [← hsi] at m0
       have HYI:=Lib.hid hyi
       clear hc hyk hyi
       have hks:Hid (∀ w',Ext wr w' → w'.cell? ⟨g + 1,2,none⟩=some (.slice (some ⟨bp,gp,none⟩) s.locs.length lc)∧w'.cell? ⟨bp,gp + k * 12,none⟩=some (.string sk)∧w'.cell? ⟨bp,gp + m * 12,none⟩=some (.string si)):=Lib.hid (fun w' e=>⟨(e.cell (lt_of_cell q2)).trans q2,(e.cell (lt_of_cell n0)).trans n0,(e.cell (lt_of_cell m0)).trans m0⟩)
       go_upto_region 16 with (fail)
       by_cases he:yk=yi
       ·have HF:=Lib.hid (HNK.out (by rw [he]; exact HYI.out))
        obtain rfl:sk=si:=by rw [hsk,hsi,he]
        clear hsk hsi he
        go_region_held3 (fun w'=>w'.cell? ⟨g + 1,2,none⟩=some (.slice (some ⟨bp,gp,none⟩) s.locs.length lc)∧w'.cell? ⟨bp,gp + k * 12,none⟩=some (.string sk)∧w'.cell? ⟨bp,gp + m * 12,none⟩=some (.string sk)) (exact hks.out _ (by (repeat first | exact Ex0 | assumption | refine Ex1 ?_ | refine Ex2 ?_ | refine Ex3 ?_ | refine Ex4 ?_ | refine Ex5 ?_))) (fail)
        clear hks n0 m0 q2
        go_wp2
        go_ret
        exact ⟨ret_bool (by rw [HP.out,decide_eq_false HF.out]; simp),hxw9.tr (hxk.tr (by (repeat first | exact Ex0 | assumption | refine Ex1 ?_ | refine Ex2 ?_ | refine Ex3 ?_ | refine Ex4 ?_ | refine Ex5 ?_)))⟩
       ·have g1:¬ sk.toList=si.toList:=by rw [hsk,hsi,str_tl,str_tl]; exact he
        have g2:(sk.toList == si.toList)=false:=beq_eq_false_iff_ne.2 g1
        have HDT:=Lib.hid (HDS.out (by rw [← HYI.out]; exact he))
        clear hsk hsi he
        go_region_held3 (fun w'=>w'.cell? ⟨g + 1,2,none⟩=some (.slice (some ⟨bp,gp,none⟩) s.locs.length lc)∧w'.cell? ⟨bp,gp + k * 12,none⟩=some (.string sk)∧w'.cell? ⟨bp,gp + m * 12,none⟩=some (.string si)) (exact hks.out _ (by (repeat first | exact Ex0 | assumption | refine Ex1 ?_ | refine Ex2 ?_ | refine Ex3 ?_ | refine Ex4 ?_ | refine Ex5 ?_))) (fail)
        clear hks n0 m0 q2
        go_wp2
        go_roundw
        case rel=>exact ⟨k + 1,by simp,by omega,HDT,hxk.tr (by (repeat first | exact Ex0 | assumption | refine Ex1 ?_ | refine Ex2 ?_ | refine Ex3 ?_ | refine Ex4 ?_ | refine Ex5 ?_))⟩
        case measure=>simp [intOf]; omega
      ·have k2:¬ (k:Int) < (m:Int):=by omega
       have hki:k=m:=by omega
       subst hki
       have HND:=Lib.hid (HAT.out HD.out)
       have hxz:=hx19.tr hxk
       go_wp2
       go_roundw
       case rel=>first | exact ⟨k + 1,by simp,by omega,HND,hxz⟩ | exact ⟨k + 1,by simp,by omega,HND⟩
       case measure=>simp [intOf]; omega
    ·have i1:¬ (m:Int) < (s.locs.length:Int):=by omega
     have HZ:=Lib.hid (HA.out.all (by omega))
     go_wp2
     go_ret
     exact ⟨ret_bool (by rw [HP.out,HZ.out.1,decide_eq_true HZ.out.2]; rfl),hx0.tr hxr⟩
end Go.Proofs.YtmnohicojefhfaaGreatDoor
end
section
namespace Go.Proofs.YtmnohicojefhfaaGreatDoor
open Go.RowKit
def MemN (w wr:World) (A:Option Addr) (n cc:Nat) (ns:List (List UInt8)):Prop :=
 n=ns.length∧∃ o,Sl wr o 1 1 A n cc (strC ns)∧(A=none → cc=0)∧Stp (fun i=>i=1) w (fun _=>0) wr o
theorem MemN.toExt {w wr:World} {A:Option Addr} {n cc:Nat} {ns:List (List UInt8)} (h:MemN w wr A n cc ns):Ext w wr:=by
 obtain ⟨_,o,_,_,h⟩:=h
 exact h.toExt (fun _ _=>by omega)
theorem MemN.ext {w wr w':World} {A:Option Addr} {n cc:Nat} {ns:List (List UInt8)} (h:MemN w wr A n cc ns) (e:Ext wr w'):MemN w w' A n cc ns:=by
 obtain ⟨h1,o,h2,h3,h4⟩:=h
 exact ⟨h1,o,h2.ext e,h3,h4.tr (Stp.ext e)⟩
theorem names_pre (S:List (Sr14 × Hd × Hd)) (k:Nat) (hk:k < S.length) (j:Nat) (hj:j < S[k].1.names.length) (h:(S.flatMap fun x=>x.1.names).Nodup):(((S.take k).flatMap fun x=>x.1.names) ++ S[k].1.names.take j ++ [S[k].1.names[j]]).Nodup:=by
 have h1:(S.flatMap fun x=>x.1.names)=(((S.take k).flatMap fun x=>x.1.names) ++ S[k].1.names.take j ++ [S[k].1.names[j]]) ++ (S[k].1.names.drop (j + 1) ++ (S.drop (k + 1)).flatMap fun x=>x.1.names):=by
  conv=>lhs; rw [← List.take_append_drop (k + 1) S,List.flatMap_append,names_take S k hk,← List.take_append_drop (j + 1) S[k].1.names,List.take_succ_eq_append_getElem hj]
  simp only [List.append_assoc]
 rw [h1] at h
 exact (List.nodup_append.1 h).1
theorem nodup_one {α:Type} {l:List α} {t:α} (h:l.Nodup) (ht:∀ i (hi:i < l.length),l[i] ≠ t):(l ++ [t]).Nodup:=by
 rw [List.nodup_append]
 refine ⟨h,by simp,fun a ha b hb e=>?_⟩
 rw [List.mem_singleton] at hb
 obtain ⟨i,hi,rfl⟩:=List.getElem_of_mem ha
 exact ht i hi (e.trans hb)
theorem not_one {α:Type} {l:List α} {t:α} {i:Nat} (hi:i < l.length) (h:l[i]=t):¬ (l ++ [t]).Nodup:=by
 intro hn
 rw [List.nodup_append] at hn
 exact hn.2.2 l[i] (List.getElem_mem hi) t (by simp) h
theorem srC_few {ups:List Up14} {s:Sr14} (h:srC ups s=true):s.names.length ≤ 32:=by
 unfold srC at h
 simp only [Bool.and_eq_true] at h
 exact of_decide_eq_true h.1.1.1.1
def nmS (S:List (Sr14 × Hd × Hd)) (k:Nat):List (List UInt8):=(S.take k).flatMap fun x=>x.1.names
structure GdS (ups:List Up14) (S:List (Sr14 × Hd × Hd)) (k d:Nat):Prop where
 ok:(S.take k).all (fun x=>srC ups x.1)=true
 nd:(nmS S k).Nodup
 dl:d=((S.take k).filter fun x=>x.1.dflt).length
 few:(nmS S k).length ≤ 32 * k
theorem GdS.zero (ups:List Up14) (S:List (Sr14 × Hd × Hd)):GdS ups S 0 0:=⟨rfl,List.nodup_nil,rfl,Nat.zero_le _⟩
theorem GdS.succ {ups:List Up14} {S:List (Sr14 × Hd × Hd)} {k d d':Nat} (h:GdS ups S k d) (hk:k < S.length) (h1:srC ups S[k].1=true) (hd:d'=d + if S[k].1.dflt then 1 else 0) (hn:(nmS S k ++ S[k].1.names).Nodup):GdS ups S (k + 1) d':=by
 have e:nmS S (k + 1)=nmS S k ++ S[k].1.names:=names_take S k hk
 refine ⟨all_snoc _ S k hk h.ok h1,by rw [e]; exact hn,by rw [dflt_take S k hk,← h.dl]; exact hd,?_⟩
 rw [e,List.length_append]
 have:=h.few
 have:=srC_few h1
 omega
def NdJ (S:List (Sr14 × Hd × Hd)) (k:Nat) (ns:List (List UInt8)) (j:Nat):Prop:=(nmS S k ++ ns.take j).Nodup
theorem NdJ.succ {S:List (Sr14 × Hd × Hd)} {k:Nat} {ns:List (List UInt8)} {j:Nat} (h:NdJ S k ns j) (hj:j < ns.length) (hd:Dif (fun x:List UInt8=>x) (nmS S k ++ ns.take j) (nmS S k ++ ns.take j).length ns[j]):NdJ S k ns (j + 1):=by
 unfold NdJ at *
 rw [List.take_succ_eq_append_getElem hj,← List.append_assoc]
 exact nodup_one h fun i hi=>hd i hi hi
theorem names_len (a b:List (List UInt8)) (j:Nat):(a ++ b.take j).length ≤ a.length + b.length:=by
 rw [List.length_append,List.length_take]
 omega
theorem rgood_c (c:Cf14) (U:List (Up14 × Hd)) (UA:Option Addr) (uc:Nat) (S:List (Sr14 × Hd × Hd)) (SA:Option Addr) (sc:Nat) (w:World) (hR:CfR w c U UA S SA) (hZ:CfS c) :
  Calls Tryz.prog 26 #[cfV c UA uc SA sc] w (Gives (.bool (goodC c)) w):=by
 have hUl:U.length=c.ups.length:=by rw [← hR.hU,List.length_map]
 have hSl:S.length=c.srvs.length:=by rw [← hR.hS,List.length_map]
 have hul:=hZ.ul
 have hsl:=hZ.sl
 have hupm:∀ x ∈ U,UpS x.1:=fun x hx=>hZ.ups x.1 (by rw [← hR.hU]; exact List.mem_map_of_mem hx)
 have hsrm:∀ x ∈ S,SrS x.1:=fun x hx=>hZ.srvs x.1 (by rw [← hR.hS]; exact List.mem_map_of_mem hx)
 have hnm:(c.srvs.flatMap (·.names))=S.flatMap fun x=>x.1.names:=by rw [← hR.hS,List.flatMap_map]
 have CU:=Lib.hid (fun x (h:x ∈ U) w' (hx:Ext w w')=>rupstream_c x.1 x.2.1 x.2.2 w' (hupm x h).name (hupm x h).pl ((hR.peers x h).ext hx))
 have CS:=Lib.hid (fun x (h:x ∈ S) w' (hx:Ext w w')=>rserver_c x.1 (hsrm x h) x.2.1.1 x.2.2.1 x.2.1.2 x.2.2.2 c U UA uc SA sc w' hR.hU hul (hR.ups.ext hx) ((hR.names x h).ext hx) ((hR.locs x h).ext hx))
 obtain ⟨G,hG⟩:∃ b,b=goodC c:=⟨_,rfl⟩
 have HP:Hid (G=(inB c.keep 0 3600 && inB c.body 0 1048576 && inB c.store 0 1048576 && inB c.conns 1 1000 && decide (U.length ≤ 16) && (U.all fun x=>upC x.1) && decide ((U.map fun x=>x.1.name).Nodup) && inB S.length 1 32 && (S.all fun x=>srC c.ups x.1) &&
  decide ((S.flatMap fun x=>x.1.names).Nodup) && decide ((S.filter fun x=>x.1.dflt).length ≤ 1))):=Lib.hid (by
  rw [hG]
  unfold goodC
  rw [hnm,← hUl,← hSl,← hR.hS]
  conv=>lhs; rw [← hR.hU]
  rw [List.all_map,List.all_map,List.map_map,List.filter_map,List.length_map,hR.hU]
  rfl)
 have HRX:=Lib.hid (fun w' (hx:Ext w w')=>hR.ext hx)
 rw [← hG]
 unfold cfV at CS ⊢
 rw [← hUl,← hSl] at CS ⊢
 have hulz:U.length ≤ 1099511627776:=by omega
 have hslz:S.length ≤ 1099511627776:=by omega
 clear hG hR hZ hUl hSl hul hsl hupm hsrm hnm
 obtain ⟨g,hg⟩:∃ g,g=w.heap.size:=⟨_,rfl⟩
 obtain ⟨W0,hW0⟩:∃ W,W=w.alloc (.cells #[.int .i64 c.keep,.int .i64 c.body,.int .i64 c.store,.int .i64 c.conns,.slice UA U.length uc,.slice SA S.length sc] 32):=⟨_,rfl⟩
 have hx0:Ext w W0:=by rw [hW0]; exact (Ext.rfl' w).al _
 have hcl:Hid (∀ wx,Ext W0 wx → ∀ j u,(#[.int .i64 c.keep,.int .i64 c.body,.int .i64 c.store,.int .i64 c.conns,.slice UA U.length uc,.slice SA S.length sc]:Array Value)[j]?=some u → wx.cell? ⟨g,j,none⟩=some u):=Lib.hid (fun wx hx=>by rw [hW0] at hx; rw [hg]; exact fun j u h=>hx.new j u h)
 have z0:=hcl.out W0 (Ext.rfl' _) 0 _ rfl
 have z1:=hcl.out W0 (Ext.rfl' _) 1 _ rfl
 have z2:=hcl.out W0 (Ext.rfl' _) 2 _ rfl
 have z3:=hcl.out W0 (Ext.rfl' _) 3 _ rfl
 have z4:=hcl.out W0 (Ext.rfl' _) 4 _ rfl
 have z5:=hcl.out W0 (Ext.rfl' _) 5 _ rfl
 go_enter Tryz.func26,Tryz.ntmps26
 go_upto_region 1 with (fail)
 rw [← hW0,← hg]
 clear hW0 hg
 cases b1:inB c.keep 0 3600 with
 | false =>
  go_wp2_with (go_at_call 66; refine (rinB_c _ _ _ _).mono ?_; rintro e' w2 ⟨rfl,hw⟩; have hw:=hw.symm; subst hw)
  go_ret
  exact ⟨ret_bool (by rw [HP.out]; simp [*]),by (repeat first | exact Ex0 | assumption | refine Ex1 ?_ | refine Ex2 ?_ | refine Ex3 ?_ | refine Ex4 ?_ | refine Ex5 ?_)⟩
 | true =>
 cases b2:inB c.body 0 1048576 with
 | false =>
  go_wp2_with (go_at_call 66; refine (rinB_c _ _ _ _).mono ?_; rintro e' w2 ⟨rfl,hw⟩; have hw:=hw.symm; subst hw)
  go_ret
  exact ⟨ret_bool (by rw [HP.out]; simp [*]),by (repeat first | exact Ex0 | assumption | refine Ex1 ?_ | refine Ex2 ?_ | refine Ex3 ?_ | refine Ex4 ?_ | refine Ex5 ?_)⟩
 | true =>
 cases b3:inB c.store 0 1048576 with
 | false =>
  go_wp2_with (go_at_call 66; refine (rinB_c _ _ _ _).mono ?_; rintro e' w2 ⟨rfl,hw⟩; have hw:=hw.symm; subst hw)
  go_ret
  exact ⟨ret_bool (by rw [HP.out]; simp [*]),by (repeat first | exact Ex0 | assumption | refine Ex1 ?_ | refine Ex2 ?_ | refine Ex3 ?_ | refine Ex4 ?_ | refine Ex5 ?_)⟩
 | true =>
 cases b4:inB c.conns 1 1000 with
 | false =>
  go_wp2_with (go_at_call 66; refine (rinB_c _ _ _ _).mono ?_; rintro e' w2 ⟨rfl,hw⟩; have hw:=hw.symm; subst hw)
  go_ret
  exact ⟨ret_bool (by rw [HP.out]; simp [*]),by (repeat first | exact Ex0 | assumption | refine Ex1 ?_ | refine Ex2 ?_ | refine Ex3 ?_ | refine Ex4 ?_ | refine Ex5 ?_)⟩
 | true =>
 by_cases hu:U.length ≤ 16
 rotate_left
 ·have n1:decide ((16:Int) < (U.length:Int))=true:=by rw [decide_eq_true_eq]; omega
  have n2:decide (U.length ≤ 16)=false:=decide_eq_false hu
  go_wp2_with (go_at_call 66; refine (rinB_c _ _ _ _).mono ?_; rintro e' w2 ⟨rfl,hw⟩; have hw:=hw.symm; subst hw)
  go_ret
  exact ⟨ret_bool (by rw [HP.out]; simp [*]),by (repeat first | exact Ex0 | assumption | refine Ex1 ?_ | refine Ex2 ?_ | refine Ex3 ?_ | refine Ex4 ?_ | refine Ex5 ?_)⟩
 have n1:decide ((16:Int) < (U.length:Int))=false:=by rw [decide_eq_false_iff_not]; omega
 have n2:decide (U.length ≤ 16)=true:=decide_eq_true hu
 cases b5:inB S.length 1 32 with
 | false =>
  go_wp2_with (go_at_call 66; refine (rinB_c _ _ _ _).mono ?_; rintro e' w2 ⟨rfl,hw⟩; have hw:=hw.symm; subst hw)
  go_ret
  exact ⟨ret_bool (by rw [HP.out]; simp [*]),by (repeat first | exact Ex0 | assumption | refine Ex1 ?_ | refine Ex2 ?_ | refine Ex3 ?_ | refine Ex4 ?_ | refine Ex5 ?_)⟩
 | true =>
 have hs32:=inB_R b5
 have HP:Hid (G=((U.all fun x=>upC x.1) && decide ((U.map fun x=>x.1.name).Nodup) && (S.all fun x=>srC c.ups x.1) && decide ((S.flatMap fun x=>x.1.names).Nodup) && decide ((S.filter fun x=>x.1.dflt).length ≤ 1))):=Lib.hid (by rw [HP.out,b1,b2,b3,b4,b5,n2]; simp)
 go_upto_region 3 with (go_at_call 66; refine (rinB_c _ _ _ _).mono ?_; rintro e' w2 ⟨rfl,hw⟩; have hw:=hw.symm; subst hw)
 clear b1 b2 b3 b4 b5 n1 n2 z0 z1 z2 z3 z4 z5
 have hxs:Ext W0 W0:=Ext.rfl' _
 go_wp2
 go_loopw [3] (fun v3 wr=>∃ i:Nat,v3=.int .i64 (i:Int)∧i ≤ U.length∧Hid (AllN (fun x:Up14 × Hd=>upC x.1) (fun x:Up14 × Hd=>x.1.name) U i)∧Ext W0 wr) (fun v3 _=>U.length - (intOf v3).toNat)
 case atStart=>exact ⟨0,rfl,Nat.zero_le _,Lib.hid (AllN.zero _ _ _),hxs⟩
 case round =>
  clear hxs
  obtain ⟨i,rfl,hi,HA,hxr⟩:=hrel
  have q4:=hcl.out _ hxr 4 _ rfl
  by_cases hlt:i < U.length
  ·obtain ⟨bp,gp,hB,_,hc⟩:=(HRX.out _ (hx0.tr hxr)).ups.row (sz:=4) (fun _=>rfl) (by omega) hlt
   have i0:(0:Int) ≤ (i:Int):=by omega
   have i1:(i:Int) < (U.length:Int):=by omega
   have hkk:IntKind.i64.wrap ((i:Int) + 1)=((i + 1:Nat):Int):=by rw [IntKind.wrap_i64]; omega
   have HAS:=Lib.hid (fun (h:upC U[i].1=true) (h2:Dif (fun x:Up14 × Hd=>x.1.name) U i U[i].1.name)=>HA.out.succ hlt h h2)
   have HAN:=Lib.hid (fun (h:upC U[i].1=false)=>all_not (fun x:Up14 × Hd=>upC x.1) U i hlt h)
   have HNN:=Lib.hid (fun j (hj:j < i) (h:(U[j]'(by omega)).1.name=U[i].1.name)=>nodup_not (fun x:Up14 × Hd=>x.1.name) U i j hlt hj h)
   have CUi:=Lib.hid (CU.out _ (List.getElem_mem hlt))
   rw [hB] at q4
   obtain ⟨b,hb⟩:∃ b,b=upC U[i].1:=⟨_,rfl⟩
   rw [← hb] at HAS HAN CUi
   obtain ⟨y,hy⟩:∃ y,y=U[i]:=⟨_,rfl⟩
   rw [← hy] at hc CUi HNN HAS
   have m0:wr.cell? ⟨bp,gp + i * 4,none⟩=some (.string (str y.1.name)):=hc 0 _ rfl
   have m1:wr.cell? ⟨bp,gp + i * 4 + 1,none⟩=some (.slice y.2.1 y.1.peers.length y.2.2):=hc 1 _ rfl
   have m2:wr.cell? ⟨bp,gp + i * 4 + 2,none⟩=some (.int .i64 y.1.timeout):=hc 2 _ rfl
   have m3:wr.cell? ⟨bp,gp + i * 4 + 3,none⟩=some (.int .i64 y.1.retries):=hc 3 _ rfl
   have HM0:=Lib.hid (fun w' (e:Ext wr w')=>(e.cell (lt_of_cell m0)).trans m0)
   have HQ4:=Lib.hid (fun w' (e:Ext wr w')=>(e.cell (lt_of_cell q4)).trans q4)
   have hxwr:=hx0.tr hxr
   clear hc hb hy
   cases b with
   | false =>
    have HF:=Lib.hid (HAN.out rfl)
    clear HAS HNN
    go_wp2_with (go_at_call 67; refine (CUi.out _ hxwr).mono ?_; rintro e' w2 ⟨rfl,hx2⟩)
    go_ret
    exact ⟨ret_bool (by rw [HP.out,HF.out]; rfl),hxwr.tr hx2⟩
   | true =>
   have HAT:=Lib.hid (HAS.out rfl)
   clear HAS
   go_upto_region 8 with (go_at_call 67; refine (CUi.out _ hxwr).mono ?_; rintro e' w2 ⟨rfl,hx2⟩)
   clear m0 m1 m2 m3 q4 HAN CUi
   go_wp2
   go_loopw [4] (fun v4 wx=>∃ k:Nat,v4=.int .i64 (k:Int)∧k ≤ i∧Hid (Dif (fun x:Up14 × Hd=>x.1.name) U k y.1.name)∧Ext w2 wx) (fun v4 _=>i - (intOf v4).toNat)
   case atStart=>exact ⟨0,rfl,Nat.zero_le _,Lib.hid (Dif.zero _ _ _),Ext.rfl' _⟩
   case round =>
    obtain ⟨k,rfl,hk,HDK,hxk⟩:=hrel
    have hxq:=hx2.tr hxk
    by_cases hkt:k < i
    ·have hkl:k < U.length:=by omega
     obtain ⟨bp2,gp2,hB2,_,hc⟩:=(HRX.out _ (hxwr.tr hxq)).ups.row (sz:=4) (fun _=>rfl) (by omega) hkl
     rw [hB] at hB2
     cases hB2
     have n0:wr.cell? ⟨bp,gp + k * 4,none⟩=some (.string (str U[k].1.name)):=hc 0 _ rfl
     have m0:=HM0.out _ hxq
     have q4:=HQ4.out _ hxq
     have k0:(0:Int) ≤ (k:Int):=by omega
     have k1:(k:Int) < (U.length:Int):=by omega
     have k2:(k:Int) < (i:Int):=by omega
     have hkj:IntKind.i64.wrap ((k:Int) + 1)=((k + 1:Nat):Int):=by rw [IntKind.wrap_i64]; omega
     have HDS:Hid (U[k].1.name ≠ y.1.name → Dif (fun x:Up14 × Hd=>x.1.name) U (k + 1) y.1.name):=Lib.hid (fun h=>HDK.out.succ hkl h)
     have HNK:=Lib.hid (HNN.out k hkt)
     obtain ⟨yk,hyk⟩:∃ y,y=U[k].1.name:=⟨_,rfl⟩
     obtain ⟨yi,hyi⟩:∃ z,z=y.1.name:=⟨_,rfl⟩
     rw [← hyk] at n0 HDS HNK
     rw [← hyi] at m0
     obtain ⟨sk,hsk⟩:∃ s,s=str yk:=⟨_,rfl⟩
     obtain ⟨si,hsi⟩:∃ s,s=str yi:=⟨_,rfl⟩
     rw [← hsk] at n0
     rw [← hsi] at m0
     have HYI:=Lib.hid hyi
     clear hc hyk hyi
     have hks:Hid (∀ w',Ext wr w' → w'.cell? ⟨g,4,none⟩=some (.slice (some ⟨bp,gp,none⟩) U.length uc)∧w'.cell? ⟨bp,gp + k * 4,none⟩=some (.string sk)∧w'.cell? ⟨bp,gp + i * 4,none⟩=some (.string si)):=Lib.hid (fun w' e=>⟨(e.cell (lt_of_cell q4)).trans q4,(e.cell (lt_of_cell n0)).trans n0,(e.cell (lt_of_cell m0)).trans m0⟩)
     go_upto_region 11 with (fail)
     by_cases he:yk=yi
     ·obtain rfl:sk=si:=by rw [hsk,hsi,he]
      have HF:=Lib.hid (HNK.out (by rw [he]; exact HYI.out))
      clear hsk hsi he
      go_region_held3 (fun w'=>w'.cell? ⟨g,4,none⟩=some (.slice (some ⟨bp,gp,none⟩) U.length uc)∧w'.cell? ⟨bp,gp + k * 4,none⟩=some (.string sk)∧w'.cell? ⟨bp,gp + i * 4,none⟩=some (.string sk)) (exact hks.out _ (by (repeat first | exact Ex0 | assumption | refine Ex1 ?_ | refine Ex2 ?_ | refine Ex3 ?_ | refine Ex4 ?_ | refine Ex5 ?_))) (fail)
      clear hks n0 m0 q4
      go_wp2
      go_ret
      exact ⟨ret_bool (by rw [HP.out,decide_eq_false HF.out]; simp),hxwr.tr (hxq.tr (by (repeat first | exact Ex0 | assumption | refine Ex1 ?_ | refine Ex2 ?_ | refine Ex3 ?_ | refine Ex4 ?_ | refine Ex5 ?_)))⟩
     ·have g1:¬ sk.toList=si.toList:=by rw [hsk,hsi,str_tl,str_tl]; exact he
      have g2:(sk.toList == si.toList)=false:=beq_eq_false_iff_ne.2 g1
      have HDT:=Lib.hid (HDS.out (by rw [← HYI.out]; exact he))
      clear hsk hsi he
      go_region_held3 (fun w'=>w'.cell? ⟨g,4,none⟩=some (.slice (some ⟨bp,gp,none⟩) U.length uc)∧w'.cell? ⟨bp,gp + k * 4,none⟩=some (.string sk)∧w'.cell? ⟨bp,gp + i * 4,none⟩=some (.string si)) (exact hks.out _ (by (repeat first | exact Ex0 | assumption | refine Ex1 ?_ | refine Ex2 ?_ | refine Ex3 ?_ | refine Ex4 ?_ | refine Ex5 ?_))) (fail)
      clear hks n0 m0 q4
      go_wp2
      go_roundw
      case rel=>exact ⟨k + 1,by simp,by omega,HDT,hxk.tr (by (repeat first | exact Ex0 | assumption | refine Ex1 ?_ | refine Ex2 ?_ | refine Ex3 ?_ | refine Ex4 ?_ | refine Ex5 ?_))⟩
      case measure=>simp [intOf]; omega
    ·have k2:¬ (k:Int) < (i:Int):=by omega
     have hki:k=i:=by omega
     subst hki
     have HND:=Lib.hid (HAT.out HDK.out)
     have hxz:=hxr.tr hxq
     go_wp2
     go_roundw
     case rel=>first | exact ⟨k + 1,by simp,by omega,HND,hxz⟩ | exact ⟨k + 1,by simp,by omega,HND⟩
     case measure=>simp [intOf]; omega
  ·have i1:¬ (i:Int) < (U.length:Int):=by omega
   have HZ:=Lib.hid (HA.out.all (by omega))
   have HP:Hid (G=((S.all fun x=>srC c.ups x.1) && decide ((S.flatMap fun x=>x.1.names).Nodup) && decide ((S.filter fun x=>x.1.dflt).length ≤ 1))):=Lib.hid (by rw [HP.out,HZ.out.1,decide_eq_true HZ.out.2]; simp)
   clear HA HZ CU
   go_upto_region 13 with (fail)
   refine (fun (h:∀ W1,Ext W0 W1 → Code.wp _ _ _ _ W1)=>h _ hxr) ?_
   intro W1 hx1
   clear hxr
   go_wp2
   go_loopw [5,6,7] (fun v5 v6 v7 wx=>∃ (k d n cc:Nat) (A:Option Addr),v5=.int .i64 (d:Int)∧v6=.slice A n cc∧v7=.int .i64 (k:Int)∧k ≤ S.length∧Hid (GdS c.ups S k d)∧Hid (MemN W1 wx A n cc (nmS S k))) (fun _ _ v7 _=>S.length - (intOf v7).toNat)
   case atStart=>exact ⟨0,0,0,0,none,rfl,rfl,rfl,Nat.zero_le _,Lib.hid (GdS.zero _ _),Lib.hid ⟨rfl,fun _=>0,Sl.nil_ _ _ _ _ _,fun _=>rfl,Stp.rfl'⟩⟩
   case round =>
    clear hi q4 i1
    obtain ⟨k,d,n,cc,A,rfl,rfl,rfl,hk,HG,HM⟩:=hrel
    have hxm:=HM.out.toExt
    have hx0r:=hx1.tr hxm
    have hxw:=hx0.tr hx0r
    have q5:=hcl.out _ hx0r 5 _ rfl
    have hnl:n ≤ 32 * k:=by have h1:=HM.out.1; have h2:=HG.out.few; omega
    have hdk:d ≤ k:=by
     have h1:=HG.out.dl
     have h2:((S.take k).filter fun x=>x.1.dflt).length ≤ (S.take k).length:=List.length_filter_le _ _
     rw [List.length_take] at h2
     omega
    by_cases hlt:k < S.length
    ·obtain ⟨bs,gs,hB,_,hc⟩:=(HRX.out _ hxw).srvs.row (sz:=3) (fun _=>rfl) (by omega) hlt
     have i0:(0:Int) ≤ (k:Int):=by omega
     have i1:(k:Int) < (S.length:Int):=by omega
     have hkk:IntKind.i64.wrap ((k:Int) + 1)=((k + 1:Nat):Int):=by rw [IntKind.wrap_i64]; omega
     have hdd:IntKind.i64.wrap ((d:Int) + 1)=((d + 1:Nat):Int):=by rw [IntKind.wrap_i64]; omega
     have HGS:=Lib.hid (fun d' (h:srC c.ups S[k].1=true) hd (hn:(nmS S k ++ S[k].1.names).Nodup)=>HG.out.succ (d':=d') hlt h hd hn)
     have HAN:=Lib.hid (fun (h:srC c.ups S[k].1=false)=>all_not (fun x:Sr14 × Hd × Hd=>srC c.ups x.1) S k hlt h)
     have HPR:=Lib.hid (fun j (hj:j < S[k].1.names.length) (h:(S.flatMap fun x=>x.1.names).Nodup)=>names_pre S k hlt j hj h)
     have HFW:=Lib.hid (fun (h:srC c.ups S[k].1=true)=>srC_few h)
     have CSi:=Lib.hid (CS.out _ (List.getElem_mem hlt))
     have HNR:=Lib.hid (fun w' (e:Ext w w')=>(HRX.out _ e).names S[k] (List.getElem_mem hlt))
     have HROW:=Lib.hid (fun w' (e:Ext w w') j u (hu:(srV S[k])[j]?=some u)=>(by
      obtain ⟨b2,g2,h2,_,hc2⟩:=(HRX.out _ e).srvs.row (sz:=3) (fun _=>rfl) (by omega) hlt
      rw [hB] at h2
      cases h2
      exact hc2 j u hu:w'.cell? ⟨bs,gs + k * 3 + j,none⟩=some u))
     rw [hB] at q5
     obtain ⟨b,hb⟩:∃ b,b=srC c.ups S[k].1:=⟨_,rfl⟩
     rw [← hb] at HGS HAN CSi HFW
     obtain ⟨y,hy⟩:∃ y,y=S[k]:=⟨_,rfl⟩
     rw [← hy] at CSi HGS HPR HNR HFW HROW
     have HQ5:=Lib.hid (fun w' (e:Ext wr w')=>(e.cell (lt_of_cell q5)).trans q5)
     have hks:Hid (∀ w',Ext wr w' → (w'.cell? ⟨g,0,none⟩=some (.int .i64 c.keep)∧w'.cell? ⟨g,1,none⟩=some (.int .i64 c.body)∧w'.cell? ⟨g,2,none⟩=some (.int .i64 c.store)∧w'.cell? ⟨g,3,none⟩=some (.int .i64 c.conns)∧w'.cell? ⟨g,4,none⟩=some (.slice UA U.length uc)∧w'.cell? ⟨g,5,none⟩=some (.slice (some ⟨bs,gs,none⟩) S.length sc) ∧
       w'.cell? ⟨bs,gs + k * 3,none⟩=some (.slice y.2.1.1 y.1.names.length y.2.1.2)∧w'.cell? ⟨bs,gs + k * 3 + 1,none⟩=some (.bool y.1.dflt)∧w'.cell? ⟨bs,gs + k * 3 + 2,none⟩=some (.slice y.2.2.1 y.1.locs.length y.2.2.2))):=Lib.hid (fun w' e=>by
      have hh:=hcl.out _ (hx0r.tr e)
      exact ⟨hh 0 _ rfl,hh 1 _ rfl,hh 2 _ rfl,hh 3 _ rfl,hh 4 _ rfl,HQ5.out _ e,HROW.out _ (hxw.tr e) 0 _ rfl,HROW.out _ (hxw.tr e) 1 _ rfl,HROW.out _ (hxw.tr e) 2 _ rfl⟩)
     rw [hB] at CSi
     have HB:=Lib.hid hB
     have HYK:=Lib.hid hy
     clear hc hb hy hB
     go_upto_region 18 with (fail)
     clear q5
     go_region_held3 (fun w'=>w'.cell? ⟨g,0,none⟩=some (.int .i64 c.keep)∧w'.cell? ⟨g,1,none⟩=some (.int .i64 c.body)∧w'.cell? ⟨g,2,none⟩=some (.int .i64 c.store)∧w'.cell? ⟨g,3,none⟩=some (.int .i64 c.conns)∧w'.cell? ⟨g,4,none⟩=some (.slice UA U.length uc)∧w'.cell? ⟨g,5,none⟩=some (.slice (some ⟨bs,gs,none⟩) S.length sc) ∧
       w'.cell? ⟨bs,gs + k * 3,none⟩=some (.slice y.2.1.1 y.1.names.length y.2.1.2)∧w'.cell? ⟨bs,gs + k * 3 + 1,none⟩=some (.bool y.1.dflt)∧w'.cell? ⟨bs,gs + k * 3 + 2,none⟩=some (.slice y.2.2.1 y.1.locs.length y.2.2.2)) (exact hks.out _ (by (repeat first | exact Ex0 | assumption | refine Ex1 ?_ | refine Ex2 ?_ | refine Ex3 ?_ | refine Ex4 ?_ | refine Ex5 ?_))) (first | (go_at_call 68; refine (CSi.out _ (hxw.tr (by (repeat first | exact Ex0 | assumption | refine Ex1 ?_ | refine Ex2 ?_ | refine Ex3 ?_ | refine Ex4 ?_ | refine Ex5 ?_)))).mono ?_; rintro e' w2 ⟨rfl,hx2⟩))
     clear hks
     cases b with
     | false =>
      have HF:=Lib.hid (HAN.out rfl)
      clear HGS HPR HFW
      go_wp2
      go_ret
      exact ⟨ret_bool (by rw [HP.out,HF.out]; rfl),hxw.tr (by (repeat first | exact Ex0 | assumption | refine Ex1 ?_ | refine Ex2 ?_ | refine Ex3 ?_ | refine Ex4 ?_ | refine Ex5 ?_))⟩
     | true =>
     have HGS2:=Lib.hid (fun d' hd hn=>HGS.out d' rfl hd hn)
     clear HGS
     have hfew:=HFW.out rfl
     clear HAN HFW CSi
     iterate 7 go_step
     refine (fun (h:∀ W9,Ext wr W9 → Code.wp _ _ _ _ W9)=>h _ (by (repeat first | exact Ex0 | assumption | refine Ex1 ?_ | refine Ex2 ?_ | refine Ex3 ?_ | refine Ex4 ?_ | refine Ex5 ?_))) ?_
     intro W9 hx9
     clear hx2
     have HM:=Lib.hid (HM.out.ext hx9)
     have hxw9:=hxw.tr hx9
     have q5:=HQ5.out _ hx9
     have m1:=HROW.out _ hxw9 1 _ rfl
     have HG0:=Lib.hid HG.out.nd
     have hfw:=HG.out.few
     clear HG
     obtain ⟨df,hdf⟩:∃ b,b=y.1.dflt:=⟨_,rfl⟩
     rw [← hdf] at m1 HGS2
     obtain ⟨d',hd'⟩:∃ x,x=d + (if df then 1 else 0):=⟨_,rfl⟩
     have HGS3:=Lib.hid (fun hn=>HGS2.out d' hd' hn)
     clear HGS2
     clear hdf
     go_cut [5] (fun v5 wx=>v5=.int .i64 (d':Int)∧wx=W9)
     case first =>
      cases df with
      | false =>
       go_wp2_with fail
       go_meet
       exact ⟨by rw [hd']; simp,rfl⟩
      | true =>
       go_wp2_with fail
       go_meet
       exact ⟨by rw [hd']; simp,rfl⟩
     case rest =>
      obtain ⟨rfl,rfl⟩:=hcut
      have hdk':d' ≤ k + 1:=by rw [hd']; split <;> omega
      clear hd' q5 m1 hdd HQ5 hx9 hxm hx0r hxw hxw9
      have hnn:=names_len (nmS S k) y.1.names
      go_wp2
      go_loopw [6,8] (fun v6 v8 wx=>∃ (j n' cc':Nat) (A':Option Addr),v6=.slice A' n' cc'∧v8=.int .i64 (j:Int)∧j ≤ y.1.names.length∧Hid (NdJ S k y.1.names j)∧Hid (MemN W1 wx A' n' cc' (nmS S k ++ y.1.names.take j))) (fun _ v8 _=>y.1.names.length - (intOf v8).toNat)
      case atStart=>exact ⟨0,n,cc,A,rfl,rfl,Nat.zero_le _,Lib.hid (by unfold NdJ; simpa using HG0.out),Lib.hid (by simpa using HM.out)⟩
      case round =>
       clear HM hnl
       obtain ⟨j,n',cc',A',rfl,rfl,hj,HJ,HM⟩:=hrel
       have hxm:=HM.out.toExt
       have hx0r:=hx1.tr hxm
       have hxw:=hx0.tr hx0r
       have q5:=hcl.out _ hx0r 5 _ rfl
       rw [HB.out] at q5
       have m0:wr.cell? ⟨bs,gs + k * 3,none⟩=some (.slice y.2.1.1 y.1.names.length y.2.1.2):=HROW.out _ hxw 0 _ rfl
       have hnl:n' ≤ 1100:=by
        have h1:=HM.out.1
        have h2:=hnn j
        omega
       by_cases hjt:j < y.1.names.length
       ·obtain ⟨bn,gn,hBn,_,hc⟩:=(show Rd wr y.2.1.1 (y.1.names.flatMap fun x=>[.string (str x)]) by rw [← strC_fm]; exact HNR.out _ hxw).row (sz:=1) (fun _=>rfl) (by omega) hjt
        have t0:wr.cell? ⟨bn,gn + j,none⟩=some (.string (str y.1.names[j])):=by have:=hc 0 _ rfl; simpa using this
        have j0:(0:Int) ≤ (j:Int):=by omega
        have j1:(j:Int) < (y.1.names.length:Int):=by omega
        have hkj:IntKind.i64.wrap ((j:Int) + 1)=((j + 1:Nat):Int):=by rw [IntKind.wrap_i64]; omega
        have HJS:=Lib.hid (fun hd=>HJ.out.succ hjt hd)
        have HPJ:=Lib.hid (HPR.out j hjt)
        have HTK:Hid (nmS S k ++ y.1.names.take (j + 1)=(nmS S k ++ y.1.names.take j) ++ [y.1.names[j]]):=Lib.hid (by rw [List.take_succ_eq_append_getElem hjt,List.append_assoc])
        rw [hBn] at m0
        obtain ⟨tn,htn⟩:∃ z,z=y.1.names[j]:=⟨_,rfl⟩
        rw [← htn] at t0 HJS HPJ HTK
        obtain ⟨ns,hns⟩:∃ z,z=nmS S k ++ y.1.names.take j:=⟨_,rfl⟩
        have HPJ:Hid ((S.flatMap fun x=>x.1.names).Nodup → (ns ++ [tn]).Nodup):=Lib.hid (by rw [hns]; exact HPJ.out)
        rw [← hns] at HJS HM HTK
        obtain ⟨ts,hts⟩:∃ z,z=str tn:=⟨_,rfl⟩
        rw [← hts] at t0
        have HTS:=Lib.hid hts
        clear hc hts htn hns
        have hlen:=HM.out.1
        have HLN:=Lib.hid hlen
        go_upto_region 26 with (fail)
        clear q5 m0 t0 hlen
        go_wp2
        refine (fun (h:∀ W6,W6=wr → Code.wp _ _ _ _ W6)=>h _ rfl) ?_
        intro W6 hW6
        rw [← hW6] at HM hxm hx0r hxw
        clear hW6
        go_loopw [10] (fun v10 wx=>∃ q:Nat,v10=.int .i64 (q:Int)∧q ≤ n'∧Hid (Dif (fun x:List UInt8=>x) ns q tn)∧wx=W6) (fun v10 _=>n' - (intOf v10).toNat)
        case atStart=>exact ⟨0,rfl,Nat.zero_le _,Lib.hid (Dif.zero _ _ _),rfl⟩
        case round =>
         obtain ⟨q,rfl,hq,HD,rfl⟩:=hrel
         obtain ⟨hl6,o6,hs6,hn6,st6⟩:=HM.out
         have HS6:=Lib.hid hs6
         have HT6:=Lib.hid st6
         clear hl6 hs6 st6
         by_cases hqt:q < n'
         ·have hqn:q < ns.length:=by have:=HLN.out; omega
          obtain ⟨ba,ga,hBa,_,hc⟩:=(show Rd wr A' (ns.flatMap fun x=>[.string (str x)]) by rw [← strC_fm]; exact HS6.out.rd).row (sz:=1) (fun _=>rfl) (by omega) hqn
          have u0:wr.cell? ⟨ba,ga + q,none⟩=some (.string (str ns[q])):=by have:=hc 0 _ rfl; simpa using this
          have q0:(0:Int) ≤ (q:Int):=by omega
          have q1:(q:Int) < (n':Int):=by omega
          have hqj:IntKind.i64.wrap ((q:Int) + 1)=((q + 1:Nat):Int):=by rw [IntKind.wrap_i64]; omega
          have HDS:Hid (ns[q] ≠ tn → Dif (fun x:List UInt8=>x) ns (q + 1) tn):=Lib.hid (fun h=>HD.out.succ hqn h)
          have HNO:Hid (ns[q]=tn → ¬ (ns ++ [tn]).Nodup):=Lib.hid (fun h=>not_one hqn h)
          obtain ⟨yq,hyq⟩:∃ z,z=ns[q]:=⟨_,rfl⟩
          rw [← hyq] at u0 HDS HNO
          obtain ⟨sq,hsq⟩:∃ z,z=str yq:=⟨_,rfl⟩
          rw [← hsq] at u0
          subst hBa
          clear hc hyq
          by_cases he:yq=tn
          ·have HF:=Lib.hid (fun h=>HNO.out he (HPJ.out h))
           obtain rfl:ts=sq:=by rw [hsq,HTS.out,he]
           clear hsq he
           go_wp2
           go_ret
           exact ⟨ret_bool (by rw [HP.out,decide_eq_false HF.out]; simp),hxw⟩
          ·have g1:¬ sq.toList=ts.toList:=by rw [hsq,HTS.out,str_tl,str_tl]; exact he
           have g2:(sq.toList == ts.toList)=false:=beq_eq_false_iff_ne.2 g1
           have HDT:=Lib.hid (HDS.out he)
           clear hsq he
           go_wp2
           go_roundw
           case rel=>first | exact ⟨q + 1,by simp,by omega,HDT,rfl⟩ | exact ⟨q + 1,by simp,by omega,HDT,trivial⟩ | exact ⟨q + 1,by simp,by omega,HDT⟩
           case measure=>simp [intOf]; omega
         ·have q1:¬ (q:Int) < (n':Int):=by omega
          have hqe:q=n':=by omega
          subst hqe
          have HJN:=Lib.hid (HJS.out (by rw [← HLN.out]; exact HD.out))
          clear HJS
          go_wp2_with (at_builtin; refine wpL_put slt_strH (.tmp 133) (.tmp 135) rfl rfl rfl rfl (HS6.out.ext (by (repeat first | exact Ex0 | assumption | refine Ex1 ?_ | refine Ex2 ?_ | refine Ex3 ?_ | refine Ex4 ?_ | refine Ex5 ?_))) hn6 (Sl.src Tryz.underlying55 (n:=1) (rd_newV wr _ rfl #[.string ts] 9) (by simp) (by omega) (by simp [Value.oneCell']) _) (by omega) (by simp only [maxLen]; omega) ?_; intro A7 c7 w7 o7 hs7 st7 hn7; have ST7:Hid (Stp (fun i=>i=1) W1 (fun _=>0) w7 o7):=Lib.hid (HT6.out.tr ((Stp.ext (by (repeat first | exact Ex0 | assumption | refine Ex1 ?_ | refine Ex2 ?_ | refine Ex3 ?_ | refine Ex4 ?_ | refine Ex5 ?_))).tr st7)); have HS7:=Lib.hid hs7; clear hs7 st7)
          go_roundw
          case rel =>
           refine ⟨j + 1,q + 1,c7,A7,rfl,by simp,by omega,HJN,Lib.hid ⟨?_,o7,?_,hn7,ST7.out⟩⟩
           ·rw [HTK.out,List.length_append,← HLN.out]; rfl
           ·rw [HTK.out,strC_app]
            have e:strC [tn]=[.string ts]:=by rw [HTS.out]; rfl
            rw [e]
            exact HS7.out
          case measure=>simp [intOf]; omega
       ·have j1:¬ (j:Int) < (y.1.names.length:Int):=by omega
        have htj:y.1.names.take j=y.1.names:=List.take_of_length_le (by omega)
        have HGK:Hid (GdS c.ups S (k + 1) d'):=Lib.hid (HGS3.out (by have:=HJ.out; unfold NdJ at this; rwa [htj] at this))
        have HMK:Hid (MemN W1 wr A' n' cc' (nmS S (k + 1))):=Lib.hid (by
         have:=HM.out
         rw [htj] at this
         have e:=names_take S k hlt
         rw [show nmS S (k + 1)=nmS S k ++ S[k].1.names from e,← HYK.out]
         exact this)
        clear HJ HM htj
        go_wp2
        go_roundw
        case rel =>
         exact ⟨k + 1,d',n',cc',A',rfl,rfl,by simp,by omega,HGK,HMK⟩
        case measure=>simp [intOf]; omega
    ·have i1:¬ (k:Int) < (S.length:Int):=by omega
     have htk:S.take k=S:=List.take_of_length_le (by omega)
     have h1:=HG.out.ok
     have h2:=HG.out.nd
     have h3:=HG.out.dl
     unfold nmS at h2
     rw [htk] at h1 h2 h3
     have HQ:Hid (G=decide (d ≤ 1)):=Lib.hid (by rw [HP.out,h1,decide_eq_true h2,← h3]; simp)
     have hdd:decide ((d:Int) ≤ 1)=decide (d ≤ 1):=by
      by_cases h:d ≤ 1
      ·rw [decide_eq_true h,decide_eq_true (by omega)]
      ·rw [decide_eq_false h,decide_eq_false (by omega)]
     clear h1 h2 h3 htk HG HM
     go_wp2
     go_ret
     exact ⟨ret_bool (by first | (rw [HQ.out]; done) | (rw [HQ.out]; exact hdd)),hxw⟩
end Go.Proofs.YtmnohicojefhfaaGreatDoor
end
