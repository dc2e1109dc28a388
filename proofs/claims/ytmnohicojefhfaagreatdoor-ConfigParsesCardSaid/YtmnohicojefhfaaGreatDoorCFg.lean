/-
Directives that append: laws, sizes.
-/
import Derived.Test.YtmnohicojefhfaaGreatDoorCFe
import Derived.Test.YtmnohicojefhfaaGreatDoorCFh
import Derived.BigRegion
set_option maxRecDepth 100000
set_option maxHeartbeats 8000000
set_option linter.unusedVariables false
set_option linter.unusedSimpArgs false
section
namespace Go.Proofs.YtmnohicojefhfaaGreatDoor
open Go.RowKit
theorem step_call {P:Program} {ops:Array Oper} {o:Oper} {a:Act} {K:Act → World → Prop} {Q:Exit → Act → World → Prop} {E:Prop} (x:Operand) {f:FuncId} {tx:TypeId}
  (ho:o.op=.call { callee:=.value (.func f),args:=#[x],argTypes:=#[tx] }) (hgd:o.guard=none) {xv v:Value} {w:World} (hx:a.eval x=xv) (hcf:(callFunc f #[xv]).run P w=.ok (.enter f #[xv]) w) (hC:Calls P f #[xv] w (Gives v w)) (h:∀ w',Ext w w' → K (a.put o.dst v) w'):if Region.wanted o (yielded ops a.tmps)=true then Oper.wp P o a w K Q else E:=by
 have hw:Region.wanted o (yielded ops a.tmps)=true:=by simp [Region.wanted,hgd]
 rw [if_pos hw]
 have hr:(execOp a.eval o).run P w=.ok (.enter f #[xv]) w:=by
  have hf:a.eval (.func f)=.func (.func f) #[] #[]:=rfl
  simp only [execOp,ho,resolve,Deferred.ofValue,hf,List.map_toArray,List.map_cons,List.map_nil,hx]
  have e:(do let d ← (pure { target:=Target.fn (Fn.func f) #[],args:=#[] ++ #[xv] }:Sem Deferred); invoke d.target d.args:Sem Next).run P w=(callFunc f #[xv]).run P w:=by simp [invoke,go_sem]
  exact e.trans hcf
 unfold Oper.wp
 rw [hr,Oper.upon_enter]
 refine hC.mono ?_
 rintro e w' ⟨rfl,he⟩
 exact h w' he
theorem step_put {P:Program} {t e:TypeId} {z:Value} {size bytes:Nat} (hT:SlT P t e z size bytes) {ops:Array Oper} {o:Oper} {a:Act} {K:Act → World → Prop} {Q:Exit → Act → World → Prop} {E:Prop} (s x:Operand) {tx:TypeId}
  (ho:o.op=.call { callee:=.builtin .append,args:=#[s,x],argTypes:=#[t,tx] }) (hgd:o.guard=none) {w:World} {ow:Ow} {k n c m:Nat} {A:Option Addr} {xs news:List Value} {xv:Value} (hs:a.eval s=.slice A n c) (hx:a.eval x=xv)
  (hsl:Sl w ow k size A n c xs) (hna:A=none → c=0) (src:Src P size tx xv m news w) (hbytes:(n + m) * bytes ≤ 140737488355328) (h63:n + m ≤ maxLen)
  (h:∀ A' c' w' o',Sl w' o' k size A' (n + m) c' (xs ++ news) → Stp (fun i=>i=k) w ow w' o' → (A'=none → c'=0) → K (a.put o.dst (.slice A' (n + m) c')) w'):if Region.wanted o (yielded ops a.tmps)=true then Oper.wp P o a w K Q else E:=by
 obtain ⟨A',c',w',o',hr,h1,h2,h3⟩:=run_put hT o.type hsl hna src hbytes h63
 exact step_run s x ho hgd hs hx hr (h A' c' w' o' h1 (h2.mono fun i hi=>hi.2) h3)
theorem enter_server (x:Value) (w:World):(callFunc 99 #[x]).run Tryz.prog w=.ok (.enter 99 #[x]) w:=by kernel_rfl
theorem enter_up (x:Value) (w:World):(callFunc 94 #[x]).run Tryz.prog w=.ok (.enter 94 #[x]) w:=by kernel_rfl
theorem rd_newV (w:World) (g:Nat) (hg:w.heap.size=g) (cs:Array Value) (t:TypeId):Rd (w.alloc (.cells cs t)) (some ⟨g,0,none⟩) cs.toList:=by
 subst hg
 exact .inr ⟨_,0,rfl,fun j u hu=>by have:=new_cells w cs t j u hu; rw [add_mk] at this; exact this⟩
theorem slt_up:SlT Tryz.prog 22 73 (.agg #[.string ⟨#[]⟩,.slice none 0 0,.int .i64 0,.int .i64 0]) 4 56:=⟨Tryz.underlying22,by kernel_rfl,rfl,by omega⟩
theorem slt_sr:SlT Tryz.prog 23 78 (.agg #[.slice none 0 0,.bool false,.slice none 0 0]) 3 56:=⟨Tryz.underlying23,by kernel_rfl,rfl,by omega⟩
theorem slt_pe:SlT Tryz.prog 71 75 (.agg #[.int .i64 0,.int .i64 0]) 2 16:=⟨Tryz.underlying71,by kernel_rfl,rfl,by omega⟩
theorem slt_lo:SlT Tryz.prog 76 81 (.agg #[.string ⟨#[]⟩,.int .i64 0,.string ⟨#[]⟩,.string ⟨#[]⟩,.int .i64 0,.int .i64 0,.string ⟨#[]⟩,.bool false,.int .i64 0,.int .i64 0,.int .i64 0,.string ⟨#[]⟩]) 12 136:=⟨Tryz.underlying76,by kernel_rfl,rfl,by omega⟩
end Go.Proofs.YtmnohicojefhfaaGreatDoor
end
section
namespace Go.Proofs.YtmnohicojefhfaaGreatDoor
open Go.RowKit
theorem upstream_c (w:World) (o:Ow) (p line:Nat) (c:Cf14) (h:CfAt w o p c line) (hM:CfB 1048576 c) (s:List UInt8) (A:Option Addr) (ac:Nat) (hr:Rd w A (strC [s])) :
  Calls Tryz.prog 92 #[.pointer (some ⟨p,0,none⟩),.slice A 1 ac] w (DoQ w o p line (doD .upstream [s] c)):=by
 obtain ⟨U,UA,uc,S,SA,sc,h⟩:=h
 obtain ⟨bA,gA,rfl,kA⟩:∃ b g,A=some ⟨b,g,none⟩∧w.cell? ⟨b,g,none⟩=some (.string (str s)):=by
  rcases hr with h | ⟨b,g,hA,hc⟩
  ·cases h
  ·exact ⟨b,g,hA,hc 0 _ rfl⟩
 have FA:=Lib.hid (fun (w':World) (e:Ext w w')=>(e.cell (p:=⟨bA,gA,none⟩) (lt_of_cell kA)).trans kA)
 clear hr kA
 have hub:=hM.ups
 obtain ⟨A5,c5,w5,o5,hr5,hs5,st5,hn5⟩:=run_put slt_up (tx:=22) 22 (w:=(w.alloc (.cells #[.string (str s),.slice none 0 0,.int .i64 10,.int .i64 1] 73)).drew) (o:=o) (h.ups.ext (by (repeat first | exact Ex0 | assumption | refine Ex1 ?_ | refine Ex2 ?_ | refine Ex3 ?_ | refine Ex4 ?_ | refine Ex5 ?_))) h.una (Sl.src Tryz.underlying22 (n:=1) ((rd_newV w _ rfl #[.string (str s),.slice none 0 0,.int .i64 10,.int .i64 1] 73).ext (by (repeat first | exact Ex0 | assumption | refine Ex1 ?_ | refine Ex2 ?_ | refine Ex3 ?_ | refine Ex4 ?_ | refine Ex5 ?_))) (by simp) (by omega) (by simp [Value.oneCell']) 1) (by omega) (by simp only [maxLen]; omega)
 have st5':Stp (fun i=>i=2) w o w5 o5:=(Stp.ext (by (repeat first | exact Ex0 | assumption | refine Ex1 ?_ | refine Ex2 ?_ | refine Ex3 ?_ | refine Ex4 ?_ | refine Ex5 ?_))).tr (st5.mono fun i hi=>hi.2)
 have hN:=h.upN st5' ⟨s,[],10,1⟩ rfl hs5 hn5
 have HT:=Lib.hid (DoQ.yes (p:=p) (line:=line) (r:=doD .upstream [s] c) (c:={ c with ups:=c.ups ++ [⟨s,[],10,1⟩] }) rfl hN.2 ⟨_,_,_,_,_,_,hN.1⟩)
 have r5:=Lib.hid ((st5'.keep p h.lt (by rw [h.own]; omega)).trans h.row)
 have q5:w5.cell? ⟨p,4,none⟩=some (.slice UA c.ups.length uc):=(row_facts r5.out 4 _ rfl).1
 have f5:=(row_facts r5.out 4 _ rfl).2
 have q0:=h.c4
 have qA:(w.alloc (.cells #[.string (str s),.slice none 0 0,.int .i64 10,.int .i64 1] 73)).cell? ⟨p,4,none⟩=some (.slice UA c.ups.length uc):=(h.ext (by (repeat first | exact Ex0 | assumption | refine Ex1 ?_ | refine Ex2 ?_ | refine Ex3 ?_ | refine Ex4 ?_ | refine Ex5 ?_))).c4
 have k0:=FA.out w (Ext.rfl' w)
 have kA:=FA.out (w.alloc (.cells #[.string (str s),.slice none 0 0,.int .i64 10,.int .i64 1] 73)) (by (repeat first | exact Ex0 | assumption | refine Ex1 ?_ | refine Ex2 ?_ | refine Ex3 ?_ | refine Ex4 ?_ | refine Ex5 ?_))
 obtain ⟨n,hn⟩:∃ n,n=c.ups.length:=⟨_,rfl⟩
 obtain ⟨sv,hsv⟩:∃ v,v=str s:=⟨_,rfl⟩
 rw [← hn] at hr5 HT q5 q0 qA
 rw [← hsv] at hr5 k0 qA kA
 clear hn hsv hN st5' hs5 st5 hub FA h
 go_enter Tryz.func92,Tryz.ntmps92
 go_region_law (first
  | (refine step_run (.tmp 9) (.tmp 14) rfl rfl rfl rfl hr5 ?_))
 all_goals go_end0
 all_goals exact HT.out
theorem server_c (w:World) (o:Ow) (p line:Nat) (c:Cf14) (h:CfAt w o p c line) (hM:CfB 1048576 c) (B:Value) :
  Calls Tryz.prog 97 #[.pointer (some ⟨p,0,none⟩),B] w (DoQ w o p line (doD .server [] c)):=by
 obtain ⟨U,UA,uc,S,SA,sc,h⟩:=h
 have hub:=hM.srvs
 have HC:=Lib.hid h
 have q0:=h.c5
 obtain ⟨n,hn⟩:∃ n,n=c.srvs.length:=⟨_,rfl⟩
 rw [← hn] at q0 hub
 have HN:=Lib.hid hn
 clear hn h
 go_enter Tryz.func97,Tryz.ntmps97
 go_wp2_with (first
  | (at_builtin; refine wpL_put slt_sr (.tmp 9) (.tmp 11) rfl rfl rfl rfl (by rw [HN.out]; exact HC.out.srvs.ext (by (repeat first | exact Ex0 | assumption | refine Ex1 ?_ | refine Ex2 ?_ | refine Ex3 ?_ | refine Ex4 ?_ | refine Ex5 ?_))) HC.out.sna (Sl.src Tryz.underlying23 (n:=1) (rd_newV w _ rfl #[.slice none 0 0,.bool false,.slice none 0 0] 78) (by simp) (by omega) (by simp [Value.oneCell']) _) (by omega) (by simp only [maxLen]; omega) ?_; intro A5 c5 w5 o5 hs5 st5 hn5; have st5':Stp (fun i=>i=3) w o w5 o5:=(Stp.ext (by (repeat first | exact Ex0 | assumption | refine Ex1 ?_ | refine Ex2 ?_ | refine Ex3 ?_ | refine Ex4 ?_ | refine Ex5 ?_))).tr st5; have hT:=HC.out.srN st5' (by rw [← HN.out]; exact hs5) hn5; have HT:=Lib.hid (DoQ.yes (p:=p) (line:=line) (r:=doD .server [] c) (c:={ c with srvs:=c.srvs ++ [⟨[],false,[]⟩] }) rfl hT.2 ⟨_,_,_,_,_,_,hT.1⟩); rw [← HN.out] at HT; have r5:=Lib.hid ((st5'.keep p HC.out.lt (by rw [HC.out.own]; omega)).trans HC.out.row); have q5:w5.cell? ⟨p,5,none⟩=some (.slice SA c.srvs.length sc):=(row_facts r5.out 5 _ rfl).1; have f5:=(row_facts r5.out 5 _ rfl).2; clear hT st5' hs5 st5))
 go_end0
 exact HT.out
end Go.Proofs.YtmnohicojefhfaaGreatDoor
end
section
namespace Go.Proofs.YtmnohicojefhfaaGreatDoor
open Go.RowKit
theorem name_c (w:World) (o:Ow) (p line:Nat) (c:Cf14) (h:CfAt w o p c line) (hne:c.srvs ≠ []) (hM:CfB 1048576 c) (a:List (List UInt8)) (m:Nat) (ha:m=a.length) (hml:m ≤ 65536) (A:Option Addr) (ac:Nat) (hr:Rd w A (strC a)) :
  Calls Tryz.prog 98 #[.pointer (some ⟨p,0,none⟩),.slice A m ac] w (DoQ w o p line (doD .name a c)):=by
 obtain ⟨U,UA,uc,S,SA,sc,h⟩:=h
 obtain ⟨b,x,g,f,rfl,rfl,hl,hcs,hg,hce⟩:=h.srX hne
 have h5:=h.c5
 rw [hl] at h5
 have hm:b.length < 1099511627776:=by have:=hM.srvs; omega
 have CS:=Lib.hid (fun (w':World) (e:Ext w w')=>cserver_c p g f b.length sc w' hm ((e.cell (lt_of_cell h5)).trans h5))
 obtain ⟨F,hF⟩:∃ F,F=f + b.length * 3:=⟨_,rfl⟩
 rw [← hF] at CS hce
 have og:o g=3:=by
  obtain ⟨g',f',hA',ho,_⟩:=h.srvs.cells (by omega)
  cases hA'; exact ho
 have hnb:x.1.names.length ≤ 1048576:=hM.names x.1 (by rw [hcs]; simp)
 have q0:=hce 0 _ rfl
 have hn:=(list_one h.names).2
 have hlo:=(list_one h.locs).2
 have HC:=Lib.hid h
 have HN:=Lib.hid hn
 have HLO:=Lib.hid hlo
 have HCS:=Lib.hid hcs
 have HF:=Lib.hid hF
 have HA:=Lib.hid ha
 have HR:=Lib.hid hr
 have OG:=Lib.hid og
 have hone:∀ u ∈ strC a,u.oneCell'=true:=by
  intro u hu
  obtain ⟨y,_,rfl⟩:=List.mem_map.1 hu
  rfl
 have HONE:=Lib.hid hone
 have FQ:=Lib.hid (fun (w':World) (e:Ext w w')=>(e.cell (p:=⟨g,F + 0,none⟩) hg).trans q0.1)
 have FZ:=Lib.hid q0.2
 clear hn hlo h hcs hF ha hr hone og hce h5 hl q0
 go_enter Tryz.func98,Tryz.ntmps98
 go_wp2_with (first
  | (go_at_call 99; refine (CS.out _ (by (repeat first | exact Ex0 | assumption | refine Ex1 ?_ | refine Ex2 ?_ | refine Ex3 ?_ | refine Ex4 ?_ | refine Ex5 ?_))).mono ?_; rintro e w1 ⟨rfl,hx1⟩; have q1:=FQ.out w1 (by (repeat first | exact Ex0 | assumption | refine Ex1 ?_ | refine Ex2 ?_ | refine Ex3 ?_ | refine Ex4 ?_ | refine Ex5 ?_)); rw [Nat.add_zero] at q1)
  | (at_builtin; refine wpL_put slt_str14 (.tmp 10) (.tmp 11) rfl rfl rfl rfl (HN.out.1.ext (by (repeat first | exact Ex0 | assumption | refine Ex1 ?_ | refine Ex2 ?_ | refine Ex3 ?_ | refine Ex4 ?_ | refine Ex5 ?_))) HN.out.2 (Sl.src Tryz.underlying55 (HR.out.ext (by (repeat first | exact Ex0 | assumption | refine Ex1 ?_ | refine Ex2 ?_ | refine Ex3 ?_ | refine Ex4 ?_ | refine Ex5 ?_))) (by rw [HA.out]; simp [strC]) (by omega) HONE.out ac) (by omega) (by simp only [maxLen]; omega) ?_; intro A5 c5 w5 o5 hs5 st5 hn5; have st5':Stp (fun i=>i=11 + 3 * b.length) w o w5 o5:=(Stp.ext (by (repeat first | exact Ex0 | assumption | refine Ex1 ?_ | refine Ex2 ?_ | refine Ex3 ?_ | refine Ex4 ?_ | refine Ex5 ?_))).tr st5; have hT:=HC.out.sr5 (st5'.mono fun i hi=>.inl hi) ({ x.1 with names:=x.1.names ++ a },((A5,c5),x.2.2)) ⟨by rw [List.length_append,← HA.out]; simpa [strC] using hs5,hn5⟩ ⟨HLO.out.1.stp st5' (by omega),HLO.out.2⟩ 0 (by omega) (.slice A5 (x.1.names.length + m) c5) (by simp [srV,HA.out]); have HT:=Lib.hid (DoQ.yes (p:=p) (line:=line) (r:=doD .name a c) (c:=cfSr c fun s=>{ s with names:=s.names ++ a }) rfl hT.2 ⟨_,_,_,_,_,_,by rw [cfSr_eq HCS.out _ ((A5,c5),x.2.2)]; exact hT.1⟩); rw [← Nat.add_assoc,← HF.out,Nat.add_zero] at HT; have q5:=st5'.cell (a:=⟨g,F + 0,none⟩) (by show ¬ (o g=_); rw [OG.out]; omega) (FQ.out w (Ext.rfl' w)); have f5:=(st5'.frozen (a:=⟨g,F + 0,none⟩) hg (by show ¬ (o g=_); rw [OG.out]; omega)).trans FZ.out; rw [Nat.add_zero] at q5 f5; clear hT st5' hs5 st5))
 go_end0
 exact HT.out
theorem location_c (w:World) (o:Ow) (p line:Nat) (c:Cf14) (h:CfAt w o p c line) (hne:c.srvs ≠ []) (hM:CfB 1048576 c) (s:List UInt8) (A:Option Addr) (ac:Nat) (hr:Rd w A (strC [s])) :
  Calls Tryz.prog 101 #[.pointer (some ⟨p,0,none⟩),.slice A 1 ac] w (DoQ w o p line (doD .location [s] c)):=by
 obtain ⟨U,UA,uc,S,SA,sc,h⟩:=h
 obtain ⟨b,x,g,f,rfl,rfl,hl,hcs,hg,hce⟩:=h.srX hne
 have h5:=h.c5
 rw [hl] at h5
 have hm:b.length < 1099511627776:=by have:=hM.srvs; omega
 have CS:=Lib.hid (fun (w':World) (e:Ext w w')=>cserver_c p g f b.length sc w' hm ((e.cell (lt_of_cell h5)).trans h5))
 obtain ⟨F,hF⟩:∃ F,F=f + b.length * 3:=⟨_,rfl⟩
 rw [← hF] at CS hce
 have og:o g=3:=by
  obtain ⟨g',f',hA',ho,_⟩:=h.srvs.cells (by omega)
  cases hA'; exact ho
 obtain ⟨bA,gA,rfl,kA⟩:∃ b g,A=some ⟨b,g,none⟩∧w.cell? ⟨b,g,none⟩=some (.string (str s)):=by
  rcases hr with h | ⟨b,g,hA,hc⟩
  ·cases h
  ·exact ⟨b,g,hA,hc 0 _ rfl⟩
 have FA:=Lib.hid (fun (w':World) (e:Ext w w')=>(e.cell (p:=⟨bA,gA,none⟩) (lt_of_cell kA)).trans kA)
 have hnb:x.1.locs.length ≤ 1048576:=hM.locs x.1 (by rw [hcs]; simp)
 have q0:=hce 2 _ rfl
 have HC:=Lib.hid h
 have HN:=Lib.hid (list_one h.names).2
 have HLO:=Lib.hid (list_one h.locs).2
 have HCS:=Lib.hid hcs
 have HF:=Lib.hid hF
 have OG:=Lib.hid og
 have FQ:=Lib.hid (fun (w':World) (e:Ext w w')=>(e.cell (p:=⟨g,F + 2,none⟩) hg).trans q0.1)
 have FZ:=Lib.hid q0.2
 clear h hcs hF hr kA og hce h5 hl q0
 have k0:=FA.out w (Ext.rfl' w)
 obtain ⟨sv,hsv⟩:∃ v,v=str s:=⟨_,rfl⟩
 have HSV:=Lib.hid hsv
 rw [← hsv] at k0 FA
 clear hsv
 go_enter Tryz.func101,Tryz.ntmps101
 go_region_law (first
  | (refine step_call (.tmp 4) rfl rfl rfl (enter_server _ _) (CS.out _ (by (repeat first | exact Ex0 | assumption | refine Ex1 ?_ | refine Ex2 ?_ | refine Ex3 ?_ | refine Ex4 ?_ | refine Ex5 ?_))) ?_; intro w1 hx1; have k1:=FA.out w1 (by (repeat first | exact Ex0 | assumption | refine Ex1 ?_ | refine Ex2 ?_ | refine Ex3 ?_ | refine Ex4 ?_ | refine Ex5 ?_)); have q1:=FQ.out w1 (by (repeat first | exact Ex0 | assumption | refine Ex1 ?_ | refine Ex2 ?_ | refine Ex3 ?_ | refine Ex4 ?_ | refine Ex5 ?_)))
  | (refine step_call (.tmp 6) rfl rfl rfl (enter_server _ _) (CS.out _ (by (repeat first | exact Ex0 | assumption | refine Ex1 ?_ | refine Ex2 ?_ | refine Ex3 ?_ | refine Ex4 ?_ | refine Ex5 ?_))) ?_; intro w2 hx2; have k2:=FA.out w2 (by (repeat first | exact Ex0 | assumption | refine Ex1 ?_ | refine Ex2 ?_ | refine Ex3 ?_ | refine Ex4 ?_ | refine Ex5 ?_)); have q2:=FQ.out w2 (by (repeat first | exact Ex0 | assumption | refine Ex1 ?_ | refine Ex2 ?_ | refine Ex3 ?_ | refine Ex4 ?_ | refine Ex5 ?_)); have q3:=FQ.out (w2.alloc (.cells #[.string sv,.int .i64 0,.string ⟨#[]⟩,.string ⟨#[]⟩,.int .i64 0,.int .i64 0,.string ⟨#[]⟩,.bool false,.int .i64 0,.int .i64 0,.int .i64 0,.string ⟨#[]⟩] 81)) (by (repeat first | exact Ex0 | assumption | refine Ex1 ?_ | refine Ex2 ?_ | refine Ex3 ?_ | refine Ex4 ?_ | refine Ex5 ?_)))
  | (refine step_put slt_lo (.tmp 10) (.tmp 15) rfl rfl rfl rfl (HLO.out.1.ext (by (repeat first | exact Ex0 | assumption | refine Ex1 ?_ | refine Ex2 ?_ | refine Ex3 ?_ | refine Ex4 ?_ | refine Ex5 ?_))) HLO.out.2 (Sl.src Tryz.underlying76 (n:=1) ((rd_newV _ _ rfl #[.string sv,.int .i64 0,.string ⟨#[]⟩,.string ⟨#[]⟩,.int .i64 0,.int .i64 0,.string ⟨#[]⟩,.bool false,.int .i64 0,.int .i64 0,.int .i64 0,.string ⟨#[]⟩] 81).ext (by (repeat first | exact Ex0 | assumption | refine Ex1 ?_ | refine Ex2 ?_ | refine Ex3 ?_ | refine Ex4 ?_ | refine Ex5 ?_))) (by simp) (by omega) (by simp [Value.oneCell']) 1) (by omega) (by simp only [maxLen]; omega) ?_; intro A5 c5 w5 o5 hs5 st5 hn5; have st5':Stp (fun i=>i=12 + 3 * b.length) w o w5 o5:=(Stp.ext (by (repeat first | exact Ex0 | assumption | refine Ex1 ?_ | refine Ex2 ?_ | refine Ex3 ?_ | refine Ex4 ?_ | refine Ex5 ?_))).tr st5; have hT:=HC.out.sr5 (st5'.mono fun i hi=>.inr hi) ({ x.1 with locs:=x.1.locs ++ [{ lo0 with pre:=s }] },(x.2.1,(A5,c5))) ⟨HN.out.1.stp st5' (by omega),HN.out.2⟩ ⟨by rw [HSV.out] at hs5; rw [List.length_append,List.length_singleton,List.flatMap_append]; exact hs5,hn5⟩ 2 (by omega) (.slice A5 (x.1.locs.length + 1) c5) (by simp [srV]); have HT:=Lib.hid (DoQ.yes (p:=p) (line:=line) (r:=doD .location [s] c) (c:=cfSr c fun s'=>{ s' with locs:=s'.locs ++ [{ lo0 with pre:=s }] }) rfl hT.2 ⟨_,_,_,_,_,_,by rw [cfSr_eq HCS.out _ (x.2.1,(A5,c5))]; exact hT.1⟩); rw [← Nat.add_assoc,← HF.out] at HT; have q5:=st5'.cell (a:=⟨g,F + 2,none⟩) (by show ¬ (o g=_); rw [OG.out]; omega) (FQ.out w (Ext.rfl' w)); have f5:=(st5'.frozen (a:=⟨g,F + 2,none⟩) hg (by show ¬ (o g=_); rw [OG.out]; omega)).trans FZ.out; clear hT st5' hs5 st5))
 all_goals go_end0
 all_goals exact HT.out
end Go.Proofs.YtmnohicojefhfaaGreatDoor
end
section
namespace Go.Proofs.YtmnohicojefhfaaGreatDoor
open Go.RowKit
theorem peer_y1 (w:World) (o:Ow) (p line:Nat) (c:Cf14) (h:CfAt w o p c line) (hE:ErrR w) (hne:c.ups ≠ []) (hM:CfB 1048576 c) (s:List UInt8) (hs:s.length ≤ 65536) (n:Int) (hn:numC s=some n) (A:Option Addr) (ac:Nat) (hr:Rd w A (strC [s])) :
  Calls Tryz.prog 93 #[.pointer (some ⟨p,0,none⟩),.slice A 1 ac] w (DoQ w o p line (doD .peer [s] c)):=by
 obtain ⟨U,UA,uc,S,SA,sc,h⟩:=h
 obtain ⟨b,x,g,f,rfl,rfl,hl,hcs,hg,hce⟩:=h.upX hne
 have h5:=h.c4
 rw [hl] at h5
 have hm:b.length < 1099511627776:=by have:=hM.ups; omega
 have CU:=Lib.hid (fun (w':World) (e:Ext w w')=>cup_c p g f b.length uc w' hm ((e.cell (lt_of_cell h5)).trans h5))
 obtain ⟨F,hF⟩:∃ F,F=f + b.length * 4:=⟨_,rfl⟩
 rw [← hF] at CU hce
 have og:o g=2:=by
  obtain ⟨g',f',hA',ho,_⟩:=h.ups.cells (by omega)
  cases hA'; exact ho
 have hnb:x.1.peers.length ≤ 1048576:=hM.peers x.1 (by rw [hcs]; simp)
 have q0:=hce 1 _ rfl
 have HC:=Lib.hid h
 have HP:=Lib.hid (list_one h.peers).2
 have HCS:=Lib.hid hcs
 have HF:=Lib.hid hF
 have OG:=Lib.hid og
 have FQ:=Lib.hid (fun (w':World) (e:Ext w w')=>(e.cell (p:=⟨g,F + 1,none⟩) hg).trans q0.1)
 have FZ:=Lib.hid q0.2
 obtain ⟨bA,gA,rfl,k0⟩:∃ b g,A=some ⟨b,g,none⟩∧w.cell? ⟨b,g,none⟩=some (.string (str s)):=by
  rcases hr with h | ⟨b,g,hA,hc⟩
  ·cases h
  ·exact ⟨b,g,hA,hc 0 _ rfl⟩
 have CN:=Lib.hid (fun w' (e:Ext w w')=>cnumber_yes p s hs n hn w' (hE.ext e))
 have HD:Hid (doD .peer [s] c=some (cfUp c fun u=>{ u with peers:=u.peers ++ [⟨n,8⟩] })):=Lib.hid (by simp [doD,hn])
 obtain ⟨sv,hsv⟩:∃ v,v=str s:=⟨_,rfl⟩
 rw [← hsv] at k0 CN
 clear hsv hr hE hn hs h hcs hF og hce h5 hl q0
 go_enter Tryz.func93,Tryz.ntmps93
 go_wp2_with (first
  | (go_at_call 57; refine (CN.out _ (by (repeat first | exact Ex0 | assumption | refine Ex1 ?_ | refine Ex2 ?_ | refine Ex3 ?_ | refine Ex4 ?_ | refine Ex5 ?_))).mono ?_; rintro e w1 ⟨rfl,hx1⟩))
 have FB0:Hid (∀ w',Ext (w1.alloc (.cells #[.int .i64 n,.int .i64 8] 75)) w' → (w'.cell? ⟨w1.heap.size,0,none⟩=some (.int .i64 n)∧w'.cell? ⟨w1.heap.size,1,none⟩=some (.int .i64 8))):=Lib.hid (fun w' e=>⟨Ext.new e 0 _ rfl,Ext.new e 1 _ rfl⟩)
 have xW:Ext w (w1.alloc (.cells #[.int .i64 n,.int .i64 8] 75)):=by (repeat first | exact Ex0 | assumption | refine Ex1 ?_ | refine Ex2 ?_ | refine Ex3 ?_ | refine Ex4 ?_ | refine Ex5 ?_)
 obtain ⟨gb,hgb⟩:∃ gb,gb=w1.heap.size:=⟨_,rfl⟩
 rw [← hgb] at FB0 ⊢
 generalize w1.alloc (.cells #[.int .i64 n,.int .i64 8] 75)=W at *
 have FB:=FB0
 have b0:=(FB.out W (Ext.rfl' W)).1
 have d0:=(FB.out W (Ext.rfl' W)).2
 clear hgb
 go_region_law (first
  | (refine step_call (.tmp 20) rfl rfl rfl (enter_up _ _) (CU.out _ (by (repeat first | exact Ex0 | assumption | refine Ex1 ?_ | refine Ex2 ?_ | refine Ex3 ?_ | refine Ex4 ?_ | refine Ex5 ?_))) ?_; intro w3 hx3; have b3:=(FB.out w3 (by (repeat first | exact Ex0 | assumption | refine Ex1 ?_ | refine Ex2 ?_ | refine Ex3 ?_ | refine Ex4 ?_ | refine Ex5 ?_))).1; have d3:=(FB.out w3 (by (repeat first | exact Ex0 | assumption | refine Ex1 ?_ | refine Ex2 ?_ | refine Ex3 ?_ | refine Ex4 ?_ | refine Ex5 ?_))).2; have q3:=FQ.out w3 (by (repeat first | exact Ex0 | assumption | refine Ex1 ?_ | refine Ex2 ?_ | refine Ex3 ?_ | refine Ex4 ?_ | refine Ex5 ?_)))
  | (refine step_call (.tmp 22) rfl rfl rfl (enter_up _ _) (CU.out _ (by (repeat first | exact Ex0 | assumption | refine Ex1 ?_ | refine Ex2 ?_ | refine Ex3 ?_ | refine Ex4 ?_ | refine Ex5 ?_))) ?_; intro w4 hx4; have b4:=(FB.out w4 (by (repeat first | exact Ex0 | assumption | refine Ex1 ?_ | refine Ex2 ?_ | refine Ex3 ?_ | refine Ex4 ?_ | refine Ex5 ?_))).1; have d4:=(FB.out w4 (by (repeat first | exact Ex0 | assumption | refine Ex1 ?_ | refine Ex2 ?_ | refine Ex3 ?_ | refine Ex4 ?_ | refine Ex5 ?_))).2; have q4:=FQ.out w4 (by (repeat first | exact Ex0 | assumption | refine Ex1 ?_ | refine Ex2 ?_ | refine Ex3 ?_ | refine Ex4 ?_ | refine Ex5 ?_)); have q5:=FQ.out (w4.alloc (.cells #[.int .i64 n,.int .i64 8] 75)) (by (repeat first | exact Ex0 | assumption | refine Ex1 ?_ | refine Ex2 ?_ | refine Ex3 ?_ | refine Ex4 ?_ | refine Ex5 ?_)))
  | (refine step_put slt_pe (.tmp 26) (.tmp 28) rfl rfl rfl rfl (HP.out.1.ext (by (repeat first | exact Ex0 | assumption | refine Ex1 ?_ | refine Ex2 ?_ | refine Ex3 ?_ | refine Ex4 ?_ | refine Ex5 ?_))) HP.out.2 (Sl.src Tryz.underlying71 (n:=1) ((rd_newV _ _ rfl #[.int .i64 n,.int .i64 8] 75).ext (by (repeat first | exact Ex0 | assumption | refine Ex1 ?_ | refine Ex2 ?_ | refine Ex3 ?_ | refine Ex4 ?_ | refine Ex5 ?_))) (by simp) (by omega) (by simp [Value.oneCell']) 1) (by omega) (by simp only [maxLen]; omega) ?_; intro A5 c5 w5 o5 hs5 st5 hn5; have st5':Stp (fun i=>i=10 + 3 * b.length) w o w5 o5:=(Stp.ext (by (repeat first | exact Ex0 | assumption | refine Ex1 ?_ | refine Ex2 ?_ | refine Ex3 ?_ | refine Ex4 ?_ | refine Ex5 ?_))).tr st5; have hT:=HC.out.up5 st5' ({ x.1 with peers:=x.1.peers ++ [⟨n,8⟩] },(A5,c5)) ⟨by rw [List.length_append,List.length_singleton,List.flatMap_append]; exact hs5,hn5⟩ 1 (by omega) (.slice A5 (x.1.peers.length + 1) c5) (by simp [upV]); have HT:=Lib.hid (DoQ.yes (p:=p) (line:=line) (r:=(doD .peer [s] c)) (c:=cfUp c fun u=>{ u with peers:=u.peers ++ [⟨n,8⟩] }) HD.out hT.2 ⟨_,_,_,_,_,_,by rw [cfUp_eq HCS.out _ (A5,c5)]; exact hT.1⟩); rw [← Nat.add_assoc,← HF.out] at HT; have q9:=st5'.cell (a:=⟨g,F + 1,none⟩) (by show ¬ (o g=_); rw [OG.out]; omega) (FQ.out w (Ext.rfl' w)); have f9:=(st5'.frozen (a:=⟨g,F + 1,none⟩) hg (by show ¬ (o g=_); rw [OG.out]; omega)).trans FZ.out; clear hT st5' hs5 st5))
 all_goals go_end0
 all_goals exact HT.out
theorem peer_n (w:World) (o:Ow) (p line:Nat) (c:Cf14) (h:CfAt w o p c line) (hE:ErrR w) (s:List UInt8) (r:List (List UInt8)) (hs:s.length ≤ 65536) (hn:numC s=none) (A:Option Addr) (m ac:Nat) (hm0:0 < m) (hr:Rd w A (strC (s :: r))) :
  Calls Tryz.prog 93 #[.pointer (some ⟨p,0,none⟩),.slice A m ac] w (DoQ w o p line (doD .peer (s :: r) c)):=by
 obtain ⟨bA,gA,rfl,k0⟩:∃ b g,A=some ⟨b,g,none⟩∧w.cell? ⟨b,g,none⟩=some (.string (str s)):=by
  rcases hr with h | ⟨b,g,hA,hc⟩
  ·cases h
  ·exact ⟨b,g,hA,hc 0 _ rfl⟩
 have CN:=Lib.hid (fun w' (e:Ext w w')=>cnumber_no p line s hs hn w' (hE.ext e) ((e.cell (p:=⟨p,6,none⟩) (lt_of_cell h.c6)).trans h.c6))
 have HT:=Lib.hid (fun w1 (hx:Ext w w1)=>DoQ.no (o:=o) (p:=p) (line:=line) (r:=doD .peer (s :: r) c) (by simp [doD,hn]) hx)
 obtain ⟨sv,hsv⟩:∃ v,v=str s:=⟨_,rfl⟩
 rw [← hsv] at k0 CN
 have m1:(0:Int) < (m:Int):=by omega
 clear hsv hr hE hn hs h
 go_enter Tryz.func93,Tryz.ntmps93
 go_wp2_with (first
  | (go_at_call 57; refine (CN.out _ (by (repeat first | exact Ex0 | assumption | refine Ex1 ?_ | refine Ex2 ?_ | refine Ex3 ?_ | refine Ex4 ?_ | refine Ex5 ?_))).mono ?_; rintro e w1 ⟨rfl,hx1⟩))
 simp only [bodyPost]
 exact ⟨trivial,HT.out _ (by (repeat first | exact Ex0 | assumption | refine Ex1 ?_ | refine Ex2 ?_ | refine Ex3 ?_ | refine Ex4 ?_ | refine Ex5 ?_))⟩
theorem peer_yn (w:World) (o:Ow) (p line:Nat) (c:Cf14) (h:CfAt w o p c line) (hE:ErrR w) (s t:List UInt8) (hs:s.length ≤ 65536) (ht:t.length ≤ 65536) (n:Int) (hn:numC s=some n) (hm':numC t=none) (A:Option Addr) (ac:Nat) (hr:Rd w A (strC [s,t])) :
  Calls Tryz.prog 93 #[.pointer (some ⟨p,0,none⟩),.slice A 2 ac] w (DoQ w o p line (doD .peer [s,t] c)):=by
 obtain ⟨bA,gA,rfl,k0,k9⟩:∃ b g,A=some ⟨b,g,none⟩∧w.cell? ⟨b,g,none⟩=some (.string (str s))∧w.cell? ⟨b,g + 1,none⟩=some (.string (str t)):=by
  rcases hr with h | ⟨b,g,hA,hc⟩
  ·cases h
  ·exact ⟨b,g,hA,hc 0 _ rfl,hc 1 _ rfl⟩
 have CN:=Lib.hid (fun w' (e:Ext w w')=>cnumber_yes p s hs n hn w' (hE.ext e))
 have CM:=Lib.hid (fun w' (e:Ext w w')=>cnumber_no p line t ht hm' w' (hE.ext e) ((e.cell (p:=⟨p,6,none⟩) (lt_of_cell h.c6)).trans h.c6))
 have HT:=Lib.hid (fun w1 (hx:Ext w w1)=>DoQ.no (o:=o) (p:=p) (line:=line) (r:=doD .peer [s,t] c) (by simp [doD,hn,hm']) hx)
 obtain ⟨sv,hsv⟩:∃ v,v=str s:=⟨_,rfl⟩
 obtain ⟨tv,htv⟩:∃ v,v=str t:=⟨_,rfl⟩
 rw [← hsv] at k0 CN
 rw [← htv] at k9 CM
 have FT:=Lib.hid (fun w' (e:Ext w w')=>(e.cell (p:=⟨bA,gA + 1,none⟩) (lt_of_cell k9)).trans k9)
 clear hsv htv hr hE hn hm' hs ht h
 go_enter Tryz.func93,Tryz.ntmps93
 go_wp2_with (first
  | (go_at_call 57; refine (CN.out _ (by (repeat first | exact Ex0 | assumption | refine Ex1 ?_ | refine Ex2 ?_ | refine Ex3 ?_ | refine Ex4 ?_ | refine Ex5 ?_))).mono ?_; rintro e w1 ⟨rfl,hx1⟩; clear CN; have k8:=FT.out (w1.alloc (.cells #[.int .i64 n,.int .i64 8] 75)) (by (repeat first | exact Ex0 | assumption | refine Ex1 ?_ | refine Ex2 ?_ | refine Ex3 ?_ | refine Ex4 ?_ | refine Ex5 ?_)))
  | (go_at_call 57; refine (CM.out _ (by (repeat first | exact Ex0 | assumption | refine Ex1 ?_ | refine Ex2 ?_ | refine Ex3 ?_ | refine Ex4 ?_ | refine Ex5 ?_))).mono ?_; rintro e w2 ⟨rfl,hx2⟩))
 simp only [bodyPost]
 exact ⟨trivial,HT.out _ (by (repeat first | exact Ex0 | assumption | refine Ex1 ?_ | refine Ex2 ?_ | refine Ex3 ?_ | refine Ex4 ?_ | refine Ex5 ?_))⟩
theorem peer_yy (w:World) (o:Ow) (p line:Nat) (c:Cf14) (h:CfAt w o p c line) (hE:ErrR w) (hne:c.ups ≠ []) (hM:CfB 1048576 c) (s t:List UInt8) (hs:s.length ≤ 65536) (ht:t.length ≤ 65536) (n m:Int) (hn:numC s=some n) (hm':numC t=some m) (A:Option Addr) (ac:Nat) (hr:Rd w A (strC [s,t])) :
  Calls Tryz.prog 93 #[.pointer (some ⟨p,0,none⟩),.slice A 2 ac] w (DoQ w o p line (doD .peer [s,t] c)):=by
 obtain ⟨U,UA,uc,S,SA,sc,h⟩:=h
 obtain ⟨b,x,g,f,rfl,rfl,hl,hcs,hg,hce⟩:=h.upX hne
 have h5:=h.c4
 rw [hl] at h5
 have hm:b.length < 1099511627776:=by have:=hM.ups; omega
 have CU:=Lib.hid (fun (w':World) (e:Ext w w')=>cup_c p g f b.length uc w' hm ((e.cell (lt_of_cell h5)).trans h5))
 obtain ⟨F,hF⟩:∃ F,F=f + b.length * 4:=⟨_,rfl⟩
 rw [← hF] at CU hce
 have og:o g=2:=by
  obtain ⟨g',f',hA',ho,_⟩:=h.ups.cells (by omega)
  cases hA'; exact ho
 have hnb:x.1.peers.length ≤ 1048576:=hM.peers x.1 (by rw [hcs]; simp)
 have q0:=hce 1 _ rfl
 have HC:=Lib.hid h
 have HP:=Lib.hid (list_one h.peers).2
 have HCS:=Lib.hid hcs
 have HF:=Lib.hid hF
 have OG:=Lib.hid og
 have FQ:=Lib.hid (fun (w':World) (e:Ext w w')=>(e.cell (p:=⟨g,F + 1,none⟩) hg).trans q0.1)
 have FZ:=Lib.hid q0.2
 obtain ⟨bA,gA,rfl,k0,k9⟩:∃ b g,A=some ⟨b,g,none⟩∧w.cell? ⟨b,g,none⟩=some (.string (str s))∧w.cell? ⟨b,g + 1,none⟩=some (.string (str t)):=by
  rcases hr with h | ⟨b,g,hA,hc⟩
  ·cases h
  ·exact ⟨b,g,hA,hc 0 _ rfl,hc 1 _ rfl⟩
 have CN:=Lib.hid (fun w' (e:Ext w w')=>cnumber_yes p s hs n hn w' (hE.ext e))
 have CM:=Lib.hid (fun w' (e:Ext w w')=>cnumber_yes p t ht m hm' w' (hE.ext e))
 have HD:Hid (doD .peer [s,t] c=some (cfUp c fun u=>{ u with peers:=u.peers ++ [⟨n,m⟩] })):=Lib.hid (by simp [doD,hn,hm'])
 obtain ⟨sv,hsv⟩:∃ v,v=str s:=⟨_,rfl⟩
 obtain ⟨tv,htv⟩:∃ v,v=str t:=⟨_,rfl⟩
 rw [← hsv] at k0 CN
 rw [← htv] at k9 CM
 have FT:=Lib.hid (fun w' (e:Ext w w')=>(e.cell (p:=⟨bA,gA + 1,none⟩) (lt_of_cell k9)).trans k9)
 clear hsv htv hr hE hn hm' hs ht h hcs hF og hce h5 hl q0
 go_enter Tryz.func93,Tryz.ntmps93
 go_wp2_with (first
  | (go_at_call 57; refine (CN.out _ (by (repeat first | exact Ex0 | assumption | refine Ex1 ?_ | refine Ex2 ?_ | refine Ex3 ?_ | refine Ex4 ?_ | refine Ex5 ?_))).mono ?_; rintro e w1 ⟨rfl,hx1⟩; clear CN; have k8:=FT.out (w1.alloc (.cells #[.int .i64 n,.int .i64 8] 75)) (by (repeat first | exact Ex0 | assumption | refine Ex1 ?_ | refine Ex2 ?_ | refine Ex3 ?_ | refine Ex4 ?_ | refine Ex5 ?_)))
  | (go_at_call 57; refine (CM.out _ (by (repeat first | exact Ex0 | assumption | refine Ex1 ?_ | refine Ex2 ?_ | refine Ex3 ?_ | refine Ex4 ?_ | refine Ex5 ?_))).mono ?_; rintro e w2 ⟨rfl,hx2⟩; have hz:=((show Ext (w1.alloc (.cells #[.int .i64 n,.int .i64 8] 75)) w2 by (repeat first | exact Ex0 | assumption | refine Ex1 ?_ | refine Ex2 ?_ | refine Ex3 ?_ | refine Ex4 ?_ | refine Ex5 ?_)).block w1.heap.size (by simp)).trans (heap_alloc_new w1 _); have z1:=(row_facts hz 1 _ rfl).1; have z2:=(row_facts hz 1 _ rfl).2; have HZ:=Lib.hid (row_set hz 1 (.int .i64 m)); clear hz))
 have FB0:Hid (∀ w',Ext (w2.setCell ⟨w1.heap.size,1,none⟩ (.int .i64 m)) w' → (w'.cell? ⟨w1.heap.size,0,none⟩=some (.int .i64 n)∧w'.cell? ⟨w1.heap.size,1,none⟩=some (.int .i64 m))):=Lib.hid (fun w' e=>by
  have h9:=(e.block w1.heap.size (row_lt HZ.out)).trans HZ.out
  exact ⟨(row_facts h9 0 _ rfl).1,(row_facts h9 1 _ rfl).1⟩)
 have xW:Ext w (w2.setCell ⟨w1.heap.size,1,none⟩ (.int .i64 m)):=Ext.st (by (repeat first | exact Ex0 | assumption | refine Ex1 ?_ | refine Ex2 ?_ | refine Ex3 ?_ | refine Ex4 ?_ | refine Ex5 ?_)) (by have:=hx1.size; exact this) _
 obtain ⟨gb,hgb⟩:∃ gb,gb=w1.heap.size:=⟨_,rfl⟩
 clear z1 z2 HZ
 rw [← hgb] at FB0 xW ⊢
 generalize w2.setCell ⟨gb,1,none⟩ (.int .i64 m)=W at *
 have FB:=FB0
 have b0:=(FB.out W (Ext.rfl' W)).1
 have d0:=(FB.out W (Ext.rfl' W)).2
 clear hgb
 go_region_law (first
  | (refine step_call (.tmp 20) rfl rfl rfl (enter_up _ _) (CU.out _ (by (repeat first | exact Ex0 | assumption | refine Ex1 ?_ | refine Ex2 ?_ | refine Ex3 ?_ | refine Ex4 ?_ | refine Ex5 ?_))) ?_; intro w3 hx3; have b3:=(FB.out w3 (by (repeat first | exact Ex0 | assumption | refine Ex1 ?_ | refine Ex2 ?_ | refine Ex3 ?_ | refine Ex4 ?_ | refine Ex5 ?_))).1; have d3:=(FB.out w3 (by (repeat first | exact Ex0 | assumption | refine Ex1 ?_ | refine Ex2 ?_ | refine Ex3 ?_ | refine Ex4 ?_ | refine Ex5 ?_))).2; have q3:=FQ.out w3 (by (repeat first | exact Ex0 | assumption | refine Ex1 ?_ | refine Ex2 ?_ | refine Ex3 ?_ | refine Ex4 ?_ | refine Ex5 ?_)))
  | (refine step_call (.tmp 22) rfl rfl rfl (enter_up _ _) (CU.out _ (by (repeat first | exact Ex0 | assumption | refine Ex1 ?_ | refine Ex2 ?_ | refine Ex3 ?_ | refine Ex4 ?_ | refine Ex5 ?_))) ?_; intro w4 hx4; have b4:=(FB.out w4 (by (repeat first | exact Ex0 | assumption | refine Ex1 ?_ | refine Ex2 ?_ | refine Ex3 ?_ | refine Ex4 ?_ | refine Ex5 ?_))).1; have d4:=(FB.out w4 (by (repeat first | exact Ex0 | assumption | refine Ex1 ?_ | refine Ex2 ?_ | refine Ex3 ?_ | refine Ex4 ?_ | refine Ex5 ?_))).2; have q4:=FQ.out w4 (by (repeat first | exact Ex0 | assumption | refine Ex1 ?_ | refine Ex2 ?_ | refine Ex3 ?_ | refine Ex4 ?_ | refine Ex5 ?_)); have q5:=FQ.out (w4.alloc (.cells #[.int .i64 n,.int .i64 m] 75)) (by (repeat first | exact Ex0 | assumption | refine Ex1 ?_ | refine Ex2 ?_ | refine Ex3 ?_ | refine Ex4 ?_ | refine Ex5 ?_)))
  | (refine step_put slt_pe (.tmp 26) (.tmp 28) rfl rfl rfl rfl (HP.out.1.ext (by (repeat first | exact Ex0 | assumption | refine Ex1 ?_ | refine Ex2 ?_ | refine Ex3 ?_ | refine Ex4 ?_ | refine Ex5 ?_))) HP.out.2 (Sl.src Tryz.underlying71 (n:=1) ((rd_newV _ _ rfl #[.int .i64 n,.int .i64 m] 75).ext (by (repeat first | exact Ex0 | assumption | refine Ex1 ?_ | refine Ex2 ?_ | refine Ex3 ?_ | refine Ex4 ?_ | refine Ex5 ?_))) (by simp) (by omega) (by simp [Value.oneCell']) 1) (by omega) (by simp only [maxLen]; omega) ?_; intro A5 c5 w5 o5 hs5 st5 hn5; have st5':Stp (fun i=>i=10 + 3 * b.length) w o w5 o5:=(Stp.ext (by (repeat first | exact Ex0 | assumption | refine Ex1 ?_ | refine Ex2 ?_ | refine Ex3 ?_ | refine Ex4 ?_ | refine Ex5 ?_))).tr st5; have hT:=HC.out.up5 st5' ({ x.1 with peers:=x.1.peers ++ [⟨n,m⟩] },(A5,c5)) ⟨by rw [List.length_append,List.length_singleton,List.flatMap_append]; exact hs5,hn5⟩ 1 (by omega) (.slice A5 (x.1.peers.length + 1) c5) (by simp [upV]); have HT:=Lib.hid (DoQ.yes (p:=p) (line:=line) (r:=(doD .peer [s,t] c)) (c:=cfUp c fun u=>{ u with peers:=u.peers ++ [⟨n,m⟩] }) HD.out hT.2 ⟨_,_,_,_,_,_,by rw [cfUp_eq HCS.out _ (A5,c5)]; exact hT.1⟩); rw [← Nat.add_assoc,← HF.out] at HT; have q9:=st5'.cell (a:=⟨g,F + 1,none⟩) (by show ¬ (o g=_); rw [OG.out]; omega) (FQ.out w (Ext.rfl' w)); have f9:=(st5'.frozen (a:=⟨g,F + 1,none⟩) hg (by show ¬ (o g=_); rw [OG.out]; omega)).trans FZ.out; clear hT st5' hs5 st5))
 all_goals go_end0
 all_goals exact HT.out
end Go.Proofs.YtmnohicojefhfaaGreatDoor
end
