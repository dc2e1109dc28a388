/-
A connection's write: what may be written is.
-/
import Derived.Test.YthbofilcnpdghaaGreatDoorJo
import Derived.Test.YthbofilcnpdghaaGreatDoorZbb
import Derived.Test.YthbofilcnpdghaaGreatDoorZbd
set_option maxRecDepth 100000
set_option maxHeartbeats 8000000
set_option linter.unusedVariables false
set_option linter.unusedSimpArgs false
section
namespace Go.Proofs.YthbofilcnpdghaaGreatDoor
open Go.RowKit
def TOk:Th24 → Prop
 | .ref st=>100 ≤ st∧st ≤ 599
 | .ask a=>∀ x,a.ans=some x → x.length ≤ 100
theorem refused_le (st:Int):(refusedC st).length ≤ 40000:=by
 unfold refusedC
 have:=rsW_le st [(ctN,tpW),(clN,Lib.itoa (bodyR st).length),(cnN,clW)]
 have:=rea_len st
 have hb:(bodyR st).length ≤ 101:=by unfold bodyR; simp; omega
 rw [List.length_append]
 omega
theorem written_le (t:Ask24) (on:Bool) (x:List UInt8) (h:x.length ≤ 100):(writtenC t on x).length ≤ 40000:=by
 unfold writtenC
 have:=rsW_le 200 (fieldsC t on x)
 rw [List.length_append]
 split
 ·simp; omega
 ·omega
theorem stepj_call {P:Program} {ops:Array Oper} {o:Oper} {a:Act} {K:Act → World → Prop} {Q:Exit → Act → World → Prop} {E:Prop} (x:Operand) {f:FuncId} {tx:TypeId}
  (ho:o.op=.call { callee:=.value (.func f),args:=#[x],argTypes:=#[tx] }) (hgd:o.guard=none) {xv:Value} {w:World} (hx:a.eval x=xv) (hcf:(callFunc f #[xv]).run P w=.ok (.enter f #[xv]) w) {R:Value → World → Prop} (hC:Calls P f #[xv] w (Ret R w)) (h:∀ v w',R v w' → Ext w w' → K (a.put o.dst v) w'):if Region.wanted o (yielded ops a.tmps)=true then Oper.wp P o a w K Q else E:=by
 have hw:Region.wanted o (yielded ops a.tmps)=true:=by simp [Region.wanted,hgd]
 rw [if_pos hw]
 have hr:(execOp a.eval o).run P w=.ok (.enter f #[xv]) w:=by
  have hf:a.eval (.func f)=.func (.func f) #[] #[]:=rfl
  simp only [execOp,ho,resolve,Deferred.ofValue,hf,List.map_toArray,List.map_cons,List.map_nil,hx]
  have e:(do let d ← (pure { target:=Target.fn (Fn.func f) #[],args:=#[] ++ #[xv] }:Sem Deferred); invoke d.target d.args:Sem Next).run P w=(callFunc f #[xv]).run P w:=by simp [invoke,go_sem]
  exact e.trans hcf
 unfold Oper.wp
 rw [hr,Oper.upon_enter]
 refine hC.mono ?_
 rintro e w' ⟨v,rfl,hR,he⟩
 exact h v w' hR he
theorem enter_refused (x:Value) (w:World):(callFunc 43 #[x]).run Tryz.prog w=.ok (.enter 43 #[x]) w:=by kernel_rfl
theorem meth_ref (st : Int) (w : World) : (method 332 85 (.int .i64 st) "gatehouse/conn.waits").run Tryz.prog w = .ok (189, .int .i64 st) w := by kernel_rfl
theorem meth_ask (p : Addr) (w : World) : (method 332 65 (.pointer (some p)) "gatehouse/conn.waits").run Tryz.prog w = .ok (188, .pointer (some p)) w := by kernel_rfl
theorem ta_rr (st:Int) (w:World):(Instr.typeAssert (.iface 85 (.int .i64 st)) 64 85 true).run Tryz.prog w=.ok (.tuple #[.int .i64 st,.bool true]) w:=by kernel_rfl
theorem ta_ra (st:Int) (w:World):(Instr.typeAssert (.iface 85 (.int .i64 st)) 64 65 true).run Tryz.prog w=.ok (.tuple #[.pointer none,.bool false]) w:=by kernel_rfl
theorem ta_ar (p:Addr) (w:World):(Instr.typeAssert (.iface 65 (.pointer (some p))) 64 85 true).run Tryz.prog w=.ok (.tuple #[.int .i64 0,.bool false]) w:=by kernel_rfl
theorem ta_aa (p:Addr) (w:World):(Instr.typeAssert (.iface 65 (.pointer (some p))) 64 65 true).run Tryz.prog w=.ok (.tuple #[.pointer (some p),.bool true]) w:=by kernel_rfl
theorem cut_row (g f n c:Nat) (h0:n + 1 ≤ c):∃ L',(∀ w',(Instr.slice 57 (.slice (some ⟨g,f,none⟩) (n + 1) c) (some (.int .i64 1)) none none).run Tryz.prog w'=.ok (.slice L' n (c - 1)) w')∧L' ≠ none ∧
  ∀ w o k xs,Sl w o k 1 (some ⟨g,f,none⟩) (n + 1) c xs → Sl w o k 1 L' n (c - 1) (xs.drop 1):=by
 refine ⟨if c=1 then some ⟨g,f,none⟩ else some ⟨g,f + 1,none⟩,fun w'=>?_,?_,fun w o k xs h=>?_⟩
 ·have h2:(1:Int) ≤ ((n + 1:Nat):Int):=by omega
  have h4:(0:Int) ≤ ((n + 1:Nat):Int):=by omega
  have h5:((n + 1:Nat):Int) ≤ (c:Int):=by omega
  have h6:(1:Int) ≤ (n:Int) + 1:=by omega
  have h7:(0:Int) ≤ (n:Int) + 1:=by omega
  have h8:(n:Int) + 1 ≤ (c:Int):=by omega
  have hz:∀ w',(Go.sizeOf 64).run Tryz.prog w'=.ok 1 w':=fun _=>rfl
  have hu:=Tryz.underlying57
  by_cases hc:c=1
  ·subst hc
   obtain rfl:n=0:=by omega
   simp [Instr.slice,Instr.sliceBounds,Instr.sliceBound,asIntOf,run_underlying hu,go_sem,hz]
  ·simp [Instr.slice,Instr.sliceBounds,Instr.sliceBound,asIntOf,run_underlying hu,go_sem,h2,h4,h5,h6,h7,h8,hz,hc,h0,Addr.add]
 ·split <;> simp
 ·have hd:=h.drop 1 (by omega)
  by_cases hc:c=1
  ·rw [if_pos hc]
   exact ⟨by have:=hd.len; simpa using this,by have:=hd.le; simpa using this,by have:=hd.max; exact this,.inl (by omega)⟩
  ·rw [if_neg hc]
   simpa using hd
theorem CnX.rowCut {w:World} {o:Ow} {k c:Nat} {s:Cst} {a:Cad} {t:Th24} {R:List Th24} (hk:0 < k) (hk8:k < 80) (h:CnX w o k c { s with row:=t :: R } a) {L':Option Addr} (hL:L' ≠ none) (hS:∀ xs,Sl w o (k + 1) 1 a.L (R.length + 1) a.cl xs → Sl w o (k + 1) 1 L' R.length (a.cl - 1) (xs.drop 1)) :
  CnX (w.setCell ⟨c,16,none⟩ (.slice L' R.length (a.cl - 1))) o k c { s with row:=R } { a with L:=L',cl:=a.cl - 1 }:=by
 obtain ⟨ho,hr,hp⟩:=h
 have t1:Sto (fun i=>i=k) w o (w.setCell ⟨c,16,none⟩ (.slice L' R.length (a.cl - 1))) o:=Sto.set c 16 _ (fun _=>ho)
 have hp1:=hp.cell hk ho 16 (.slice L' R.length (a.cl - 1))
 obtain ⟨ts,ts1,ts2⟩:=hp.row
 obtain ⟨u,us,rfl,_,hus⟩:=ts2
 refine ⟨ho,hr.set 16 _ (by simp [Cst.cells]),hp1.hp,hp1.rd,hp1.r,hp1.got,hp1.evs,hp1.ez,⟨us,?_,?_⟩,fun e=>absurd e hL,hp1.out,hp1.oz⟩
 ·exact (hS _ ts1).sto t1 (by omega)
 ·exact hus.sto t1 (by omega) (fun a _=>by unfold KA; omega)
def rowN (c:Nat) (w:World):Nat:=match w.cell? ⟨c,16,none⟩ with
 | some (.slice _ n _)=>n
 | _=>0
theorem rowN_of {w:World} {c:Nat} {s:Cst} {a:Cad} (h:Crow w c s a):rowN c w=s.row.length:=by unfold rowN; rw [h.c16]
structure WrI (k c:Nat) (w:World) (o:Ow) (s:Cst) (wr:World) (X:List UInt8) (R:List Th24) (o':Ow) (a:Cad):Prop where
 x:CnX wr o' k c { s with out:=s.out ++ X,row:=R } a
 st:Sto (KC k) w o wr o'
 nx:a.nx=nxC s.inBody
 eq:writesC s.reads s.row=(X ++ (writesC s.reads R).1,(writesC s.reads R).2)
 ok:∀ t ∈ R,TOk t
 sz:(s.out ++ X).length + R.length * 40000 ≤ 1099511627776
def WrL (k c:Nat) (w:World) (o:Ow) (s:Cst) (wr:World):Prop:=∃ X R o' a,WrI k c w o s wr X R o' a
theorem WrI.done {k c:Nat} {w:World} {o:Ow} {s:Cst} {wr:World} {X:List UInt8} {R:List Th24} {o':Ow} {a:Cad} (h:WrI k c w o s wr X R o' a) (hR:writesC s.reads R=([],R)):CnAt wr o' k c (writeC s):=by
 have e:writeC s={ s with out:=s.out ++ X,row:=R }:=by
  unfold writeC
  rw [h.eq,hR]
  simp
 rw [e]
 exact ⟨a,h.x,h.nx⟩
theorem nWrite_c (w0:World) (hL:Lb w0) (k c:Nat) (hk:0 < k) (hk8:k < 80) (s:Cst) (hok:∀ t ∈ s.row,TOk t) (hsz:s.out.length + s.row.length * 40000 ≤ 1099511627776) (w:World) (o:Ow) (hO:Old w0 w o) (h:CnAt w o k c s) :
  Calls Tryz.prog 27 #[.pointer (some ⟨c,0,none⟩)] w fun e w'=>e=.returned (.tuple #[])∧∃ o',CnAt w' o' k c (writeC s)∧Sto (KC k) w o w' o':=by
 obtain ⟨a,hx,hnx⟩:=h
 have c16:w.cell? ⟨c,16,none⟩=some (.slice a.L s.row.length a.cl):=hx.row.c16
 have HI:=Lib.hid (show WrL k c w o s w from ⟨[],s.row,o,a,by rw [List.append_nil]; exact hx,Sto.rfl',hnx,by rw [List.nil_append],hok,by rw [List.append_nil]; exact hsz⟩)
 have HO:=Lib.hid hO
 obtain ⟨rn,hrn⟩:∃ n,n=s.row.length:=⟨_,rfl⟩
 rw [← hrn] at c16
 clear hx hnx hok hsz hO hrn
 go_enter Tryz.func27,Tryz.ntmps27
 go_wp2
 go_loopw [] (fun wr=>WrL k c w o s wr) (fun wr=>rowN c wr)
 case atStart=>exact HI.out
 case round =>
  obtain ⟨X,R,o',ad,hI⟩:=hrel
  have HII:=Lib.hid hI
  have hx:=hI.x
  have d16:wr.cell? ⟨c,16,none⟩=some (.slice ad.L R.length ad.cl):=hx.row.c16
  obtain ⟨ts,ts1,ts2⟩:=hx.p.row
  cases R with
  | nil =>
   have d5:wr.cell? ⟨c,5,none⟩=some (.bool s.begun):=HII.out.x.row.c5
   have d3:wr.cell? ⟨c,3,none⟩=some (.int .i64 0):=(HII.out.x.row.at_ 3 _ rfl).1
   have f3:=HII.out.x.row.fz 3 (by decide)
   have d2:wr.cell? ⟨c,2,none⟩=some (.int .i64 0):=HII.out.x.row.c2
   have HF:=Lib.hid (show ∀ wz,(wz=wr ∨ wz=wr.setCell ⟨c,3,none⟩ (.int .i64 0)) → ∃ o',CnAt wz o' k c (writeC s)∧Sto (KC k) w o wz o' from fun wz hz=>by
    have hd:=HII.out.done (rfl)
    rcases hz with rfl | rfl
    ·exact ⟨o',hd,HII.out.st⟩
    ·obtain ⟨a7,hx7,hn7⟩:=hd
     have hp7:=hx7.p.cell hk hx7.own 3 (.int .i64 0)
     exact ⟨o',⟨a7,⟨hx7.own,hx7.row.set 3 _ rfl,hp7⟩,hn7⟩,HII.out.st.tr (setC_sto 3 _ hx7.own hk8)⟩)
   obtain ⟨bg,hbg⟩:∃ b,b=s.begun:=⟨_,rfl⟩
   rw [← hbg] at d5
   clear hx ts1 ts2 hI hbg
   rw [show (([]:List Th24).length)=0 from rfl] at d16
   by_cases r0:rn=0
   ·subst r0
    go_wp2
    go_end0
    exact ⟨rfl,HF.out _ (.inl rfl)⟩
   ·have r1:(0:Int) < (rn:Int):=by omega
    cases bg with
    | true =>
     go_wp2
     go_end0
     exact ⟨rfl,HF.out _ (.inl rfl)⟩
    | false =>
     go_wp2
     go_end0
     exact ⟨rfl,HF.out _ (.inr rfl)⟩
  | cons t R =>
   obtain ⟨u,us,rfl,hu,hus⟩:=ts2
   obtain ⟨g,f,hL1,hgl,hgc⟩:∃ g f,ad.L=some ⟨g,f,none⟩∧g < wr.heap.size∧wr.cell? ⟨g,f,none⟩=some u:=by
    rcases ts1.at_ with h0 | ⟨g,f,hA,_,hl,hc,_⟩
    ·have:=ts1.le
     simp at this
     omega
    ·exact ⟨g,f,hA,hl,hc 0 u rfl⟩
   have HSL:=Lib.hid ts1
   have HTL:=Lib.hid hus
   rw [hL1] at d16
   have HL1:=Lib.hid hL1
   have d16:wr.cell? ⟨c,16,none⟩=some (.slice (some ⟨g,f,none⟩) (R.length + 1) ad.cl):=d16
   obtain ⟨rl,hrl⟩:∃ n,n=R.length:=⟨_,rfl⟩
   rw [← hrl] at d16
   have HRL:=Lib.hid hrl
   have l0:(0:Int) < ((rl + 1:Nat):Int):=by omega
   have l1:(0:Int) < (rl:Int) + 1:=by omega
   clear ts1 hus hL1 hrl hx
   cases t with
   | ref st =>
    have hu:u=.iface 85 (.int .i64 st):=hu
    subst hu
    have hm:=meth_ref st
    have h1:=ta_rr st
    obtain ⟨hs1,hs2⟩:=HII.out.ok _ List.mem_cons_self
    have CR:=Lib.hid (fun (w':World) (e:Ext wr w')=>nRefused_c st hs1 hs2 w' (hL.pw.ext ((HO.out.sto HII.out.st (kc0 hk)).ext.tr e)) (hL.mx.ext ((HO.out.sto HII.out.st (kc0 hk)).ext.tr e)))
    have d18:wr.cell? ⟨c,18,none⟩=some (.slice ad.O (s.out ++ X).length ad.co):=HII.out.x.row.c18
    have HOL:=Lib.hid (show (s.out ++ X).length ≤ 1099511627776 from by have:=HII.out.sz; omega)
    obtain ⟨ol,hol⟩:∃ n,n=(s.out ++ X).length:=⟨_,rfl⟩
    rw [← hol] at d18
    have HOLE:=Lib.hid hol
    clear hs1 hs2 hI hol
    go_upto_region 5 with (first
     | (go_at_call 189; refine (nRefW_c _ _).mono ?_; rintro e w2 ⟨rfl,rfl⟩))
    have hk18:=Lib.hid (fun w' (e:Ext wr w')=>(show w'.cell? ⟨c,18,none⟩=some (.slice ad.O ol ad.co) from (e.cell (lt_of_cell d18)).trans d18))
    have e1:=d18
    go_region_law (first
     | (refine stepj_call (.tmp 42) rfl rfl rfl (enter_refused _ _) (CR.out _ (by (repeat first | exact Ex0 | assumption | refine Ex1 ?_ | refine Ex2 ?_ | refine Ex3 ?_ | refine Ex4 ?_ | refine Ex5 ?_))) ?_; rintro v w2 ⟨A2,c2,rfl,hr2⟩ hx2; have hxw2:Ext wr w2:=(by (repeat first | exact Ex0 | assumption | refine Ex1 ?_ | refine Ex2 ?_ | refine Ex3 ?_ | refine Ex4 ?_ | refine Ex5 ?_)); have e2:=hk18.out w2 hxw2; have HX2:=Lib.hid (HII.out.x.ext hxw2); have HXW2:=Lib.hid hxw2)
     | (refine stepj_put slt_u8 (.tmp 41) (.tmp 43) rfl rfl rfl rfl (show Sl _ o' (k + 2) 1 ad.O ol ad.co (bc (s.out ++ X)) from by rw [HOLE.out]; exact HX2.out.p.out.ext (by (repeat first | exact Ex0 | assumption | refine Ex1 ?_ | refine Ex2 ?_ | refine Ex3 ?_ | refine Ex4 ?_ | refine Ex5 ?_))) HX2.out.p.oz (Sl.src Tryz.underlying22 (hr2.ext (by (repeat first | exact Ex0 | assumption | refine Ex1 ?_ | refine Ex2 ?_ | refine Ex3 ?_ | refine Ex4 ?_ | refine Ex5 ?_))) (by rw [bc_len]; omega) (by omega) (bc_one _) c2) (by have:=HOL.out; have:=refused_le st; have:=HOLE.out; omega) (by have:=HOL.out; have:=refused_le st; have:=HOLE.out; simp only [maxLen]; omega) ?_; intro A5 c5 w5 o5 hs5 st5 hn5; have st5':Stp (fun i=>i=k + 2) w2 o' w5 o5:=Stp.tr (Stp.ext (by (repeat first | exact Ex0 | assumption | refine Ex1 ?_ | refine Ex2 ?_ | refine Ex3 ?_ | refine Ex4 ?_ | refine Ex5 ?_))) st5; have r5:=(st5'.sto.keep c (row_lt HX2.out.row) (by rw [HX2.out.own]; omega)).trans HX2.out.row; have y18:=(row_facts r5 18 _ rfl).1; have g18:=(row_facts r5 18 _ rfl).2; have HT:=Lib.hid (HX2.out.outPut hk hk8 st5' (refusedC st) (by show Sl w5 o5 (k + 2) 1 A5 ((s.out ++ X).length + (refusedC st).length) c5 (bc (s.out ++ X) ++ bc (refusedC st)); rw [← HOLE.out]; exact hs5) hn5); clear r5 hs5 st5 hn5 st5'))
    all_goals (
     obtain ⟨W7,hW7⟩:∃ W,W=w5.setCell ⟨c,18,none⟩ (.slice A5 (ol + (refusedC st).length) c5):=⟨_,rfl⟩
     rw [← hW7]
     have hT:=HT.out
     rw [show (({ s with out:=s.out ++ X,row:=Th24.ref st :: R }:Cst).out.length + (refusedC st).length)=ol + (refusedC st).length from by rw [HOLE.out],← hW7] at hT
     have z16:W7.cell? ⟨c,16,none⟩=some (.slice (some ⟨g,f,none⟩) (rl + 1) ad.cl):=by have h:=hT.1.row.c16; rw [show ({ ad with O:=A5,co:=c5 }:Cad).L=_ from HL1.out] at h; rw [HRL.out]; exact h
     have zf:=hT.1.row.fz 16 (by decide)
     obtain ⟨L',hc1,hc2,hc3⟩:=cut_row g f rl ad.cl (by have:=HSL.out.le; rw [HRL.out]; exact this)
     have hfin:=CnX.rowCut (s:={ s with out:=s.out ++ X ++ refusedC st }) (t:=.ref st) (R:=R) hk hk8 hT.1 hc2 (fun xs hs=>by
      have hs':Sl W7 o5 (k + 1) 1 ad.L (R.length + 1) ad.cl xs:=hs
      rw [HL1.out,← HRL.out] at hs'
      have h:=hc3 _ _ _ _ hs'
      rw [HRL.out] at h; exact h)
     have hst:=(HII.out.st.tr (Sto.ext HXW2.out)).tr hT.2.kc
     have hnx:=HII.out.nx
     have HZ:=Lib.hid (show WrI k c w o s (W7.setCell ⟨c,16,none⟩ (.slice L' R.length (ad.cl - 1))) (X ++ refusedC st) R o5 { { ad with O:=A5,co:=c5 } with L:=L',cl:=ad.cl - 1 } from
      ⟨by rw [← List.append_assoc]; exact hfin,hst.tr (setC_sto 16 _ hT.1.own hk8),hnx,by rw [HII.out.eq]; simp [writesC],fun t ht=>HII.out.ok t (List.mem_cons_of_mem _ ht),by have h1:=HII.out.sz; have h2:=refused_le st; rw [List.length_cons,List.length_append] at h1; simp only [List.length_append]; omega⟩)
     have HN:=Lib.hid (show rowN c wr=R.length + 1 from (rowN_of HII.out.x.row).trans rfl)
     have HN2:=Lib.hid (show rowN c (W7.setCell ⟨c,16,none⟩ (.slice L' R.length (ad.cl - 1)))=R.length from rowN_of hfin.row)
     rw [← HRL.out] at HZ HN HN2
     clear hT hfin hst hnx hc2 hc3 hW7 HT e1 e2 d18 y18 g18 hk18 d16 hgc h1 hm
     go_wp2
     go_roundw
     case rel=>exact ⟨_,_,_,_,HZ.out⟩
     case measure=>rw [HN.out,HN2.out]; omega)
   | ask q =>
    obtain ⟨p,hu,hask⟩:=hu
    subst hu
    have hm:=meth_ask ⟨p,0,none⟩
    have h1:=ta_ar ⟨p,0,none⟩
    have h2:=ta_aa ⟨p,0,none⟩
    obtain ⟨ho6,A6,ca6,Q6,hrow6,_,hans6⟩:=id hask
    have k6:wr.cell? ⟨p,6,none⟩=some (.pointer Q6):=(row_facts hrow6 6 _ rfl).1
    cases hxs:q.ans with
    | none =>
     rw [hxs] at hans6
     obtain rfl:Q6=none:=hans6
     have d5:wr.cell? ⟨c,5,none⟩=some (.bool s.begun):=HII.out.x.row.c5
     have d3:wr.cell? ⟨c,3,none⟩=some (.int .i64 0):=(HII.out.x.row.at_ 3 _ rfl).1
     have f3:=HII.out.x.row.fz 3 (by decide)
     have d2:wr.cell? ⟨c,2,none⟩=some (.int .i64 0):=HII.out.x.row.c2
     have HF:=Lib.hid (show ∀ wz,(wz=wr ∨ wz=wr.setCell ⟨c,3,none⟩ (.int .i64 0)) → ∃ o',CnAt wz o' k c (writeC s)∧Sto (KC k) w o wz o' from fun wz hz=>by
      have hd:=HII.out.done (writes_none s.reads hxs R)
      rcases hz with rfl | rfl
      ·exact ⟨o',hd,HII.out.st⟩
      ·obtain ⟨a7,hx7,hn7⟩:=hd
       have hp7:=hx7.p.cell hk hx7.own 3 (.int .i64 0)
       exact ⟨o',⟨a7,⟨hx7.own,hx7.row.set 3 _ rfl,hp7⟩,hn7⟩,HII.out.st.tr (setC_sto 3 _ hx7.own hk8)⟩)
     obtain ⟨bg,hbg⟩:∃ b,b=s.begun:=⟨_,rfl⟩
     rw [← hbg] at d5
     have n0:(((rl + 1:Nat):Int) == 0)=false:=by rw [beq_eq_false_iff_ne]; omega
     have n1:(((rl:Int) + 1) == 0)=false:=by rw [beq_eq_false_iff_ne]; omega
     clear hI hbg hask hrow6 hxs
     by_cases r0:rn=0
     ·subst r0
      go_wp2_with (go_at_call 188; refine (nAskW_yes _ _ k6).mono ?_; rintro e w2 ⟨rfl,rfl⟩)
      go_end0
      exact ⟨rfl,HF.out _ (.inl rfl)⟩
     ·have r1:(0:Int) < (rn:Int):=by omega
      go_wp2_with (go_at_call 188; refine (nAskW_yes _ _ k6).mono ?_; rintro e w2 ⟨rfl,rfl⟩)
      go_end0
      exact ⟨rfl,HF.out _ (.inl rfl)⟩
    | some x =>
     rw [hxs] at hans6
     obtain ⟨qa,B6,cb6,rfl,_⟩:=hans6
     have hx100:=HII.out.ok _ List.mem_cons_self x hxs
     have CW:=Lib.hid (nWritten_c k c p (KA k q.id) { s with out:=s.out ++ X,row:=Th24.ask q :: R } ad q x wr o' HII.out.x hask hxs hx100 (hL.pw.ext (HO.out.sto HII.out.st (kc0 hk)).ext) (hL.mx.ext (HO.out.sto HII.out.st (kc0 hk)).ext))
     obtain ⟨wb,hwb⟩:∃ b,b=writtenC q (decide (({ s with out:=s.out ++ X,row:=Th24.ask q :: R }:Cst).row.length=1) && !({ s with out:=s.out ++ X,row:=Th24.ask q :: R }:Cst).reads) x:=⟨_,rfl⟩
     rw [← hwb] at CW
     have HWL:=Lib.hid (show wb.length ≤ 40000 from by rw [hwb]; exact written_le _ _ _ hx100)
     have HWB:=Lib.hid hwb
     have HXS:=Lib.hid hxs
     have HON:=Lib.hid (show (decide (({ s with out:=s.out ++ X,row:=Th24.ask q :: R }:Cst).row.length=1) && !({ s with out:=s.out ++ X,row:=Th24.ask q :: R }:Cst).reads)=(decide (R=[]) && !s.reads) from by cases R <;> simp)
     have d18:wr.cell? ⟨c,18,none⟩=some (.slice ad.O (s.out ++ X).length ad.co):=HII.out.x.row.c18
     have HOL:=Lib.hid (show (s.out ++ X).length ≤ 1099511627776 from by have:=HII.out.sz; omega)
     obtain ⟨ol,hol⟩:∃ n,n=(s.out ++ X).length:=⟨_,rfl⟩
     rw [← hol] at d18
     have HOLE:=Lib.hid hol
     clear hI hol hask hrow6 hxs hwb
     go_upto_region 14 with (first
      | (go_at_call 188; refine (nAskW_no _ _ _ k6).mono ?_; rintro e w2 ⟨rfl,rfl⟩)
      | (go_at_call 44; refine (CW.out).mono ?_; rintro e w8 ⟨v,rfl,⟨A8,c8,rfl,hr8⟩,hx8⟩; have e8:=(hx8.cell (lt_of_cell d18)).trans d18; have HX8:=Lib.hid (HII.out.x.ext hx8); have HXW8:=Lib.hid hx8)
      | (at_builtin; refine wpL_put slt_u8 (.tmp 74) (.tmp 75) rfl rfl rfl rfl (show Sl _ o' (k + 2) 1 ad.O ol ad.co (bc (s.out ++ X)) from by rw [HOLE.out]; exact HX8.out.p.out) HX8.out.p.oz (Sl.src Tryz.underlying22 hr8 (by rw [bc_len]; omega) (by omega) (bc_one _) c8) (by have:=HOL.out; have:=HWL.out; have:=HOLE.out; omega) (by have:=HOL.out; have:=HWL.out; have:=HOLE.out; simp only [maxLen]; omega) ?_; intro A5 c5 w5 o5 hs5 st5 hn5; have r5:=(st5.sto.keep c (row_lt HX8.out.row) (by rw [HX8.out.own]; omega)).trans HX8.out.row; have y18:=(row_facts r5 18 _ rfl).1; have g18:=(row_facts r5 18 _ rfl).2; have HT:=Lib.hid (HX8.out.outPut hk hk8 st5 wb (by show Sl w5 o5 (k + 2) 1 A5 ((s.out ++ X).length + wb.length) c5 (bc (s.out ++ X) ++ bc wb); rw [← HOLE.out]; exact hs5) hn5); clear r5 hs5 st5 hn5))
     obtain ⟨W7,hW7⟩:∃ W,W=w5.setCell ⟨c,18,none⟩ (.slice A5 (ol + wb.length) c5):=⟨_,rfl⟩
     rw [← hW7]
     have hT:=HT.out
     rw [show (({ s with out:=s.out ++ X,row:=Th24.ask q :: R }:Cst).out.length + wb.length)=ol + wb.length from by rw [HOLE.out],← hW7] at hT
     have z16:W7.cell? ⟨c,16,none⟩=some (.slice (some ⟨g,f,none⟩) (rl + 1) ad.cl):=by have h:=hT.1.row.c16; rw [show ({ ad with O:=A5,co:=c5 }:Cad).L=_ from HL1.out] at h; rw [HRL.out]; exact h
     have zf:=hT.1.row.fz 16 (by decide)
     obtain ⟨L',hc1,hc2,hc3⟩:=cut_row g f rl ad.cl (by have:=HSL.out.le; rw [HRL.out]; exact this)
     have hfin:=CnX.rowCut (s:={ s with out:=s.out ++ X ++ wb }) (t:=.ask q) (R:=R) hk hk8 hT.1 hc2 (fun xs hs=>by
      have hs':Sl W7 o5 (k + 1) 1 ad.L (R.length + 1) ad.cl xs:=hs
      rw [HL1.out,← HRL.out] at hs'
      have h:=hc3 _ _ _ _ hs'
      rw [HRL.out] at h; exact h)
     have hst:=(HII.out.st.tr (Sto.ext HXW8.out)).tr hT.2.kc
     have hnx:=HII.out.nx
     have HZ:=Lib.hid (show WrI k c w o s (W7.setCell ⟨c,16,none⟩ (.slice L' R.length (ad.cl - 1))) (X ++ wb) R o5 { { ad with O:=A5,co:=c5 } with L:=L',cl:=ad.cl - 1 } from
      ⟨by rw [← List.append_assoc]; exact hfin,hst.tr (setC_sto 16 _ hT.1.own hk8),hnx,by rw [HII.out.eq,writes_some s.reads HXS.out,← HON.out,← HWB.out]; simp,fun t ht=>HII.out.ok t (List.mem_cons_of_mem _ ht),by have h1:=HII.out.sz; have h2:=HWL.out; rw [List.length_cons,List.length_append] at h1; simp only [List.length_append]; omega⟩)
     have HN:=Lib.hid (show rowN c wr=R.length + 1 from (rowN_of HII.out.x.row).trans rfl)
     have HN2:=Lib.hid (show rowN c (W7.setCell ⟨c,16,none⟩ (.slice L' R.length (ad.cl - 1)))=R.length from rowN_of hfin.row)
     rw [← HRL.out] at HZ HN HN2
     clear hT hfin hst hnx hc2 hc3 hW7 HT d18 y18 g18 d16 hgc h1 h2 hm
     go_wp2
     go_roundw
     case rel=>exact ⟨_,_,_,_,HZ.out⟩
     case measure=>rw [HN.out,HN2.out]; omega
end Go.Proofs.YthbofilcnpdghaaGreatDoor
end
section
namespace Go.Proofs.YthbofilcnpdghaaGreatDoor
open Go.RowKit
def EndR (t:List Th24):Prop:=t=[] ∨ ∃ st,t=[.ref st]
def leftC (i:Nat) (l:List Ev24) (t:List Th24):List Th24:=match l with
 | []=>[]
 | e :: m=>asksC i (e :: m) ++ t
theorem writes_end (rd:Bool) {t:List Th24} (h:EndR t):(writesC rd t).2=[]:=by
 rcases h with rfl | ⟨st,rfl⟩ <;> rfl
theorem writes_left (rd:Bool) (i:Nat) (l:List Ev24) {t:List Th24} (h:EndR t):(writesC rd (asksC i l ++ t)).2=leftC i l t:=by
 cases l with
 | nil=>exact writes_end rd h
 | cons e m=>rfl
theorem fresh_row {z:Cst} (h:Fresh z):∃ t,EndR t∧z.row=asksC 0 z.evs ++ t∧(putC z).row=leftC 0 z.evs t:=by
 have k:∃ t,EndR t∧z.row=asksC 0 z.evs ++ t:=by
  rcases h.row with h | ⟨_,st,h⟩
  ·exact ⟨[],.inl rfl,by rw [h,List.append_nil]⟩
  ·exact ⟨_,.inr ⟨st,rfl⟩,h⟩
 obtain ⟨t,ht,hr⟩:=k
 refine ⟨t,ht,hr,?_⟩
 show (writesC z.reads z.row).2=_
 rw [hr]
 exact writes_left _ _ _ ht
theorem answer_step {s:Cst} {i:Nat} {e:Ev24} {l:List Ev24} {t:List Th24} (ht:EndR t) (h:s.row=leftC i (e :: l) t) (x:List UInt8) :
  (answerC s i x).2=0∧(answerC s i x).1.row=leftC (i + 1) l t∧(answerC s i x).1.reads=s.reads:=by
 have e1:tellC i x s.row=some (.ask ⟨i,e.r,lastingC e.r,some x⟩ :: (asksC (i + 1) l ++ t)):=by
  rw [h]
  show (if _ then _ else _)=_
  rw [if_pos ⟨rfl,rfl⟩]
  rfl
 unfold answerC
 rw [e1]
 refine ⟨rfl,?_,rfl⟩
 show (writesC s.reads (.ask ⟨i,e.r,lastingC e.r,some x⟩ :: (asksC (i + 1) l ++ t))).2=_
 rw [writes_some s.reads rfl]
 exact writes_left _ _ _ ht
theorem wait_app (a b:List Th24):waitC (a ++ b)=waitC a + waitC b:=by unfold waitC; rw [List.filter_append,List.length_append]
end Go.Proofs.YthbofilcnpdghaaGreatDoor
end
section
namespace Go.Proofs.YthbofilcnpdghaaGreatDoor
open Go.RowKit
end Go.Proofs.YthbofilcnpdghaaGreatDoor
end
section
namespace Go.Proofs.YthbofilcnpdghaaGreatDoor
open Go.RowKit
end Go.Proofs.YthbofilcnpdghaaGreatDoor
end
