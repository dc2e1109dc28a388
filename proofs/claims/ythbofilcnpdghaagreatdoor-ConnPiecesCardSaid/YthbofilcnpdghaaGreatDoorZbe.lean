/-
A connection's Answer.
-/
import Derived.Test.YthbofilcnpdghaaGreatDoorZbb
import Derived.Test.YthbofilcnpdghaaGreatDoorZbd
import Derived.Test.YthbofilcnpdghaaGreatDoorZbc
import Derived.Test.YthbofilcnpdghaaGreatDoorZaz
import Derived.Test.YthbofilcnpdghaaGreatDoorZaq
import Derived.Lib.SlBytesConst
set_option maxRecDepth 100000
set_option maxHeartbeats 8000000
set_option linter.unusedVariables false
set_option linter.unusedSimpArgs false
section
namespace Go.Proofs.YthbofilcnpdghaaGreatDoor
open Go.RowKit
def NoM (id:Nat):Th24→Prop
 | .ref _=>True
 | .ask a=>¬(a.id=id∧a.ans=none)
def NoMs (id:Nat) (l:List Th24):Prop:=∀ t∈l,NoM id t
theorem NoMs.snoc {id:Nat} {l:List Th24} {t:Th24} (h:NoMs id l) (ht:NoM id t):NoMs id (l++[t]):=fun x hx=>by
 rcases List.mem_append.1 hx with hx | hx
 ·exact h x hx
 ·rw [List.mem_singleton.1 hx];exact ht
theorem tell_pre (id:Nat) (x:List UInt8):∀ (p t:List Th24),NoMs id p→tellC id x (p++t)=(tellC id x t).map (p++·)
 | [],t,_=>by simp
 | .ref st::p,t,h=>by
  show (tellC id x (p++t)).map (.ref st::·)=_
  rw [tell_pre id x p t (fun y hy=>h y (List.mem_cons_of_mem _ hy)),Option.map_map];rfl
 | .ask a::p,t,h=>by
  show (if a.id=id∧a.ans=none then _ else (tellC id x (p++t)).map (.ask a::·))=_
  rw [if_neg (h _ List.mem_cons_self),tell_pre id x p t (fun y hy=>h y (List.mem_cons_of_mem _ hy)),Option.map_map];rfl
theorem tell_none {id:Nat} (x:List UInt8) {l:List Th24} (h:NoMs id l):tellC id x l=none:=by
 have:=tell_pre id x l [] h
 rw [List.append_nil] at this
 exact this
theorem tell_hit {id:Nat} (x:List UInt8) {p t:List Th24} {q:Ask24} (h:NoMs id p) (h1:q.id=id) (h2:q.ans=none):tellC id x (p++.ask q::t)=some (p++.ask { q with ans:=some x }::t):=by
 rw [tell_pre id x p _ h,show tellC id x (.ask q::t)=some (.ask { q with ans:=some x }::t) from if_pos ⟨h1,h2⟩]
 rfl
def UnI (l:List Th24):Prop:=∀ p a t,l=p++.ask a::t→(∀ b,Th24.ask b∈p→b.id≠a.id)∧(∀ b,Th24.ask b∈t→b.id≠a.id)
section
variable {w w':World} {o o':Ow} {k:Nat}
theorem ThL.at_:∀ {p t:List Th24} {x:Th24} {us:List Value},ThL w o k (p++x::t) us→∃ u,us[p.length]?=some u∧ThAt w o k x u
 | [],_,_,_,⟨u,us,hu,h1,_⟩=>⟨u,by rw [hu];rfl,h1⟩
 | _::p,t,x,_,⟨u,us,hu,_,h2⟩=>by
  obtain ⟨v,hv,hx⟩:=ThL.at_ (p:=p) h2
  exact ⟨v,by rw [hu];simpa using hv,hx⟩
theorem ThL.tell {K:Nat→Prop} (s:Sto K w o w' o') (h0:¬ K 0) {q q':Ask24} (hq:q'.id=q.id) {p:Nat} (ha:AskAt w' o' (KA k q.id) p q'):∀ {l t:List Th24} {us:List Value},ThL w o k (l++.ask q::t) us→us[l.length]?=some (.iface 65 (.pointer (some ⟨p,0,none⟩))) →
  (∀ b,Th24.ask b∈l→¬ K (KA k b.id))→(∀ b,Th24.ask b∈t→¬ K (KA k b.id))→ThL w' o' k (l++.ask q'::t) us
 | [],_,_,⟨u,us,hu,_,h2⟩,h3,_,h5=>⟨u,us,hu,by
   have h3:us.length=us.length∧u=.iface 65 (.pointer (some ⟨p,0,none⟩)):=⟨rfl,by rw [hu] at h3;simpa using h3⟩
   rw [h3.2]
   exact ⟨p,rfl,by rw [hq];exact ha⟩,h2.sto s h0 h5⟩
 | x::l,t,_,⟨u,us,hu,h1,h2⟩,h3,h4,h5=>⟨u,us,hu,h1.sto s h0 (fun b hb=>h4 b (by rw [hb];exact List.mem_cons_self)),ThL.tell s h0 hq ha h2 (by rw [hu] at h3;simpa using h3) (fun b hb=>h4 b (List.mem_cons_of_mem _ hb)) h5⟩
end
theorem cn_tell {k c p:Nat} (hk:0<k) (hk8:k<80) {W1 w3:World} {o1:Ow} {s:Cst} {a:Cad} {l t:List Th24} {q:Ask24} {x:List UInt8} {us:List Value} {A3:Option Addr} {c3:Nat}
  (h:CnX W1 o1 k c s a) (hr:s.row=l++.ask q::t) (hu:UnI s.row)
  (h1:Sl W1 o1 (k+1) 1 a.L s.row.length a.cl us) (h2:ThL W1 o1 k s.row us) (h3:us[l.length]?=some (.iface 65 (.pointer (some ⟨p,0,none⟩)))) (hp:AskAt W1 o1 (KA k q.id) p q)
  (x13:Ext W1 w3) (hN:NewS W1 x.length (bc x) (.slice A3 x.length c3) w3) :
  ∃ o8,CnX ((w3.alloc (.cells #[.int .i64 200,.slice none 0 0,.slice A3 x.length c3] 41)).setCell ⟨p,6,none⟩ (.pointer (some ⟨w3.heap.size,0,none⟩))) o8 k c { s with row:=l++.ask { q with ans:=some x }::t } a ∧
   Sto (KC k) W1 o1 ((w3.alloc (.cells #[.int .i64 200,.slice none 0 0,.slice A3 x.length c3] 41)).setCell ⟨p,6,none⟩ (.pointer (some ⟨w3.heap.size,0,none⟩))) o8:=by
 obtain ⟨W5,hW5⟩:∃ W,W=w3.alloc (.cells #[.int .i64 200,.slice none 0 0,.slice A3 x.length c3] 41):=⟨_,rfl⟩
 rw [← hW5]
 have x15:Ext W1 W5:=by rw [hW5];exact x13.al _
 obtain ⟨hpo,A6,ca6,Q6,hrow6,hA6,_⟩:=hp
 have o8p:oz W1 o1 p=KA k q.id:=(oz_old W1 o1 (row_lt hrow6)).trans hpo
 have hps:p<w3.heap.size:=by have:=x13.size;have:=row_lt hrow6;omega
 have tset:∀ u,Sto (fun i=>i=KA k q.id) W5 (oz W1 o1) (W5.setCell ⟨p,6,none⟩ u) (oz W1 o1):=fun u=>Sto.set p 6 u (fun _=>o8p)
 have t8:∀ u,Sto (fun i=>i=KA k q.id) W1 o1 (W5.setCell ⟨p,6,none⟩ u) (oz W1 o1):=fun u=>(oz_sto x15).tr (tset u)
 have k0:¬(0=KA k q.id):=by unfold KA;omega
 obtain ⟨A',c',hv,hro⟩:=hN.ro (o':=oz W1 o1) (fun b hb=>oz_new W1 o1 hb)
 cases hv
 have hro5:Ro W5 (oz W1 o1) A3 (bc x):=hro.sto (K:=fun _=>False) (Sto.ext (by rw [hW5];exact (Ext.rfl' _).al _)) (fun h=>h)
 obtain ⟨ho,hro',hpp⟩:=h
 have hun:=hu l q t hr
 refine ⟨oz W1 o1,⟨(oz_old W1 o1 (row_lt hro')).trans ho,?_,?_⟩,(t8 _).mono fun i hi=>by rw [hi];unfold KC KA;omega⟩
 ·have:=(Crow.sto hro' (t8 (.pointer (some ⟨w3.heap.size,0,none⟩))) (by rw [ho];unfold KA;omega))
  unfold Crow at this ⊢
  rw [this]
  simp [Cst.cells,hr]
 ·have hkn:∀ i,i<20→¬(k+i=KA k q.id):=fun i hi=>by unfold KA;omega
  have tt:=t8 (.pointer (some ⟨w3.heap.size,0,none⟩))
  have hlen:(l++Th24.ask { q with ans:=some x }::t).length=s.row.length:=by rw [hr];simp
  refine ⟨hpp.hp.sto tt (hkn 5 (by decide)) (hkn 6 (by decide)) (hkn 7 (by decide)),hpp.rd.sto tt (hkn 9 (by decide)) (hkn 10 (by decide)) (hkn 11 (by decide)) (hkn 12 (by decide)),hpp.r.sto tt k0,hpp.got.sto tt (hkn 4 (by decide)),?_,hpp.ez,⟨us,?_,?_⟩,hpp.lz,hpp.out.sto tt (hkn 2 (by decide)),hpp.oz⟩
  ·obtain ⟨es,e1,e2⟩:=hpp.evs
   exact ⟨es,e1.sto tt (hkn 3 (by decide)),e2.sto tt k0⟩
  ·show Sl _ _ (k+1) 1 a.L (l++Th24.ask { q with ans:=some x }::t).length a.cl us
   rw [hlen]
   exact h1.sto tt (hkn 1 (by decide))
  ·rw [hr] at h2
   refine ThL.tell tt k0 (q:=q) (q':={ q with ans:=some x }) rfl (p:=p) ?_ h2 h3 (fun b hb e=>hun.1 b hb (by unfold KA at e;omega)) (fun b hb e=>hun.2 b hb (by unfold KA at e;omega))
   refine ⟨o8p,A6,ca6,some ⟨w3.heap.size,0,none⟩,?_,hA6.sto tt k0,⟨w3.heap.size,A3,c3,rfl,oz_new W1 o1 (by have:=x13.size;omega),?_,?_⟩⟩
   ·exact row_set ((x15.block p (row_lt hrow6)).trans hrow6) 6 _
   ·rw [Below.heap_setCell W5 ⟨p,6,none⟩ _ w3.heap.size (by show w3.heap.size≠p;omega),hW5]
    exact heap_alloc_new w3 _
   ·exact hro5.sto (tset _) k0
theorem nCloneF_nil (w:World):Calls Tryz.prog 29 #[.slice none 0 0] w (Tells (.slice none 0 0) w):=by
 have q22:∀ (w:World) (a:Option Addr) (n c n' c':Nat),(binOp .eql 34 (.slice a n c) (.slice none n' c')).run Tryz.prog w=.ok (.bool a.isNone) w:=fun w a n c n' c'=>Lib.run_eql_slice_nil w _ _ a n c n' c' Tryz.underlying34
 go_enter Tryz.func29,Tryz.ntmps29
 go_wp2
 go_ret
 exact ⟨rfl,rfl⟩
def AnsL (s:Cst) (id:Nat) (W1:World) (v:Value) (wr:World):Prop:=∃ l t,s.row=l++t∧v=.int .i64 (l.length:Int)∧NoMs id l∧wr=W1
def AnsW (k c:Nat) (w:World) (o:Ow) (s:Cst) (wx:World):Prop:=∃ o',CnAt wx o' k c s∧Sto (KC k) w o wx o'
theorem nAnswer_c (w0:World) (hL:Lb w0) (k c:Nat) (hk:0<k) (hk8:k<80) (s:Cst) (hok:RowOk s.row) (hsz:s.out.length+s.row.length*40000≤1099511627776) (hun:UnI s.row) (id:Nat) (x:List UInt8) (hx100:x.length≤100) (B:Option Addr) (d:Nat) (w:World) (o:Ow) (hO:Old w0 w o) (h:CnAt w o k c s) (hB:Ro w o B (bc x)) :
  Calls Tryz.prog 13 #[.pointer (some ⟨c,0,none⟩),.int .i64 (id:Int),.agg #[.int .i64 200,.slice none 0 0,.slice B x.length d]] w (TurnsO (KC k) w o fun v w' o'=>v=.int .i64 (answerC s id x).2∧CnAt w' o' k c (answerC s id x).1):=by
 obtain ⟨a,hx,hnx⟩:=h
 have HO:=Hy hO
 have HOK:=Hy hok
 have HSZ:=Hy hsz
 have HUN:=Hy hun
 have HNX:=Hy hnx
 have HX:=Hy hx
 have HB:=Hy hB
 clear hO hok hsz hun hnx hx hB
 obtain ⟨xn,hxn⟩:∃ n,n=x.length:=⟨_,rfl⟩
 rw [← hxn]
 have HXN:=Hy hxn
 clear hxn
 go_enter Tryz.func13,Tryz.ntmps13
 go_upto_region 1 with (fail)
 obtain ⟨W1,hW1⟩:∃ W,W=w.alloc (.cells #[.int .i64 200,.slice none 0 0,.slice B xn d] 41):=⟨_,rfl⟩
 rw [← hW1]
 obtain ⟨G,hG⟩:∃ g,g=w.heap.size:=⟨_,rfl⟩
 rw [← hG]
 have x1:Ext w W1:=by rw [hW1];exact (Ext.rfl' w).al _
 have rowG:W1.heap[G]?=some (.cells #[.int .i64 200,.slice none 0 0,.slice B xn d] 41 (0,0)):=by rw [hW1,hG];exact heap_alloc_new w _
 have HX1:=Hy (HX.out.oz x1)
 have ST1:=Hy (show Sto (KC k) w o W1 (oz w o) from oz_sto x1)
 have HB1:=Hy (HB.out.sto (K:=fun _=>False) (oz_sto x1) (fun h=>h))
 have HGO:=Hy (show oz w o G=0 from oz_new w o (by omega))
 obtain ⟨us,us1,us2⟩:=HX1.out.p.row
 have US1:=Hy us1
 have US2:=Hy us2
 have c6:W1.cell? ⟨c,6,none⟩=some (.func (.func a.nx) #[.pointer (some ⟨c,0,none⟩)] #[]):=HX1.out.row.c6
 have c16:W1.cell? ⟨c,16,none⟩=some (.slice a.L s.row.length a.cl):=HX1.out.row.c16
 have hkG:=Hy (fun w' (e:Ext W1 w')=>(show w'.cell? ⟨G,0,none⟩=some (.int .i64 200)∧w'.cell? ⟨G,1,none⟩=some (.slice none 0 0)∧w'.cell? ⟨G,2,none⟩=some (.slice B xn d) from by
  have hx:=(e.block G (row_lt rowG)).trans rowG
  exact ⟨(row_facts hx 0 _ rfl).1,(row_facts hx 1 _ rfl).1,(row_facts hx 2 _ rfl).1⟩))
 obtain ⟨g0,g1,g2⟩:=hkG.out W1 (Ext.rfl' _)
 obtain ⟨AL,hAL⟩:∃ A,A=a.L:=⟨_,rfl⟩
 rw [← hAL] at c16
 have HLK:=Hy (show ∀ m u,us[m]?=some u→∃ g f,AL=some ⟨g,f,none⟩∧W1.cell? ⟨g,f+m,none⟩=some u from fun m u hu=>by
  rcases US1.out.rd with h0 | ⟨g,f,hA,hc⟩
  ·rw [h0] at hu;simp at hu
  ·exact ⟨g,f,hAL.trans hA,hc m u hu⟩)
 obtain ⟨rn,hrn⟩:∃ n,n=s.row.length:=⟨_,rfl⟩
 rw [← hrn] at c16
 have HRN:=Hy hrn
 clear us1 us2 hAL hrn hW1 hG rowG x1
 go_wp2_with (go_at_call 25;refine (nNone_c _ _ _ _ c6).mono ?_;rintro e w2 ⟨rfl,hw⟩;subst hw)
 go_loopw [18] (fun v18 wr=>AnsL s id W1 v18 wr) (fun v18 _=>rn-(intOf v18).toNat)
 case atStart=>exact ⟨[],s.row,rfl,rfl,fun _ h=>absurd h (by simp),rfl⟩
 case round =>
  obtain ⟨l,t,hlt,rfl,hnl,hw⟩:=hrel
  have hw:=hw.symm
  subst hw
  have HNL:=Hy hnl
  have hlen:rn=l.length+t.length:=by rw [HRN.out,hlt,List.length_append]
  obtain ⟨m,hm⟩:∃ m,m=l.length:=⟨_,rfl⟩
  rw [← hm]
  cases t with
  | nil =>
   have hmr:¬(m:Int)<(rn:Int):=by simp at hlen;omega
   have HQ:=Hy (show answerC s id x=(s,3) from by unfold answerC;rw [tell_none x (by rw [hlt,List.append_nil];exact HNL.out)])
   clear hlt hnl hlen hm
   go_wp2
   go_ret
   rw [HQ.out]
   exact TurnsO.mk (oz w o) rfl ⟨rfl,a,HX1.out,HNX.out⟩ ST1.out
  | cons el r =>
   have hmr:(m:Int)<(rn:Int):=by simp at hlen;omega
   have hm0:(0:Int)≤(m:Int):=by omega
   have hm2:IntKind.i64.wrap ((m:Int)+1)=((m+1:Nat):Int):=by
    have h1:=HSZ.out
    have h2:=HRN.out
    rw [IntKind.wrap_i64];omega
   have HRW:=Hy hlt
   obtain ⟨u,hu,hth⟩:=ThL.at_ (p:=l) (t:=r) (x:=el) (by rw [← hlt];exact US2.out)
   obtain ⟨g,f,rfl,hcb⟩:=HLK.out _ u hu
   rw [← hm] at hcb
   have HM:=Hy hm
   have HU:=Hy hu
   clear hlt hnl hm hu
   cases el with
   | ref st =>
    obtain rfl:u=.iface 85 (.int .i64 st):=hth
    have h1:=ta_ra st
    have HNM:=Hy (show NoM id (.ref st) from trivial)
    obtain ⟨el,hel⟩:∃ e,e=Th24.ref st:=⟨_,rfl⟩
    rw [← hel] at HNM HRW
    clear hel hlen
    go_wp2
    go_roundw
    case rel=>exact ⟨l++[el],r,by rw [List.append_assoc];exact HRW.out,by rw [List.length_append,← HM.out];go_num,HNL.out.snoc HNM.out,rfl⟩
    case measure=>simp [intOf];omega
   | ask q =>
    obtain ⟨p,rfl,hask⟩:=hth
    have h2:=ta_aa ⟨p,0,none⟩
    obtain ⟨ho6,A6,ca6,Q6,hrow6,hA6,hans6⟩:=hask
    have k0:W1.cell? ⟨p,0,none⟩=some (.int .i64 (q.id:Int)):=(row_facts hrow6 0 _ rfl).1
    have k6:W1.cell? ⟨p,6,none⟩=some (.pointer Q6):=(row_facts hrow6 6 _ rfl).1
    have HASK:=Hy (show AskAt W1 (oz w o) (KA k q.id) p q from ⟨ho6,A6,ca6,Q6,hrow6,hA6,hans6⟩)
    obtain ⟨qi,hqi⟩:∃ i,i=q.id:=⟨_,rfl⟩
    rw [← hqi] at k0
    by_cases e1:qi=id
    ·subst e1
     cases hxs:q.ans with
     | some y =>
      rw [hxs] at hans6
      obtain ⟨qa,B6,cb6,rfl,_⟩:=hans6
      have HNM:=Hy (show NoM qi (.ask q) from fun h=>by rw [hxs] at h;cases h.2)
      obtain ⟨el,hel⟩:∃ e,e=Th24.ask q:=⟨_,rfl⟩
      rw [← hel] at HNM HRW
      clear hel hlen hqi hxs hrow6 HASK
      go_wp2
      go_roundw
      case rel=>exact ⟨l++[el],r,by rw [List.append_assoc];exact HRW.out,by rw [List.length_append,← HM.out];go_num,HNL.out.snoc HNM.out,rfl⟩
      case measure=>simp [intOf];omega
     | none =>
      rw [hxs] at hans6
      obtain rfl:Q6=none:=hans6
      have HXS:=Hy hxs
      have HQI:=Hy hqi
      have HQ:=Hy (show answerC s qi x=(writeC { s with row:=l++.ask { q with ans:=some x }::r },0) from by unfold answerC;rw [HRW.out,tell_hit x HNL.out HQI.out.symm HXS.out])
      have hk6:=Hy (fun w' (e:Ext W1 w')=>(show w'.cell? ⟨p,6,none⟩=some (.pointer none)∧w'.frozen? ⟨p,6,none⟩=false from row_facts ((e.block p (row_lt hrow6)).trans hrow6) 6 _ rfl))
      have HRW6:=Hy hrow6
      have hGp:G≠p:=fun e=>by rw [e] at HGO;have h1:=HGO.out;rw [ho6] at h1;unfold KA at h1;omega
      clear hxs hqi hrow6 hlen hA6 ho6
      go_upto_region 8 with (fail)
      go_cut [] (fun wx=>AnsW k c w o { s with row:=l++.ask { q with ans:=some x }::r } wx)
      case first =>
       have CB:=Hy (fun (w':World) (e:Ext W1 w')=>nCloneB_c x B xn d HXN.out w' (HB1.out.rd.ext e) (by have:=HXN.out;omega))
       have hkS:=Hy (fun w' (u:Value) (e:Ext W1 w')=>(show (w'.setCell ⟨p,6,none⟩ u).cell? ⟨G,0,none⟩=some (.int .i64 200)∧(w'.setCell ⟨p,6,none⟩ u).cell? ⟨G,1,none⟩=some (.slice none 0 0)∧(w'.setCell ⟨p,6,none⟩ u).cell? ⟨G,2,none⟩=some (.slice B xn d) from by
        obtain ⟨f0,f1,f2⟩:=hkG.out w' e
        refine ⟨?_,?_,?_⟩
        all_goals (rw [World.cell?_of_block (Below.heap_setCell w' ⟨p,6,none⟩ u G hGp)];first | exact f0 | exact f1 | exact f2)))
       go_region_held3 (fun w'=>w'.cell? ⟨G,0,none⟩=some (.int .i64 200)∧w'.cell? ⟨G,1,none⟩=some (.slice none 0 0)∧w'.cell? ⟨G,2,none⟩=some (.slice B xn d)) (with_reducible first | exact hkS.out _ _ Xw | exact hkG.out _ Xw) (first
        | (go_at_call 29;refine (nCloneF_nil _).mono ?_;rintro e w2 ⟨rfl,hw2⟩;subst hw2)
        | (go_at_call 30;refine (CB.out _ Xq).mono ?_;rintro e w3 ⟨v,rfl,⟨A3,c3,rfl,hr3,hb3⟩,hx3⟩;have hxw3:Ext W1 w3:=Xq;have HN3:=Hy (show NewS W1 xn (bc x) (.slice A3 xn c3) w3 from ⟨A3,c3,rfl,hr3,hb3.imp (fun h=>h) fun h a ha=>Nat.le_trans (show Ext W1 _ from Xq).size (h a ha)⟩);clear hr3 hb3;have y6:=fun z=>(hk6.out (w3.alloc z) (Ext.al hxw3 z)).1;have z6:=fun z=>(hk6.out (w3.alloc z) (Ext.al hxw3 z)).2))
       all_goals (go_wp2_with fail;go_meet)
       all_goals (
        obtain ⟨o8,f1,f2⟩:=cn_tell hk hk8 HX1.out HRW.out HUN.out US1.out US2.out HU.out HASK.out hxw3 (x:=x) (by rw [← HXN.out];exact HN3.out)
        rw [← HXN.out] at f1 f2
        exact ⟨o8,⟨a,f1,HNX.out⟩,ST1.out.tr f2⟩)
      case rest =>
       obtain ⟨o8,h8,st8⟩:=hcut
       have CW:=Hy (nWrite_c w0 hL k c hk hk8 { s with row:=l++.ask { q with ans:=some x }::r } (fun t ht=>by
        have hok:=HOK.out
        rw [HRW.out] at hok
        rcases List.mem_append.1 ht with h | h
        ·exact hok t (List.mem_append_left _ h)
        ·rcases List.mem_cons.1 h with h | h
         ·rw [h]
          intro y hy
          cases hy
          exact hx100
         ·exact hok t (List.mem_append_right _ (List.mem_cons_of_mem _ h))) (by
        have h1:=HSZ.out
        rw [HRW.out] at h1
        simpa using h1) wc o8 (HO.out.sto st8 (kc0 hk)) h8)
       have ST8:=Hy st8
       clear h8 st8
       go_wp2_with (go_at_call 27;refine (CW.out).mono ?_;rintro e w5 ⟨rfl,o5,hx5,st5⟩;have HX5:=Hy hx5;have ST5:=Hy st5;clear hx5 st5)
       go_ret
       rw [HQ.out]
       exact TurnsO.mk o5 rfl ⟨rfl,HX5.out⟩ (ST8.out.tr ST5.out)
    ·have e2:((qi:Int) != (id:Int))=true:=by rw [bne_iff_ne];omega
     have HNM:=Hy (show NoM id (.ask q) from fun h=>e1 (hqi.trans h.1))
     obtain ⟨el,hel⟩:∃ e,e=Th24.ask q:=⟨_,rfl⟩
     rw [← hel] at HNM HRW
     clear hel hlen hqi hrow6 HASK e1
     go_wp2
     go_roundw
     case rel=>exact ⟨l++[el],r,by rw [List.append_assoc];exact HRW.out,by rw [List.length_append,← HM.out];go_num,HNL.out.snoc HNM.out,rfl⟩
     case measure=>simp [intOf];omega
end Go.Proofs.YthbofilcnpdghaaGreatDoor
end
section
namespace Go.Proofs.YthbofilcnpdghaaGreatDoor
theorem uni_nil:UnI []:=fun p a t h=>by cases p <;> cases h
theorem uni_cons {x:Th24} {l:List Th24} (h:UnI l) (hx:∀ a,x=.ask a→∀ b,Th24.ask b∈l→b.id≠a.id):UnI (x::l):=by
 intro p a t e
 cases p with
 | nil =>
  have e1:x=.ask a∧l=t:=by simpa using e
  obtain ⟨e1,rfl⟩:=e1
  exact ⟨fun b hb=>(by cases hb),hx a e1⟩
 | cons y p =>
  have e1:x=y∧l=p++.ask a::t:=by simpa using e
  obtain ⟨rfl,e1⟩:=e1
  obtain ⟨h1,h2⟩:=h p a t e1
  refine ⟨fun b hb=>?_,h2⟩
  rcases List.mem_cons.1 hb with hb | hb
  ·exact fun e=>hx b hb.symm a (by rw [e1];simp) e.symm
  ·exact h1 b hb
theorem ids_asks:∀ (l:List Ev24) (i:Nat) (t:List Th24),EndR t→∀ b,Th24.ask b∈asksC i l++t→i≤b.id
 | [],i,t,ht,b,hb=>by
  rcases ht with rfl | ⟨st,rfl⟩
  ·simp [asksC] at hb
  ·simp [asksC] at hb
 | e::l,i,t,ht,b,hb=>by
  rcases List.mem_cons.1 (show Th24.ask b∈Th24.ask ⟨i,e.r,lastingC e.r,none⟩::(asksC (i+1) l++t) from hb) with h | h
  ·have:b=⟨i,e.r,lastingC e.r,none⟩:=by simpa using h
   rw [this];exact Nat.le_refl _
  ·have:=ids_asks l (i+1) t ht b h
   omega
theorem uni_asks:∀ (l:List Ev24) (i:Nat) (t:List Th24),EndR t→UnI (asksC i l++t)
 | [],i,t,ht=>by
  rcases ht with rfl | ⟨st,rfl⟩
  ·exact uni_nil
  ·exact uni_cons uni_nil (fun a h=>by cases h)
 | e::l,i,t,ht=>by
  refine uni_cons (x:=.ask ⟨i,e.r,lastingC e.r,none⟩) (uni_asks l (i+1) t ht) (fun a ha b hb=>?_)
  have h1:=ids_asks l (i+1) t ht b hb
  have h2:a=⟨i,e.r,lastingC e.r,none⟩:=by simpa using ha.symm
  rw [h2]
  show b.id≠i
  omega
theorem uni_left {i:Nat} {l:List Ev24} {t:List Th24} (ht:EndR t):UnI (leftC i l t):=by
 cases l with
 | nil=>exact uni_nil
 | cons e m=>exact uni_asks (e::m) i t ht
theorem writes_fit (rd:Bool):∀ (l:List Th24),RowOk l→(writesC rd l).1.length+(writesC rd l).2.length*40000≤l.length*40000
 | [],_=>by simp [writesC]
 | .ref st::t,h=>by
  have h1:=writes_fit rd t (fun x hx=>h x (List.mem_cons_of_mem _ hx))
  have h2:=refused_le st
  show (refusedC st++(writesC rd t).1).length+(writesC rd t).2.length*40000≤_
  rw [List.length_append,List.length_cons]
  omega
 | .ask a::t,h=>by
  have h1:=writes_fit rd t (fun x hx=>h x (List.mem_cons_of_mem _ hx))
  cases ha:a.ans with
  | none =>
   have e:writesC rd (.ask a::t)=([],.ask a::t):=by unfold writesC;rw [ha]
   rw [e]
   simp
  | some x =>
   have hx:=h _ List.mem_cons_self x ha
   have e:writesC rd (.ask a::t)=(writtenC a (decide (t=[]) && !rd) x++(writesC rd t).1,(writesC rd t).2):=by conv=>lhs;unfold writesC;rw [ha]
   rw [e]
   have h2:=written_le a (decide (t=[]) && !rd) x hx
   show (writtenC a (decide (t=[]) && !rd) x++(writesC rd t).1).length+(writesC rd t).2.length*40000≤(Th24.ask a::t).length*40000
   rw [List.length_append,List.length_cons]
   omega
theorem rowOk_left {i:Nat} {l:List Ev24} {t:List Th24} (h:RowOk (asksC i l++t)):RowOk (leftC i l t):=by
 cases l with
 | nil=>exact fun x hx=>by cases hx
 | cons e m=>exact h
theorem ans_fit {s:Cst} {i:Nat} {e:Ev24} {l:List Ev24} {t:List Th24} {x:List UInt8} (ht:EndR t) (h:s.row=leftC i (e::l) t) (hr:RowOk s.row) (hx:x.length≤100) :
  RowOk (answerC s i x).1.row∧(answerC s i x).1.out.length+(answerC s i x).1.row.length*40000≤s.out.length+s.row.length*40000:=by
 have hr2:RowOk (asksC i (e::l)++t):=by rw [h] at hr;exact hr
 have hr3:RowOk (asksC (i+1) l++t):=fun y hy=>hr2 y (List.mem_cons_of_mem _ hy)
 refine ⟨by rw [(answer_step ht h x).2.1];exact rowOk_left hr3,?_⟩
 have e1:tellC i x s.row=some (.ask ⟨i,e.r,lastingC e.r,some x⟩::(asksC (i+1) l++t)):=by
  rw [h]
  show (if _ then _ else _)=_
  rw [if_pos ⟨rfl,rfl⟩]
  rfl
 have hR:RowOk (.ask ⟨i,e.r,lastingC e.r,some x⟩::(asksC (i+1) l++t)):=fun y hy=>by
  rcases List.mem_cons.1 hy with rfl | hy
  ·intro z hz;cases hz;exact hx
  ·exact hr3 y hy
 have hw:=writes_fit s.reads _ hR
 generalize hRe:(Th24.ask ⟨i,e.r,lastingC e.r,some x⟩::(asksC (i+1) l++t))=R at e1 hw hR
 have hl:s.row.length=R.length:=by rw [h,← hRe];rfl
 unfold answerC
 rw [e1]
 show (s.out++(writesC s.reads R).1).length+(writesC s.reads R).2.length*40000≤s.out.length+s.row.length*40000
 rw [List.length_append,hl]
 omega
theorem reads_in {e:List Ev24}:∀ (n:Nat) (s:Cst) (b:List UInt8),InI e s→InI e (readsC n s b)
 | 0,_,_,h=>h
 | n+1,s,b,h=>by
  show InI e (if _ then _ else _)
  split
  ·rename_i hc
   exact reads_in n _ _ (h.read hc.1 hc.2)
  ·exact h
theorem all_in {e:List Ev24} {s:Cst} (h:InI e s) (b:List UInt8):InI e (allC s b):=reads_in _ _ _ h
theorem write_in {z:Cst} (h:InI [] z) (hr:z.reads=true):writeC z=z:=by
 rcases h.f.row with h1 | ⟨h1,_⟩
 ·exact write_asks h1
 ·rw [show (pushE [] z).reads=z.reads from rfl,hr] at h1;cases h1
theorem in_put {z:Cst} (h:InI [] z) (hr:z.reads=true):InI z.evs (putC z):=by
 have e:putC z={ z with evs:=[] }:=by unfold putC;rw [write_in h hr]
 have e2:pushE z.evs { z with evs:=[] }=z:=by
  show ({ z with evs:=z.evs++[] }:Cst)=z
  rw [List.append_nil]
 rw [e]
 obtain ⟨g1,g2⟩:=h.g hr
 refine ⟨by rw [e2];exact h.f,⟨h.o.o,h.o.e⟩,h.r,fun _=>⟨⟨⟨g1.ok.mo,g1.ok.hp,g1.ok.rp,g1.ok.bd⟩,g1.inv,g1.fl⟩,g2⟩⟩
theorem rowOk_writes (rd:Bool):∀ l:List Th24,RowOk l→RowOk (writesC rd l).2
 | [],h=>h
 | .ref st::t,h=>rowOk_writes rd t (fun x hx=>h x (List.mem_cons_of_mem _ hx))
 | .ask a::t,h=>by
  cases ha:a.ans with
  | none=>rw [writes_none rd ha];exact h
  | some x=>rw [writes_some rd ha];exact rowOk_writes rd t (fun x hx=>h x (List.mem_cons_of_mem _ hx))
theorem put_fit {z:Cst} (h:InI [] z):RowOk (putC z).row∧(putC z).out.length+(putC z).row.length*40000≤1099511627776∧(putC z).row.length≤65:=by
 obtain ⟨h1,h2,h3,h4⟩:=h.few
 have h5:=writes_fit z.reads z.row h.r
 refine ⟨rowOk_writes _ _ h.r,?_,?_⟩
 ·show (z.out++(writesC z.reads z.row).1).length+(writesC z.reads z.row).2.length*40000≤_
  rw [List.length_append]
  omega
 ·show (writesC z.reads z.row).2.length≤65
  omega
structure RefI (r:Bool) (t:List Th24) (i:Nat) (m:List Ev24) (s:Cst):Prop where
 row:s.row=leftC i m t
 rd:s.reads=r
 ev:s.evs=[]
 ok:RowOk s.row
 sz:s.out.length+s.row.length*40000≤1099511627776
theorem RefI.start {z:Cst} (h:InI [] z):∃ t,EndR t∧RefI z.reads t 0 z.evs (putC z):=by
 obtain ⟨t,ht,_,h2⟩:=fresh_row (z:=z) h.f
 obtain ⟨h3,h4,_⟩:=put_fit h
 exact ⟨t,ht,h2,rfl,rfl,h3,h4⟩
theorem answer_evs (s:Cst) (id:Nat) (x:List UInt8):(answerC s id x).1.evs=s.evs:=by
 unfold answerC
 split <;> rfl
theorem RefI.step {r:Bool} {t:List Th24} (ht:EndR t) {i:Nat} {e:Ev24} {m:List Ev24} {s:Cst} (h:RefI r t i (e::m) s) (x:List UInt8) (hx:x.length≤100):RefI r t (i+1) m (answerC s i x).1∧(answerC s i x).2=0:=by
 obtain ⟨h1,h2,h3⟩:=answer_step ht h.row x
 obtain ⟨h4,h5⟩:=ans_fit ht h.row h.ok hx
 exact ⟨⟨h2,h3.trans h.rd,(answer_evs s i x).trans h.ev,h4,Nat.le_trans h5 h.sz⟩,h1⟩
theorem RefI.uni {r:Bool} {t:List Th24} (ht:EndR t) {i:Nat} {m:List Ev24} {s:Cst} (h:RefI r t i m s):UnI s.row:=by rw [h.row];exact uni_left ht
theorem in_any {z:Cst} (h:InI [] z):InI z.evs (putC z)∨((putC z).reads=false∧RowOk (putC z).row∧(putC z).out.length+(putC z).row.length*40000≤1099511627776):=by
 cases hr:z.reads with
 | true=>exact .inl (in_put h hr)
 | false=>exact .inr ⟨hr,(put_fit h).1,(put_fit h).2.1⟩
theorem put_more {m:Nat} (hm:m≤1048576) (a p:List UInt8):inputC (putC (allC (newC m) a)) p=(putC (allC (newC m) (a++p)),(inputC (putC (allC (newC m) a)) p).2)∧(allC (newC m) (a++p)).evs=(allC (newC m) a).evs++(inputC (putC (allC (newC m) a)) p).2:=by
 have hf:=all_fresh (new_fresh m) a
 have e:=all_app a.length (newC m) a p (Nat.le_refl _) (new_cok hm)
 obtain ⟨h1,h2⟩:=put_input hf p
 rw [e]
 exact ⟨by
      conv=>lhs;rw [h1]
      rw [h1],h2⟩
theorem put_new (m:Nat) (b:List UInt8):inputC (newC m) b=(putC (allC (newC m) b),(allC (newC m) b).evs):=rfl
end Go.Proofs.YthbofilcnpdghaaGreatDoor
end
section
namespace Go.Proofs.YthbofilcnpdghaaGreatDoor
open Go.RowKit
def WaitL (s:Cst) (w:World) (v3 v16:Value) (wr:World):Prop:=∃ l t,s.row=l++t∧v16=.int .i64 (l.length:Int)∧v3=.int .i64 (waitC l:Int)∧wr=w
theorem wait_le (l:List Th24):waitC l≤l.length:=List.length_filter_le _ _
theorem nWaiting_c (k c:Nat) (s:Cst) (hsz:s.row.length≤1000000) (w:World) (o:Ow) (h:CnAt w o k c s):Calls Tryz.prog 16 #[.pointer (some ⟨c,0,none⟩)] w (Tells (.int .i64 (waitC s.row:Int)) w):=by
 obtain ⟨a,hx,hnx⟩:=h
 have HX:=Hy hx
 obtain ⟨us,us1,us2⟩:=hx.p.row
 have US1:=Hy us1
 have US2:=Hy us2
 have c6:w.cell? ⟨c,6,none⟩=some (.func (.func a.nx) #[.pointer (some ⟨c,0,none⟩)] #[]):=hx.row.c6
 have c16:w.cell? ⟨c,16,none⟩=some (.slice a.L s.row.length a.cl):=hx.row.c16
 obtain ⟨AL,hAL⟩:∃ A,A=a.L:=⟨_,rfl⟩
 rw [← hAL] at c16
 have HLK:=Hy (show ∀ m u,us[m]?=some u→∃ g f,AL=some ⟨g,f,none⟩∧w.cell? ⟨g,f+m,none⟩=some u from fun m u hu=>by
  rcases US1.out.rd with h0 | ⟨g,f,hA,hc⟩
  ·rw [h0] at hu;simp at hu
  ·exact ⟨g,f,hAL.trans hA,hc m u hu⟩)
 obtain ⟨rn,hrn⟩:∃ n,n=s.row.length:=⟨_,rfl⟩
 rw [← hrn] at c16
 have HRN:=Hy hrn
 have HSZ:=Hy hsz
 clear us1 us2 hAL hrn hx hnx hsz
 go_enter Tryz.func16,Tryz.ntmps16
 go_wp2_with (go_at_call 25;refine (nNone_c _ _ _ _ c6).mono ?_;rintro e w2 ⟨rfl,hw⟩;subst hw)
 go_loopw [3,16] (fun v3 v16 wr=>WaitL s w v3 v16 wr) (fun _ v16 _=>rn-(intOf v16).toNat)
 case atStart=>exact ⟨[],s.row,rfl,rfl,rfl,rfl⟩
 case round =>
  obtain ⟨l,t,hlt,rfl,rfl,hw⟩:=hrel
  have hw:=hw.symm
  subst hw
  have hlen:rn=l.length+t.length:=by rw [HRN.out,hlt,List.length_append]
  obtain ⟨m,hm⟩:∃ m,m=l.length:=⟨_,rfl⟩
  obtain ⟨n,hn⟩:∃ n,n=waitC l:=⟨_,rfl⟩
  have hnm:n≤m:=by rw [hn,hm];exact wait_le l
  rw [← hm]
  rw [← hn]
  cases t with
  | nil =>
   have hmr:¬(m:Int)<(rn:Int):=by simp at hlen;omega
   have HQ:=Hy (show waitC s.row=n from by rw [hlt,List.append_nil,hn])
   clear hlt hlen hm hn hnm
   go_wp2
   go_ret
   rw [HQ.out]
   exact ⟨rfl,rfl⟩
  | cons el r =>
   have hmr:(m:Int)<(rn:Int):=by simp at hlen;omega
   have hm0:(0:Int)≤(m:Int):=by omega
   have hrs:rn≤1000000:=by rw [HRN.out];exact HSZ.out
   have hm2:IntKind.i64.wrap ((m:Int)+1)=((m+1:Nat):Int):=by rw [IntKind.wrap_i64];omega
   have hn2:IntKind.i64.wrap ((n:Int)+1)=((n+1:Nat):Int):=by rw [IntKind.wrap_i64];omega
   obtain ⟨u,hu,hth⟩:=ThL.at_ (p:=l) (t:=r) (x:=el) (by rw [← hlt];exact US2.out)
   obtain ⟨g,f,rfl,hcb⟩:=HLK.out _ u hu
   rw [← hm] at hcb
   have HM:=Hy hm
   have HN:=Hy hn
   have HRW:=Hy hlt
   clear hlt hm hn hu hnm hlen hrs
   cases el with
   | ref st =>
    obtain rfl:u=.iface 85 (.int .i64 st):=hth
    have h1:=ta_ra st
    go_wp2
    go_roundw
    case rel=>exact ⟨l++[.ref st],r,by rw [List.append_assoc];exact HRW.out,by rw [List.length_append,← HM.out];go_num,by rw [wait_app,← HN.out];rfl,rfl⟩
    case measure=>simp [intOf];omega
   | ask q =>
    obtain ⟨p,rfl,_⟩:=hth
    have h2:=ta_aa ⟨p,0,none⟩
    go_wp2
    go_roundw
    case rel=>exact ⟨l++[.ask q],r,by rw [List.append_assoc];exact HRW.out,by rw [List.length_append,← HM.out];go_num,by rw [wait_app,← HN.out];rfl,rfl⟩
    case measure=>simp [intOf];omega
def RestV (q:Sp24) (e:Ending) (w':World) (o':Ow):Prop:=match q.2.1 with
 | none=>∃ B d,e=.returned (.slice B q.2.2.length d)∧q.2.2.length≤d∧Ro w' o' B (bc q.2.2)
 | some st=>e=.panicked [{ v:=.iface 85 (.int .i64 st),recovered:=false }]
def EndsS (K:Nat→Prop) (k:Nat) (w:World) (o:Ow) (c:Nat) (Q:Option Addr→Prop) (q:Sp24) (e:Ending) (w':World):Prop:=∃ o' R,CnAtR w' o' k c q.1 R∧Sto K w o w' o'∧RestV q e w' o'∧(q.2.1=none→Q R)
theorem cut_ro (ty el:TypeId) (hu:Tryz.prog.underlying ty=some (.slice el)) (hz:∀ w',(Go.sizeOf el).run Tryz.prog w'=.ok 1 w') (b:List UInt8) (B:Option Addr) (n c X:Nat) (x:Int) (hx:x=(X:Int)) (hl:n=b.length) (hX:X≤n) (hc:n≤c) :
  ∃ B',(∀ w',(Instr.slice ty (.slice B n c) (some (.int .i64 x)) none none).run Tryz.prog w'=.ok (.slice B' (n-X) (c-X)) w')∧∀ w' o',Ro w' o' B (bc b)→Ro w' o' B' (bc (b.drop X)):=by
 subst hx
 refine ⟨if c=X then B else B.map (·.add X),fun w'=>?_,fun w' o' hR=>?_⟩
 ·have h2:(X:Int)≤(n:Int):=by omega
  have h3:(0:Int)≤(X:Int):=by omega
  have h4:(0:Int)≤(n:Int):=by omega
  have h5:(n:Int)≤(c:Int):=by omega
  simp [Instr.slice,Instr.sliceBounds,Instr.sliceBound,asIntOf,run_underlying hu,go_sem,h2,h3,h4,h5,hz,hX,hc]
 ·by_cases h0:X=n
  ·exact .inl (by rw [h0,hl];simp [bc])
  ·rw [if_neg (by omega)]
   rcases hR with h | ⟨g,f,rfl,hg,ho,hcc⟩
   ·refine .inl ?_
    have:b=[]:=by simpa [bc] using h
    rw [this];simp [bc]
   ·refine .inr ⟨g,f+X,by simp [Addr.add,add_mk],hg,ho,fun j u hu=>?_⟩
    rw [Nat.add_assoc]
    exact hcc (X+j) u (by rw [← hu,bc,bc,List.map_drop,List.getElem?_drop])
theorem CnX.rdPut {w w2:World} {o o2:Ow} {k c R:Nat} {s:Cst} {a:Cad} (hk:0<k) (hk8:k<80) (h:CnX w o k c s a) (hR:a.R=some ⟨R,0,none⟩) (r:Rst) (st:Stp (KF (k+9)) w o w2 o2) (hf:FsAt w2 o2 (k+9) R r) :
  CnX w2 o2 k c { s with rd:=some r } a∧Sto (KC k) w o w2 o2:=by
 obtain ⟨ho,hr,hp⟩:=h
 have t:=st.sto
 have h0:¬ KF (k+9) 0:=by unfold KF;omega
 refine ⟨⟨(t.own c (row_lt hr) (by rw [ho];unfold KF;omega)).trans ho,hr.sto t (by rw [ho];unfold KF;omega),?_⟩,t.mono fun i hi=>by unfold KF at hi;unfold KC;omega⟩
 exact ⟨hp.hp.sto t (by unfold KF;omega) (by unfold KF;omega) (by unfold KF;omega),⟨R,hR,hf⟩,hp.r.sto t h0,hp.got.sto t (by unfold KF;omega),hp.evsS t h0 (by unfold KF;omega),hp.ez,hp.rowS t h0 (by unfold KF;omega) (fun a _=>by unfold KF KA;omega),hp.lz,hp.out.sto t (by unfold KF;omega),hp.oz⟩
theorem nBodies_c (w0:World) (hL:Lb w0) (k c:Nat) (hk:0<k) (hk8:k<80) (s:Cst) (hi:s.inBody=true) (hg:GotOk s) (hf:Rq8 s.r) (he:s.evs.length≤99) (hrow:s.row.length≤100) (hnum:s.number≤1000000) (b:List UInt8) (B:Option Addr) (n d:Nat) (hn:n=b.length) (hd:n≤d) (hnb:n≤4611686018427387904) (w:World) (o:Ow) (hO:Old w0 w o) (RA:Option Addr) (h:CnAtR w o k c s RA) (hB:Ro w o B (bc b)) :
  Calls Tryz.prog 64 #[.pointer (some ⟨c,0,none⟩),.slice B n d] w (EndsS (KC k) k w o c (fun R'=>R'=RA) (bodiesC s b)):=by
 obtain ⟨a,hx,hnx⟩:=h
 obtain ⟨r,hrd,hrok,hrb,hrl⟩:=hg hi
 have hRd:=hx.p.rd
 rw [hrd] at hRd
 obtain ⟨R,hR,hfs⟩:=hRd
 have CF:=Hy (fFeed_c (k+9) R (by omega) r (.inr (.inr hrok)) b B n d hn hnb w o hfs (hO.glF hL) hB.rd (fun hne a ha hl=>by
  rcases hB with h0 | ⟨g,f,hA,_,hog,_⟩
  ·exact absurd (by simpa [bc] using h0) hne
  ·rw [hA] at ha;cases ha;show ¬ KF (k+9) (o g);rw [hog];unfold KF;omega))
 have c8:=hx.row.c8
 rw [hR] at c8
 have HQ:=Hy (show bodiesC s b=(let q:=feedF r b;let s1:Cst:={ s with rd:=some q.1,got:=s.got++q.2.2.1 };if q.2.2.2.2=6 then (s1,some 413,b.drop q.2.1) else if q.2.2.2.2≠0 then (s1,some 400,b.drop q.2.1) else if q.2.2.2.1=true then ((requestC s1).1,(requestC s1).2,b.drop q.2.1) else (s1,none,b.drop q.2.1)) from by unfold bodiesC;rw [hrd])
 obtain ⟨ff1,ff2,ff3⟩:=feed_fits hrok hrb b
 have ff4:=feed_all_le hrok b
 have hul:=usedF_le r b
 obtain ⟨⟨r2,u,bd,dn,er⟩,hq⟩:∃ q,q=feedF r b:=⟨_,rfl⟩
 rw [← hq] at CF HQ ff1 ff2 ff3 ff4 hul
 dsimp only at HQ ff1 ff2 ff3 ff4 hul
 have hgb:s.got.length+bd.length≤1048576:=by have:=hrok.mo;omega
 obtain ⟨B',hcut,hcro⟩:=cut_ro 22 5 Tryz.underlying22 (fun _=>rfl) b B n d u (u:Int) rfl hn (by omega) hd
 have HCR:=Hy hcro
 have HX:=Hy hx
 have HNX:=Hy hnx
 have HB:=Hy hB
 have HF:=Hy hf
 have HR:=Hy hR
 have HN:=Hy hn
 clear hx hnx hrd hrok hrb hrl hfs hq ff1 ff2 ff3 ff4 hcro hB hR hf hg hn hO
 go_enter Tryz.func64,Tryz.ntmps64
 go_upto_region 2 with (first
  | (go_at_call 36;refine (CF.out).mono ?_;rintro e w2 ⟨v,o2,rfl,⟨⟨C,g,rfl,hC⟩,hf2⟩,st2⟩;dsimp only at hC;obtain ⟨hX2,sto2⟩:=HX.out.rdPut hk hk8 HR.out r2 st2 hf2;have HC:=Hy hC;have HX2:=Hy hX2;have STO2:=Hy sto2;clear hC hf2 st2 hX2 sto2))
 have hX2:=HX2.out
 have d14:w2.cell? ⟨c,14,none⟩=some (.slice a.B a.nb a.cb):=hX2.row.c14
 obtain ⟨e1,e2,e3⟩:=hX2.p.got hi
 dsimp only at e1 e2
 rw [e1] at d14
 have HG2:=Hy (show Sl w2 o2 (k+4) 1 a.B s.got.length a.cb (bc s.got) from by rw [← e1];exact e2)
 have HB2:=Hy (HB.out.sto STO2.out (kc0 hk))
 obtain ⟨gl,hgl⟩:∃ x,x=s.got.length:=⟨_,rfl⟩
 have HGL:=Hy hgl
 rw [← hgl] at d14 HG2 hgb
 clear hX2 e1 e2 hgl CF c8
 go_cut [] (fun wx=>AtC k c w2 o2 { s with rd:=some r2,got:=s.got++bd } (nxC true,RA) wx)
 case first =>
  go_wp2_with (first
   | (at_builtin;refine wpL_put slt_u8 (.tmp 24) (.tmp 25) rfl rfl rfl rfl HG2.out e3 (Sl.src Tryz.underlying22 HC.out.rd (by rw [bc_len];omega) (by omega) (bc_one bd) g) (by omega) (by simp only [maxLen];omega) ?_;intro A5 c5 w5 o5 hs5 st5 hn5;have r5:=(st5.sto.keep c (row_lt HX2.out.row) (by rw [HX2.out.own];omega)).trans HX2.out.row;have y14:=(row_facts r5 14 _ rfl).1;have g14:=(row_facts r5 14 _ rfl).2;have HT:=Hy (HX2.out.gotPut hk hk8 st5 bd (A5:=A5) (c5:=c5) (by show Sl w5 o5 (k+4) 1 A5 (s.got.length+bd.length) c5 (bc s.got++bc bd);rw [← HGL.out];exact hs5) hn5);clear r5 hs5 st5 hn5))
  go_meet
  rw [HGL.out]
  exact ⟨o5,_,HT.out.1,HT.out.2,by rw [← hi];exact HNX.out⟩
 case rest =>
  obtain ⟨o6,a6,hX6,st6,hn6⟩:=hcut
  have HB6:=Hy (HB2.out.sto st6 (kc0 hk))
  have STO6:=Hy (STO2.out.tr st6)
  obtain ⟨s1,hs1⟩:∃ s1:Cst,s1={ s with rd:=some r2,got:=s.got++bd }:=⟨_,rfl⟩
  rw [← hs1] at hX6 HQ
  have hq1:s1.inBody=true∧s1.evs=s.evs∧s1.row=s.row∧s1.number=s.number∧s1.r=s.r:=by rw [hs1];exact ⟨hi,rfl,rfl,rfl,rfl⟩
  obtain ⟨q1,q2,q3,q4,q5⟩:=hq1
  have HA6:=Hy (show CnAtR wc o6 k c s1 RA from ⟨a6,hX6,by rw [hn6,q1]⟩)
  have CR:=Hy (nRequest_c k c hk hk8 s1 q1 (by rw [q5];exact HF.out.2.2) (by rw [q2];omega) (by rw [q3];exact hrow) (by rw [q4];exact hnum) wc o6 RA HA6.out)
  have HU:=Hy (show (b.drop u).length=n-u from by rw [List.length_drop,HN.out])
  have hdu:n-u≤d-u:=by omega
  clear hX6 hs1 hn6 st6 q1 q2 q3 q4 q5 HX HX2 HB HB2 HC HG2 HNX STO2 HGL HR HF d14
  have HCR6:=Hy (fun w' o' (t:Sto (KC k) wc o6 w' o')=>HCR.out w' o' (HB6.out.sto t (kc0 hk)))
  clear HCR HB6
  by_cases e6:er=6
  ·subst e6
   have HQ2:=Hy (show bodiesC s b=(s1,some 413,b.drop u) from by rw [HQ.out];rfl)
   clear HQ
   go_wp2_with (go_at_call 40;refine (nRefuse_c _ _).mono ?_;rintro e w9 ⟨rfl,rfl⟩)
   simp only [bodyPost]
   rw [HQ2.out]
   exact ⟨trivial,o6,RA,HA6.out,STO6.out,rfl,fun h=>by cases h⟩
  ·have k6:(er == 6)=false:=by rw [beq_eq_false_iff_ne];exact e6
   by_cases e0:er=0
   ·subst e0
    cases dn with
    | false =>
     have HQ2:=Hy (show bodiesC s b=(s1,none,b.drop u) from by rw [HQ.out];rfl)
     clear HQ e6
     go_wp2
     go_ret
     rw [HQ2.out]
     exact ⟨o6,RA,HA6.out,STO6.out,⟨B',d-u,by rw [HU.out];rfl,by rw [HU.out];exact hdu,HCR6.out _ _ Sto.rfl'⟩,fun _=>rfl⟩
    | true =>
     have HQ2:=Hy (show bodiesC s b=((requestC s1).1,(requestC s1).2,b.drop u) from by rw [HQ.out];rfl)
     obtain ⟨⟨s2,st⟩,hq⟩:∃ q,q=requestC s1:=⟨_,rfl⟩
     rw [← hq] at CR HQ2
     clear HQ e6 hq
     cases st with
     | none =>
      have CR2:=Hy (CR.out.mono (R':=fun e w'=>e=.returned (.tuple #[])∧∃ o' R',CnAtR w' o' k c s2 R'∧Sto (KC k) wc o6 w' o'∧(R'=RA)) (by rintro e w' ⟨rfl,o',R',h1,h2,h3⟩;exact ⟨rfl,o',R',h1,h2,h3 rfl⟩))
      clear CR
      go_wp2_with (go_at_call 91;refine (CR2.out).mono ?_;rintro e w7 ⟨rfl,o7,R7,hA7,st7,hR7⟩)
      go_ret
      rw [HQ2.out]
      exact ⟨o7,R7,hA7,STO6.out.tr st7,⟨B',d-u,by rw [HU.out];rfl,by rw [HU.out];exact hdu,HCR6.out _ _ st7⟩,fun _=>hR7⟩
     | some st =>
      have CR2:=Hy (CR.out.mono (R':=fun e w'=>e=.panicked [{ v:=.iface 85 (.int .i64 st),recovered:=false }]∧∃ o' R',CnAtR w' o' k c s2 R'∧Sto (KC k) wc o6 w' o' ) (by rintro e w' ⟨rfl,o',R',h1,h2,h3⟩;exact ⟨rfl,o',R',h1,h2⟩))
      clear CR
      go_wp2_with (go_at_call 91;refine (CR2.out).mono ?_;rintro e w7 ⟨rfl,o7,R7,hA7,st7⟩)
      simp only [bodyPost]
      rw [HQ2.out]
      exact ⟨trivial,o7,R7,hA7,STO6.out.tr st7,rfl,fun h=>by cases h⟩
   ·have k0:(er != 0)=true:=by rw [bne_iff_ne];exact e0
    have HQ2:=Hy (show bodiesC s b=(s1,some 400,b.drop u) from by rw [HQ.out,if_neg e6,if_pos e0])
    clear HQ e6 e0
    go_wp2_with (go_at_call 40;refine (nRefuse_c _ _).mono ?_;rintro e w9 ⟨rfl,rfl⟩)
    simp only [bodyPost]
    rw [HQ2.out]
    exact ⟨trivial,o6,RA,HA6.out,STO6.out,rfl,fun h=>by cases h⟩
end Go.Proofs.YthbofilcnpdghaaGreatDoor
end
