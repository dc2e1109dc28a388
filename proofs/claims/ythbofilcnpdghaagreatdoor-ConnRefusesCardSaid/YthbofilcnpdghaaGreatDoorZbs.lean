/-
A connection's New.
-/
import Derived.Test.YthbofilcnpdghaaGreatDoorZbb
import Derived.Test.YthbofilcnpdghaaGreatDoorZbq
import Derived.Test.YthbofilcnpdghaaGreatDoorZbr
set_option maxRecDepth 100000
set_option maxHeartbeats 8000000
set_option linter.unusedVariables false
set_option linter.unusedSimpArgs false
section
namespace Go.Proofs.YthbofilcnpdghaaGreatDoor
open Go.RowKit
theorem Sto.setNewJ {K:Nat → Prop} {w w':World} {o o':Ow} (h:Sto K w o w' o') (b off:Nat) (u:Value) (hb:w.heap.size ≤ b):Sto K w o (w'.setCell ⟨b,off,none⟩ u) o' :=
 ⟨h.os,h.tape,h.output,by have:=h.size; simpa using this,h.own,fun i hi hk=>(Below.heap_setCell w' ⟨b,off,none⟩ u i (by show i ≠ b; omega)).trans (h.keep i hi hk)⟩
def newA (P:Nat) (kp:Int) (nx:FuncId):Cad:=⟨nx,kp,P,none,none,0,none,0,0,none,0,none,0,none,0⟩
def newV (most kp:Nat) (P:Nat):Array Value:=#[.int .i64 (most:Int),.int .i64 (kp:Int),.int .i64 0,.int .i64 0,.bool true,.bool false,.nilFunc,.pointer (some ⟨P,0,none⟩),.pointer none,.int .i64 0,.string ⟨#[]⟩,.string ⟨#[]⟩,.int .i64 0,.slice none 0 0,.slice none 0 0,.slice none 0 0,.slice none 0 0,.int .i64 0,.slice none 0 0]
def NewW (k:Nat) (w:World) (o:Ow) (most kp:Nat) (v:Value) (wx:World):Prop:=∃ c P o',v=.pointer (some ⟨c,0,none⟩)∧wx.heap[c]?=some (.cells (newV most kp P) 59 (0,0))∧PsAt wx o' (k + 5) P (newP false)∧Stp (fun _=>False) w o wx o'∧w.heap.size ≤ c∧o' c=k
theorem nNew_c (k:Nat) (hk:0 < k) (hk8:k < 80) (most kp:Nat) (hm:most ≤ 1048576) (hkp:kp ≤ 3600) (w:World) (o:Ow) :
  Calls Tryz.prog 7 #[.agg #[.int .i64 (most:Int),.int .i64 (kp:Int)],.int .i64 0] w fun e w'=>∃ c o',e=.returned (.tuple #[.pointer (some ⟨c,0,none⟩),.int .i64 0])∧CnAt w' o' k c (newC most)∧Sto (fun _=>False) w o w' o'∧w.heap.size ≤ c:=by
 have a1:¬ (most:Int) < 0:=by omega
 have a2:¬ (1048576:Int) < (most:Int):=by omega
 have a3:¬ (kp:Int) < 0:=by omega
 have a4:¬ (3600:Int) < (kp:Int):=by omega
 have CP:=Lib.hid (fun (w':World)=>hNewParser_c (k + 5) false w' o)
 clear hm hkp
 go_enter Tryz.func7,Tryz.ntmps7
 go_upto_region 3 with (fail)
 obtain ⟨W1,hW1⟩:∃ W,W=w.alloc (.cells #[.int .i64 (most:Int),.int .i64 (kp:Int)] 29):=⟨_,rfl⟩
 rw [← hW1]
 have x1:Ext w W1:=by rw [hW1]; exact (Ext.rfl' w).al _
 have r1:W1.heap[w.heap.size]?=some (.cells #[.int .i64 (most:Int),.int .i64 (kp:Int)] 29 (0,0)):=by rw [hW1]; exact heap_alloc_new w _
 have hks:=Lib.hid (fun w' (e:Ext W1 w')=>(show w'.cell? ⟨w.heap.size,0,none⟩=some (.int .i64 (most:Int))∧w'.cell? ⟨w.heap.size,1,none⟩=some (.int .i64 (kp:Int)) from by
  have h:=(e.block _ (row_lt r1)).trans r1
  exact ⟨(row_facts h 0 _ rfl).1,(row_facts h 1 _ rfl).1⟩))
 obtain ⟨b0,b1⟩:=hks.out W1 (Ext.rfl' _)
 have X1:=Lib.hid x1
 clear r1 hW1 x1
 go_cut [6] (fun v6 wx=>NewW k w o most kp v6 wx)
 case first =>
  go_region_with (go_at_call 22; refine (CP.out _).mono ?_; rintro e w3 ⟨v,o3,rfl,⟨P,rfl,hp3,hPl⟩,st3⟩; have hx3:=st3.noExt; obtain ⟨b0,b1⟩:=hks.out w3 (by (repeat first | exact Ex0 | assumption | refine Ex1 ?_ | refine Ex2 ?_ | refine Ex3 ?_ | refine Ex4 ?_ | refine Ex5 ?_)))
  all_goals (go_wp2_with fail; go_meet)
  all_goals (
   have hsz:=X1.out.size
   have hxx:=hx3.size
   have t4:Stp (fun _=>False) w3 o3 (w3.alloc (.cells (newV most kp P) 59)) (fun b=>if b=w3.heap.size then k else o3 b):=Stp.ext2 ((Ext.rfl' _).al _) (fun b hb=>if_neg (by omega))
   exact ⟨w3.heap.size,P,_,rfl,heap_alloc_new w3 _,hp3.stp t4 (fun x=>x) (fun x=>x) (fun x=>x),((Stp.ext (Ext.tr X1.out (by (repeat first | exact Ex0 | assumption | refine Ex1 ?_ | refine Ex2 ?_ | refine Ex3 ?_ | refine Ex4 ?_ | refine Ex5 ?_)))).tr st3).tr t4,Nat.le_trans hsz (by first | exact hxx | (simpa using hxx)),if_pos rfl⟩)
 case rest =>
  obtain ⟨c,P,o3,rfl,row,hp,st,hle,hne⟩:=hcut
  have k6:wc.cell? ⟨c,6,none⟩=some .nilFunc:=(row_facts row 6 _ rfl).1
  have f6:=(row_facts row 6 _ rfl).2
  have hmf:∀ (fn:Fn) (first cap:Array Value) (w:World),(Instr.makeFunc fn first cap).run Tryz.prog w=.ok (.func fn first cap) w:=fun _ _ _ _=>rfl
  have r6:=row_set row 6 (.func (.func 23) #[.pointer (some ⟨c,0,none⟩)] #[])
  have k2:(wc.setCell ⟨c,6,none⟩ (.func (.func 23) #[.pointer (some ⟨c,0,none⟩)] #[])).cell? ⟨c,2,none⟩=some (.int .i64 0):=(row_facts r6 2 _ rfl).1
  have f2:(wc.setCell ⟨c,6,none⟩ (.func (.func 23) #[.pointer (some ⟨c,0,none⟩)] #[])).frozen? ⟨c,2,none⟩=false:=(row_facts r6 2 _ rfl).2
  have r2:=row_set r6 2 (.int .i64 0)
  have k2':((wc.setCell ⟨c,6,none⟩ (.func (.func 23) #[.pointer (some ⟨c,0,none⟩)] #[])).setCell ⟨c,2,none⟩ (.int .i64 0)).cell? ⟨c,2,none⟩=some (.int .i64 0):=(row_facts r2 2 _ rfl).1
  have k3':((wc.setCell ⟨c,6,none⟩ (.func (.func 23) #[.pointer (some ⟨c,0,none⟩)] #[])).setCell ⟨c,2,none⟩ (.int .i64 0)).cell? ⟨c,3,none⟩=some (.int .i64 0):=(row_facts r2 3 _ rfl).1
  have f3':((wc.setCell ⟨c,6,none⟩ (.func (.func 23) #[.pointer (some ⟨c,0,none⟩)] #[])).setCell ⟨c,2,none⟩ (.int .i64 0)).frozen? ⟨c,3,none⟩=false:=(row_facts r2 3 _ rfl).2
  have r3:=row_set r2 3 (.int .i64 0)
  have HT:=Lib.hid (show ∃ o',CnAt (((wc.setCell ⟨c,6,none⟩ (.func (.func 23) #[.pointer (some ⟨c,0,none⟩)] #[])).setCell ⟨c,2,none⟩ (.int .i64 0)).setCell ⟨c,3,none⟩ (.int .i64 0)) o' k c (newC most)∧Sto (fun _=>False) w o (((wc.setCell ⟨c,6,none⟩ (.func (.func 23) #[.pointer (some ⟨c,0,none⟩)] #[])).setCell ⟨c,2,none⟩ (.int .i64 0)).setCell ⟨c,3,none⟩ (.int .i64 0)) o' from by
   have t5:Sto (fun i=>i=k) wc o3 (((wc.setCell ⟨c,6,none⟩ (.func (.func 23) #[.pointer (some ⟨c,0,none⟩)] #[])).setCell ⟨c,2,none⟩ (.int .i64 0)).setCell ⟨c,3,none⟩ (.int .i64 0)) o3:=((Sto.set c 6 _ (fun _=>hne)).tr (Sto.set c 2 _ (fun _=>hne))).tr (Sto.set c 3 _ (fun _=>hne))
   have t6:Sto (fun _=>False) w o (((wc.setCell ⟨c,6,none⟩ (.func (.func 23) #[.pointer (some ⟨c,0,none⟩)] #[])).setCell ⟨c,2,none⟩ (.int .i64 0)).setCell ⟨c,3,none⟩ (.int .i64 0)) o3:=((st.sto.setNewJ c 6 _ hle).setNewJ c 2 _ hle).setNewJ c 3 _ hle
   refine ⟨o3,⟨newA P kp 23,⟨hne,?_,hp.sto t5 (by omega) (by omega) (by omega),rfl,.inl rfl,(fun e=>by cases e),⟨[],Sl.nil_ _ _ _ _ _,rfl⟩,fun _=>rfl,⟨[],Sl.nil_ _ _ _ _ _,rfl⟩,fun _=>rfl,Sl.nil_ _ _ _ _ _,fun _=>rfl⟩,rfl⟩,t6⟩
   unfold Crow
   rw [r3]
   simp [newV,Cst.cells,newC,newA]
   rfl)
  clear row hp st r6 r2 r3
  go_wp2_with (go_at_call 24; refine (nTime_c _ _ k2 f2).mono ?_; rintro e w2 ⟨rfl,rfl⟩)
  go_ret2
  obtain ⟨o',h1,h2⟩:=HT.out
  exact ⟨c,o',rfl,h1,h2,hle⟩
end Go.Proofs.YthbofilcnpdghaaGreatDoor
end
section
namespace Go.Proofs.YthbofilcnpdghaaGreatDoor
open Go.RowKit
def NoM (id:Nat):Th24 → Prop
 | .ref _=>True
 | .ask a=>¬ (a.id=id∧a.ans=none)
def NoMs (id:Nat) (l:List Th24):Prop:=∀ t ∈ l,NoM id t
theorem NoMs.snoc {id:Nat} {l:List Th24} {t:Th24} (h:NoMs id l) (ht:NoM id t):NoMs id (l ++ [t]):=fun x hx=>by
 rcases List.mem_append.1 hx with hx | hx
 ·exact h x hx
 ·rw [List.mem_singleton.1 hx]; exact ht
theorem tell_pre (id:Nat) (x:List UInt8):∀ (p t:List Th24),NoMs id p → tellC id x (p ++ t)=(tellC id x t).map (p ++ ·)
 | [],t,_=>by simp
 | .ref st :: p,t,h=>by
  show (tellC id x (p ++ t)).map (.ref st :: ·)=_
  rw [tell_pre id x p t (fun y hy=>h y (List.mem_cons_of_mem _ hy)),Option.map_map]; rfl
 | .ask a :: p,t,h=>by
  show (if a.id=id∧a.ans=none then _ else (tellC id x (p ++ t)).map (.ask a :: ·))=_
  rw [if_neg (h _ List.mem_cons_self),tell_pre id x p t (fun y hy=>h y (List.mem_cons_of_mem _ hy)),Option.map_map]; rfl
theorem tell_none {id:Nat} (x:List UInt8) {l:List Th24} (h:NoMs id l):tellC id x l=none:=by
 have:=tell_pre id x l [] h
 rw [List.append_nil] at this
 exact this
theorem tell_hit {id:Nat} (x:List UInt8) {p t:List Th24} {q:Ask24} (h:NoMs id p) (h1:q.id=id) (h2:q.ans=none):tellC id x (p ++ .ask q :: t)=some (p ++ .ask { q with ans:=some x } :: t):=by
 rw [tell_pre id x p _ h,show tellC id x (.ask q :: t)=some (.ask { q with ans:=some x } :: t) from if_pos ⟨h1,h2⟩]
 rfl
def UnI (l:List Th24):Prop:=∀ p a t,l=p ++ .ask a :: t → (∀ b,Th24.ask b ∈ p → b.id ≠ a.id)∧(∀ b,Th24.ask b ∈ t → b.id ≠ a.id)
section
variable {w w':World} {o o':Ow} {k:Nat}
theorem ThL.at_:∀ {p t:List Th24} {x:Th24} {us:List Value},ThL w o k (p ++ x :: t) us → ∃ u,us[p.length]?=some u∧ThAt w o k x u
 | [],_,_,_,⟨u,us,hu,h1,_⟩=>⟨u,by rw [hu]; rfl,h1⟩
 | _ :: p,t,x,_,⟨u,us,hu,_,h2⟩=>by
  obtain ⟨v,hv,hx⟩:=ThL.at_ (p:=p) h2
  exact ⟨v,by rw [hu]; simpa using hv,hx⟩
theorem ThL.tell {K:Nat → Prop} (s:Sto K w o w' o') (h0:¬ K 0) {q q':Ask24} (hq:q'.id=q.id) {p:Nat} (ha:AskAt w' o' (KA k q.id) p q'):∀ {l t:List Th24} {us:List Value},ThL w o k (l ++ .ask q :: t) us → us[l.length]?=some (.iface 65 (.pointer (some ⟨p,0,none⟩))) →
  (∀ b,Th24.ask b ∈ l → ¬ K (KA k b.id)) → (∀ b,Th24.ask b ∈ t → ¬ K (KA k b.id)) → ThL w' o' k (l ++ .ask q' :: t) us
 | [],_,_,⟨u,us,hu,_,h2⟩,h3,_,h5=>⟨u,us,hu,by
   have h3:us.length=us.length∧u=.iface 65 (.pointer (some ⟨p,0,none⟩)):=⟨rfl,by rw [hu] at h3; simpa using h3⟩
   rw [h3.2]
   exact ⟨p,rfl,by rw [hq]; exact ha⟩,h2.sto s h0 h5⟩
 | x :: l,t,_,⟨u,us,hu,h1,h2⟩,h3,h4,h5=>⟨u,us,hu,h1.sto s h0 (fun b hb=>h4 b (by rw [hb]; exact List.mem_cons_self)),ThL.tell s h0 hq ha h2 (by rw [hu] at h3; simpa using h3) (fun b hb=>h4 b (List.mem_cons_of_mem _ hb)) h5⟩
end
theorem cn_tell {k c p:Nat} (hk:0 < k) (hk8:k < 80) {W1 w3:World} {o1:Ow} {s:Cst} {a:Cad} {l t:List Th24} {q:Ask24} {x:List UInt8} {us:List Value} {A3:Option Addr} {c3:Nat}
  (h:CnX W1 o1 k c s a) (hr:s.row=l ++ .ask q :: t) (hu:UnI s.row)
  (h1:Sl W1 o1 (k + 1) 1 a.L s.row.length a.cl us) (h2:ThL W1 o1 k s.row us) (h3:us[l.length]?=some (.iface 65 (.pointer (some ⟨p,0,none⟩)))) (hp:AskAt W1 o1 (KA k q.id) p q)
  (x13:Ext W1 w3) (hN:NewS W1 x.length (bc x) (.slice A3 x.length c3) w3) :
  ∃ o8,CnX ((w3.alloc (.cells #[.int .i64 200,.slice none 0 0,.slice A3 x.length c3] 41)).setCell ⟨p,6,none⟩ (.pointer (some ⟨w3.heap.size,0,none⟩))) o8 k c { s with row:=l ++ .ask { q with ans:=some x } :: t } a ∧
   Sto (KC k) W1 o1 ((w3.alloc (.cells #[.int .i64 200,.slice none 0 0,.slice A3 x.length c3] 41)).setCell ⟨p,6,none⟩ (.pointer (some ⟨w3.heap.size,0,none⟩))) o8:=by
 obtain ⟨W5,hW5⟩:∃ W,W=w3.alloc (.cells #[.int .i64 200,.slice none 0 0,.slice A3 x.length c3] 41):=⟨_,rfl⟩
 rw [← hW5]
 have x15:Ext W1 W5:=by rw [hW5]; exact x13.al _
 obtain ⟨hpo,A6,ca6,Q6,hrow6,hA6,_⟩:=hp
 have o8p:oz W1 o1 p=KA k q.id:=(oz_old W1 o1 (row_lt hrow6)).trans hpo
 have hps:p < w3.heap.size:=by have:=x13.size; have:=row_lt hrow6; omega
 have tset:∀ u,Sto (fun i=>i=KA k q.id) W5 (oz W1 o1) (W5.setCell ⟨p,6,none⟩ u) (oz W1 o1):=fun u=>Sto.set p 6 u (fun _=>o8p)
 have t8:∀ u,Sto (fun i=>i=KA k q.id) W1 o1 (W5.setCell ⟨p,6,none⟩ u) (oz W1 o1):=fun u=>(oz_sto x15).tr (tset u)
 have k0:¬ (0=KA k q.id):=by unfold KA; omega
 obtain ⟨A',c',hv,hro⟩:=hN.ro (o':=oz W1 o1) (fun b hb=>oz_new W1 o1 hb)
 cases hv
 have hro5:Ro W5 (oz W1 o1) A3 (bc x):=hro.sto (K:=fun _=>False) (Sto.ext (by rw [hW5]; exact (Ext.rfl' _).al _)) (fun h=>h)
 obtain ⟨ho,hro',hpp⟩:=h
 have hun:=hu l q t hr
 refine ⟨oz W1 o1,⟨(oz_old W1 o1 (row_lt hro')).trans ho,?_,?_⟩,(t8 _).mono fun i hi=>by rw [hi]; unfold KC KA; omega⟩
 ·have:=(Crow.sto hro' (t8 (.pointer (some ⟨w3.heap.size,0,none⟩))) (by rw [ho]; unfold KA; omega))
  unfold Crow at this ⊢
  rw [this]
  simp [Cst.cells,hr]
 ·have hkn:∀ i,i < 20 → ¬ (k + i=KA k q.id):=fun i hi=>by unfold KA; omega
  have tt:=t8 (.pointer (some ⟨w3.heap.size,0,none⟩))
  have hlen:(l ++ Th24.ask { q with ans:=some x } :: t).length=s.row.length:=by rw [hr]; simp
  refine ⟨hpp.hp.sto tt (hkn 5 (by decide)) (hkn 6 (by decide)) (hkn 7 (by decide)),hpp.rd.sto tt (hkn 9 (by decide)) (hkn 10 (by decide)) (hkn 11 (by decide)) (hkn 12 (by decide)),hpp.r.sto tt k0,hpp.got.sto tt (hkn 4 (by decide)),?_,hpp.ez,⟨us,?_,?_⟩,hpp.lz,hpp.out.sto tt (hkn 2 (by decide)),hpp.oz⟩
  ·obtain ⟨es,e1,e2⟩:=hpp.evs
   exact ⟨es,e1.sto tt (hkn 3 (by decide)),e2.sto tt k0⟩
  ·show Sl _ _ (k + 1) 1 a.L (l ++ Th24.ask { q with ans:=some x } :: t).length a.cl us
   rw [hlen]
   exact h1.sto tt (hkn 1 (by decide))
  ·rw [hr] at h2
   refine ThL.tell tt k0 (q:=q) (q':={ q with ans:=some x }) rfl (p:=p) ?_ h2 h3 (fun b hb e=>hun.1 b hb (by unfold KA at e; omega)) (fun b hb e=>hun.2 b hb (by unfold KA at e; omega))
   refine ⟨o8p,A6,ca6,some ⟨w3.heap.size,0,none⟩,?_,hA6.sto tt k0,⟨w3.heap.size,A3,c3,rfl,oz_new W1 o1 (by have:=x13.size; omega),?_,?_⟩⟩
   ·exact row_set ((x15.block p (row_lt hrow6)).trans hrow6) 6 _
   ·rw [Below.heap_setCell W5 ⟨p,6,none⟩ _ w3.heap.size (by show w3.heap.size ≠ p; omega),hW5]
    exact heap_alloc_new w3 _
   ·exact hro5.sto (tset _) k0
theorem nCloneF_nil (w:World):Calls Tryz.prog 29 #[.slice none 0 0] w (Tells (.slice none 0 0) w):=by
 have q22:∀ (w:World) (a:Option Addr) (n c n' c':Nat),(binOp .eql 34 (.slice a n c) (.slice none n' c')).run Tryz.prog w=.ok (.bool a.isNone) w:=fun w a n c n' c'=>Lib.run_eql_slice_nil w _ _ a n c n' c' Tryz.underlying34
 go_enter Tryz.func29,Tryz.ntmps29
 go_wp2
 go_ret
 exact ⟨rfl,rfl⟩
def AnsL (s:Cst) (id:Nat) (W1:World) (v:Value) (wr:World):Prop:=∃ l t,s.row=l ++ t∧v=.int .i64 (l.length:Int)∧NoMs id l∧wr=W1
def AnsW (k c:Nat) (w:World) (o:Ow) (s:Cst) (wx:World):Prop:=∃ o',CnAt wx o' k c s∧Sto (KC k) w o wx o'
theorem nAnswer_c (w0:World) (hL:Lb w0) (k c:Nat) (hk:0 < k) (hk8:k < 80) (s:Cst) (hok:RowOk s.row) (hsz:s.out.length + s.row.length * 40000 ≤ 1099511627776) (hun:UnI s.row) (id:Nat) (x:List UInt8) (hx100:x.length ≤ 100) (B:Option Addr) (d:Nat) (w:World) (o:Ow) (hO:Old w0 w o) (h:CnAt w o k c s) (hB:Ro w o B (bc x)) :
  Calls Tryz.prog 13 #[.pointer (some ⟨c,0,none⟩),.int .i64 (id:Int),.agg #[.int .i64 200,.slice none 0 0,.slice B x.length d]] w (TurnsO (KC k) w o fun v w' o'=>v=.int .i64 (answerC s id x).2∧CnAt w' o' k c (answerC s id x).1):=by
 obtain ⟨a,hx,hnx⟩:=h
 have HO:=Lib.hid hO
 have HOK:=Lib.hid hok
 have HSZ:=Lib.hid hsz
 have HUN:=Lib.hid hun
 have HNX:=Lib.hid hnx
 have HX:=Lib.hid hx
 have HB:=Lib.hid hB
 clear hO hok hsz hun hnx hx hB
 obtain ⟨xn,hxn⟩:∃ n,n=x.length:=⟨_,rfl⟩
 rw [← hxn]
 have HXN:=Lib.hid hxn
 clear hxn
 go_enter Tryz.func13,Tryz.ntmps13
 go_upto_region 1 with (fail)
 obtain ⟨W1,hW1⟩:∃ W,W=w.alloc (.cells #[.int .i64 200,.slice none 0 0,.slice B xn d] 41):=⟨_,rfl⟩
 rw [← hW1]
 obtain ⟨G,hG⟩:∃ g,g=w.heap.size:=⟨_,rfl⟩
 rw [← hG]
 have x1:Ext w W1:=by rw [hW1]; exact (Ext.rfl' w).al _
 have rowG:W1.heap[G]?=some (.cells #[.int .i64 200,.slice none 0 0,.slice B xn d] 41 (0,0)):=by rw [hW1,hG]; exact heap_alloc_new w _
 have HX1:=Lib.hid (HX.out.oz x1)
 have ST1:=Lib.hid (show Sto (KC k) w o W1 (oz w o) from oz_sto x1)
 have HB1:=Lib.hid (HB.out.sto (K:=fun _=>False) (oz_sto x1) (fun h=>h))
 have HGO:=Lib.hid (show oz w o G=0 from oz_new w o (by omega))
 obtain ⟨us,us1,us2⟩:=HX1.out.p.row
 have US1:=Lib.hid us1
 have US2:=Lib.hid us2
 have c6:W1.cell? ⟨c,6,none⟩=some (.func (.func a.nx) #[.pointer (some ⟨c,0,none⟩)] #[]):=HX1.out.row.c6
 have c16:W1.cell? ⟨c,16,none⟩=some (.slice a.L s.row.length a.cl):=HX1.out.row.c16
 have hkG:=Lib.hid (fun w' (e:Ext W1 w')=>(show w'.cell? ⟨G,0,none⟩=some (.int .i64 200)∧w'.cell? ⟨G,1,none⟩=some (.slice none 0 0)∧w'.cell? ⟨G,2,none⟩=some (.slice B xn d) from by
  have hx:=(e.block G (row_lt rowG)).trans rowG
  exact ⟨(row_facts hx 0 _ rfl).1,(row_facts hx 1 _ rfl).1,(row_facts hx 2 _ rfl).1⟩))
 obtain ⟨g0,g1,g2⟩:=hkG.out W1 (Ext.rfl' _)
 obtain ⟨AL,hAL⟩:∃ A,A=a.L:=⟨_,rfl⟩
 rw [← hAL] at c16
 have HLK:=Lib.hid (show ∀ m u,us[m]?=some u → ∃ g f,AL=some ⟨g,f,none⟩∧W1.cell? ⟨g,f + m,none⟩=some u from fun m u hu=>by
  rcases US1.out.rd with h0 | ⟨g,f,hA,hc⟩
  ·rw [h0] at hu; simp at hu
  ·exact ⟨g,f,hAL.trans hA,hc m u hu⟩)
 obtain ⟨rn,hrn⟩:∃ n,n=s.row.length:=⟨_,rfl⟩
 rw [← hrn] at c16
 have HRN:=Lib.hid hrn
 clear us1 us2 hAL hrn hW1 hG rowG x1
 go_wp2_with (go_at_call 25; refine (nNone_c _ _ _ _ c6).mono ?_; rintro e w2 ⟨rfl,hw⟩; subst hw)
 go_loopw [18] (fun v18 wr=>AnsL s id W1 v18 wr) (fun v18 _=>rn - (intOf v18).toNat)
 case atStart=>exact ⟨[],s.row,rfl,rfl,fun _ h=>absurd h (by simp),rfl⟩
 case round =>
  obtain ⟨l,t,hlt,rfl,hnl,hw⟩:=hrel
  have hw:=hw.symm
  subst hw
  have HNL:=Lib.hid hnl
  have hlen:rn=l.length + t.length:=by rw [HRN.out,hlt,List.length_append]
  obtain ⟨m,hm⟩:∃ m,m=l.length:=⟨_,rfl⟩
  rw [← hm]
  cases t with
  | nil =>
   have hmr:¬ (m:Int) < (rn:Int):=by simp at hlen; omega
   have HQ:=Lib.hid (show answerC s id x=(s,3) from by unfold answerC; rw [tell_none x (by rw [hlt,List.append_nil]; exact HNL.out)])
   clear hlt hnl hlen hm
   go_wp2
   go_ret
   rw [HQ.out]
   exact TurnsO.mk (oz w o) rfl ⟨rfl,a,HX1.out,HNX.out⟩ ST1.out
  | cons el r =>
   have hmr:(m:Int) < (rn:Int):=by simp at hlen; omega
   have hm0:(0:Int) ≤ (m:Int):=by omega
   have hm2:IntKind.i64.wrap ((m:Int) + 1)=((m + 1:Nat):Int):=by
    have h1:=HSZ.out
    have h2:=HRN.out
    rw [IntKind.wrap_i64]; omega
   have HRW:=Lib.hid hlt
   obtain ⟨u,hu,hth⟩:=ThL.at_ (p:=l) (t:=r) (x:=el) (by rw [← hlt]; exact US2.out)
   obtain ⟨g,f,rfl,hcb⟩:=HLK.out _ u hu
   rw [← hm] at hcb
   have HM:=Lib.hid hm
   have HU:=Lib.hid hu
   clear hlt hnl hm hu
   cases el with
   | ref st =>
    obtain rfl:u=.iface 85 (.int .i64 st):=hth
    have h1:=ta_ra st
    have HNM:=Lib.hid (show NoM id (.ref st) from trivial)
    obtain ⟨el,hel⟩:∃ e,e=Th24.ref st:=⟨_,rfl⟩
    rw [← hel] at HNM HRW
    clear hel hlen
    go_wp2
    go_roundw
    case rel=>exact ⟨l ++ [el],r,by rw [List.append_assoc]; exact HRW.out,by rw [List.length_append,← HM.out]; go_num,HNL.out.snoc HNM.out,rfl⟩
    case measure=>simp [intOf]; omega
   | ask q =>
    obtain ⟨p,rfl,hask⟩:=hth
    have h2:=ta_aa ⟨p,0,none⟩
    obtain ⟨ho6,A6,ca6,Q6,hrow6,hA6,hans6⟩:=hask
    have k0:W1.cell? ⟨p,0,none⟩=some (.int .i64 (q.id:Int)):=(row_facts hrow6 0 _ rfl).1
    have k6:W1.cell? ⟨p,6,none⟩=some (.pointer Q6):=(row_facts hrow6 6 _ rfl).1
    have HASK:=Lib.hid (show AskAt W1 (oz w o) (KA k q.id) p q from ⟨ho6,A6,ca6,Q6,hrow6,hA6,hans6⟩)
    obtain ⟨qi,hqi⟩:∃ i,i=q.id:=⟨_,rfl⟩
    rw [← hqi] at k0
    by_cases e1:qi=id
    ·subst e1
     cases hxs:q.ans with
     | some y =>
      rw [hxs] at hans6
      obtain ⟨qa,B6,cb6,rfl,_⟩:=hans6
      have HNM:=Lib.hid (show NoM qi (.ask q) from fun h=>by rw [hxs] at h; cases h.2)
      obtain ⟨el,hel⟩:∃ e,e=Th24.ask q:=⟨_,rfl⟩
      rw [← hel] at HNM HRW
      clear hel hlen hqi hxs hrow6 HASK
      go_wp2
      go_roundw
      case rel=>exact ⟨l ++ [el],r,by rw [List.append_assoc]; exact HRW.out,by rw [List.length_append,← HM.out]; go_num,HNL.out.snoc HNM.out,rfl⟩
      case measure=>simp [intOf]; omega
     | none =>
      rw [hxs] at hans6
      obtain rfl:Q6=none:=hans6
      have HXS:=Lib.hid hxs
      have HQI:=Lib.hid hqi
      have HQ:=Lib.hid (show answerC s qi x=(writeC { s with row:=l ++ .ask { q with ans:=some x } :: r },0) from by unfold answerC; rw [HRW.out,tell_hit x HNL.out HQI.out.symm HXS.out])
      have hk6:=Lib.hid (fun w' (e:Ext W1 w')=>(show w'.cell? ⟨p,6,none⟩=some (.pointer none)∧w'.frozen? ⟨p,6,none⟩=false from row_facts ((e.block p (row_lt hrow6)).trans hrow6) 6 _ rfl))
      have HRW6:=Lib.hid hrow6
      have hGp:G ≠ p:=fun e=>by rw [e] at HGO; have h1:=HGO.out; rw [ho6] at h1; unfold KA at h1; omega
      clear hxs hqi hrow6 hlen hA6 ho6
      go_upto_region 8 with (fail)
      go_cut [] (fun wx=>AnsW k c w o { s with row:=l ++ .ask { q with ans:=some x } :: r } wx)
      case first =>
       have CB:=Lib.hid (fun (w':World) (e:Ext W1 w')=>nCloneB_c x B xn d HXN.out w' (HB1.out.rd.ext e) (by have:=HXN.out; omega))
       have hkS:=Lib.hid (fun w' (u:Value) (e:Ext W1 w')=>(show (w'.setCell ⟨p,6,none⟩ u).cell? ⟨G,0,none⟩=some (.int .i64 200)∧(w'.setCell ⟨p,6,none⟩ u).cell? ⟨G,1,none⟩=some (.slice none 0 0)∧(w'.setCell ⟨p,6,none⟩ u).cell? ⟨G,2,none⟩=some (.slice B xn d) from by
        obtain ⟨f0,f1,f2⟩:=hkG.out w' e
        refine ⟨?_,?_,?_⟩
        all_goals (rw [World.cell?_of_block (Below.heap_setCell w' ⟨p,6,none⟩ u G hGp)]; first | exact f0 | exact f1 | exact f2)))
       go_region_held3 (fun w'=>w'.cell? ⟨G,0,none⟩=some (.int .i64 200)∧w'.cell? ⟨G,1,none⟩=some (.slice none 0 0)∧w'.cell? ⟨G,2,none⟩=some (.slice B xn d)) (with_reducible first | exact hkS.out _ _ (by (repeat first | exact Ex0 | assumption | refine Ex1 ?_ | refine Ex3 ?_ | refine Ex4 ?_ | refine Ex5 ?_)) | exact hkG.out _ (by (repeat first | exact Ex0 | assumption | refine Ex1 ?_ | refine Ex3 ?_ | refine Ex4 ?_ | refine Ex5 ?_))) (first
        | (go_at_call 29; refine (nCloneF_nil _).mono ?_; rintro e w2 ⟨rfl,hw2⟩; subst hw2)
        | (go_at_call 30; refine (CB.out _ (by (repeat first | exact Ex0 | assumption | refine Ex1 ?_ | refine Ex2 ?_ | refine Ex3 ?_ | refine Ex4 ?_ | refine Ex5 ?_))).mono ?_; rintro e w3 ⟨v,rfl,⟨A3,c3,rfl,hr3,hb3⟩,hx3⟩; have hxw3:Ext W1 w3:=(by (repeat first | exact Ex0 | assumption | refine Ex1 ?_ | refine Ex2 ?_ | refine Ex3 ?_ | refine Ex4 ?_ | refine Ex5 ?_)); have HN3:=Lib.hid (show NewS W1 xn (bc x) (.slice A3 xn c3) w3 from ⟨A3,c3,rfl,hr3,hb3.imp (fun h=>h) fun h a ha=>Nat.le_trans (show Ext W1 _ from (by (repeat first | exact Ex0 | assumption | refine Ex1 ?_ | refine Ex2 ?_ | refine Ex3 ?_ | refine Ex4 ?_ | refine Ex5 ?_))).size (h a ha)⟩); clear hr3 hb3; have y6:=fun z=>(hk6.out (w3.alloc z) (Ext.al hxw3 z)).1; have z6:=fun z=>(hk6.out (w3.alloc z) (Ext.al hxw3 z)).2))
       all_goals (go_wp2_with fail; go_meet)
       all_goals (
        obtain ⟨o8,f1,f2⟩:=cn_tell hk hk8 HX1.out HRW.out HUN.out US1.out US2.out HU.out HASK.out hxw3 (x:=x) (by rw [← HXN.out]; exact HN3.out)
        rw [← HXN.out] at f1 f2
        exact ⟨o8,⟨a,f1,HNX.out⟩,ST1.out.tr f2⟩)
      case rest =>
       obtain ⟨o8,h8,st8⟩:=hcut
       have CW:=Lib.hid (nWrite_c w0 hL k c hk hk8 { s with row:=l ++ .ask { q with ans:=some x } :: r } (fun t ht=>by
        have hok:=HOK.out
        rw [HRW.out] at hok
        rcases List.mem_append.1 ht with h | h
        ·exact hok t (List.mem_append_left _ h)
        ·rcases List.mem_cons.1 h with h | h
         ·rw [h]
          intro y hy
          cases hy
          exact hx100
         ·exact hok t (List.mem_append_right _ (List.mem_cons_of_mem _ h))) (by
        have h1:=HSZ.out
        rw [HRW.out] at h1
        simpa using h1) wc o8 (HO.out.sto st8 (kc0 hk)) h8)
       have ST8:=Lib.hid st8
       clear h8 st8
       go_wp2_with (go_at_call 27; refine (CW.out).mono ?_; rintro e w5 ⟨rfl,o5,hx5,st5⟩; have HX5:=Lib.hid hx5; have ST5:=Lib.hid st5; clear hx5 st5)
       go_ret
       rw [HQ.out]
       exact TurnsO.mk o5 rfl ⟨rfl,HX5.out⟩ (ST8.out.tr ST5.out)
    ·have e2:((qi:Int) != (id:Int))=true:=by rw [bne_iff_ne]; omega
     have HNM:=Lib.hid (show NoM id (.ask q) from fun h=>e1 (hqi.trans h.1))
     obtain ⟨el,hel⟩:∃ e,e=Th24.ask q:=⟨_,rfl⟩
     rw [← hel] at HNM HRW
     clear hel hlen hqi hrow6 HASK e1
     go_wp2
     go_roundw
     case rel=>exact ⟨l ++ [el],r,by rw [List.append_assoc]; exact HRW.out,by rw [List.length_append,← HM.out]; go_num,HNL.out.snoc HNM.out,rfl⟩
     case measure=>simp [intOf]; omega
end Go.Proofs.YthbofilcnpdghaaGreatDoor
end
section
namespace Go.Proofs.YthbofilcnpdghaaGreatDoor
def kn24B:List UInt8:=[71,69,84,32,47,32,72,84,84,80,47,49,46,49,13,10,72,111,115,116,58,32,97,13,10,13,10,71,69,84,32,47,32,72,84,84,80,47,49,46,49,13,10,13,10]
def kn24W:List UInt8:=[72,84,84,80,47,49,46,49,32,50,48,48,32,79,75,13,10,67,111,110,116,101,110,116,45,76,101,110,103,116,104,58,32,49,13,10,13,10,120,72,84,84,80,47,49,46,49,32,52,48,48,32,66,97,100,32,82,101,113,117,101,115,116,13,10]
def kn24Q:Cst × List Ev24:=inputC (newC 10) kn24B
def kn24A:Cst:=(answerC kn24Q.1 0 [120]).1
theorem kn24_evs:kn24Q.2.map (·.id)=[0]:=by decide +kernel
theorem kn24_out:kn24Q.1.out=[]:=by decide +kernel
theorem kn24_row:kn24Q.1.row.length=2:=by decide +kernel
theorem kn24_ans:(answerC kn24Q.1 0 [120]).2=0:=by decide +kernel
theorem kn24_len:(65:Nat) < kn24A.out.length:=by decide +kernel
theorem kn24_closed:closedC kn24A=true:=by decide +kernel
theorem kn24_shape:∃ a,kn24Q.1.row=[.ask a,.ref 400]∧a.id=0∧a.ans=none:=by
 have h:(kn24Q.1.row.map fun t=>match t with | .ref st=>(some st,0,true) | .ask a=>(none,a.id,a.ans.isNone))=[(none,0,true),(some 400,0,true)]:=by decide +kernel
 have hl:=kn24_row
 generalize kn24Q.1.row=l at h hl
 match l,hl with
 | [x,y],_ =>
  cases x with
  | ref st=>simp at h
  | ask a =>
   cases y with
   | ask b=>simp at h
   | ref st =>
    simp at h
    obtain ⟨⟨h1,h2⟩,h3⟩:=h
    exact ⟨a,by rw [h3],h1,by simpa using h2⟩
end Go.Proofs.YthbofilcnpdghaaGreatDoor
end
section
namespace Go.Proofs.YthbofilcnpdghaaGreatDoor
open Go.RowKit
theorem nNum_c (n:Int) (w:World):Calls Tryz.prog 8 #[.int .i64 n] w (Tells (.int .i64 n) w):=by
 go_enter Tryz.func8,Tryz.ntmps8
 go_wp2
 go_ret
 exact ⟨rfl,rfl⟩
def o99 (o:Ow):Ow:=fun b=>if o b=100 then 0 else o b
theorem o99_no (o:Ow) (b:Nat):o99 o b ≠ 100:=by unfold o99; split <;> omega
theorem no100 {K:Nat → Prop} {w w':World} {o o':Ow} (tt:Sto K w o w' o') (hol:∀ b,b < w.heap.size → o b ≠ 100):Sto K w o w' (o99 o'):=by
 refine ⟨tt.os,tt.tape,tt.output,tt.size,fun b hb hk'=>?_,tt.keep⟩
 have h1:=tt.own b hb hk'
 have h2:=hol b hb
 unfold o99
 rw [h1,if_neg h2]
theorem CnAt.o99 {w:World} {o:Ow} {k c:Nat} {s:Cst} (hk:0 < k) (hk8:k < 80) (h:CnAt w o k c s):CnAt w (o99 o) k c s :=
 h.sto (K:=fun i=>i=100) (Sto.give (fun b _ hb=>if_neg hb)) (show ¬ (0=100) by omega) (fun i _=>show ¬ (k + i=100) by omega) (fun a _=>show ¬ (KA k a.id=100) by unfold KA; omega)
theorem Rd.newZ (w:World) (cs:Array Value) (t:TypeId) (z:Nat × Nat):Rd (w.alloc (.cells cs t z)) (some ⟨w.heap.size,0,none⟩) cs.toList:=by
 refine .inr ⟨_,0,rfl,fun j u hj=>?_⟩
 have hh:(w.alloc (.cells cs t z)).heap[w.heap.size]?=some (.cells cs t z):=heap_alloc_new w _
 have:(w.alloc (.cells cs t z)).cell? ⟨w.heap.size,j,none⟩=cs[j]?:=by unfold World.cell?; rw [hh]; rfl
 rw [Nat.zero_add,this]
 simpa using hj
def Kn24I (w:World) (o:Ow) (c:Nat) (A:Option Addr) (s:Cst) (wx:World):Prop:=∃ o' g f,A=some ⟨g,f,none⟩∧wx.cell? ⟨g,f,none⟩=some (.int .i64 0)∧o' g=90∧CnAt wx o' 60 c s∧Sto (KC 60) w o wx o'∧∀ x,x < wx.heap.size → o' x ≠ 100
def Kn24E (w:World) (o:Ow) (c:Nat) (v:Value) (wx:World):Prop:=∃ A d,v=.slice A 1 d∧Kn24I w o c A kn24Q.1 wx
theorem kn24_ev:∃ e,kn24Q.2=[e]∧e.id=0:=by
 have h:=kn24_evs
 generalize kn24Q.2=l at h
 match l with
 | [e]=>exact ⟨e,rfl,by simpa using h⟩
 | []=>simp at h
 | _ :: _ :: _=>simp at h
theorem Kn24E.mk {w:World} {o:Ow} {c:Nat} {w1 w2 w3:World} {o1 o3:Ow} {v:Value} (st1:Sto (KC 60) w o w1 o1) (x12:Ext w1 w2) (h1:IsEvs 90 kn24Q.2 v w3 o3) (h2:CnAt w3 o3 60 c kn24Q.1) (h3:∀ x,x < w3.heap.size → o3 x ≠ 100) (st:Sto (KC 60) w2 (oz w1 o1) w3 o3):Kn24E w o c v w3:=by
 obtain ⟨A,d,es,rfl,e1,_,e3⟩:=h1
 obtain ⟨e,he,h0⟩:=kn24_ev
 rw [he] at e1 e3
 obtain ⟨u,us,rfl,⟨Q,cq,B,cb,rfl,_,_⟩,_⟩:=e3
 rcases e1.at_ with h | ⟨g,f,hA,hg,hl,hc,_⟩
 ·have:=e1.le; rw [h] at this; simp at this
 ·have hz:=hc 0 (.int .i64 (e.id:Int)) rfl
  rw [h0] at hz
  rw [he]
  exact ⟨A,d,rfl,o3,g,f,hA,hz,hg,h2,(st1.tr (oz_sto x12)).tr st,h3⟩
theorem Kn24I.mk {w wc w4:World} {o o3 o4:Ow} {c g f:Nat} {s:Cst} (hcell:wc.cell? ⟨g,f,none⟩=some (.int .i64 0)) (hg:o3 g=90) (st3:Sto (KC 60) w o wc o3) (hol3:∀ x,x < wc.heap.size → o3 x ≠ 100) (stt:Sto (KC 60) wc o3 w4 o4) (h4:CnAt w4 o4 60 c s):Kn24I w o c (some ⟨g,f,none⟩) s w4:=by
 have hn:¬ KC 60 (o3 g):=by rw [hg]; unfold KC; omega
 have hl:g < wc.heap.size:=lt_of_cell hcell
 refine ⟨o99 o4,g,f,rfl,stt.cell (a:=⟨g,f,none⟩) hn hcell,?_,h4.o99 (by decide) (by decide),st3.tr (no100 stt hol3),fun x _=>o99_no o4 x⟩
 unfold o99
 rw [stt.own g hl hn,hg]
 rfl
theorem kn24_ok:RowOk kn24Q.1.row∧kn24Q.1.out.length + kn24Q.1.row.length * 40000 ≤ 1099511627776∧UnI kn24Q.1.row:=by
 obtain ⟨a,hr,h1,h2⟩:=kn24_shape
 rw [kn24_out,hr]
 refine ⟨fun t ht=>?_,by simp,fun p b t h=>?_⟩
 ·rcases List.mem_cons.1 ht with rfl | ht
  ·intro x hx; rw [h2] at hx; cases hx
  ·rw [List.mem_singleton.1 ht]; exact ⟨by decide,by decide⟩
 ·match p,h with
  | [],h=>cases h; exact ⟨fun b hb=>(by cases hb),fun b hb=>(by have h9:=List.mem_singleton.1 hb; cases h9)⟩
  | [_],h=>simp at h
  | _ :: _ :: _,h=>simp at h
theorem kn24_ext:((str kn24A.out).extract 0 65).toList=kn24W:=by decide +kernel
theorem kn24_num:answerC kn24Q.1 0 [120]=(kn24A,0):=Prod.ext rfl kn24_ans
theorem knows_c (w0:World) (hL:Lb w0) (w:World) (o:Ow) (hO:Old w0 w o) (hol:∀ b,b < w.heap.size → o b ≠ 100) :
  Calls Tryz.prog 9 #[] w fun e w'=>e=.returned (.bool true)∧∃ o',Sto (KC 60) w o w' o'∧∀ x,x < w'.heap.size → o' x ≠ 100:=by
 have CN:=nNew_c 60 (by decide) (by decide) 10 5 (by decide) (by decide) w o
 have CN:=Lib.hid (show Calls Tryz.prog 7 #[.agg #[.int .i64 10,.int .i64 5],.int .i64 0] w _ from CN)
 have HO:=Lib.hid hO
 have HOL:=Lib.hid hol
 clear hO hol
 go_enter Tryz.func9,Tryz.ntmps9
 go_upto_region 4 with (first
  | (go_at_call 7; refine (CN.out).mono ?_; rintro e w1 ⟨c,o1,rfl,hC1,st1,hle⟩)
  | (go_at_call 8; refine (nNum_c _ _).mono ?_; rintro e w2 ⟨rfl,hw⟩; subst hw))
 have hC:=hC1.o99 (by decide) (by decide)
 have st2:Sto (KC 60) w o w1 (o99 o1):=(no100 st1 HOL.out).mono fun _ h=>h.elim
 obtain ⟨o2,ho2⟩:∃ o2,o2=o99 o1:=⟨_,rfl⟩
 rw [← ho2] at hC st2
 have HN:=Lib.hid (show ∀ x,o2 x ≠ 100 from by rw [ho2]; exact o99_no o1)
 have HC:=Lib.hid hC
 have ST:=Lib.hid st2
 clear hC st2 hC1 st1 hle ho2 CN
 have hcs:∀ (w:World),(convert 22 22 (.slice (some ⟨w.heap.size,0,none⟩) 45 45)).run Tryz.prog (w.alloc (.cells #[.int .u8 71,.int .u8 69,.int .u8 84,.int .u8 32,.int .u8 47,.int .u8 32,.int .u8 72,.int .u8 84,.int .u8 84,.int .u8 80,.int .u8 47,.int .u8 49,.int .u8 46,.int .u8 49,.int .u8 13,.int .u8 10,.int .u8 72,.int .u8 111,.int .u8 115,.int .u8 116,.int .u8 58,.int .u8 32,.int .u8 97,.int .u8 13,.int .u8 10,.int .u8 13,.int .u8 10,.int .u8 71,.int .u8 69,.int .u8 84,.int .u8 32,.int .u8 47,.int .u8 32,.int .u8 72,.int .u8 84,.int .u8 84,.int .u8 80,.int .u8 47,.int .u8 49,.int .u8 46,.int .u8 49,.int .u8 13,.int .u8 10,.int .u8 13,.int .u8 10] 5))=.ok (.slice (some ⟨w.heap.size,0,none⟩) 45 45) (w.alloc (.cells #[.int .u8 71,.int .u8 69,.int .u8 84,.int .u8 32,.int .u8 47,.int .u8 32,.int .u8 72,.int .u8 84,.int .u8 84,.int .u8 80,.int .u8 47,.int .u8 49,.int .u8 46,.int .u8 49,.int .u8 13,.int .u8 10,.int .u8 72,.int .u8 111,.int .u8 115,.int .u8 116,.int .u8 58,.int .u8 32,.int .u8 97,.int .u8 13,.int .u8 10,.int .u8 13,.int .u8 10,.int .u8 71,.int .u8 69,.int .u8 84,.int .u8 32,.int .u8 47,.int .u8 32,.int .u8 72,.int .u8 84,.int .u8 84,.int .u8 80,.int .u8 47,.int .u8 49,.int .u8 46,.int .u8 49,.int .u8 13,.int .u8 10,.int .u8 13,.int .u8 10] 5 (45,46))):=fun w=>Lib.run_convert_bytes_const w 22 5 #[.int .u8 71,.int .u8 69,.int .u8 84,.int .u8 32,.int .u8 47,.int .u8 32,.int .u8 72,.int .u8 84,.int .u8 84,.int .u8 80,.int .u8 47,.int .u8 49,.int .u8 46,.int .u8 49,.int .u8 13,.int .u8 10,.int .u8 72,.int .u8 111,.int .u8 115,.int .u8 116,.int .u8 58,.int .u8 32,.int .u8 97,.int .u8 13,.int .u8 10,.int .u8 13,.int .u8 10,.int .u8 71,.int .u8 69,.int .u8 84,.int .u8 32,.int .u8 47,.int .u8 32,.int .u8 72,.int .u8 84,.int .u8 84,.int .u8 80,.int .u8 47,.int .u8 49,.int .u8 46,.int .u8 49,.int .u8 13,.int .u8 10,.int .u8 13,.int .u8 10] 45 45 Tryz.underlying22 Tryz.underlying5
 go_cut [3] (fun v3 wx=>Kn24E w o c v3 wx)
 case first =>
  have CI:=Lib.hid (fun (w':World) (e:Ext w1 w') (B:Option Addr) (hB:Ro w' (oz w1 o2) B (bc kn24B))=>nInput_c w0 hL 90 60 c (by decide) (by decide) (by decide) [] (newC 10) (.inl (new_in (by decide))) kn24B B 45 45 rfl (by omega) (by decide) w' (oz w1 o2) ((HO.out.sto ST.out (kc0 (by decide))).sto (oz_sto e) (kc0 (by decide:0 < 60))) (fun b _=>by unfold oz; split; exact HN.out b; decide) (HC.out.sto (K:=fun _=>False) (oz_sto e) (fun h=>h) (fun _ _ h=>h) (fun _ _ h=>h)) hB)
  go_wp2_with (go_at_call 10; refine (CI.out _ (by (repeat first | exact Ex0 | assumption | refine Ex1 ?_ | refine Ex2 ?_ | refine Ex3 ?_ | refine Ex4 ?_ | refine Ex5 ?_)) _ (Ro.new (w1:=w1) (Rd.newZ w1 _ _ _) (by (repeat first | exact Ex0 | assumption | refine Ex1 ?_ | refine Ex2 ?_ | refine Ex3 ?_ | refine Ex4 ?_ | refine Ex5 ?_)) (by intro a ha; cases ha; exact Nat.le_refl _) (fun b hb=>oz_new w1 o2 hb))).mono ?_; rintro e w3 ⟨v,o3,rfl,⟨h1,h2,h3⟩,st3⟩)
  go_meet
  exact Kn24E.mk ST.out (by (repeat first | exact Ex0 | assumption | refine Ex1 ?_ | refine Ex2 ?_ | refine Ex3 ?_ | refine Ex4 ?_ | refine Ex5 ?_)) h1 h2 h3 st3
 case rest =>
  obtain ⟨A,d,rfl,hk⟩:=hcut
  clear HC ST HN hcs
  go_upto_region 5 with (fail)
  have hcs:∀ (w:World),(convert 22 22 (.slice (some ⟨w.heap.size,0,none⟩) 1 1)).run Tryz.prog (w.alloc (.cells #[.int .u8 120] 5))=.ok (.slice (some ⟨w.heap.size,0,none⟩) 1 1) (w.alloc (.cells #[.int .u8 120] 5 (1,2))):=fun w=>Lib.run_convert_bytes_const w 22 5 #[.int .u8 120] 1 1 Tryz.underlying22 Tryz.underlying5
  go_cut [4] (fun v4 wx=>v4=.int .i64 0∧Kn24I w o c A kn24A wx)
  case first =>
   obtain ⟨o3,g,f,rfl,hcell,hg,hC3,st3,hol3⟩:=hk
   have HC3:=Lib.hid hC3
   have ST3:=Lib.hid st3
   have HO3:=Lib.hid hol3
   obtain ⟨q1,q2,q3⟩:=kn24_ok
   have CA:=fun (w':World) (e:Ext wc w') (B:Option Addr) (hB:Ro w' (oz wc o3) B (bc [120]))=>nAnswer_c w0 hL 60 c (by decide) (by decide) kn24Q.1 q1 q2 q3 0 [120] (by decide) B 1 w' (oz wc o3) ((HO.out.sto ST3.out (kc0 (by decide))).sto (oz_sto e) (kc0 (by decide:0 < 60))) (HC3.out.sto (K:=fun _=>False) (oz_sto e) (fun h=>h) (fun _ _ h=>h) (fun _ _ h=>h)) hB
   rw [kn24_num] at CA
   have CA:=Lib.hid CA
   clear hC3 st3 hol3 q1 q2 q3
   go_wp2_with (go_at_call 13; refine (CA.out _ (by (repeat first | exact Ex0 | assumption | refine Ex1 ?_ | refine Ex2 ?_ | refine Ex3 ?_ | refine Ex4 ?_ | refine Ex5 ?_)) _ (Ro.new (w1:=wc) (Rd.newZ wc _ _ _) (by (repeat first | exact Ex0 | assumption | refine Ex1 ?_ | refine Ex2 ?_ | refine Ex3 ?_ | refine Ex4 ?_ | refine Ex5 ?_)) (by intro a ha; cases ha; exact Nat.le_refl _) (fun b hb=>oz_new wc o3 hb))).mono ?_; rintro e w4 ⟨v,o4,rfl,⟨rfl,h4⟩,st4⟩)
   go_meet
   exact ⟨rfl,Kn24I.mk hcell hg ST3.out HO3.out ((oz_sto (by (repeat first | exact Ex0 | assumption | refine Ex1 ?_ | refine Ex2 ?_ | refine Ex3 ?_ | refine Ex4 ?_ | refine Ex5 ?_))).tr st4) h4⟩
  case rest =>
   obtain ⟨rfl,hk⟩:=hcut
   clear hcs
   obtain ⟨S,hS⟩:∃ s,s=str kn24A.out:=⟨_,rfl⟩
   have HS0:=Lib.hid hS
   clear hS
   go_upto_region 6 with (fail)
   go_cut [5] (fun v5 wx=>v5=.string S∧Kn24I w o c A { kn24A with out:=[] } wx)
   case first =>
    obtain ⟨o3,g,f,rfl,hcell,hg,hC3,st3,hol3⟩:=hk
    have HC3:=Lib.hid hC3
    have ST3:=Lib.hid st3
    have HO3:=Lib.hid hol3
    have hS:=HS0.out
    have CO:=nOutput_c 90 60 c (by decide) (by decide) kn24A wc o3 HC3.out
    obtain ⟨ka,hka⟩:∃ q,q=kn24A:=⟨_,rfl⟩
    rw [← hka] at CO hS; have HKA:=Lib.hid hka
    have CO:=Lib.hid CO
    have HS:=Lib.hid hS
    clear hC3 st3 hol3 hS hka
    go_wp2_with (go_at_call 14; refine (CO.out).mono ?_; rintro e w4 ⟨v,o4,rfl,⟨⟨A4,c4,rfl,hs4,_⟩,h4⟩,st4⟩; have CV:(convert 22 9 (.slice A4 ka.out.length c4)).run Tryz.prog w4=.ok (.string S) w4:=(by rw [HS.out]; exact conv_bs 22 9 5 Tryz.underlying22 Tryz.underlying5 Tryz.underlying9 hs4.rd ka.out.length c4 rfl))
    go_meet
    exact ⟨rfl,Kn24I.mk hcell hg ST3.out HO3.out st4 (by rw [HKA.out] at h4; exact h4)⟩
   case rest =>
    obtain ⟨rfl,hk⟩:=hcut
    ·obtain ⟨o3,g,f,rfl,hcell,hg,hC3,st3,hol3⟩:=hk
     have HC3:=Lib.hid hC3
     have ST3:=Lib.hid st3
     have HO3:=Lib.hid hol3
     clear hC3 st3 hol3 hg
     have hl:(65:Int) < (S.size:Int):=by
                           rw [HS0.out]; have:=kn24_len; show (65:Int) < (((str kn24A.out).size:Nat):Int); have e:(str kn24A.out).size=kn24A.out.length:=by simp [str,ByteArray.size]
                           omega
     go_upto_region 8 with (fail)
     go_wp2_with (first
      | (go_at_call 8; refine (nNum_c _ _).mono ?_; rintro e w2 ⟨rfl,hw⟩; subst hw)
      | (go_at_call 15; refine (nClosed_c _ _ _ _ _ HC3.out).mono ?_; rintro e w2 ⟨rfl,hw⟩; subst hw))
     ·have hcl:closedC { kn24A with out:=[] }=true:=kn24_closed
      rw [show (Value.bool (closedC { kn24A with out:=[] }))=.bool true from by rw [hcl]]
      go_ret
      exact ⟨rfl,o3,ST3.out,HO3.out⟩
     ·rename_i h9
      exact absurd (by rw [HS0.out]; exact kn24_ext) h9
end Go.Proofs.YthbofilcnpdghaaGreatDoor
end
