/-
Any directive: one contract for all.
-/
import Derived.Test.YtmnohicojefhfaaGreatDoorCFe
import Derived.Test.YtmnohicojefhfaaGreatDoorCf22
import Derived.Test.YtmnohicojefhfaaGreatDoorCFf
import Derived.Test.YtmnohicojefhfaaGreatDoorCFg
import Derived.WalkMore
import Derived.Deep.CutBlock
import Derived.Deep.DeepCutAuto
set_option maxRecDepth 100000
set_option maxHeartbeats 8000000
set_option linter.unusedVariables false
set_option linter.unusedSimpArgs false
section
namespace Go.Proofs.YtmnohicojefhfaaGreatDoor
open Go.RowKit
def Enters (f:FuncId):Prop:=∀ (args:Array Value) (w:World),(callFunc f args).run Tryz.prog w=.ok (.enter f args) w
theorem ent_couterF5:Enters 92:=fun _ _=>by kernel_rfl
theorem ent_couterF6:Enters 93:=fun _ _=>by kernel_rfl
theorem ent_couterF9:Enters 97:=fun _ _=>by kernel_rfl
theorem ent_couterF10:Enters 98:=fun _ _=>by kernel_rfl
theorem ent_couterF11:Enters 100:=fun _ _=>by kernel_rfl
theorem ent_couterF12:Enters 101:=fun _ _=>by kernel_rfl
theorem ent_cdirsF2:Enters 48:=fun _ _=>by kernel_rfl
theorem ent_cdirsF3:Enters 50:=fun _ _=>by kernel_rfl
theorem ent_cdirsF6:Enters 54:=fun _ _=>by kernel_rfl
theorem ent_cdirsF7:Enters 55:=fun _ _=>by kernel_rfl
theorem ent_cdirsF8:Enters 56:=fun _ _=>by kernel_rfl
theorem ent_cdirsF9:Enters 58:=fun _ _=>by kernel_rfl
theorem ent_csetF:Enters 102:=fun _ _=>by kernel_rfl
theorem len1 {α:Type} {a:List α} (h1:1 ≤ a.length) (h2:a.length ≤ 1):∃ s,a=[s]:=by
 match a,h1,h2 with
 | [s],_,_=>exact ⟨s,rfl⟩
theorem len12 {α:Type} {a:List α} (h1:1 ≤ a.length) (h2:a.length ≤ 2):(∃ s,a=[s]) ∨ ∃ s t,a=[s,t]:=by
 match a,h1,h2 with
 | [s],_,_=>exact .inl ⟨s,rfl⟩
 | [s,t],_,_=>exact .inr ⟨s,t,rfl⟩
theorem len0 {α:Type} {a:List α} (h2:a.length ≤ 0):a=[]:=List.eq_nil_of_length_eq_zero (by omega)
def DoIs (fv:Value) (p:Nat) (a:List (List UInt8)) (A:Option Addr) (ac:Nat) (w:World) (Q:Ending → World → Prop):Prop :=
 ∃ f cap,fv=.func (.func f) #[] cap∧Enters f∧Calls Tryz.prog f (#[.pointer (some ⟨p,0,none⟩),.slice A a.length ac] ++ cap) w Q
theorem do_any (w:World) (o:Ow) (p line:Nat) (c:Cf14) (h:CfAt w o p c line) (hE:ErrR w) (hM:CfB 1048576 c) (k:Dk) (hin:OkB (inD k) c) (a:List (List UInt8)) (hl1:leastD k ≤ a.length) (hl2:a.length ≤ mostD k) (ha:∀ s ∈ a,s.length ≤ 65536) (A:Option Addr) (ac:Nat) (hr:RdZ w o A (strC a)) (fv:Value) (hf:FnOk k fv w) :
  DoIs fv p a A ac w (DoQ w o p line (doD k a c)):=by
 have hM2:CfB 1099511627776 c:=hM.mono (by omega)
 cases k
 case keep =>
  obtain ⟨s,rfl⟩:=len1 hl1 hl2
  obtain ⟨gc,rfl,hc⟩:=hf
  exact ⟨_,_,rfl,ent_csetF,do1_c w o p line c h hE s (ha s (by simp)) A ac gc hr.1 hc⟩
 case body =>
  obtain ⟨s,rfl⟩:=len1 hl1 hl2
  obtain ⟨gc,rfl,hc⟩:=hf
  exact ⟨_,_,rfl,ent_csetF,do2_c w o p line c h hE s (ha s (by simp)) A ac gc hr.1 hc⟩
 case store =>
  obtain ⟨s,rfl⟩:=len1 hl1 hl2
  obtain ⟨gc,rfl,hc⟩:=hf
  exact ⟨_,_,rfl,ent_csetF,do3_c w o p line c h hE s (ha s (by simp)) A ac gc hr.1 hc⟩
 case conns =>
  obtain ⟨s,rfl⟩:=len1 hl1 hl2
  obtain ⟨gc,rfl,hc⟩:=hf
  exact ⟨_,_,rfl,ent_csetF,do4_c w o p line c h hE s (ha s (by simp)) A ac gc hr.1 hc⟩
 case timeout =>
  obtain ⟨s,rfl⟩:=len1 hl1 hl2
  obtain ⟨gc,rfl,hc⟩:=hf
  exact ⟨_,_,rfl,ent_csetF,do7_c w o p line c h hE hin hM2 s (ha s (by simp)) A ac gc hr.1 hc⟩
 case retries =>
  obtain ⟨s,rfl⟩:=len1 hl1 hl2
  obtain ⟨gc,rfl,hc⟩:=hf
  exact ⟨_,_,rfl,ent_csetF,do8_c w o p line c h hE hin hM2 s (ha s (by simp)) A ac gc hr.1 hc⟩
 case gzip =>
  obtain ⟨s,rfl⟩:=len1 hl1 hl2
  obtain ⟨gc,rfl,hc⟩:=hf
  exact ⟨_,_,rfl,ent_csetF,do9_c w o p line c h hE hin hM2 s (ha s (by simp)) A ac gc hr.1 hc⟩
 case expires =>
  obtain ⟨s,rfl⟩:=len1 hl1 hl2
  obtain ⟨gc,rfl,hc⟩:=hf
  exact ⟨_,_,rfl,ent_csetF,do10_c w o p line c h hE hin hM2 s (ha s (by simp)) A ac gc hr.1 hc⟩
 case upstream =>
  obtain ⟨s,rfl⟩:=len1 hl1 hl2
  exact ⟨_,#[],hf,ent_couterF5,upstream_c w o p line c h hM s A ac hr.1⟩
 case peer =>
  refine ⟨_,#[],hf,ent_couterF6,?_⟩
  rcases len12 hl1 hl2 with ⟨s,rfl⟩ | ⟨s,t,rfl⟩
  ·cases hn:numC s with
   | none=>exact peer_n w o p line c h hE s [] (ha s (by simp)) hn A 1 ac (by omega) hr.1
   | some n=>exact peer_y1 w o p line c h hE hin hM s (ha s (by simp)) n hn A ac hr.1
  ·cases hn:numC s with
   | none=>exact peer_n w o p line c h hE s [t] (ha s (by simp)) hn A 2 ac (by omega) hr.1
   | some n=>cases hm:numC t with
    | none=>exact peer_yn w o p line c h hE s t (ha s (by simp)) (ha t (by simp)) n hn hm A ac hr.1
    | some m=>exact peer_yy w o p line c h hE hin hM s t (ha s (by simp)) (ha t (by simp)) n m hn hm A ac hr.1
 case server =>
  obtain rfl:=len0 hl2
  exact ⟨_,#[],hf,ent_couterF9,server_c w o p line c h hM _⟩
 case name=>exact ⟨_,#[],hf,ent_couterF10,name_c w o p line c h hin hM a a.length rfl hl2 A ac hr.1⟩
 case dflt =>
  obtain rfl:=len0 hl2
  exact ⟨_,#[],hf,ent_couterF11,dflt_c w o p line c h hin hM2 _⟩
 case location =>
  obtain ⟨s,rfl⟩:=len1 hl1 hl2
  exact ⟨_,#[],hf,ent_couterF12,location_c w o p line c h hin hM s A ac hr.1⟩
 case root =>
  obtain ⟨s,rfl⟩:=len1 hl1 hl2
  exact ⟨_,#[],hf,ent_cdirsF2,root_c w o p line c h hin hM2 s A ac hr.1⟩
 case index =>
  obtain ⟨s,rfl⟩:=len1 hl1 hl2
  exact ⟨_,#[],hf,ent_cdirsF3,index_c w o p line c h hin hM2 s A ac hr.1⟩
 case proxy =>
  obtain ⟨s,rfl⟩:=len1 hl1 hl2
  exact ⟨_,#[],hf,ent_cdirsF6,proxy_c w o p line c h hin hM2 s A ac hr.1⟩
 case cache =>
  obtain rfl:=len0 hl2
  exact ⟨_,#[],hf,ent_cdirsF7,cache_c w o p line c h hin hM2 _⟩
 case limit =>
  obtain ⟨s,t,rfl⟩:∃ s t,a=[s,t]:=by
   rcases len12 (Nat.le_trans (by decide) hl1) hl2 with ⟨s,rfl⟩ | h
   ·simp [leastD] at hl1
   ·exact h
  refine ⟨_,#[],hf,ent_cdirsF8,?_⟩
  cases hn:numC s with
  | none=>exact limit_n w o p line c h hE hin hM2 s t (ha s (by simp)) hn A ac hr.1
  | some n=>cases hm:numC t with
   | none=>exact limit_yn w o p line c h hE hin hM2 s t (ha s (by simp)) (ha t (by simp)) n hn hm A ac hr.1
   | some m=>exact limit_yy w o p line c h hE hin hM2 s t (ha s (by simp)) (ha t (by simp)) n m hn hm A ac hr.1
 case ret =>
  refine ⟨_,#[],hf,ent_cdirsF9,?_⟩
  rcases len12 hl1 hl2 with ⟨s,rfl⟩ | ⟨s,t,rfl⟩
  ·cases hn:numC s with
   | none=>exact ret_n w o p line c h hE hin hM2 s [] (ha s (by simp)) hn A 1 ac (by omega) hr.1
   | some n=>exact ret_y1 w o p line c h hE hin hM2 s (ha s (by simp)) n hn A ac hr.1
  ·cases hn:numC s with
   | none=>exact ret_n w o p line c h hE hin hM2 s [t] (ha s (by simp)) hn A 2 ac (by omega) hr.1
   | some n =>
    refine ret_y2 w o p line c h hE hin hM2 s t (ha s (by simp)) n hn A ac hr.1 ?_
    rcases hr.2 with h0 | h0
    ·cases h0
    ·exact h0
end Go.Proofs.YtmnohicojefhfaaGreatDoor
end
section
namespace Go.Proofs.YtmnohicojefhfaaGreatDoor
open Go.RowKit
theorem cin_c (n a b:Int) (w:World):Calls Tryz.prog 29 #[.int .i64 n,.int .i64 a,.int .i64 b] w fun e w'=>e=.returned (.bool (inB n a b))∧w'=w:=by
 unfold inB
 by_cases h1:a ≤ n
 ·have d1:decide (a ≤ n)=true:=decide_eq_true h1
  by_cases h2:n ≤ b
  ·have d2:decide (n ≤ b)=true:=decide_eq_true h2
   rw [d1,d2]
   go_enter Tryz.func29,Tryz.ntmps29
   go_wp2
   go_ret
   exact ⟨rfl,rfl⟩
  ·have d2:decide (n ≤ b)=false:=decide_eq_false h2
   rw [d1,d2]
   go_enter Tryz.func29,Tryz.ntmps29
   go_wp2
   go_ret
   exact ⟨rfl,rfl⟩
 ·have d1:decide (a ≤ n)=false:=decide_eq_false h1
  rw [d1,Bool.false_and]
  go_enter Tryz.func29,Tryz.ntmps29
  go_wp2
  go_ret
  exact ⟨rfl,rfl⟩
theorem cut_from (size:Nat) (ty el:TypeId) (hu:Tryz.prog.underlying ty=some (.slice el)) (hz:∀ w',(Go.sizeOf el).run Tryz.prog w'=.ok size w') (xs:List Value) (B:Option Addr) (n c X:Nat) (x:Int) (hx:x=(X:Int)) (w:World) (hR:Rd w B xs) (hl:xs.length=n * size) (hX:X ≤ n) (hc:n ≤ c) :
  ∃ B',(∀ w',(Instr.slice ty (.slice B n c) (some (.int .i64 x)) none none).run Tryz.prog w'=.ok (.slice B' (n - X) (c - X)) w')∧(∀ w',Rd w' B xs → Rd w' B' (xs.drop (X * size)))∧∀ a',B'=some a' → ∃ a,B=some a∧a'.block=a.block:=by
 subst hx
 refine ⟨if c=X then B else B.map (·.add (X * size)),fun w'=>?_,fun w' hR=>?_,fun a' ha=>?_⟩
 ·have h2:(X:Int) ≤ (n:Int):=by omega
  have h3:(0:Int) ≤ (X:Int):=by omega
  have h4:(0:Int) ≤ (n:Int):=by omega
  have h5:(n:Int) ≤ (c:Int):=by omega
  simp [Instr.slice,Instr.sliceBounds,Instr.sliceBound,asIntOf,run_underlying hu,go_sem,h2,h3,h4,h5,hz,hX,hc]
 ·by_cases h0:X=n
  ·exact .inl (List.drop_eq_nil_iff.2 (by rw [hl,h0]; exact Nat.le_refl _))
  ·rw [if_neg (by omega)]
   rcases hR with h | ⟨g,f,rfl,hcc⟩
   ·exact .inl (by rw [h]; simp)
   ·refine .inr ⟨g,f + X * size,by simp [Addr.add],fun j u hu=>?_⟩
    rw [Nat.add_assoc]
    refine hcc (X * size + j) u ?_
    rwa [List.getElem?_drop] at hu
 ·split at ha
  ·exact ⟨a',ha,rfl⟩
  ·cases B with
   | none=>cases ha
   | some a=>simp at ha; exact ⟨a,rfl,by rw [← ha]; unfold Addr.add; first | rfl | (split <;> rfl) | (simp; done)⟩
theorem Rd.turned {w w':World} {b:Nat} {A:Option Addr} {xs:List Value} (t:w.mapTurned w' b) (h:Rd w A xs):Rd w' A xs:=by
 rcases h with h | ⟨g,f,hA,hc⟩
 ·exact .inl h
 ·exact .inr ⟨g,f,hA,fun j u hu=>cell_turned t (hc j u hu)⟩
theorem wpL_callf {P:Program} {ops:Array Oper} {rest:List Oper} {o:Oper} {a:Act} {Q:Exit → Act → World → Prop} {w:World} (hg:o.guard=none) (fv x y:Operand) {t1 t2:TypeId}
  (ho:o.op=.call { callee:=.value fv,args:=#[x,y],argTypes:=#[t1,t2] }) {f:FuncId} {cap:Array Value} {xv yv:Value} (hf:a.eval fv=.func (.func f) #[] cap) (hx:a.eval x=xv) (hy:a.eval y=yv)
  (he:(callFunc f (#[xv,yv] ++ cap)).run P w=.ok (.enter f (#[xv,yv] ++ cap)) w) {R:Ending → World → Prop} (hC:Calls P f (#[xv,yv] ++ cap) w R)
  (h:∀ e w',R e w' → (∃ v,e=.returned v∧wpList P ops Q rest (a.put o.dst v) w') ∨ ∃ ch,e=.panicked ch∧Q (.panic ch) a w'):wpList P ops Q (o :: rest) a w:=by
 refine wpList_plain hg fun K' hK'=>?_
 have hr:(execOp a.eval o).run P w=.ok (.enter f (#[xv,yv] ++ cap)) w:=by
  simp only [execOp,ho,resolve,Deferred.ofValue,hf,List.map_toArray,List.map_cons,List.map_nil,hx,hy]
  have e:(do let d ← (pure { target:=Target.fn (Fn.func f) cap,args:=#[] ++ #[xv,yv] }:Sem Deferred); invoke d.target d.args:Sem Next).run P w=(callFunc f (#[xv,yv] ++ cap)).run P w:=by simp [invoke,go_sem]
  exact e.trans he
 unfold Oper.wp
 rw [hr,Oper.upon_enter]
 refine hC.mono ?_
 intro e w' hR
 rcases h e w' hR with ⟨v,rfl,hw⟩ | ⟨ch,rfl,hw⟩
 ·exact hK' _ _ hw
 ·exact hw
def MetOk (Mt:List (List UInt8 × Value)) (came:List Dk):Prop:=∀ k:Dk,lkM Mt (nameD k)=if came.contains k then some (.bool true) else none
theorem MetOk.start:MetOk [] []:=fun _=>rfl
theorem MetOk.put {Mt:List (List UInt8 × Value)} {came:List Dk} (h:MetOk Mt came) (k:Dk):MetOk (putM Mt (nameD k) (.bool true)) (k :: came):=by
 intro j
 by_cases e:j=k
 ·subst e
  rw [lk_put_same,if_pos (by simp)]
 ·rw [lk_put_other _ (fun e2=>e (nameD_inj _ _ e2)),h j]
  have:(k :: came).contains j=came.contains j:=by simp [e]
  rw [this]
theorem mapB:Tryz.prog.underlying 112=some (.map 9 4):=Tryz.underlying112
theorem fn_form {k:Dk} {fv:Value} {w:World} (h:FnOk k fv w):∃ f cap,fv=.func (.func f) #[] cap:=by
 cases k <;> first | exact ⟨_,_,h⟩ | exact ⟨_,_,h.choose_spec.1⟩
theorem look1 {P:Program} {k:TypeId} {w:World} {b:Nat} {M:List (List UInt8 × Value)} (h:World.isM w P k b M) (K:Go.Maps.Keyed P k) {t e:TypeId} (ht:P.underlying t=some (.map k e)) (hs:P.underlying k=some .string) {z:Value} (hz:(zeroValue e).run P w=.ok z w) {l:List UInt8} (hl:l.length ≤ maxLen) :
  (Instr.lookup t (.map (some b)) (.string ⟨l.toArray⟩) false).run P w=.ok ((lkM M l).getD z) w:=by
 obtain ⟨D,h1,h2,h3,h4,h5⟩:=h
 have hk:keyOf P k (.string ⟨l.toArray⟩)=some (.string l):=by rw [Go.WideMaps.keyOf_string_mk hs (show l.toArray.size ≤ maxLen by simpa using hl)]
 obtain ⟨v,ps,r,hv⟩:=h1.lookup K ht hz (show heldR z=some (.held z,[]) from rfl) hk
 rw [r]
 have e:v=(lkM M l).getD z:=by
  simp only [heldR,Option.some.injEq,Prod.mk.injEq,h5] at hv
  cases hm:lkM M l with
  | none=>rw [hm] at hv; have:=hv.1; injection this
  | some u=>rw [hm] at hv; have:=hv.1; injection this
 rw [e]
structure BAt (w:World) (o:Ow) (p:Nat) (b:Option Dk) (c:Cf14) (f:Fo) (pk:List Nat) (mb:Nat) (wr:World) (i:Nat) (r:Fo) (came:List Dk) (c':Cf14) (line M:Nat) (o':Ow) (Mt:List (List UInt8 × Value)):Prop where
 eq:buildF b [] c f=buildF b came c' r
 at_:FoZ w o (pk.drop i) r
 le:i ≤ pk.length
 stp:Stp KB w o wr o'
 cf:CfAt wr o' p c' line
 map:World.isM wr Tryz.prog 9 mb Mt
 mo:o' mb=0
 mn:w.heap.size ≤ mb
 met:MetOk Mt came
 ml:Mt.length ≤ i
 wf:r.wf
 fb:FoB r 65536
 cb:CfB M c'
 mm:M + r.words ≤ 1048576
 ok:OkB b c'
 sz:r.size ≤ f.size
theorem FoZ.len {w:World} {o:Ow}:∀ {f:Fo} {ps:List Nat},FoZ w o ps f → ps.length ≤ f.size:=by
 intro f
 induction f with
 | nil=>intro ps h; rw [show ps=[] from h]; exact Nat.le_refl _
 | node ws l b k n ihk ihn =>
  rintro ps ⟨p,ps',A,c,pk,B,d,rfl,h1,hz,h2,h3,h4,h5,h6⟩
  have:=ihn h5
  simp only [List.length_cons,Fo.size]; omega
theorem Fo.size_words:∀ (f:Fo),f.wf → f.size ≤ f.words:=by
 intro f
 induction f with
 | nil=>intro _; exact Nat.le_refl _
 | node ws l b k n ihk ihn =>
  rintro ⟨h1,h2,h3,h4⟩
  have a:=ihk h3
  have b:=ihn h4
  have c:0 < ws.length:=List.length_pos_iff.2 h1
  simp only [Fo.size,Fo.words]; omega
theorem cbuild_c:∀ (N:Nat) (f:Fo),f.size < N → ∀ (w:World) (o:Ow) (p db:Nat) (b:Option Dk) (c:Cf14) (line M:Nat) (pk:List Nat) (B:Option Addr) (d:Nat),CfAt w o p c line → GE w o → DirsZ db w o → FoZ w o pk f → RdZ w o B (pk.map ptC) → f.wf → FoB f 65536 → CfB M c → M + f.words ≤ 1048576 → OkB b c →
  Calls Tryz.prog 21 #[.pointer (some ⟨p,0,none⟩),.map (some db),.string (str (inN b)),.slice B pk.length d] w (BuQ w o p (buildF b [] c f)):=by
 intro N
 induction N with
 | zero=>intro f h; omega
 | succ N ih =>
  intro f hN w o p db b c line M pk B d hC hG hD hF hB hW hFb hM hMM hO
  have hmm:=@run_makeMap Tryz.prog
  have hpl:pk.length ≤ 1048576:=by
   have h1:=hF.len
   have h2:=Fo.size_words f hW
   omega
  go_enter Tryz.func21,Tryz.ntmps21
  go_wp2
  go_loopw [19] (fun v19 wr=>∃ (i:Nat) (r:Fo) (came:List Dk) (c':Cf14) (line' M':Nat) (o':Ow) (Mt:List (List UInt8 × Value)),v19=.int .i64 (i:Int)∧BAt w o p b c f pk w.heap.size wr i r came c' line' M' o' Mt) (fun v19 _=>pk.length - (intOf v19).toNat)
  case atStart =>
   refine ⟨0,f,[],c,line,M,fun x=>if x < w.heap.size then o x else 0,[],rfl,rfl,by simpa using hF,by omega,Stp.ext2 ((Ext.rfl' w).al _) (fun x hx=>if_pos hx),?_,World.isM_made _ _ _,by simp,Nat.le_refl _,MetOk.start,by simp,hW,hFb,hM,hMM,hO,Nat.le_refl _⟩
   exact hC.stp (Stp.ext2 (K:=fun _=>False) ((Ext.rfl' w).al _) (fun x hx=>if_pos hx)) (fun _ _ x=>x)
  case round =>
   obtain ⟨i,r,came,c',line',M',o',Mt,rfl,hA⟩:=hrel
   cases r with
   | nil =>
    have hz0:pk.drop i=[]:=hA.at_
    have hil:i=pk.length:=by
     have h1:(pk.drop i).length=0:=by rw [hz0]; rfl
     rw [List.length_drop] at h1
     have:=hA.le; omega
    subst hil
    have HQ:Hid (BuQ w o p (buildF b [] c f) (.returned (.tuple #[])) wr):=Lib.hid ⟨o',hA.stp,by rw [hA.eq]; exact ⟨rfl,line',hA.cf⟩⟩
    clear hA
    go_wp2
    go_end0
    exact HQ.out
   | node ws l bl k n =>
    obtain ⟨q,ps',A,ac,pk2,B2,d2,e0,h1,hz,h2,h3,h4,h5,h6⟩:=FoZ.stp hA.stp (by unfold KB; omega) hA.at_
    have hil:i < pk.length:=by
     refine Nat.lt_of_not_le fun h=>?_
     rw [List.drop_of_length_le h] at e0; cases e0
    have hqi:pk[i]?=some q:=by
     have:=List.drop_eq_getElem_cons hil
     rw [e0] at this
     rw [List.getElem?_eq_getElem hil]; injection this with h _; rw [h]
    obtain ⟨bB,gB,rfl,kq⟩:∃ b g,B=some ⟨b,g,none⟩∧wr.cell? ⟨b,g + i,none⟩=some (.pointer (some ⟨q,0,none⟩)):=by
     have hb:=hB.stp hA.stp (by unfold KB; omega)
     rcases hb.1 with h | ⟨b,g,hA',hc⟩
     ·have:pk=[]:=List.map_eq_nil_iff.1 h
      rw [this] at hil; simp at hil
     ·exact ⟨b,g,hA',hc i _ (by rw [List.getElem?_map,hqi]; rfl)⟩
    obtain ⟨w0,rest,rfl⟩:∃ x r,ws=x :: r:=by
     cases ws with
     | nil=>exact absurd rfl hA.wf.1
     | cons x r=>exact ⟨x,r,rfl⟩
    have HA:=Lib.hid hA
    have kl:wr.cell? ⟨q,1,none⟩=some (.int .i64 (l:Int)):=(row_facts h1 1 _ rfl).1
    obtain ⟨U,UA,uc,S,SA,sc,hcf⟩:=hA.cf
    have p6:=hcf.c6
    have z6:=hcf.fz 6 (by omega)
    have hcell:=hcf.cell 6 (.int .i64 (l:Int)) (c':=c') (line':=l) rfl rfl rfl
    obtain ⟨w1,hw1⟩:∃ w1,w1=wr.setCell ⟨p,6,none⟩ (.int .i64 (l:Int)):=⟨_,rfl⟩
    rw [← hw1] at hcell
    have HW1:=Lib.hid hw1
    have HC1:Hid (CfAt w1 o' p c' l):=Lib.hid ⟨_,_,_,_,_,_,hcell.1⟩
    have HS1:Hid (Stp KB w o w1 o'):=Lib.hid (hA.stp.tr hcell.2)
    have r1:=Lib.hid ((hcell.2.keep q (row_lt h1) (by rw [hz]; unfold KB; omega)).trans h1)
    have hAr:=h2.stp hcell.2 (by unfold KB; omega)
    have hz1:=(hcell.2.own q (row_lt h1)).trans hz
    obtain ⟨bA,gA,rfl,kA⟩:∃ b g,A=some ⟨b,g,none⟩∧w1.cell? ⟨b,g,none⟩=some (.string (str w0)):=by
     rcases hAr.1 with h | ⟨b,g,hA',hc⟩
     ·cases h
     ·exact ⟨b,g,hA',hc 0 _ rfl⟩
    obtain ⟨A',hsl,hrd,hblk⟩:=cut_from 1 55 9 Tryz.underlying55 (fun _=>rfl) (strC (w0 :: rest)) (some ⟨bA,gA,none⟩) (w0 :: rest).length ac 1 1 rfl w1 hAr.1 (by simp [strC]) (by simp) h6
    have n0:w1.cell? ⟨q,0,none⟩=some (.slice (some ⟨bA,gA,none⟩) (rest.length + 1) ac):=(row_facts r1.out 0 _ rfl).1
    have n2:w1.cell? ⟨q,2,none⟩=some (.bool bl):=(row_facts r1.out 2 _ rfl).1
    have n3:w1.cell? ⟨q,3,none⟩=some (.slice B2 pk2.length d2):=(row_facts r1.out 3 _ rfl).1
    have n1:w1.cell? ⟨q,1,none⟩=some (.int .i64 (l:Int)):=(row_facts r1.out 1 _ rfl).1
    rw [List.length_cons] at hsl
    rw [Nat.add_sub_cancel] at hsl
    obtain ⟨s0,hs0⟩:∃ s,s=str w0:=⟨_,rfl⟩
    rw [← hs0] at kA
    have HS0:=Lib.hid hs0
    clear hs0
    have hw0l:w0.length ≤ maxLen:=by have:=hA.fb.2.1 w0 (by simp); simp only [maxLen]; omega
    obtain ⟨hdl,hdo,Mp,hmp1,hmp2,hmp3⟩:=hD.stp HS1.out (by unfold KB; omega)
    have HMP:=Lib.hid hmp1
    have HE0:=Lib.hid e0
    clear hA hcell hcf h1 h2 h3 h4 h5 e0 hqi hmp1 hw1 hz hz1
    have HGON:Hid (buildF b came c' (.node (w0 :: rest) l bl k n)=.error l → ∀ w',Ext w1 w' → BuQ w o p (buildF b [] c f) (.panicked [{ v:=.iface 48 (.int .i64 (l:Int)),recovered:=false }]) w'):=Lib.hid (fun hb w' e=>by
     rw [HA.out.eq,hb]
     exact ⟨o',HS1.out.tr (Stp.ext e),rfl⟩)
    cases hx:dkOf w0 with
    | none =>
     have HLK:=Lib.hid (hmp3 w0 hx)
     have hB:Hid (buildF b came c' (.node (w0 :: rest) l bl k n)=.error l):=Lib.hid (by rw [buildF]; simp only [List.headD_cons,hx])
     have hnp:¬ w0=[112,114,111,120,121]:=fun e=>by rw [e] at hx; exact absurd hx (by decide)
     have hnr:¬ w0=[114,101,116,117,114,110]:=fun e=>by rw [e] at hx; exact absurd hx (by decide)
     have e1:¬ s0.toList=[112,114,111,120,121]:=by rw [HS0.out,str_tl]; exact hnp
     have e2:¬ s0.toList=[114,101,116,117,114,110]:=by rw [HS0.out,str_tl]; exact hnr
     have e3:(s0.toList == [112,114,111,120,121])=false:=beq_eq_false_iff_ne.2 e1
     have e4:(s0.toList == [114,101,116,117,114,110])=false:=beq_eq_false_iff_ne.2 e2
     clear hnp hnr
     clear hmp2 hmp3
     go_wp2
     rw [← HW1.out]
     go_cut [11,12] (fun v11 v12 wx=>v11=.string s0∧v12=.slice A' rest.length (ac - 1)∧Ext w1 wx)
     case first =>
      go_quiet (fail)
      go_wp2_with fail
      go_meet
      exact ⟨rfl,rfl,by (repeat first | exact Ex0 | assumption | refine Ex1 ?_ | refine Ex2 ?_ | refine Ex3 ?_ | refine Ex4 ?_ | refine Ex5 ?_)⟩
     case rest =>
      obtain ⟨rfl,rfl,hwx⟩:=hcut
      have m1:=(hwx.cell (lt_of_cell n1)).trans n1
      have y1:=fun u=>((show Ext _ (World.alloc _ u) from (Ext.rfl' _).al u).cell (lt_of_cell m1)).trans m1
      have HMX:=Lib.hid (World.isM.same HMP.out (hwx.block db hdl))
      go_wp2_with (first
       | (at_lookup; refine wpL_look rfl _ _ 53 rfl 115 keyedC mapD Tryz.underlying9 (Tryz.zeroValue115 _) rfl HMX.out w0 hw0l (by rw [HS0.out]; rfl) ?_; rw [HLK.out]; simp only [Option.getD_none,Option.isSome_none]))
      go_quiet (fail)
      go_wp2
      simp only [bodyPost]
      exact ⟨trivial,HGON.out hB.out _ (by (repeat first | exact Ex0 | assumption | refine Ex1 ?_ | refine Ex2 ?_ | refine Ex3 ?_ | refine Ex4 ?_ | refine Ex5 ?_))⟩
    | some x =>
     have hw0:w0=nameD x:=by
      have:=List.find?_some hx
      simpa using (of_decide_eq_true this).symm
     obtain ⟨fv,hlk,hfn,hfz⟩:=hmp2 x
     rw [← hw0] at hlk
     obtain ⟨fi,cap,rfl⟩:=fn_form hfn
     obtain ⟨si,hsi⟩:∃ s,s=str (inN (inD x)):=⟨_,rfl⟩
     obtain ⟨xl,hxl⟩:∃ n:Int,n=(leastD x:Int):=⟨_,rfl⟩
     obtain ⟨xm,hxm⟩:∃ n:Int,n=(mostD x:Int):=⟨_,rfl⟩
     obtain ⟨xb,hxb⟩:∃ n,n=blockD x:=⟨_,rfl⟩
     obtain ⟨xa,hxa⟩:∃ n,n=manyD x:=⟨_,rfl⟩
     have HV:Hid (lkM Mp w0=some (.agg #[.string si,.int .i64 xl,.int .i64 xm,.bool xb,.bool xa,.func (.func fi) #[] cap])):=Lib.hid (by rw [hlk,hsi,hxl,hxm,hxb,hxa]; rfl)
     have HSI:=Lib.hid hsi
     have HXL:=Lib.hid hxl
     have HXM:=Lib.hid hxm
     have HXB:=Lib.hid hxb
     have HXA:=Lib.hid hxa
     have HFN:=Lib.hid (And.intro hfn hfz)
     have HW0:=Lib.hid hw0
     have HX:=Lib.hid hx
     clear hsi hxl hxm hxb hxa hlk hfn hfz hw0 hx hmp2 hmp3
     go_wp2
     rw [← HW1.out]
     go_cut [11,12] (fun v11 v12 wx=>v11=.string s0∧v12=.slice A' rest.length (ac - 1)∧Ext w1 wx)
     case first =>
      go_quiet (fail)
      go_wp2_with fail
      go_meet
      exact ⟨rfl,rfl,by (repeat first | exact Ex0 | assumption | refine Ex1 ?_ | refine Ex2 ?_ | refine Ex3 ?_ | refine Ex4 ?_ | refine Ex5 ?_)⟩
     case rest =>
      obtain ⟨rfl,rfl,hwx⟩:=hcut
      obtain ⟨W6,rfl⟩:∃ W6,W6=wc:=⟨_,rfl⟩
      have HMX:=Lib.hid (World.isM.same HMP.out (hwx.block db hdl))
      go_upto_region 7 with (first
       | (at_lookup; refine wpL_look rfl _ _ 53 rfl 115 keyedC mapD Tryz.underlying9 (Tryz.zeroValue115 _) rfl HMX.out w0 hw0l (by rw [HS0.out]; rfl) ?_; rw [HV.out]; simp only [Option.getD_some,Option.isSome_some]))
      go_cut [15] (fun v15 wx=>v15=.string s0∧wx=W6.alloc (.cells #[.string si,.int .i64 xl,.int .i64 xm,.bool xb,.bool xa,.func (.func fi) #[] cap] 115))
      case first =>
       go_wp2_with fail
       go_meet
       exact ⟨rfl,rfl⟩
      case rest =>
       obtain ⟨rfl,rfl⟩:=hcut
       go_step
       go_step
       go_cut [15] (fun v15 wx=>v15=.string (str (nameD (kindD x)))∧wx=W6.alloc (.cells #[.string si,.int .i64 xl,.int .i64 xm,.bool xb,.bool xa,.func (.func fi) #[] cap] 115))
       case first =>
        by_cases hp:w0=[112,114,111,120,121]
        ·have e1:s0.toList=[112,114,111,120,121]:=by rw [HS0.out,str_tl]; exact hp
         have hk:Hid (str (nameD (kindD x))=⟨#[114,111,111,116]⟩):=Lib.hid (by
          obtain rfl:x=.proxy:=nameD_inj _ _ (by rw [← HW0.out,hp]; rfl)
          rfl)
         clear hp
         go_wp2_with fail
         go_meet
         exact ⟨by rw [hk.out],rfl⟩
        have e1:¬ s0.toList=[112,114,111,120,121]:=by rw [HS0.out,str_tl]; exact hp
        have e3:(s0.toList == [112,114,111,120,121])=false:=beq_eq_false_iff_ne.2 e1
        by_cases hr:w0=[114,101,116,117,114,110]
        ·have e2:s0.toList=[114,101,116,117,114,110]:=by rw [HS0.out,str_tl]; exact hr
         have hk:Hid (str (nameD (kindD x))=⟨#[114,111,111,116]⟩):=Lib.hid (by
          obtain rfl:x=.ret:=nameD_inj _ _ (by rw [← HW0.out,hr]; rfl)
          rfl)
         clear hr hp
         go_wp2_with fail
         go_meet
         exact ⟨by rw [hk.out],rfl⟩
        have e2:¬ s0.toList=[114,101,116,117,114,110]:=by rw [HS0.out,str_tl]; exact hr
        have e4:(s0.toList == [114,101,116,117,114,110])=false:=beq_eq_false_iff_ne.2 e2
        have hk:Hid (str (nameD (kindD x))=s0):=Lib.hid (by
         rw [HS0.out,HW0.out]
         rw [HW0.out] at hp hr
         cases x <;> first | rfl | exact absurd rfl hp | exact absurd rfl hr)
        clear hp hr
        go_wp2_with fail
        go_meet
        exact ⟨by rw [hk.out],rfl⟩
       case rest =>
        obtain ⟨rfl,rfl⟩:=hcut
        obtain ⟨W7,hW7⟩:∃ W,W=W6.alloc (.cells #[.string si,.int .i64 xl,.int .i64 xm,.bool xb,.bool xa,.func (.func fi) #[] cap] 115):=⟨_,rfl⟩
        have hbx:W7.heap[W6.heap.size]?=some (.cells #[.string si,.int .i64 xl,.int .i64 xm,.bool xb,.bool xa,.func (.func fi) #[] cap] 115 (0,0)):=by rw [hW7]; exact heap_alloc_new W6 _
        have hx7:Ext w1 W7:=by rw [hW7]; exact hwx.al _
        obtain ⟨gx,hgx⟩:∃ g,g=W6.heap.size:=⟨_,rfl⟩
        rw [← hgx] at hbx ⊢
        rw [← hW7]
        clear hW7 hgx
        have x0:W7.cell? ⟨gx,0,none⟩=some (.string si):=(row_facts hbx 0 _ rfl).1
        have x1:W7.cell? ⟨gx,1,none⟩=some (.int .i64 xl):=(row_facts hbx 1 _ rfl).1
        have x2:W7.cell? ⟨gx,2,none⟩=some (.int .i64 xm):=(row_facts hbx 2 _ rfl).1
        have x3:W7.cell? ⟨gx,3,none⟩=some (.bool xb):=(row_facts hbx 3 _ rfl).1
        have x4:W7.cell? ⟨gx,4,none⟩=some (.bool xa):=(row_facts hbx 4 _ rfl).1
        have y1:=(hx7.cell (lt_of_cell n1)).trans n1
        have y2:=(hx7.cell (lt_of_cell n2)).trans n2
        obtain ⟨cm,hcm⟩:∃ c,c=came.contains (kindD x):=⟨_,rfl⟩
        have hkl:(nameD (kindD x)).length ≤ maxLen:=Nat.le_trans (show _ ≤ 100 by cases x <;> decide) (by simp [maxLen])
        have hlk:∀ n,(Instr.lookup 112 (.map (some w.heap.size)) (.string (str (nameD (kindD x)))) false).run Tryz.prog (W7.drewN n)=.ok (.bool cm) (W7.drewN n):=fun n=>by
         have hb:=HA.out.map
         have hmb:w.heap.size < wr.heap.size:=hb.lt
         have s1:w1.heap[w.heap.size]?=wr.heap[w.heap.size]?:=by
          rw [HW1.out]
          exact Below.heap_setCell wr _ _ _ (by
           intro e
           obtain ⟨D,⟨es,clock,h0,_⟩,_⟩:=hb
           have:=p6
           unfold World.cell? at this
           rw [show (⟨p,6,none⟩:Addr).block=w.heap.size from e.symm,h0] at this
           simp at this)
         have h1:=World.isM.same hb s1
         have h7:=World.isM.same h1 (w':=W7.drewN n) ((hx7.block w.heap.size h1.lt).trans rfl)
         have:=look1 h7 keyedC mapB Tryz.underlying9 (Tryz.zeroValue4 _) hkl
         rw [HA.out.met (kindD x),← hcm] at this
         have e2:(if cm=true then some (Value.bool true) else none).getD (.bool false)=.bool cm:=by cases cm <;> rfl
         rw [e2] at this
         exact this
        have HMW:Hid (World.isM w1 Tryz.prog 9 w.heap.size Mt):=Lib.hid (by
         have hb:=HA.out.map
         refine World.isM.same hb ?_
         rw [HW1.out]
         exact Below.heap_setCell wr _ _ _ (by
          intro e
          obtain ⟨D,⟨es,clock,h0,_⟩,_⟩:=hb
          have:=p6
          unfold World.cell? at this
          rw [show (⟨p,6,none⟩:Addr).block=w.heap.size from e.symm,h0] at this
          simp at this))
        obtain ⟨ks,hks⟩:∃ s,s=str (nameD (kindD x)):=⟨_,rfl⟩
        rw [← hks] at hlk ⊢
        have hlk0:=hlk 0
        obtain ⟨sb,hsb⟩:∃ s,s=str (inN b):=⟨_,rfl⟩
        rw [← hsb]
        have HSB:=Lib.hid hsb
        have HCM:=Lib.hid hcm
        have HKS:=Lib.hid hks
        clear hcm hks hsb
        go_step
        go_step
        go_cut [] (fun wx=>fitD x ⟨w0 :: rest,0,bl,l⟩ (b,came)=true∧Ext W7 wx)
        case first =>
         have hBad:Hid (fitD x ⟨w0 :: rest,0,bl,l⟩ (b,came)=false → buildF b came c' (.node (w0 :: rest) l bl k n)=.error l):=Lib.hid (fun h=>by
          rw [buildF]
          simp only [List.headD_cons,HX.out,h,Bool.false_eq_true,if_false])
         by_cases f1:inD x=b
         ·obtain rfl:si=sb:=by rw [HSI.out,HSB.out,f1]
          have CI:=Lib.hid (fun w'=>cin_c (rest.length:Int) xl xm w')
          by_cases f2:leastD x ≤ rest.length∧rest.length ≤ mostD x
          ·have hin:inB (rest.length:Int) xl xm=true:=by
            rw [HXL.out,HXM.out]; unfold inB
            rw [decide_eq_true (by omega),decide_eq_true (by omega)]; rfl
           rw [hin] at CI
           by_cases f3:xb=bl
           ·subst f3
            clear hin
            have hfit:fitD x ⟨w0 :: rest,0,xb,l⟩ (b,came)=(!cm || xa):=by
             unfold fitD
             dsimp only
             rw [List.length_cons,Nat.add_sub_cancel,decide_eq_true f1,decide_eq_true f2.1,decide_eq_true f2.2,← HXB.out,← HCM.out,← HXA.out,beq_self_eq_true]
             simp
            cases cm with
            | false =>
             clear f1 f2
             have HF:=Lib.hid hfit
             clear hfit
             go_wp2
             go_quiet (first
              | (go_at_call 29; exact Calls.quiet_of_same (CI.out _)))
             go_wp2_with fail
             go_meet
             exact ⟨HF.out,by (repeat first | exact Ex0 | assumption | refine Ex1 ?_ | refine Ex2 ?_ | refine Ex3 ?_ | refine Ex4 ?_ | refine Ex5 ?_)⟩
            | true=>cases xa with
             | true =>
              clear f1 f2
              have HF:=Lib.hid hfit
              clear hfit
              go_wp2
              go_quiet (first
               | (go_at_call 29; exact Calls.quiet_of_same (CI.out _)))
              go_wp2_with fail
              go_meet
              exact ⟨HF.out,by (repeat first | exact Ex0 | assumption | refine Ex1 ?_ | refine Ex2 ?_ | refine Ex3 ?_ | refine Ex4 ?_ | refine Ex5 ?_)⟩
             | false =>
              have HQ:=Lib.hid (HGON.out (hBad.out hfit))
              clear f1 f2 hfit
              go_wp2
              go_quiet (first
               | (go_at_call 29; exact Calls.quiet_of_same (CI.out _)))
              go_wp2
              simp only [bodyPost]
              exact ⟨trivial,HQ.out _ (by (repeat first | exact Ex0 | assumption | refine Ex1 ?_ | refine Ex2 ?_ | refine Ex3 ?_ | refine Ex4 ?_ | refine Ex5 ?_))⟩
           ·have hf:fitD x ⟨w0 :: rest,0,bl,l⟩ (b,came)=false:=by
             unfold fitD
             have:(blockD x == bl)=false:=beq_eq_false_iff_ne.2 (by rw [← HXB.out]; exact f3)
             dsimp only
             rw [this]; simp
            have HQ:=Lib.hid (HGON.out (hBad.out hf))
            have hbl:bl=!xb:=by cases xb <;> cases bl <;> simp at f3 ⊢
            have HBL:=Lib.hid hbl
            clear f1 f2 f3 hf hin hbl
            cases xb
            ·obtain rfl:bl=true:=HBL.out
             go_wp2
             go_quiet (first
              | (go_at_call 29; exact Calls.quiet_of_same (CI.out _)))
             go_wp2
             simp only [bodyPost]
             exact ⟨trivial,HQ.out _ (by (repeat first | exact Ex0 | assumption | refine Ex1 ?_ | refine Ex2 ?_ | refine Ex3 ?_ | refine Ex4 ?_ | refine Ex5 ?_))⟩
            ·obtain rfl:bl=false:=HBL.out
             go_wp2
             go_quiet (first
              | (go_at_call 29; exact Calls.quiet_of_same (CI.out _)))
             go_wp2
             simp only [bodyPost]
             exact ⟨trivial,HQ.out _ (by (repeat first | exact Ex0 | assumption | refine Ex1 ?_ | refine Ex2 ?_ | refine Ex3 ?_ | refine Ex4 ?_ | refine Ex5 ?_))⟩
          ·have hin:inB (rest.length:Int) xl xm=false:=by
            rw [HXL.out,HXM.out]; unfold inB
            by_cases h:leastD x ≤ rest.length
            ·rw [decide_eq_false (p:=(rest.length:Int) ≤ (mostD x:Int)) (by omega)]; simp
            ·rw [decide_eq_false (p:=(leastD x:Int) ≤ (rest.length:Int)) (by omega)]; simp
           rw [hin] at CI
           have hf:fitD x ⟨w0 :: rest,0,bl,l⟩ (b,came)=false:=by
            unfold fitD
            dsimp only
            rw [List.length_cons,Nat.add_sub_cancel]
            by_cases h:leastD x ≤ rest.length
            ·rw [decide_eq_false (p:=rest.length ≤ mostD x) (by omega)]; simp
            ·rw [decide_eq_false (p:=leastD x ≤ rest.length) (by omega)]; simp
           have HQ:=Lib.hid (HGON.out (hBad.out hf))
           clear f1 f2 hf hin
           go_wp2
           go_quiet (first
            | (go_at_call 29; exact Calls.quiet_of_same (CI.out _)))
           go_wp2
           simp only [bodyPost]
           exact ⟨trivial,HQ.out _ (by (repeat first | exact Ex0 | assumption | refine Ex1 ?_ | refine Ex2 ?_ | refine Ex3 ?_ | refine Ex4 ?_ | refine Ex5 ?_))⟩
         ·have g1:¬ si.toList=sb.toList:=by
           rw [HSI.out,HSB.out,str_tl,str_tl]
           intro e
           refine f1 ?_
           cases h1:inD x with
           | none=>rw [h1] at e; cases b with
            | none=>rfl
            | some y=>exact absurd e (by cases y <;> decide)
           | some z=>rw [h1] at e; cases b with
            | none=>exact absurd e (by cases z <;> decide)
            | some y=>rw [nameD_inj z y e]
          have g2:(si.toList == sb.toList)=false:=beq_eq_false_iff_ne.2 g1
          have hf:fitD x ⟨w0 :: rest,0,bl,l⟩ (b,came)=false:=by unfold fitD; rw [decide_eq_false f1]; simp
          have HQ:=Lib.hid (HGON.out (hBad.out hf))
          clear f1 hf
          go_wp2
          go_quiet (fail)
          go_wp2
          simp only [bodyPost]
          exact ⟨trivial,HQ.out _ (by (repeat first | exact Ex0 | assumption | refine Ex1 ?_ | refine Ex2 ?_ | refine Ex3 ?_ | refine Ex4 ?_ | refine Ex5 ?_))⟩
        case rest =>
         obtain ⟨hfit,hx8⟩:=hcut
         obtain ⟨W8,rfl⟩:∃ W8,W8=wc:=⟨_,rfl⟩
         have x18:=hx7.tr hx8
         have hmap8:=World.isM.same HMW.out (x18.block w.heap.size HMW.out.lt)
         have hbx8:=(hx8.block gx (row_lt hbx)).trans hbx
         have hfl:leastD x ≤ rest.length∧rest.length ≤ mostD x:=by
          unfold fitD at hfit
          simp only [Bool.and_eq_true,decide_eq_true_eq,List.length_cons,Nat.add_sub_cancel] at hfit
          exact ⟨hfit.1.1.1.2,hfit.1.1.2⟩
         have hfb:inD x=b:=by
          unfold fitD at hfit
          simp only [Bool.and_eq_true,decide_eq_true_eq] at hfit
          exact hfit.1.1.1.1
         have HFIT:=Lib.hid hfit
         have hml:Mt.length < maxLen:=by have:=HA.out.ml; simp only [maxLen]; omega
         clear hfit
         go_upto_region 13 with (first
          | (at_mapUpdate; refine wpL_mput rfl _ _ _ 112 rfl 4 keyedC mapB Tryz.underlying9 rfl hmap8 hml (nameD (kindD x)) hkl (by rw [HKS.out]; rfl) (.bool true) rfl ?_; intro W9 hi9 ht9; have S9:=Lib.hid ((HS1.out.tr (Stp.ext x18)).turn ht9 HA.out.mn); have C9:CfAt W9 o' p c' l:=(HC1.out.ext x18).stp (Stp.turn0 ht9 HA.out.mo) (fun i hi h=>hi h); have G9:=hG.stp S9.out (by unfold KB; omega); have R9:RdZ W9 o' A' (strC rest):=⟨Rd.turned ht9 ((show Rd w1 A' (strC rest) by have:=hrd w1 hAr.1; simpa [strC] using this).ext x18),.inr (fun a' ha=>by obtain ⟨a0,ha0,hab⟩:=hblk a' ha; rw [hab]; rcases hAr.2 with h0 | h0; cases h0; exact h0 a0 ha0)⟩; have F9:=HFN.out.1.keep (w':=W9) (fun a u hc=>cell_turned ht9 ((x18.cell (lt_of_cell hc)).trans hc)); have x5:=cell_turned ht9 (row_facts hbx8 5 _ rfl).1; obtain ⟨f',cap',hfv,hent,hcall⟩:=do_any W9 o' p l c' C9 G9.er (HA.out.cb.mono (by have:=HA.out.mm; omega)) x (by rw [hfb]; exact HA.out.ok) rest hfl.1 hfl.2 (fun s hs=>HA.out.fb.2.1 s (by simp [hs])) A' (ac - 1) R9 _ F9; injection hfv with hfv1 _ hfv2; injection hfv1 with hfv1; subst hfv1; subst hfv2; have HI9:=Lib.hid hi9; have HT9:=Lib.hid ht9; clear hi9 ht9 C9 G9 R9 F9))
         have HCALL:=Lib.hid hcall
         have HENT:=Lib.hid (fun (args:Array Value) (w:World)=>hent args w)
         have HHB:=Lib.hid hblk
         clear hcall hent hblk hrd hsl hAr hbx hbx8 hx7 hx8 hwx
         go_step
         iterate 4 (go_step; go_step; go_step)
         refine wpL_callf rfl (.tmp 99) (.tmp 100) (.tmp 101) rfl rfl rfl rfl (HENT.out _ _) HCALL.out ?_
         rintro e w10 ⟨o10,s10,hq⟩
         have HQQ:=Lib.hid hq
         clear hq
         cases hdo:doD x rest c' with
         | none =>
          have hq:=HQQ.out
          rw [hdo] at hq
          obtain rfl:e=GoneC l:=hq
          have hBad:buildF b came c' (.node (w0 :: rest) l bl k n)=.error l:=by
           rw [buildF]
           simp only [List.headD_cons,HX.out,HFIT.out,if_true,List.drop_one,List.tail_cons,hdo]
          have HQ:Hid (BuQ w o p (buildF b [] c f) (GoneC l) w10):=Lib.hid (by rw [HA.out.eq,hBad]; exact ⟨o10,S9.out.tr s10,rfl⟩)
          refine .inr ⟨_,rfl,?_⟩
          clear hdo hBad
          go_wp2
          simp only [bodyPost]
          exact ⟨trivial,HQ.out⟩
         | some c1 =>
          have hq:=HQQ.out
          rw [hdo] at hq
          obtain ⟨rfl,hcf⟩:=hq
          refine .inl ⟨_,rfl,?_⟩
          have hA:=HA.out
          have st10:=S9.out.tr s10
          obtain ⟨q',ps2,A2,ac2,pk2,B2,d2,e0,h1,hz,h2,h3,h4,h5,h6⟩:=FoZ.stp st10 (by unfold KB; omega) hA.at_
          obtain ⟨rfl,rfl⟩:q'=q∧ps2=ps':=by have:=HE0.out.symm.trans e0; injection this with a b; exact ⟨a.symm,b.symm⟩
          have hok:=doD_ok hdo (by rw [hfb]; exact hA.ok)
          have hblx:bl=blockD x:=fit_block HFIT.out
          have hokx:OkB (some x) c1:=by
           by_cases hb:blockD x=true
           ·exact hok.2 hb
           ·cases x <;> first | exact trivial | exact absurd rfl hb
          have hcb:=doD_b hdo hA.cb
          have hmm1:=hA.mm
          simp only [Fo.words,List.length_cons] at hmm1
          have hsz1:=hA.sz
          simp only [Fo.size] at hsz1
          have hK:=ih k (by omega) w10 o10 p db (some x) c1 l (M' + (rest.length + 1)) pk2 B2 d2 hcf (hG.stp st10 (by unfold KB; omega)) (hD.stp st10 (by unfold KB; omega)) h4 h3 hA.wf.2.2.1 hA.fb.2.2.1 hcb (by omega) hokx
          rw [show str (inN (some x))=s0 from by rw [HS0.out,HW0.out]; rfl] at hK
          have hs1:=build_step (bl:=bl) (l:=l) (k:=k) (n:=n) (ws:=w0 :: rest) HX.out HFIT.out hdo
          have z3:=(row_facts h1 3 _ rfl).1
          have hmlt:=HI9.out.lt
          have HPS:=Lib.hid (And.intro h5 (And.intro hokx (And.intro hok.1 (And.intro hblx hcb))))
          have ST10:=Lib.hid st10
          have S10:=Lib.hid s10
          clear h1 h2 h3 h4 h5 h6 hz e0 hok hblx hokx hcb hmm1 hsz1 st10 s10 hcf hdo
          cases hb:buildF (some x) [] c1 k with
          | error l2 =>
           rw [hb] at hK hs1
           have HK:=Lib.hid hK
           have HS1X:=Lib.hid hs1
           clear hK hs1 hb hA
           go_wp2_with (go_at_call 21; refine HK.out.mono ?_; rintro e w11 ⟨o11,s11,hq⟩; obtain rfl:e=.panicked [{ v:=.iface 48 (.int .i64 (l2:Int)),recovered:=false }]:=hq; have HQ:Hid (BuQ w o p (buildF b [] c f) (GoneC l2) w11):=Lib.hid (by rw [HA.out.eq,HS1X.out]; exact ⟨o11,ST10.out.tr s11,rfl⟩); clear s11)
           simp only [bodyPost]
           exact ⟨trivial,HQ.out⟩
          | ok r =>
           rw [hb] at hK hs1
           have HK:=Lib.hid hK
           have HS1X:=Lib.hid hs1
           have HB2:=Lib.hid hb
           have hkk:IntKind.i64.wrap ((i:Int) + 1)=((i + 1:Nat):Int):=by rw [IntKind.wrap_i64]; omega
           clear hK hs1 hb hA
           go_wp2_with (go_at_call 21; refine HK.out.mono ?_; rintro e w11 ⟨o11,s11,hq⟩; obtain ⟨rfl,line2,hcf2⟩:=hq; have S11:=Lib.hid s11; have CF2:=Lib.hid hcf2; clear s11 hcf2)
           have hsb:=HSB.out
           subst hsb
           refine ⟨?_,by simp [intOf]; omega⟩
           (repeat apply Exists.intro)
           refine ⟨?rel,rfl⟩
           case rel =>
            refine ⟨i + 1,n,kindD x :: came,r.2,line2,M' + (rest.length + 1) + k.words,o11,putM Mt (nameD (kindD x)) (.bool true),rfl,?_⟩
            have hA:=HA.out
            obtain ⟨h5,hokx,hok,hblx,hcb⟩:=HPS.out
            have hs:=S10.out.tr S11.out
            have hk0:¬ KB (o' w.heap.size):=by rw [hA.mo]; unfold KB; omega
            have hps:pk.drop (i + 1)=ps2:=by
             have:=congrArg List.tail HE0.out
             rwa [List.tail_drop] at this
            have hput:=put_len Mt (nameD (kindD x)) (.bool true)
            have hml2:=hA.ml
            have hmm2:=hA.mm
            have hsz2:=hA.sz
            simp only [Fo.words,List.length_cons] at hmm2
            simp only [Fo.size] at hsz2
            obtain ⟨_,_,_,_,_,_,_,e0,_,_,_,_,_,h5w,_⟩:=hA.at_
            refine ⟨hA.eq.trans HS1X.out,?_,by omega,ST10.out.tr S11.out,CF2.out,HI9.out.same (hs.keep _ hmlt hk0),(hs.own _ hmlt).trans hA.mo,hA.mn,hA.met.put (kindD x),?_,hA.wf.2.2.2,hA.fb.2.2.2,build_b _ _ _ _ _ _ hA.wf.2.2.1 HB2.out hcb,by omega,?_,by omega⟩
            ·rw [hps]
             have:=HE0.out.symm.trans e0
             injection this with _ e1
             rw [e1]; exact h5w
            ·rw [hput]; split <;> omega
            ·have:=build_ok HB2.out (fun hb=>hA.wf.2.1 (by rw [hblx,hb])) hok
             rw [hfb] at this; exact this
end Go.Proofs.YtmnohicojefhfaaGreatDoor
end
