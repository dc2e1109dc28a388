/-
A connection's read.
-/
import Derived.Test.YthbofilcnpdghaaGreatDoorZbo
import Derived.RegionDies
import Derived.LaidEqlPtr
set_option maxRecDepth 100000
set_option maxHeartbeats 8000000
set_option linter.unusedVariables false
set_option linter.unusedSimpArgs false
namespace Go.Proofs.YthbofilcnpdghaaGreatDoor
open Go.RowKit Go.Extern.Stop Go.Stop Go.Extern
def EndsR (k:Nat) (w:World) (o:Ow) (c:Nat) (q:Cst × List UInt8) (e:Ending) (w':World):Prop:=∃ o' B d,e=.returned (.slice B q.2.length d)∧q.2.length≤d∧Ro w' o' B (bc q.2)∧CnAt w' o' k c q.1∧Sto (KC k) w o w' o'
def StepY (K:Nat→Prop) (k:Nat) (w:World) (o:Ow) (c:Nat) (s:Cst) (b:List UInt8) (Q:Option Addr→Prop) (e:Ending) (w':World):Prop:=∃ o' R B d,e=.returned (.slice B b.length d)∧b.length≤d∧Ro w' o' B (bc b)∧CnAtR w' o' k c s R∧Sto K w o w' o'∧Q R
def StepN (K:Nat→Prop) (k:Nat) (w:World) (o:Ow) (c:Nat) (s:Cst) (st:Int) (e:Ending) (w':World):Prop:=∃ o',e=.panicked [{ v:=.iface 85 (.int .i64 st),recovered:=false }]∧CnAt w' o' k c s∧Sto K w o w' o'
theorem EndsS.y {K:Nat→Prop} {k:Nat} {w:World} {o:Ow} {c:Nat} {Q:Option Addr→Prop} {q:Sp24} {e:Ending} {w':World} (h:EndsS K k w o c Q q e w') (hq:q.2.1=none):StepY K k w o c q.1 q.2.2 Q e w':=by
 obtain ⟨o',R,h1,h2,h3,h4⟩:=h
 unfold RestV at h3
 rw [hq] at h3
 obtain ⟨B,d,he,hd,hr⟩:=h3
 exact ⟨o',R,B,d,he,hd,hr,h1,h2,h4 hq⟩
theorem EndsS.n {K:Nat→Prop} {k:Nat} {w:World} {o:Ow} {c:Nat} {Q:Option Addr→Prop} {q:Sp24} {st:Int} {e:Ending} {w':World} (h:EndsS K k w o c Q q e w') (hq:q.2.1=some st):StepN K k w o c q.1 st e w':=by
 obtain ⟨o',R,h1,h2,h3,h4⟩:=h
 unfold RestV at h3
 rw [hq] at h3
 exact ⟨o',h3,h1.at_,h2⟩
theorem bodies_row (s:Cst) (b:List UInt8):(bodiesC s b).1.row.length≤s.row.length+1:=by
 unfold bodiesC
 split
 ·exact Nat.le_succ _
 ·dsimp only
  split
  ·exact Nat.le_succ _
  ·split
   ·exact Nat.le_succ _
   ·split
    ·unfold requestC
     simp
    ·exact Nat.le_succ _
theorem reader_info:∃ j,Tryz.prog.info? 96=some j∧j.size≠0:=by
 have h:(Tryz.prog.info? 96).map (fun j=>j.size)=some 13:=by kernel_rfl
 cases hj:Tryz.prog.info? 96 with
 | none=>rw [hj] at h;cases h
 | some j =>
  rw [hj] at h
  have h2:j.size=13:=Option.some.inj h
  exact ⟨j,rfl,by rw [h2];decide⟩
theorem neq_same (w:World) (a:Addr):(binOp .neq 56 (.pointer (some a)) (.pointer (some a))).run Tryz.prog w=.ok (.bool false) w:=by
 obtain ⟨j,hj,_⟩:=reader_info
 have h:∀ d:Nat,(Op.equalIn (d+1) 56 (.pointer (some a)) (.pointer (some a))).run Tryz.prog w=.ok true w:=fun d=>by
  simp [Op.equalIn,run_underlying Tryz.underlying56,sizeOf,typeInfo,hj,run_sameAddr_same]
 simp only [binOp]
 simp [Op.equal,Op.maxDepth,h 9999]
theorem neq_other (w:World) {a b:Addr} {ca cb:Array Value} {ta tb:TypeId} (hne:a≠b) (ha:w.heap[a.block]?=some (.cells ca ta (0,0))) (hb:w.heap[b.block]?=some (.cells cb tb (0,0))):(binOp .neq 56 (.pointer (some a)) (.pointer (some b))).run Tryz.prog w=.ok (.bool true) w:=by
 obtain ⟨j,hj,hs⟩:=reader_info
 have h:∀ d:Nat,(Op.equalIn (d+1) 56 (.pointer (some a)) (.pointer (some b))).run Tryz.prog w=.ok false w:=fun d=>by
  simp [Op.equalIn,run_underlying Tryz.underlying56,sizeOf,typeInfo,hj,hs,run_sameAddr_other w hne ha hb]
 simp only [binOp]
 simp [Op.equal,Op.maxDepth,h 9999]
theorem neq_none (w:World) (a:Addr):(binOp .neq 56 (.pointer (some a)) (.pointer none)).run Tryz.prog w=.ok (.bool true) w:=by
 have h:∀ d:Nat,(Op.equalIn (d+1) 56 (.pointer (some a)) (.pointer none)).run Tryz.prog w=.ok false w:=fun d=>by
  simp [Op.equalIn,run_underlying Tryz.underlying56]
 simp only [binOp]
 simp [Op.equal,Op.maxDepth,h 9999]
theorem neq_nils (w:World):(binOp .neq 56 (.pointer none) (.pointer none)).run Tryz.prog w=.ok (.bool false) w:=by
 have h:∀ d:Nat,(Op.equalIn (d+1) 56 (.pointer none) (.pointer none)).run Tryz.prog w=.ok true w:=fun d=>by
  simp [Op.equalIn,run_underlying Tryz.underlying56]
 simp only [binOp]
 simp [Op.equal,Op.maxDepth,h 9999]
theorem leaves_tmps {P:Program} {fn:Func} {tmps tmps':Array Value} {R:Ending→World→Prop} (h:∀ w,(results fn tmps').run P w=(results fn tmps).run P w):∀ (ds:List Deferred) (u:FrameMode) (w:World),Leaves P fn tmps' R ds u w→Leaves P fn tmps R ds u w
 | [],u,w,hl=>by
  cases u with
  | run=>exact hl.elim
  | returning =>
   obtain ⟨v,hr,hR⟩:=hl
   exact ⟨v,(h w).symm.trans hr,hR⟩
  | panicking chain=>exact hl
 | d::ds,u,w,hl=>by
  obtain ⟨hu,fv,cap,f,args,htar,hi,hC⟩:=hl
  refine ⟨hu,fv,cap,f,args,htar,hi,hC.mono ?_⟩
  intro e u' w' hx
  cases e with
  | returned v=>exact leaves_tmps h ds _ _ hx
  | panicked ch=>exact leaves_tmps h ds _ _ hx
  | outgrown=>exact hx
theorem postD_put {R:Ending→World→Prop} {c:List PanicEntry} {a:Act} {i:Nat} {v:Value} {w:World} (hi:i≠4) (h:bodyPostD Tryz.prog Tryz.f26 R (.panic c) (a.put (some i) v) w):bodyPostD Tryz.prog Tryz.f26 R (.panic c) a w:=by
 refine leaves_tmps (fun w=>?_) a.defers (.panicking c) w h
 have e:(a.tmps.setIfInBounds i v)[4]?.getD undef=a.tmps[4]?.getD undef:=by
  simp [Array.getElem?_setIfInBounds,hi]
 simp only [results,Tryz.results26,Act.put]
 simp [e,go_sem]
theorem Sto.setNew {K:Nat→Prop} {w w':World} {o o':Ow} (h:Sto K w o w' o') (b off:Nat) (u:Value) (hb:w.heap.size≤b):Sto K w o (w'.setCell ⟨b,off,none⟩ u) o' :=
 ⟨h.os,h.tape,h.output,by have:=h.size;simpa using this,h.own,fun i hi hk=>(Below.heap_setCell w' ⟨b,off,none⟩ u i (by show i≠b;omega)).trans (h.keep i hi hk)⟩
theorem Sto.setOff {K:Nat→Prop} {w w':World} {o o':Ow} (h:Sto (fun i=>K i∨i=100) w o w' o') (ho:∀ b,b<w.heap.size→o b≠100):Sto K w o w' o' :=
 ⟨h.os,h.tape,h.output,h.size,fun b hb hk=>h.own b hb (fun x=>x.elim hk (ho b hb)),fun b hb hk=>h.keep b hb (fun x=>x.elim hk (ho b hb))⟩
theorem box_sto {w:World} {o:Ow} {v:Nat} (u:Value) (h:o v=100):Sto (fun i=>i=100) w o (w.setCell ⟨v,0,none⟩ u) o:=Sto.set v 0 u (fun _=>h)
theorem CnAt.box {w:World} {o:Ow} {k c v:Nat} {s:Cst} (hk:0<k) (hk8:k<80) (h:CnAt w o k c s) (u:Value) (hv:o v=100):CnAt (w.setCell ⟨v,0,none⟩ u) o k c s :=
 h.sto (box_sto u hv) (by omega) (fun i _=>by omega) (fun a _=>by unfold KA;omega)
theorem CnAtR.box {w:World} {o:Ow} {k c v:Nat} {s:Cst} {R:Option Addr} (hk:0<k) (hk8:k<80) (h:CnAtR w o k c s R) (u:Value) (hv:o v=100):CnAtR (w.setCell ⟨v,0,none⟩ u) o k c s R:=by
 obtain ⟨a,hx,hn⟩:=h
 exact ⟨a,hx.sto (box_sto u hv) (by omega) (fun i _=>by omega) (fun a _=>by unfold KA;omega),hn⟩
theorem CnAtR.exto {w w':World} {o:Ow} {k c:Nat} {s:Cst} {R:Option Addr} (h:CnAtR w o k c s R) (e:Ext w w'):CnAtR w' o k c s R:=by
 obtain ⟨a,hx,hn⟩:=h
 exact ⟨a,hx.ext e,hn⟩
theorem nRead_b (w0:World) (hL:Lb w0) (k c:Nat) (hk:0<k) (hk8:k<80) (s:Cst) (hi:s.inBody=true) (hg:Cgo s) (hgot:GotOk s) (he:s.evs.length≤90) (hrow:s.row.length≤90) (hnum:s.number≤100000) (b:List UInt8) (B:Option Addr) (n d:Nat) (hn:n=b.length) (hd:n≤d) (hnb:n≤4611686018427387904) (w:World) (o:Ow) (hO:Old w0 w o) (hol:∀ b,b<w.heap.size→o b≠100) (h:CnAt w o k c s) (hB:Ro w o B (bc b)) :
  Calls Tryz.prog 26 #[.pointer (some ⟨c,0,none⟩),.slice B n d] w (EndsR k w o c (readC s b)):=by
 have e2:Ext w ((w.alloc (.cells #[.pointer (some ⟨c,0,none⟩)] 24)).alloc (.cells #[.slice none 0 0] 22)):=((Ext.rfl' w).al _).al _
 obtain ⟨a,hx,hnx⟩:=h
 have HRD:=Hy hx.p.rd
 have hmf:∀ (fn:Fn) (first cap:Array Value) (w:World),(Instr.makeFunc fn first cap).run Tryz.prog w=.ok (.func fn first cap) w:=fun _ _ _ _=>rfl
 have HX:=Hy hx
 have HNX:=Hy hnx
 have HO:=Hy hO
 have HB:=Hy hB
 have HN:=Hy hn
 clear hx hnx hO hB hn
 go_enter_defers Tryz.func26,Tryz.ntmps26
 go_upto_region 2 with (fail)
 clear hmf
 obtain ⟨V,hV⟩:∃ V,V=w.heap.size:=⟨_,rfl⟩
 obtain ⟨W1,hW1⟩:∃ W,W=(w.alloc (.cells #[.pointer (some ⟨c,0,none⟩)] 24)).alloc (.cells #[.slice none 0 0] 22):=⟨_,rfl⟩
 rw [← hW1] at e2
 rw [← hW1,← hV]
 obtain ⟨o1,ho1⟩:∃ o1:Ow,o1=fun x=>if x<w.heap.size then o x else 100:=⟨_,rfl⟩
 have old1:∀ b,b<w.heap.size→o1 b=o b:=fun b hb=>by rw [ho1];exact if_pos hb
 have t1:Sto (fun _=>False) w o W1 o1:=Sto.ext2 e2 (fun b hb _=>old1 b hb)
 have oV:o1 V=100:=by rw [ho1,hV];exact if_neg (by omega)
 have oV1:o1 (V+1)=100:=by rw [ho1,hV];exact if_neg (by omega)
 have hz:(w.alloc (.cells #[.pointer (some ⟨c,0,none⟩)] 24)).heap.size=w.heap.size+1:=by simp
 have rV:W1.heap[V]?=some (.cells #[.pointer (some ⟨c,0,none⟩)] 24 (0,0)):=by
  rw [hW1,hV]
  exact (((Ext.rfl' (w.alloc _)).al _).block w.heap.size (by simp)).trans (heap_alloc_new w _)
 have rV1:W1.heap[V+1]?=some (.cells #[.slice none 0 0] 22 (0,0)):=by
  have h0:=heap_alloc_new (w.alloc (.cells #[.pointer (some ⟨c,0,none⟩)] 24)) (.cells #[.slice none 0 0] 22)
  rw [hz] at h0
  rw [hW1,hV]
  exact h0
 have hx1:=HX.out.sto t1 (fun x=>x) (fun _ _ x=>x) (fun _ _ x=>x)
 have HX1:=Hy hx1
 have HA1:=Hy (show CnAtR W1 o1 k c s a.R from ⟨a,hx1,by rw [HNX.out]⟩)
 have HO1:=Hy (HO.out.sto t1 (fun x=>x))
 have HB1:=Hy (HB.out.sto t1 (fun x=>x))
 have T1:=Hy t1
 have ROWS:=Hy (And.intro rV rV1)
 have OV:=Hy (And.intro oV oV1)
 have OLD:=Hy hol
 have HV:=Hy hV
 have cV:¬ V=c:=fun e=>by have h1:=hx1.own;rw [← e,oV] at h1;omega
 have cV':¬ c=V:=fun e=>cV e.symm
 have cV1:¬ V+1=c:=fun e=>by have h1:=hx1.own;rw [← e,oV1] at h1;omega
 have cV1':¬ c=V+1:=fun e=>cV1 e.symm
 have k0:W1.cell? ⟨V,0,none⟩=some (.pointer (some ⟨c,0,none⟩)):=(row_facts rV 0 _ rfl).1
 have k1:W1.cell? ⟨V+1,0,none⟩=some (.slice none 0 0):=(row_facts rV1 0 _ rfl).1
 have f1:=(row_facts rV1 0 _ rfl).2
 have c8:W1.cell? ⟨c,8,none⟩=some (.pointer a.R):=hx1.row.c8
 have HBX:=Hy (fun (w3:World) (o3:Ow) (st:Sto (KC k) W1 o1 w3 o3)=>(show (w3.heap[V]?=some (.cells #[.pointer (some ⟨c,0,none⟩)] 24 (0,0))∧w3.heap[V+1]?=some (.cells #[.slice none 0 0] 22 (0,0)))∧o3 V=100∧o3 (V+1)=100 from by
  have h1:¬ KC k (o1 V):=by rw [oV];unfold KC;omega
  have h2:¬ KC k (o1 (V+1)):=by rw [oV1];unfold KC;omega
  exact ⟨⟨(st.keep V (row_lt rV) h1).trans rV,(st.keep (V+1) (row_lt rV1) h2).trans rV1⟩,(st.own V (row_lt rV) h1).trans oV,(st.own (V+1) (row_lt rV1) h2).trans oV1⟩))
 clear hx1 t1 oV oV1 rV rV1 hz hW1 hV ho1 old1 e2
 have CB:=Hy (nBodies_c w0 hL k c hk hk8 s hi hgot (hg.fl hi) (by omega) (by omega) (by omega) b B n d HN.out hd hnb W1 o1 HO1.out a.R HA1.out HB1.out)
 have HQ:=Hy (show readC s b=endC (bodiesC s b) from read_b b hi)
 have HSM:=Hy (show (bodiesC s b).1.row.length≤1000 from by have:=bodies_row s b;omega)
 obtain ⟨⟨s2,st,rest⟩,hq⟩:∃ q,q=bodiesC s b:=⟨_,rfl⟩
 rw [← hq] at CB HQ HSM
 have c6:W1.cell? ⟨c,6,none⟩=some (.func (.func 64) #[.pointer (some ⟨c,0,none⟩)] #[]):=by have h:=HX1.out.row.c6;rw [HNX.out,hi] at h;exact h
 clear hq
 cases st with
 | some st =>
  have HQ2:=Hy (show readC s b=({ s2 with row:=s2.row++[.ref st],reads:=false },[]) from by rw [HQ.out];rfl)
  have CB2:=Hy (CB.out.mono (R':=StepN (KC k) k W1 o1 c s2 st) (fun e w' h=>h.n rfl))
  clear CB HQ
  go_wp2_with (go_at_call 64;refine (CB2.out).mono ?_;rintro e w3 ⟨o3,rfl,hA3,st3⟩)
  have HRW:=Hy (show s2.row.length≤1000 from HSM.out)
  refine leaves_cons (f:=42) (args:=#[.pointer (some ⟨V,0,none⟩),.pointer (some ⟨V+1,0,none⟩)]) (by simp) (by simp [go_sem]) ?_
  refine (nReadD_caught k c V (V+1) hk hk8 st s2 (HRW.out) w3 o3 hA3 (.slice none 0 0) (HBX.out _ _ st3).1.1 (HBX.out _ _ st3).1.2 (HBX.out _ _ st3).2.1 (HBX.out _ _ st3).2.2).mono ?_
  rintro e u' w'' ⟨rfl,rfl,o9,hC9,st9,hbr⟩
  refine ⟨.slice none 0 0,by simp [results,Tryz.results26,go_sem,hbr],?_⟩
  rw [HQ2.out]
  exact ⟨o9,none,0,rfl,Nat.le_refl _,.inl rfl,hC9,((T1.out.mono fun _ h=>h.elim).tr ((st3.mono fun _ h=>.inl h).tr st9)).setOff OLD.out⟩
 | none =>
  have HQ2:=Hy (show readC s b=(s2,rest) from by rw [HQ.out];rfl)
  have CB2:=Hy (CB.out.mono (R':=StepY (KC k) k W1 o1 c s2 rest (fun R'=>R'=a.R)) (fun e w' h=>h.y rfl))
  obtain ⟨R,hR,HNE⟩:∃ R,a.R=some ⟨R,0,none⟩∧True:=by
   obtain ⟨r,hr,_⟩:=hgot hi
   have h:=HRD.out
   rw [hr] at h
   obtain ⟨p,hp,_⟩:=h
   exact ⟨p,hp,trivial⟩
  have HRR:=Hy hR
  rw [hR] at c8
  have hnq:=neq_same
  clear CB HQ hR HNE
  go_wp2_with (go_at_call 64;refine (CB2.out).mono ?_;rintro e w3 ⟨o3,R3,B3,d3,rfl,hd3,hB3,⟨a3,hx3,hn3⟩,st3,hR3⟩;obtain ⟨⟨v3,v31⟩,q3,q31⟩:=HBX.out w3 o3 st3;have g0:=(row_facts v3 0 _ rfl).1;have g1:=(row_facts v31 0 _ rfl).1;have f1:=(row_facts v31 0 _ rfl).2;have d8:=hx3.row.c8;have d4:=hx3.row.c4;have hR3:=Hy ((congrArg Prod.snd hn3).trans (hR3.trans HRR.out));rw [show a3.R=some ⟨R,0,none⟩ from hR3.out] at d8;have HX3:=Hy (And.intro hx3 hn3);have ST3:=Hy st3;have HB3:=Hy hB3;have Q31:=Hy q31;have VV3:=Hy (And.intro v3 v31);clear hx3 hn3 st3 hB3 q3 q31 v3 v31 k0 k1 c8 c6)
  refine leaves_cons (f:=42) (args:=#[.pointer (some ⟨V,0,none⟩),.pointer (some ⟨V+1,0,none⟩)]) (by simp) (by simp [go_sem]) ?_
  refine (nReadD_idle _ _ _).mono ?_
  rintro e u' w'' ⟨rfl,rfl,rfl⟩
  have y9:=(row_facts (row_set (row_set VV3.out.2 0 (.slice B3 rest.length d3)) 0 (.slice B3 rest.length d3)) 0 _ rfl).1
  refine ⟨.slice B3 rest.length d3,by simp [results,Tryz.results26,go_sem,y9],?_⟩
  have hv:=HV.out
  rw [HQ2.out]
  exact ⟨o3,B3,d3,rfl,hd3,(HB3.out.sto (box_sto _ Q31.out) (by omega)).sto (box_sto _ Q31.out) (by omega),CnAt.box hk hk8 (CnAt.box hk hk8 ⟨a3,HX3.out.1,congrArg Prod.fst HX3.out.2⟩ _ Q31.out) _ Q31.out,(((T1.out.mono fun _ h=>h.elim).tr ST3.out).setNew (V+1) 0 _ (by omega)).setNew (V+1) 0 _ (by omega)⟩
theorem nRead_h (w0:World) (hL:Lb w0) (k c:Nat) (hk:0<k) (hk8:k<80) (s:Cst) (hi:s.inBody=false) (hrs:s.reads=true) (hg:Cgo s) (hout:s.out.length≤100000) (he:s.evs.length≤90) (hrow:s.row.length≤90) (hnum:s.number≤100000) (b:List UInt8) (B:Option Addr) (n d:Nat) (hn:n=b.length) (hd:n≤d) (hnb:n≤4611686018427387904) (w:World) (o:Ow) (hO:Old w0 w o) (hol:∀ b,b<w.heap.size→o b≠100) (h:CnAt w o k c s) (hB:Ro w o B (bc b)) :
  Calls Tryz.prog 26 #[.pointer (some ⟨c,0,none⟩),.slice B n d] w (EndsR k w o c (readC s b)):=by
 have e2:Ext w ((w.alloc (.cells #[.pointer (some ⟨c,0,none⟩)] 24)).alloc (.cells #[.slice none 0 0] 22)):=((Ext.rfl' w).al _).al _
 obtain ⟨a,hx,hnx⟩:=h
 have HRD:=Hy hx.p.rd
 have hmf:∀ (fn:Fn) (first cap:Array Value) (w:World),(Instr.makeFunc fn first cap).run Tryz.prog w=.ok (.func fn first cap) w:=fun _ _ _ _=>rfl
 have HX:=Hy hx
 have HNX:=Hy hnx
 have HO:=Hy hO
 have HB:=Hy hB
 have HN:=Hy hn
 clear hx hnx hO hB hn
 go_enter_defers Tryz.func26,Tryz.ntmps26
 go_upto_region 2 with (fail)
 clear hmf
 obtain ⟨V,hV⟩:∃ V,V=w.heap.size:=⟨_,rfl⟩
 obtain ⟨W1,hW1⟩:∃ W,W=(w.alloc (.cells #[.pointer (some ⟨c,0,none⟩)] 24)).alloc (.cells #[.slice none 0 0] 22):=⟨_,rfl⟩
 rw [← hW1] at e2
 rw [← hW1,← hV]
 obtain ⟨o1,ho1⟩:∃ o1:Ow,o1=fun x=>if x<w.heap.size then o x else 100:=⟨_,rfl⟩
 have old1:∀ b,b<w.heap.size→o1 b=o b:=fun b hb=>by rw [ho1];exact if_pos hb
 have t1:Sto (fun _=>False) w o W1 o1:=Sto.ext2 e2 (fun b hb _=>old1 b hb)
 have oV:o1 V=100:=by rw [ho1,hV];exact if_neg (by omega)
 have oV1:o1 (V+1)=100:=by rw [ho1,hV];exact if_neg (by omega)
 have hz:(w.alloc (.cells #[.pointer (some ⟨c,0,none⟩)] 24)).heap.size=w.heap.size+1:=by simp
 have rV:W1.heap[V]?=some (.cells #[.pointer (some ⟨c,0,none⟩)] 24 (0,0)):=by
  rw [hW1,hV]
  exact (((Ext.rfl' (w.alloc _)).al _).block w.heap.size (by simp)).trans (heap_alloc_new w _)
 have rV1:W1.heap[V+1]?=some (.cells #[.slice none 0 0] 22 (0,0)):=by
  have h0:=heap_alloc_new (w.alloc (.cells #[.pointer (some ⟨c,0,none⟩)] 24)) (.cells #[.slice none 0 0] 22)
  rw [hz] at h0
  rw [hW1,hV]
  exact h0
 have hx1:=HX.out.sto t1 (fun x=>x) (fun _ _ x=>x) (fun _ _ x=>x)
 have HX1:=Hy hx1
 have HA1:=Hy (show CnAtR W1 o1 k c s a.R from ⟨a,hx1,by rw [HNX.out]⟩)
 have HO1:=Hy (HO.out.sto t1 (fun x=>x))
 have HB1:=Hy (HB.out.sto t1 (fun x=>x))
 have T1:=Hy t1
 have ROWS:=Hy (And.intro rV rV1)
 have OV:=Hy (And.intro oV oV1)
 have OLD:=Hy hol
 have HV:=Hy hV
 have cV:¬ V=c:=fun e=>by have h1:=hx1.own;rw [← e,oV] at h1;omega
 have cV':¬ c=V:=fun e=>cV e.symm
 have cV1:¬ V+1=c:=fun e=>by have h1:=hx1.own;rw [← e,oV1] at h1;omega
 have cV1':¬ c=V+1:=fun e=>cV1 e.symm
 have k0:W1.cell? ⟨V,0,none⟩=some (.pointer (some ⟨c,0,none⟩)):=(row_facts rV 0 _ rfl).1
 have k1:W1.cell? ⟨V+1,0,none⟩=some (.slice none 0 0):=(row_facts rV1 0 _ rfl).1
 have f1:=(row_facts rV1 0 _ rfl).2
 have c8:W1.cell? ⟨c,8,none⟩=some (.pointer a.R):=hx1.row.c8
 have HBX:=Hy (fun (w3:World) (o3:Ow) (st:Sto (KC k) W1 o1 w3 o3)=>(show (w3.heap[V]?=some (.cells #[.pointer (some ⟨c,0,none⟩)] 24 (0,0))∧w3.heap[V+1]?=some (.cells #[.slice none 0 0] 22 (0,0)))∧o3 V=100∧o3 (V+1)=100 from by
  have h1:¬ KC k (o1 V):=by rw [oV];unfold KC;omega
  have h2:¬ KC k (o1 (V+1)):=by rw [oV1];unfold KC;omega
  exact ⟨⟨(st.keep V (row_lt rV) h1).trans rV,(st.keep (V+1) (row_lt rV1) h2).trans rV1⟩,(st.own V (row_lt rV) h1).trans oV,(st.own (V+1) (row_lt rV1) h2).trans oV1⟩))
 clear hx1 t1 oV oV1 rV rV1 hz hW1 hV ho1 old1 e2
 have CB:=Hy (nHeads_c w0 hL k c hk hk8 s hi hg hout b B n d HN.out hd hnb W1 o1 HO1.out a.R HA1.out HB1.out)
 have HQ:=Hy (read_h b hi)
 obtain ⟨m1,m2,m3,m4⟩:=heads_same s b
 have HSM:=Hy (show (headsC s b).1.row.length≤1000 from by rw [m2];omega)
 have HSV:=Hy (show (headsC s b).1.evs.length≤90∧(headsC s b).1.row.length≤90∧(headsC s b).1.number≤100000∧(headsC s b).1.reads=true from by rw [m1,m2,m3,m4];exact ⟨he,hrow,hnum,hrs⟩)
 have HGO:=Hy (fun hn=>heads_go hg hi b hn)
 have HGT:=Hy (fun hn=>heads_got hg.ok.mo hi b hn)
 have HLS:=Hy (show (headsC s b).2.2.length≤b.length from by
  by_cases hb:b=[]
  ·have:(headsC s b).2.2=b.drop (feedP s.hp b).2.1:=by
    unfold headsC
    dsimp only
    split
    ·rfl
    ·split
     ·rfl
     ·split <;> rfl
   rw [this,List.length_drop];omega
  ·exact Nat.le_of_lt (heads_less hg.ok.hp hb))
 obtain ⟨⟨s2,st,rest⟩,hq⟩:∃ q,q=headsC s b:=⟨_,rfl⟩
 rw [← hq] at CB HQ HSM HSV HGO HGT HLS
 dsimp only at HSV
 have c6:W1.cell? ⟨c,6,none⟩=some (.func (.func 23) #[.pointer (some ⟨c,0,none⟩)] #[]):=by have h:=HX1.out.row.c6;rw [HNX.out,hi] at h;exact h
 clear hq m1 m2 m3 m4 hrs
 cases st with
 | some st =>
  have HQ2:=Hy (show readC s b=({ s2 with row:=s2.row++[.ref st],reads:=false },[]) from by rw [HQ.out,if_neg (fun h=>by cases h.1)];rfl)
  have CB2:=Hy (CB.out.mono (R':=StepN (KH k) k W1 o1 c s2 st) (fun e w' h=>h.n rfl))
  clear CB HQ
  go_wp2_with (go_at_call 23;refine (CB2.out).mono ?_;rintro e w3 ⟨o3,rfl,hA3,st3⟩)
  have HRW:=Hy (show s2.row.length≤1000 from HSM.out)
  have st3:=st3.kc
  refine leaves_cons (f:=42) (args:=#[.pointer (some ⟨V,0,none⟩),.pointer (some ⟨V+1,0,none⟩)]) (by simp) (by simp [go_sem]) ?_
  refine (nReadD_caught k c V (V+1) hk hk8 st s2 (HRW.out) w3 o3 hA3 (.slice none 0 0) (HBX.out _ _ st3).1.1 (HBX.out _ _ st3).1.2 (HBX.out _ _ st3).2.1 (HBX.out _ _ st3).2.2).mono ?_
  rintro e u' w'' ⟨rfl,rfl,o9,hC9,st9,hbr⟩
  refine ⟨.slice none 0 0,by simp [results,Tryz.results26,go_sem,hbr],?_⟩
  rw [HQ2.out]
  exact ⟨o9,none,0,rfl,Nat.le_refl _,.inl rfl,hC9,((T1.out.mono fun _ h=>h.elim).tr ((st3.mono fun _ h=>.inl h).tr st9)).setOff OLD.out⟩
 | none =>
  obtain ⟨ib,hib⟩:∃ x,x=s2.inBody:=⟨_,rfl⟩
  cases ib with
  | false =>
   have HQ2:=Hy (show readC s b=(s2,rest) from by rw [HQ.out,if_neg (fun h=>by have:=h.2;rw [← hib] at this;cases this)];rfl)
   have CB2:=Hy (CB.out.mono (R':=StepY (KH k) k W1 o1 c s2 rest (fun R'=>R'=a.R)) (fun e w' h=>by
    obtain ⟨o',R,B',d',h1,h2,h3,h4,h5,h6⟩:=h.y rfl
    refine ⟨o',R,B',d',h1,h2,h3,h4,h5,?_⟩
    unfold HeadR at h6
    rw [if_neg (by rw [← hib];decide)] at h6
    exact h6))
   have hnq:=neq_same
   have hnn:=neq_nils
   have hRR:a.R=none∨∃ R,a.R=some ⟨R,0,none⟩:=by
    have h:=HRD.out
    cases hs:s.rd with
    | none=>rw [hs] at h;exact .inl h
    | some r=>rw [hs] at h;obtain ⟨p,hp,_⟩:=h;exact .inr ⟨p,hp⟩
   clear CB HQ hib
   obtain ⟨RR,hRE⟩:∃ RR,RR=a.R:=⟨_,rfl⟩
   rw [← hRE] at c8 hRR
   have HRR:=Hy hRE
   clear hRE
   rcases hRR with rfl | ⟨R,rfl⟩
   all_goals (
    go_wp2_with (go_at_call 23;refine (CB2.out).mono ?_;rintro e w3 ⟨o3,R3,B3,d3,rfl,hd3,hB3,⟨a3,hx3,hn3⟩,st3,hR3⟩;have st3:=st3.kc;obtain ⟨⟨v3,v31⟩,q3,q31⟩:=HBX.out w3 o3 st3;have g0:=(row_facts v3 0 _ rfl).1;have g1:=(row_facts v31 0 _ rfl).1;have f1:=(row_facts v31 0 _ rfl).2;have d8:=hx3.row.c8;have d4:=hx3.row.c4;have hR3:=Hy ((congrArg Prod.snd hn3).trans (hR3.trans HRR.out.symm));rw [show a3.R=_ from hR3.out] at d8;have HX3:=Hy (And.intro hx3 hn3);have ST3:=Hy st3;have HB3:=Hy hB3;have Q31:=Hy q31;have VV3:=Hy (And.intro v3 v31);clear hx3 hn3 st3 hB3 q3 q31 v3 v31 k0 k1 c8 c6)
    refine leaves_cons (f:=42) (args:=#[.pointer (some ⟨V,0,none⟩),.pointer (some ⟨V+1,0,none⟩)]) (by simp) (by simp [go_sem]) ?_
    refine (nReadD_idle _ _ _).mono ?_
    rintro e u' w'' ⟨rfl,rfl,rfl⟩
    have y9:=(row_facts (row_set (row_set VV3.out.2 0 (.slice B3 rest.length d3)) 0 (.slice B3 rest.length d3)) 0 _ rfl).1
    refine ⟨.slice B3 rest.length d3,by simp [results,Tryz.results26,go_sem,y9],?_⟩
    have hv:=HV.out
    rw [HQ2.out]
    exact ⟨o3,B3,d3,rfl,hd3,(HB3.out.sto (box_sto _ Q31.out) (by omega)).sto (box_sto _ Q31.out) (by omega),CnAt.box hk hk8 (CnAt.box hk hk8 ⟨a3,HX3.out.1,congrArg Prod.fst HX3.out.2⟩ _ Q31.out) _ Q31.out,(((T1.out.mono fun _ h=>h.elim).tr ST3.out).setNew (V+1) 0 _ (by omega)).setNew (V+1) 0 _ (by omega)⟩)
  | true =>
   have CB2:=Hy (CB.out.mono (R':=StepY (KH k) k W1 o1 c s2 rest (fun R'=>∃ P,R'=some ⟨P,0,none⟩∧W1.heap.size≤P)) (fun e w' h=>by
    obtain ⟨o',R,B',d',h1,h2,h3,h4,h5,h6⟩:=h.y rfl
    refine ⟨o',R,B',d',h1,h2,h3,h4,h5,?_⟩
    unfold HeadR at h6
    rw [if_pos hib.symm] at h6
    exact h6))
   have CBB:=Hy (fun (w':World) (o':Ow) (hO':Old w0 w' o') (R:Option Addr) (hA:CnAtR w' o' k c s2 R) (B':Option Addr) (d':Nat) (hd':rest.length≤d') (hB':Ro w' o' B' (bc rest))=>nBodies_c w0 hL k c hk hk8 s2 hib.symm (HGT.out rfl) ((HGO.out rfl).1 hib.symm).2 (by have:=HSV.out;omega) (by have:=HSV.out;omega) (by have:=HSV.out;omega) rest B' rest.length d' rfl hd' (by have:=HLS.out;have:=HN.out;dsimp only at *;omega) w' o' hO' R hA hB')
   have HQ3:=Hy (show readC s b=endC (bodiesC s2 rest) from by rw [HQ.out,if_pos ⟨rfl,hib.symm⟩])
   have HSM3:=Hy (show (bodiesC s2 rest).1.row.length≤1000 from by have:=bodies_row s2 rest;have:=HSV.out;omega)
   have HNQ:=Hy (fun (w3:World) (o3:Ow) (a3:Cad) (P:Nat) (hx3:CnX w3 o3 k c s2 a3) (hR3:a3.R=some ⟨P,0,none⟩) (hP:W1.heap.size≤P) (st3:Sto (KH k) W1 o1 w3 o3) (u:Value)=>(show (binOp .neq 56 (.pointer (some ⟨P,0,none⟩)) (.pointer a.R)).run Tryz.prog (w3.setCell ⟨V+1,0,none⟩ u)=.ok (.bool true) (w3.setCell ⟨V+1,0,none⟩ u) from by
    have hrd:=HX1.out.p.rd
    cases hs:s.rd with
    | none =>
     rw [hs] at hrd
     rw [show a.R=none from hrd]
     exact neq_none _ _
    | some r0 =>
     rw [hs] at hrd
     obtain ⟨R0,hR0,hf0⟩:=hrd
     obtain ⟨x1,x2,x3,x4,x5,x6,hrow0,_⟩:=hf0.row
     obtain ⟨r,hr,_⟩:=HGT.out rfl hib.symm
     have hrd3:=hx3.p.rd
     rw [show s2.rd=some r from hr,hR3] at hrd3
     obtain ⟨P',hP',hf3⟩:=hrd3
     cases hP'
     obtain ⟨y1,y2,y3,y4,y5,y6,hrow3,_⟩:=hf3.row
     have h0:=(st3.keep R0 (row_lt hrow0) (by rw [hf0.own];unfold KH;omega)).trans hrow0
     have hlt:=row_lt hrow0
     have hV1:=OV.out.2
     have hn1:R0≠V+1:=fun e=>by have:=hf0.own;rw [e,hV1] at this;omega
     have hn2:P≠V+1:=fun e=>by have:=row_lt ROWS.out.2;omega
     rw [hR0]
     exact neq_other _ (by intro e;cases e;omega) ((Below.heap_setCell w3 ⟨V+1,0,none⟩ u P hn2).trans hrow3) ((Below.heap_setCell w3 ⟨V+1,0,none⟩ u R0 hn1).trans h0)))
   have hrd4:s2.reads=true:=HSV.out.2.2.2
   have HRD4:=Hy hrd4
   have HIB:=Hy hib
   obtain ⟨⟨s5,st5,rest5⟩,hq5⟩:∃ q,q=bodiesC s2 rest:=⟨_,rfl⟩
   rw [← hq5] at CBB HQ3 HSM3
   clear CB HQ hib hq5 hrd4
   have c8':=c8
   clear c8
   obtain ⟨RR,hRE⟩:∃ RR,RR=a.R:=⟨_,rfl⟩
   rw [← hRE] at c8' HNQ
   clear hRE
   cases st5 with
   | none =>
    have HQ4:=Hy (show readC s b=(s5,rest5) from by rw [HQ3.out];rfl)
    go_upto_region 5 with (go_at_call 23;refine (CB2.out).mono ?_;rintro e w3 ⟨o3,R3,B3,d3,rfl,hd3,hB3,⟨a3,hx3,hn3⟩,st3,P,hR3,hPl⟩;have hr3:=(congrArg Prod.snd hn3).trans hR3;have hnq:=HNQ.out w3 o3 a3 P hx3 hr3 hPl st3;have st3:=st3.kc;obtain ⟨⟨v3,v31⟩,q3,q31⟩:=HBX.out w3 o3 st3;have g0:=(row_facts v3 0 _ rfl).1;have g1:=(row_facts v31 0 _ rfl).1;have f1:=(row_facts v31 0 _ rfl).2;have d8:=hx3.row.c8;have d4:=hx3.row.c4;have d6:=hx3.row.c6;rw [show a3.R=_ from hr3] at d8;rw [HRD4.out] at d4;have hn6:a3.nx=64:=(congrArg Prod.fst hn3).trans (by rw [← HIB.out];rfl);rw [hn6] at d6;have HX3:=Hy (show CnAtR w3 o3 k c s2 R3 from ⟨a3,hx3,hn3⟩);have ST3:=Hy st3;have HB3:=Hy hB3;have Q31:=Hy q31;have Q3:=Hy q3;have VV3:=Hy (And.intro v3 v31);clear hx3 hn3 st3 hB3 q3 q31 v3 v31 k0 k1 c8' c6 hR3 hr3 hn6)
    obtain ⟨W5,hW5⟩:∃ W,W=w3.setCell ⟨V+1,0,none⟩ (.slice B3 rest.length d3):=⟨_,rfl⟩
    rw [← hW5]
    have r0:W5.heap[V]?=some (.cells #[.pointer (some ⟨c,0,none⟩)] 24 (0,0)):=by rw [hW5];exact (Below.heap_setCell w3 ⟨V+1,0,none⟩ _ V (by show V≠V+1;omega)).trans VV3.out.1
    have r1:W5.heap[V+1]?=some (.cells #[.slice B3 rest.length d3] 22 (0,0)):=by rw [hW5];exact row_set VV3.out.2 0 _
    have hA5:CnAtR W5 o3 k c s2 R3:=by rw [hW5];exact HX3.out.box hk hk8 _ Q31.out
    have hB5:Ro W5 o3 B3 (bc rest):=by rw [hW5];exact HB3.out.sto (box_sto _ Q31.out) (by omega)
    have hO5:Old w0 W5 o3:=by rw [hW5];exact (HO1.out.sto ST3.out (kc0 hk)).sto (box_sto _ Q31.out) (by omega)
    have hS5:Sto (KC k) w o W5 o3:=by
     rw [hW5]
     exact ((T1.out.mono fun _ h=>h.elim).tr ST3.out).setNew (V+1) 0 _ (by have:=HV.out;omega)
    have k0':W5.cell? ⟨V,0,none⟩=some (.pointer (some ⟨c,0,none⟩)):=(row_facts r0 0 _ rfl).1
    have k1':W5.cell? ⟨V+1,0,none⟩=some (.slice B3 rest.length d3):=(row_facts r1 0 _ rfl).1
    have k6':W5.cell? ⟨c,6,none⟩=some (.func (.func 64) #[.pointer (some ⟨c,0,none⟩)] #[]):=by
     rw [hW5,World.cell?_of_block (a:=⟨c,6,none⟩) (Below.heap_setCell w3 ⟨V+1,0,none⟩ _ c cV1')];exact d6
    have HBX5:=Hy (fun (w':World) (e:Ext W5 w') (w7:World) (o7:Ow) (st:Sto (KC k) w' o3 w7 o7)=>(show (w7.heap[V]?=some (.cells #[.pointer (some ⟨c,0,none⟩)] 24 (0,0))∧w7.heap[V+1]?=some (.cells #[.slice B3 rest.length d3] 22 (0,0)))∧o7 V=100∧o7 (V+1)=100 from by
     have z0:=(e.block V (row_lt r0)).trans r0
     have z1:=(e.block (V+1) (row_lt r1)).trans r1
     have h1:¬ KC k (o3 V):=by rw [Q3.out];unfold KC;omega
     have h2:¬ KC k (o3 (V+1)):=by rw [Q31.out];unfold KC;omega
     exact ⟨⟨(st.keep V (row_lt z0) h1).trans z0,(st.keep (V+1) (row_lt z1) h2).trans z1⟩,(st.own V (row_lt z0) h1).trans Q3.out,(st.own (V+1) (row_lt z1) h2).trans Q31.out⟩))
    have C5:=Hy (fun (w':World) (e:Ext W5 w')=>(CBB.out w' o3 (hO5.exto e) R3 (hA5.exto e) B3 d3 hd3 (hB5.ext e)).mono (R':=StepY (KC k) k w' o3 c s5 rest5 (fun _=>True)) (fun e w' h=>(by obtain ⟨o',R,B',d',h1,h2,h3,h4,h5,h6⟩:=h.y rfl;exact ⟨o',R,B',d',h1,h2,h3,h4,h5,trivial⟩)))
    have HS5:=Hy hS5
    clear r0 r1 hA5 hB5 hO5 hS5 hW5 d8 d4 d6 g0 g1 f1 hnq HNQ CBB CB2 HQ3
    refine wp_region_noPanic ?_
    go_region_with (go_at_call 64;refine (C5.out _ Xq).mono ?_;rintro e w7 ⟨o7,R7,B7,d7,rfl,hd7,hB7,hA7,st7,_⟩;have HS7:=Hy ((HS5.out.tr (Sto.ext Xq)).tr st7);obtain ⟨⟨v7,v71⟩,q7,q71⟩:=HBX5.out _ Xq w7 o7 st7;have g0:=(row_facts v7 0 _ rfl).1;have g1:=(row_facts v71 0 _ rfl).1;have f1:=(row_facts v71 0 _ rfl).2;have HA7:=Hy hA7;have HB7:=Hy hB7;have Q71:=Hy q71;have V71:=Hy v71;clear hA7 st7 hB7 q7 q71 v7 v71 k0' k1' k6')
    all_goals refine NoPanic.normal ?_
    all_goals go_wp2
    all_goals (
     refine leaves_cons (f:=42) (args:=#[.pointer (some ⟨V,0,none⟩),.pointer (some ⟨V+1,0,none⟩)]) (by simp) (by simp [go_sem]) ?_
     refine (nReadD_idle _ _ _).mono ?_
     rintro e u' w'' ⟨rfl,rfl,rfl⟩
     have y9:=(row_facts (row_set (row_set V71.out 0 (.slice B7 rest5.length d7)) 0 (.slice B7 rest5.length d7)) 0 _ rfl).1
     refine ⟨.slice B7 rest5.length d7,by simp [results,Tryz.results26,go_sem,y9],?_⟩
     have hv:=HV.out
     rw [HQ4.out]
     exact ⟨o7,B7,d7,rfl,hd7,(HB7.out.sto (box_sto _ Q71.out) (by omega)).sto (box_sto _ Q71.out) (by omega),CnAt.box hk hk8 (CnAt.box hk hk8 HA7.out.at_ _ Q71.out) _ Q71.out,(HS7.out.setNew (V+1) 0 _ (by omega)).setNew (V+1) 0 _ (by omega)⟩)
   | some st5 =>
    have HQ4:=Hy (show readC s b=({ s5 with row:=s5.row++[.ref st5],reads:=false },[]) from by rw [HQ3.out];rfl)
    go_upto_region 5 with (go_at_call 23;refine (CB2.out).mono ?_;rintro e w3 ⟨o3,R3,B3,d3,rfl,hd3,hB3,⟨a3,hx3,hn3⟩,st3,P,hR3,hPl⟩;have hr3:=(congrArg Prod.snd hn3).trans hR3;have hnq:=HNQ.out w3 o3 a3 P hx3 hr3 hPl st3;have st3:=st3.kc;obtain ⟨⟨v3,v31⟩,q3,q31⟩:=HBX.out w3 o3 st3;have g0:=(row_facts v3 0 _ rfl).1;have g1:=(row_facts v31 0 _ rfl).1;have f1:=(row_facts v31 0 _ rfl).2;have d8:=hx3.row.c8;have d4:=hx3.row.c4;have d6:=hx3.row.c6;rw [show a3.R=_ from hr3] at d8;rw [HRD4.out] at d4;have hn6:a3.nx=64:=(congrArg Prod.fst hn3).trans (by rw [← HIB.out];rfl);rw [hn6] at d6;have HX3:=Hy (show CnAtR w3 o3 k c s2 R3 from ⟨a3,hx3,hn3⟩);have ST3:=Hy st3;have HB3:=Hy hB3;have Q31:=Hy q31;have Q3:=Hy q3;have VV3:=Hy (And.intro v3 v31);clear hx3 hn3 st3 hB3 q3 q31 v3 v31 k0 k1 c8' c6 hR3 hr3 hn6)
    obtain ⟨W5,hW5⟩:∃ W,W=w3.setCell ⟨V+1,0,none⟩ (.slice B3 rest.length d3):=⟨_,rfl⟩
    rw [← hW5]
    have r0:W5.heap[V]?=some (.cells #[.pointer (some ⟨c,0,none⟩)] 24 (0,0)):=by rw [hW5];exact (Below.heap_setCell w3 ⟨V+1,0,none⟩ _ V (by show V≠V+1;omega)).trans VV3.out.1
    have r1:W5.heap[V+1]?=some (.cells #[.slice B3 rest.length d3] 22 (0,0)):=by rw [hW5];exact row_set VV3.out.2 0 _
    have hA5:CnAtR W5 o3 k c s2 R3:=by rw [hW5];exact HX3.out.box hk hk8 _ Q31.out
    have hB5:Ro W5 o3 B3 (bc rest):=by rw [hW5];exact HB3.out.sto (box_sto _ Q31.out) (by omega)
    have hO5:Old w0 W5 o3:=by rw [hW5];exact (HO1.out.sto ST3.out (kc0 hk)).sto (box_sto _ Q31.out) (by omega)
    have hS5:Sto (KC k) w o W5 o3:=by
     rw [hW5]
     exact ((T1.out.mono fun _ h=>h.elim).tr ST3.out).setNew (V+1) 0 _ (by have:=HV.out;omega)
    have k0':W5.cell? ⟨V,0,none⟩=some (.pointer (some ⟨c,0,none⟩)):=(row_facts r0 0 _ rfl).1
    have k1':W5.cell? ⟨V+1,0,none⟩=some (.slice B3 rest.length d3):=(row_facts r1 0 _ rfl).1
    have k6':W5.cell? ⟨c,6,none⟩=some (.func (.func 64) #[.pointer (some ⟨c,0,none⟩)] #[]):=by
     rw [hW5,World.cell?_of_block (a:=⟨c,6,none⟩) (Below.heap_setCell w3 ⟨V+1,0,none⟩ _ c cV1')];exact d6
    have HBX5:=Hy (fun (w':World) (e:Ext W5 w') (w7:World) (o7:Ow) (st:Sto (KC k) w' o3 w7 o7)=>(show (w7.heap[V]?=some (.cells #[.pointer (some ⟨c,0,none⟩)] 24 (0,0))∧w7.heap[V+1]?=some (.cells #[.slice B3 rest.length d3] 22 (0,0)))∧o7 V=100∧o7 (V+1)=100 from by
     have z0:=(e.block V (row_lt r0)).trans r0
     have z1:=(e.block (V+1) (row_lt r1)).trans r1
     have h1:¬ KC k (o3 V):=by rw [Q3.out];unfold KC;omega
     have h2:¬ KC k (o3 (V+1)):=by rw [Q31.out];unfold KC;omega
     exact ⟨⟨(st.keep V (row_lt z0) h1).trans z0,(st.keep (V+1) (row_lt z1) h2).trans z1⟩,(st.own V (row_lt z0) h1).trans Q3.out,(st.own (V+1) (row_lt z1) h2).trans Q31.out⟩))
    have C5:=Hy (fun (w':World) (e:Ext W5 w')=>(CBB.out w' o3 (hO5.exto e) R3 (hA5.exto e) B3 d3 hd3 (hB5.ext e)).mono (R':=StepN (KC k) k w' o3 c s5 st5) (fun e w' h=>h.n rfl))
    have HS5:=Hy hS5
    clear r0 r1 hA5 hB5 hO5 hS5 hW5 d8 d4 d6 g0 g1 f1 hnq HNQ CBB CB2 HQ3
    refine wp_region_held_drew (S:=fun w'=>w'.cell? ⟨V,0,none⟩=some (.pointer (some ⟨c,0,none⟩))∧w'.cell? ⟨V+1,0,none⟩=some (.slice B3 rest.length d3)∧w'.cell? ⟨c,6,none⟩=some (.func (.func 64) #[.pointer (some ⟨c,0,none⟩)] #[])) (by kernel_rfl) ⟨k0',k1',k6'⟩ (fun hHeld=>?_)
    refine wpAnyH_take (i:=0) (oi:=?oiT0) (v:=?vT0) ?eqT0 (by kernel_rfl) (by kernel_rfl) (by kernel_rfl) ?hpT0 (Or.inl ⟨?waT0,?goT0⟩) (by assumption) ?restT0
    case eqT0=>(simp only [List.getElem?_toArray,List.getElem?_cons_succ,List.getElem?_cons_zero];first | done | rfl)
    case waT0=>rfl
    case goT0 =>
     intro w hSw
     try dsimp only at hSw
     go_simp <;> with_reducible rfl
    case hpT0=>exact fun _ _ _ h=>postD_put (by decide) h
    try simp only [Act.put,List.setIfInBounds_toArray,List.set_cons_zero,List.set_cons_succ]
    refine wpAnyH_take (i:=1) (oi:=?oiT1) (v:=?vT1) ?eqT1 (by kernel_rfl) (by kernel_rfl) (by kernel_rfl) ?hpT1 (Or.inl ⟨?waT1,?goT1⟩) (by assumption) ?restT1
    case eqT1=>(simp only [List.getElem?_toArray,List.getElem?_cons_succ,List.getElem?_cons_zero];first | done | rfl)
    case waT1=>rfl
    case goT1 =>
     intro w hSw
     try dsimp only at hSw
     go_simp <;> with_reducible rfl
    case hpT1=>exact fun _ _ _ h=>postD_put (by decide) h
    try simp only [Act.put,List.setIfInBounds_toArray,List.set_cons_zero,List.set_cons_succ]
    refine wpAnyH_take (i:=2) (oi:=?oiT2) (v:=?vT2) ?eqT2 (by kernel_rfl) (by kernel_rfl) (by kernel_rfl) ?hpT2 (Or.inl ⟨?waT2,?goT2⟩) (by assumption) ?restT2
    case eqT2=>(simp only [List.getElem?_toArray,List.getElem?_cons_succ,List.getElem?_cons_zero];first | done | rfl)
    case waT2=>rfl
    case goT2 =>
     intro w hSw
     try dsimp only at hSw
     go_simp <;> with_reducible rfl
    case hpT2=>exact fun _ _ _ h=>postD_put (by decide) h
    try simp only [Act.put,List.setIfInBounds_toArray,List.set_cons_zero,List.set_cons_succ]
    refine wpAnyH_take (i:=3) (oi:=?oiT3) (v:=?vT3) ?eqT3 (by kernel_rfl) (by kernel_rfl) (by kernel_rfl) ?hpT3 (Or.inl ⟨?waT3,?goT3⟩) (by assumption) ?restT3
    case eqT3=>(simp only [List.getElem?_toArray,List.getElem?_cons_succ,List.getElem?_cons_zero];first | done | rfl)
    case waT3=>rfl
    case goT3 =>
     intro w hSw
     try dsimp only at hSw
     go_simp <;> with_reducible rfl
    case hpT3=>exact fun _ _ _ h=>postD_put (by decide) h
    try simp only [Act.put,List.setIfInBounds_toArray,List.set_cons_zero,List.set_cons_succ]
    refine wpAnyH_take (i:=4) (oi:=?oiT4) (v:=?vT4) ?eqT4 (by kernel_rfl) (by kernel_rfl) (by kernel_rfl) ?hpT4 (Or.inl ⟨?waT4,?goT4⟩) (by assumption) ?restT4
    case eqT4=>(simp only [List.getElem?_toArray,List.getElem?_cons_succ,List.getElem?_cons_zero];first | done | rfl)
    case waT4=>rfl
    case goT4 =>
     intro w hSw
     try dsimp only at hSw
     go_simp <;> with_reducible rfl
    case hpT4=>exact fun _ _ _ h=>postD_put (by decide) h
    try simp only [Act.put,List.setIfInBounds_toArray,List.set_cons_zero,List.set_cons_succ]
    refine wpAnyH_ready (rs:=[5]) (by kernel_rfl) (by simp) ?_
    refine AllReadyH.cons rfl (fun K hK=>?_) AllReadyH.nil
    go_simp
    go_at_call 64
    refine (C5.out _ Xq).mono ?_
    rintro e w7 ⟨o7,rfl,hA7,st7⟩
    have HS7:=Hy ((HS5.out.tr (Sto.ext Xq)).tr st7)
    have HV7:=Hy (HBX5.out _ Xq w7 o7 st7)
    have HRW:=Hy (show s5.row.length≤1000 from HSM3.out)
    dsimp only [Exit.then,bodyPostD]
    refine leaves_cons (f:=42) (args:=#[.pointer (some ⟨V,0,none⟩),.pointer (some ⟨V+1,0,none⟩)]) (by simp) (by simp [go_sem]) ?_
    refine (nReadD_caught k c V (V+1) hk hk8 st5 s5 (HRW.out) w7 o7 hA7 _ HV7.out.1.1 HV7.out.1.2 HV7.out.2.1 HV7.out.2.2).mono ?_
    rintro e u' w'' ⟨rfl,rfl,o9,hC9,st9,hbr⟩
    refine ⟨.slice none 0 0,by simp [results,Tryz.results26,go_sem,hbr],?_⟩
    rw [HQ4.out]
    have hs:=HS7.out
    have old7:∀ b,b<w.heap.size→o b≠100:=OLD.out
    exact ⟨o9,none,0,rfl,Nat.le_refl _,.inl rfl,hC9,((hs.mono fun _ h=>.inl h).tr st9).setOff old7⟩
def un100 (o:Ow):Ow:=fun b=>if o b=100 then 0 else o b
theorem un100_sto (w:World) (o:Ow):Sto (fun i=>i=100) w o w (un100 o):=Sto.give (fun b _ hb=>if_neg hb)
theorem un100_no (o:Ow) (b:Nat):un100 o b≠100:=by unfold un100;split <;> omega
theorem CnAt.un {w:World} {o:Ow} {k c:Nat} {s:Cst} (hk:0<k) (hk8:k<80) (h:CnAt w o k c s):CnAt w (un100 o) k c s :=
 h.sto (un100_sto w o) (by omega) (fun i _=>by omega) (fun a _=>by unfold KA;omega)
theorem Sto.un {K:Nat→Prop} {w w':World} {o o':Ow} (h:Sto K w o w' o') (hol:∀ b,b<w.heap.size→o b≠100):Sto K w o w' (un100 o') :=
 ⟨h.os,h.tape,h.output,h.size,fun b hb hk=>by
  have h1:=h.own b hb hk
  unfold un100
  rw [if_neg (by rw [h1];exact hol b hb)]
  exact h1,h.keep⟩
theorem nRead_c (w0:World) (hL:Lb w0) (k c:Nat) (hk:0<k) (hk8:k<80) (s:Cst) (hrs:s.reads=true) (hg:Cgo s) (hgot:GotOk s) (hout:s.out.length≤100000) (he:s.evs.length≤90) (hrow:s.row.length≤90) (hnum:s.number≤100000) (b:List UInt8) (B:Option Addr) (n d:Nat) (hn:n=b.length) (hd:n≤d) (hnb:n≤4611686018427387904) (w:World) (o:Ow) (hO:Old w0 w o) (hol:∀ b,b<w.heap.size→o b≠100) (h:CnAt w o k c s) (hB:Ro w o B (bc b)) :
  Calls Tryz.prog 26 #[.pointer (some ⟨c,0,none⟩),.slice B n d] w fun e w'=>∃ o' B' d',e=.returned (.slice B' (readC s b).2.length d')∧(readC s b).2.length≤d'∧Ro w' o' B' (bc (readC s b).2)∧CnAt w' o' k c (readC s b).1∧Sto (KC k) w o w' o'∧∀ b,o' b≠100:=by
 have hh:Calls Tryz.prog 26 #[.pointer (some ⟨c,0,none⟩),.slice B n d] w (EndsR k w o c (readC s b)):=by
  cases hi:s.inBody with
  | true=>exact nRead_b w0 hL k c hk hk8 s hi hg hgot he hrow hnum b B n d hn hd hnb w o hO hol h hB
  | false=>exact nRead_h w0 hL k c hk hk8 s hi hrs hg hout he hrow hnum b B n d hn hd hnb w o hO hol h hB
 refine hh.mono ?_
 rintro e w' ⟨o',B',d',rfl,h1,h2,h3,h4⟩
 exact ⟨un100 o',B',d',rfl,h1,h2.sto (un100_sto w' o') (by omega),h3.un hk hk8,h4.un hol,un100_no o'⟩
end Go.Proofs.YthbofilcnpdghaaGreatDoor
