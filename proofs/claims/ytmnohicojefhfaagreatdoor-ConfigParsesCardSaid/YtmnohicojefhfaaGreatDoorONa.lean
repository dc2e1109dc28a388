/-
A configuration copied: a location; what the copy's memory is.
-/
import Derived.Test.YtmnohicojefhfaaGreatDoorCIa
import Derived.Test.YtmnohicojefhfaaGreatDoorCFg
import Derived.Test.YtmnohicojefhfaaGreatDoorCHc
set_option maxRecDepth 100000
set_option maxHeartbeats 8000000
set_option linter.unusedVariables false
set_option linter.unusedSimpArgs false
section
namespace Go.Proofs.YtmnohicojefhfaaGreatDoor
open Go.RowKit
def loA (y:Lo14):Array Value:=#[.string (str y.pre),.int .i64 y.kind,.string (str y.root),.string (str y.index),.int .i64 y.gzip,.int .i64 y.expires,.string (str y.up),.bool y.cache,.int .i64 y.rate,.int .i64 y.burst,.int .i64 y.status,.string (str y.goal)]
theorem cOwnLoc_c (y:Lo14) (w:World):Calls Tryz.prog 28 #[.agg (loA y)] w (Gives (.agg (loA y)) w):=by
 unfold loA
 generalize str y.pre=s1
 generalize str y.root=s2
 generalize str y.index=s3
 generalize str y.up=s4
 generalize str y.goal=s5
 generalize y.kind=i1
 generalize y.gzip=i2
 generalize y.expires=i3
 generalize y.rate=i4
 generalize y.burst=i5
 generalize y.status=i6
 generalize y.cache=b1
 go_enter Tryz.func28,Tryz.ntmps28
 go_wp2
 refine bodyPost_ret (v:=.agg #[.string s1,.int .i64 i1,.string s2,.string s3,.int .i64 i2,.int .i64 i3,.string s4,.bool b1,.int .i64 i4,.int .i64 i5,.int .i64 i6,.string s5]) (by simp [results,Tryz.results28,go_sem]) rfl ⟨rfl,by (repeat first | exact Ex0 | assumption | refine Ex1 ?_ | refine Ex2 ?_ | refine Ex3 ?_ | refine Ex4 ?_ | refine Ex5 ?_)⟩
structure OwS (c:Cf14):Prop where
 ups:c.ups.length ≤ 1073741824
 srvs:c.srvs.length ≤ 1073741824
 peers:∀ u ∈ c.ups,u.peers.length ≤ 1073741824
 names:∀ s ∈ c.srvs,s.names.length ≤ 1073741824
 locs:∀ s ∈ c.srvs,s.locs.length ≤ 1073741824
theorem Sl.reown {w:World} {o o':Ow} {k size n c:Nat} {A:Option Addr} {xs:List Value} (h:Sl w o k size A n c xs) (ho:∀ b,o b=k → o' b=k):Sl w o' k size A n c xs :=
 ⟨h.len,h.le,h.max,h.at_.imp id (by rintro ⟨g,f,h1,h2,h3⟩; exact ⟨g,f,h1,ho g h2,h3⟩)⟩
end Go.Proofs.YtmnohicojefhfaaGreatDoor
end
section
namespace Go.Proofs.YtmnohicojefhfaaGreatDoor
open Go.RowKit
def KC:Nat → Prop:=fun i=>0 < i∧i < 7
structure Ow0 (w:World) (o:Ow) (p:Nat) (c:Cf14) (U:List (Up14 × Hd)) (UA:Option Addr) (uc:Nat) (S:List (Sr14 × Hd × Hd)) (SA:Option Addr) (sc:Nat):Prop where
 own:o p=1
 row:w.heap[p]?=some (.cells #[.int .i64 c.keep,.int .i64 c.body,.int .i64 c.store,.int .i64 c.conns,.slice UA U.length uc,.slice SA S.length sc] 25 (0,0))
 ups:Sl w o 2 4 UA U.length uc (U.flatMap upV)
 una:UA=none → uc=0
 srvs:Sl w o 3 3 SA S.length sc (S.flatMap srV)
 sna:SA=none → sc=0
 peers:∀ x ∈ U,RdZ w o x.2.1 (x.1.peers.flatMap peV)
 names:∀ x ∈ S,RdZ w o x.2.1.1 (strC x.1.names)
 locs:∀ x ∈ S,RdZ w o x.2.2.1 (x.1.locs.flatMap loV)
theorem Ow0.stp {K:Nat → Prop} {w w':World} {o o':Ow} {p:Nat} {c:Cf14} {U:List (Up14 × Hd)} {UA:Option Addr} {uc:Nat} {S:List (Sr14 × Hd × Hd)} {SA:Option Addr} {sc:Nat} (h:Ow0 w o p c U UA uc S SA sc) (s:Stp K w o w' o') (h0:¬ K 0) (h1:¬ K 1) (h2:¬ K 2) (h3:¬ K 3):Ow0 w' o' p c U UA uc S SA sc :=
 ⟨(s.own p (row_lt h.row)).trans h.own,(s.keep p (row_lt h.row) (by rw [h.own]; exact h1)).trans h.row,h.ups.stp s h2,h.una,h.srvs.stp s h3,h.sna,fun x hx=>(h.peers x hx).stp s h0,fun x hx=>(h.names x hx).stp s h0,fun x hx=>(h.locs x hx).stp s h0⟩
def NoR (o:Ow):Prop:=∀ b,o b ≤ 3 ∨ o b=7
def endO (o:Ow):Ow:=fun b=>if o b ≤ 3 ∨ o b=7 then o b else 0
theorem endO_no (o:Ow):NoR (endO o):=fun b=>by
 unfold endO
 split
 ·assumption
 ·exact .inl (Nat.zero_le _)
theorem endO_of {o:Ow} {b k:Nat} (h:o b=k) (hk:k ≤ 3 ∨ k=7):endO o b=k:=by
 unfold endO
 rw [h,if_pos hk]
theorem endO_r {o:Ow} {b k:Nat} (h:o b=k) (hk:¬ (k ≤ 3 ∨ k=7)):endO o b=0:=by
 unfold endO
 rw [h,if_neg hk]
theorem Stp.endO {w w':World} {o o':Ow} {K:Nat → Prop} (s:Stp K w o w' o') (hn:NoR o):Stp K w o w' (endO o') :=
 s.reown fun b hb=>by rw [endO_of (s.own b hb) (hn b)]
theorem RdZ.endO {w:World} {o:Ow} {A:Option Addr} {xs:List Value} (h:RdZ w o A xs):RdZ w (endO o) A xs :=
 ⟨h.1,h.2.imp id fun h2 a ha=>endO_of (h2 a ha) (.inl (Nat.zero_le _))⟩
theorem Sl.endR {w:World} {o:Ow} {k size n c:Nat} {A:Option Addr} {xs:List Value} (h:Sl w o k size A n c xs) (hk:¬ (k ≤ 3 ∨ k=7)):RdZ w (endO o) A xs:=by
 refine ⟨h.rd,?_⟩
 rcases h.at_ with h0 | ⟨g,f,hA,ho,_⟩
 ·have:=h.le
  have:=h.len
  subst h0
  left
  have:n=0:=by omega
  subst this
  exact List.length_eq_zero_iff.1 (by simpa using h.len)
 ·exact .inr fun a ha=>by rw [hA] at ha; cases ha; exact endO_r ho hk
theorem Ow0.addU {w w':World} {o o':Ow} {p:Nat} {c:Cf14} {U:List (Up14 × Hd)} {UA UA':Option Addr} {uc uc':Nat} {S:List (Sr14 × Hd × Hd)} {SA:Option Addr} {sc:Nat} (h:Ow0 w o p c U UA uc S SA sc) (hn:NoR o) (s:Stp KC w o w' o') (x:Up14 × Hd)
  (hpe:Sl w' o' 5 2 x.2.1 x.1.peers.length x.2.2 (x.1.peers.flatMap peV)) (hus:Sl w' o' 2 4 UA' (U.length + 1) uc' (U.flatMap upV ++ upV x)) (hna:UA'=none → uc'=0) (hss:Sl w' o' 3 3 SA S.length sc (S.flatMap srV))
  (hrow:w'.heap[p]?=some (.cells #[.int .i64 c.keep,.int .i64 c.body,.int .i64 c.store,.int .i64 c.conns,.slice UA' (U.length + 1) uc',.slice SA S.length sc] 25 (0,0))) :
  Ow0 w' (endO o') p c (U ++ [x]) UA' uc' S SA sc:=by
 have hz:¬ KC 0:=by unfold KC; omega
 refine ⟨endO_of ((s.own p (row_lt h.row)).trans h.own) (.inl (by omega)),by rw [List.length_append]; exact hrow,?_,hna,hss.reown fun b hb=>endO_of hb (.inl (by omega)),h.sna,fun y hy=>?_,fun y hy=>((h.names y hy).stp s hz).endO,fun y hy=>((h.locs y hy).stp s hz).endO⟩
 ·rw [List.length_append,List.flatMap_append]
  simpa using hus.reown fun b hb=>endO_of hb (.inl (by omega))
 ·rcases List.mem_append.1 hy with hy | hy
  ·exact ((h.peers y hy).stp s hz).endO
  ·rw [List.mem_singleton] at hy
   subst hy
   exact hpe.endR (by omega)
theorem Ow0.addS {w w':World} {o o':Ow} {p:Nat} {c:Cf14} {U:List (Up14 × Hd)} {UA SA':Option Addr} {uc sc':Nat} {S:List (Sr14 × Hd × Hd)} {SA:Option Addr} {sc:Nat} (h:Ow0 w o p c U UA uc S SA sc) (hn:NoR o) (s:Stp KC w o w' o') (x:Sr14 × Hd × Hd)
  (hnm:Sl w' o' 6 1 x.2.1.1 x.1.names.length x.2.1.2 (strC x.1.names)) (hlo:Sl w' o' 5 12 x.2.2.1 x.1.locs.length x.2.2.2 (x.1.locs.flatMap loV)) (hss:Sl w' o' 3 3 SA' (S.length + 1) sc' (S.flatMap srV ++ srV x)) (hna:SA'=none → sc'=0) (hus:Sl w' o' 2 4 UA U.length uc (U.flatMap upV))
  (hrow:w'.heap[p]?=some (.cells #[.int .i64 c.keep,.int .i64 c.body,.int .i64 c.store,.int .i64 c.conns,.slice UA U.length uc,.slice SA' (S.length + 1) sc'] 25 (0,0))) :
  Ow0 w' (endO o') p c U UA uc (S ++ [x]) SA' sc':=by
 have hz:¬ KC 0:=by unfold KC; omega
 refine ⟨endO_of ((s.own p (row_lt h.row)).trans h.own) (.inl (by omega)),by rw [List.length_append]; exact hrow,hus.reown fun b hb=>endO_of hb (.inl (by omega)),h.una,?_,hna,fun y hy=>((h.peers y hy).stp s hz).endO,fun y hy=>?_,fun y hy=>?_⟩
 ·rw [List.length_append,List.flatMap_append]
  simpa using hss.reown fun b hb=>endO_of hb (.inl (by omega))
 ·rcases List.mem_append.1 hy with hy | hy
  ·exact ((h.names y hy).stp s hz).endO
  ·rw [List.mem_singleton] at hy
   subst hy
   exact hnm.endR (by omega)
 ·rcases List.mem_append.1 hy with hy | hy
  ·exact ((h.locs y hy).stp s hz).endO
  ·rw [List.mem_singleton] at hy
   subst hy
   exact hlo.endR (by omega)
theorem wp_putO {P:Program} {t e:TypeId} {z:Value} {size bytes:Nat} (hT:SlT P t e z size bytes) {op:Oper} {a:Act} {K:Act → World → Prop} {Q:Exit → Act → World → Prop} (s x:Operand) {tx:TypeId}
  (ho:op.op=.call { callee:=.builtin .append,args:=#[s,x],argTypes:=#[t,tx] })
  {w:World} {o:Ow} {k n c m:Nat} {A:Option Addr} {xs news:List Value} {xv:Value} (hs:a.eval s=.slice A n c) (hx:a.eval x=xv)
  (hsl:Sl w o k size A n c xs) (hna:A=none → c=0) (src:Src P size tx xv m news w) (hbytes:(n + m) * bytes ≤ 140737488355328) (h63:n + m ≤ maxLen)
  (h:∀ A' c' w' o',Sl w' o' k size A' (n + m) c' (xs ++ news) → Stp (fun i=>i=k) w o w' o' → (A'=none → c'=0) → K (a.put op.dst (.slice A' (n + m) c')) w'):Oper.wp P op a w K Q:=by
 obtain ⟨A',c',w',o',hr,h1,h2,h3⟩:=run_put hT op.type hsl hna src hbytes h63
 unfold Oper.wp execOp
 simp only [ho,resolve,invoke,builtin,Sem.run_bind,Sem.run_pure,Result.andThen_ok,List.map_toArray,List.map_cons,List.map_nil,hs,hx,hr]
 exact h A' c' w' o' h1 (h2.mono fun _ hi=>hi.2) h3
def SrNew (w:World) (o:Ow) (x:Sr14 × Hd × Hd) (v:Value) (w':World):Prop :=
 ∃ ps o' NA nc,v=.pointer (some ⟨ps,0,none⟩)∧o' ps=4∧w'.heap[ps]?=some (.cells #[.slice NA x.1.names.length nc,.bool x.1.dflt,.slice none 0 0] 78 (0,0))∧Sl w' o' 6 1 NA x.1.names.length nc (strC x.1.names)∧Stp (fun j=>j=4 ∨ j=6) w o w' o'
theorem srNew_b {wr w5:World} {om o5:Ow} {x:Sr14 × Hd × Hd} {A5:Option Addr} {c5:Nat} (s5:Stp (fun j=>j=6) wr om w5 o5) (hs5:Sl w5 o5 6 1 A5 x.1.names.length c5 (strC x.1.names)) :
  SrNew wr om x (.pointer (some ⟨w5.heap.size,0,none⟩)) (w5.alloc (.cells #[.slice A5 x.1.names.length c5,.bool x.1.dflt,.slice none 0 0] 78)):=by
 have e:Stp (fun j=>j=6) w5 o5 (w5.alloc (.cells #[.slice A5 x.1.names.length c5,.bool x.1.dflt,.slice none 0 0] 78)) (fun b=>if b < w5.heap.size then o5 b else 4):=Stp.ext2 ((Ext.rfl' _).al _) (fun b hb=>if_pos hb)
 refine ⟨w5.heap.size,fun b=>if b < w5.heap.size then o5 b else 4,A5,c5,rfl,if_neg (by omega),heap_alloc_new w5 _,?_,(s5.tr e).mono fun j hj=>.inr hj⟩
 exact hs5.stp (K:=fun _=>False) (Stp.ext2 ((Ext.rfl' _).al _) (fun b hb=>if_pos hb)) (fun h=>h)
theorem srNew_a {wr w5:World} {om o5:Ow} {x:Sr14 × Hd × Hd} {A5:Option Addr} {c5 q:Nat} (s5:Stp (fun j=>j=6) wr om w5 o5) (hs5:Sl w5 o5 6 1 A5 x.1.names.length c5 (strC x.1.names))
  (r5:w5.heap[q]?=some (.cells #[.slice none 0 0,.bool false,.slice none 0 0] 78 (0,0))) (ho:o5 q=4) :
  SrNew wr om x (.pointer (some ⟨q,0,none⟩)) (((w5.setCell ⟨q,0,none⟩ (.slice A5 x.1.names.length c5)).setCell ⟨q,1,none⟩ (.bool x.1.dflt)).setCell ⟨q,2,none⟩ (.slice none 0 0)):=by
 have e:Stp (fun j=>j=4) w5 o5 (((w5.setCell ⟨q,0,none⟩ (.slice A5 x.1.names.length c5)).setCell ⟨q,1,none⟩ (.bool x.1.dflt)).setCell ⟨q,2,none⟩ (.slice none 0 0)) o5:=((Stp.set q 0 _ (fun _=>ho)).tr (Stp.set q 1 _ (fun _=>ho))).tr (Stp.set q 2 _ (fun _=>ho))
 exact ⟨q,o5,A5,c5,rfl,ho,row_set (row_set (row_set r5 0 _) 1 _) 2 _,hs5.stp e (by omega),(s5.mono fun j hj=>.inr hj).tr (e.mono fun j hj=>.inl hj)⟩
structure V14 (c:Cf14) (U:List (Up14 × Hd)) (S:List (Sr14 × Hd × Hd)):Prop where
 u:U.length=c.ups.length
 s:S.length=c.srvs.length
theorem enter_ownLoc (x:Value) (w:World):(callFunc 28 #[x]).run Tryz.prog w=.ok (.enter 28 #[x]) w:=by kernel_rfl
theorem cOwn_c (c:Cf14) (U:List (Up14 × Hd)) (UA:Option Addr) (uc:Nat) (S:List (Sr14 × Hd × Hd)) (SA:Option Addr) (sc:Nat) (w:World) (hR:CfR w c U UA S SA) (hZ:OwS c) :
  Calls Tryz.prog 12 #[cfV c UA uc SA sc] w (Ret (IsCf c) w):=by
 unfold cfV
 have hul:U.length=c.ups.length:=by rw [← hR.hU,List.length_map]
 have hsl:S.length=c.srvs.length:=by rw [← hR.hS,List.length_map]
 have hulz:=hZ.ups
 have hslz:=hZ.srvs
 rw [← hul] at hulz
 rw [← hsl] at hslz
 have HPZ:Hid (∀ x ∈ U,x.1.peers.length ≤ 1073741824):=Lib.hid (fun x hx=>hZ.peers x.1 (by rw [← hR.hU]; exact List.mem_map_of_mem hx))
 have HSZ:Hid (∀ x ∈ S,x.1.names.length ≤ 1073741824∧x.1.locs.length ≤ 1073741824):=Lib.hid (fun x hx=>by
  have hm:x.1 ∈ c.srvs:=by rw [← hR.hS]; exact List.mem_map_of_mem hx
  exact ⟨hZ.names _ hm,hZ.locs _ hm⟩)
 rw [← hul,← hsl]
 obtain ⟨g,hg⟩:∃ g,g=w.heap.size:=⟨_,rfl⟩
 obtain ⟨W2,hW2⟩:∃ W,W=((w.alloc (.cells #[.int .i64 c.keep,.int .i64 c.body,.int .i64 c.store,.int .i64 c.conns,.slice UA U.length uc,.slice SA S.length sc] 32)).alloc (.cells #[.int .i64 0,.int .i64 0,.int .i64 0,.int .i64 0,.slice none 0 0,.slice none 0 0] 25)).alloc (.cells #[.int .i64 c.keep,.int .i64 c.body,.int .i64 c.store,.int .i64 c.conns,.slice none 0 0,.slice none 0 0] 25):=⟨_,rfl⟩
 have hz1:(w.alloc (.cells #[.int .i64 c.keep,.int .i64 c.body,.int .i64 c.store,.int .i64 c.conns,.slice UA U.length uc,.slice SA S.length sc] 32)).heap.size=g + 1:=by rw [hg]; simp
 have hz2:((w.alloc (.cells #[.int .i64 c.keep,.int .i64 c.body,.int .i64 c.store,.int .i64 c.conns,.slice UA U.length uc,.slice SA S.length sc] 32)).alloc (.cells #[.int .i64 0,.int .i64 0,.int .i64 0,.int .i64 0,.slice none 0 0,.slice none 0 0] 25)).heap.size=g + 1 + 1:=by rw [hg]; simp
 have hx0:Ext w W2:=by rw [hW2]; exact (((Ext.rfl' w).al _).al _).al _
 obtain ⟨o2,ho2⟩:∃ o:Ow,o=fun x=>if x=g + 1 + 1 then 1 else if x=g + 1 then 7 else 0:=⟨_,rfl⟩
 have r0:W2.heap[g]?=some (.cells #[.int .i64 c.keep,.int .i64 c.body,.int .i64 c.store,.int .i64 c.conns,.slice UA U.length uc,.slice SA S.length sc] 32 (0,0)):=by
  have h0:=heap_alloc_new w (.cells #[.int .i64 c.keep,.int .i64 c.body,.int .i64 c.store,.int .i64 c.conns,.slice UA U.length uc,.slice SA S.length sc] 32)
  rw [← hg] at h0
  rw [hW2]
  exact (((Ext.rfl' _).al _).al _).block g (by rw [hz1]; omega) |>.trans h0
 have r1:W2.heap[g + 1]?=some (.cells #[.int .i64 0,.int .i64 0,.int .i64 0,.int .i64 0,.slice none 0 0,.slice none 0 0] 25 (0,0)):=by
  have h0:=heap_alloc_new (w.alloc (.cells #[.int .i64 c.keep,.int .i64 c.body,.int .i64 c.store,.int .i64 c.conns,.slice UA U.length uc,.slice SA S.length sc] 32)) (.cells #[.int .i64 0,.int .i64 0,.int .i64 0,.int .i64 0,.slice none 0 0,.slice none 0 0] 25)
  rw [hz1] at h0
  rw [hW2]
  exact ((Ext.rfl' _).al _).block (g + 1) (by rw [hz2]; omega) |>.trans h0
 have r2:W2.heap[g + 1 + 1]?=some (.cells #[.int .i64 c.keep,.int .i64 c.body,.int .i64 c.store,.int .i64 c.conns,.slice none 0 0,.slice none 0 0] 25 (0,0)):=by
  have h0:=heap_alloc_new ((w.alloc (.cells #[.int .i64 c.keep,.int .i64 c.body,.int .i64 c.store,.int .i64 c.conns,.slice UA U.length uc,.slice SA S.length sc] 32)).alloc (.cells #[.int .i64 0,.int .i64 0,.int .i64 0,.int .i64 0,.slice none 0 0,.slice none 0 0] 25)) (.cells #[.int .i64 c.keep,.int .i64 c.body,.int .i64 c.store,.int .i64 c.conns,.slice none 0 0,.slice none 0 0] 25)
  rw [hz2] at h0
  rw [hW2]
  exact h0
 obtain ⟨p,hp⟩:∃ p,p=g + 1 + 1:=⟨_,rfl⟩
 have HX:Hid (∀ w' o',Stp KC W2 o2 w' o' → Ext w w'):=Lib.hid (fun w' o' s=>by
  have s0:Stp KC w (fun _=>0) W2 o2:=by
   rw [ho2]
   exact Stp.ext2 hx0 (fun x hx=>by rw [if_neg (by omega),if_neg (by omega)])
  exact (s0.tr s).toExt (fun _ _ h=>by unfold KC at h; omega))
 have HRX:Hid (∀ w' o',Stp KC W2 o2 w' o' → CfR w' c U UA S SA):=Lib.hid (fun w' o' s=>hR.ext (HX.out w' o' s))
 have HCL:Hid (∀ w' o',Stp KC W2 o2 w' o' → ∀ j u,(#[.int .i64 c.keep,.int .i64 c.body,.int .i64 c.store,.int .i64 c.conns,.slice UA U.length uc,.slice SA S.length sc]:Array Value)[j]?=some u → w'.cell? ⟨g,j,none⟩=some u):=Lib.hid (fun w' o' s j u hu=>by
  have h1:=(s.keep g (row_lt r0) (by rw [ho2]; dsimp only; rw [if_neg (by omega),if_neg (by omega)]; unfold KC; omega)).trans r0
  exact (row_facts h1 j u hu).1)
 have HRS:Hid (∀ w' o',Stp KC W2 o2 w' o' → w'.heap[g + 1]?=some (.cells #[.int .i64 0,.int .i64 0,.int .i64 0,.int .i64 0,.slice none 0 0,.slice none 0 0] 25 (0,0))):=Lib.hid (fun w' o' s=>(s.keep (g + 1) (row_lt r1) (by rw [ho2]; dsimp only; rw [if_neg (by omega),if_pos rfl]; unfold KC; omega)).trans r1)
 have HO:Hid (Ow0 W2 o2 p c [] none 0 [] none 0):=Lib.hid (by
  rw [hp]
  exact ⟨by rw [ho2]; exact if_pos rfl,r2,Sl.nil_ _ _ _ _ _,fun _=>rfl,Sl.nil_ _ _ _ _ _,fun _=>rfl,fun x hx=>(by cases hx),fun x hx=>(by cases hx),fun x hx=>(by cases hx)⟩)
 have HPL:Hid (p < W2.heap.size):=Lib.hid (by rw [hp]; exact row_lt r2)
 have hno2:NoR o2:=fun b=>by
  rw [ho2]
  dsimp only
  split
  ·exact .inl (by omega)
  ·split
   ·exact .inr rfl
   ·exact .inl (by omega)
 have HOG:Hid (o2 (g + 1)=7):=Lib.hid (by rw [ho2]; dsimp only; rw [if_neg (by omega),if_pos rfl])
 have HOL:Hid (g + 1 < W2.heap.size):=Lib.hid (row_lt r1)
 have HGW:Hid (w.heap.size ≤ g + 1):=Lib.hid (by omega)
 have HCN:Hid (V14 c U S):=Lib.hid ⟨hul,hsl⟩
 clear r0 r1 r2 hx0 ho2 hz1 hz2 hul hsl hR hZ
 go_enter Tryz.func12,Tryz.ntmps12
 go_upto_region 2 with (fail)
 rw [← hg,← hW2,← hp]
 have HHP:=Lib.hid hp
 clear hg hW2 hp
 have HOZ:Hid (NoR o2):=Lib.hid hno2
 have HS:Hid (Stp KC W2 o2 W2 o2):=Lib.hid Stp.rfl'
 clear hno2
 go_wp2
 go_loopw [4] (fun v4 wr=>∃ (i:Nat) (o':Ow) (V:List (Up14 × Hd)) (UA':Option Addr) (uc':Nat),v4=.int .i64 (i:Int)∧i ≤ U.length∧V.length=i∧Hid (V.map (·.1)=(U.take i).map (·.1))∧Hid (Ow0 wr o' p c V UA' uc' [] none 0)∧Hid (NoR o')∧Hid (Stp KC W2 o2 wr o')) (fun v4 _=>U.length - (intOf v4).toNat)
 case atStart=>exact ⟨0,o2,[],none,0,rfl,Nat.zero_le _,rfl,Lib.hid rfl,HO,HOZ,HS⟩
 case round =>
  clear HO HS HOZ
  obtain ⟨i,oi,V,UA',uc',rfl,hi,hVl,HV,HO,HN,HS⟩:=hrel
  have z4:=HCL.out _ _ HS.out 4 _ rfl
  by_cases hlt:i < U.length
  ·obtain ⟨bu,gu,hua,hbl,hc⟩:=(HRX.out _ _ HS.out).ups.row (sz:=4) (fun _=>rfl) (by omega) hlt
   have HPR:Hid (∀ w' o',Stp KC wr oi w' o' → Rd w' U[i].2.1 (U[i].1.peers.flatMap peV)):=Lib.hid (fun w' o' s=>(HRX.out _ _ (HS.out.tr s)).peers U[i] (List.getElem_mem hlt))
   have hpl:=HPZ.out U[i] (List.getElem_mem hlt)
   have HVN:Hid ((U.take (i + 1)).map (·.1)=V.map (·.1) ++ [U[i].1]):=Lib.hid (by rw [List.take_succ_eq_append_getElem hlt,List.map_append,HV.out]; rfl)
   obtain ⟨x,hxi⟩:∃ x,x=U[i]:=⟨_,rfl⟩
   rw [← hxi] at hc HPR hpl HVN
   have HKU:Hid (∀ w' o',Stp KC wr oi w' o' → ∀ j u,(upV x)[j]?=some u → w'.cell? ⟨bu,gu + i * 4 + j,none⟩=some u):=Lib.hid (fun w' o' s j u hu=>by
    obtain ⟨b2,g2,h2,_,hc2⟩:=(HRX.out _ _ (HS.out.tr s)).ups.row (sz:=4) (fun _=>rfl) (by omega) hlt
    rw [hua] at h2
    cases h2
    rw [← hxi] at hc2
    exact hc2 j u hu)
   have k0:wr.cell? ⟨bu,gu + i * 4,none⟩=some (.string (str x.1.name)):=hc 0 _ rfl
   have k2:wr.cell? ⟨bu,gu + i * 4 + 2,none⟩=some (.int .i64 x.1.timeout):=hc 2 _ rfl
   have k3:wr.cell? ⟨bu,gu + i * 4 + 3,none⟩=some (.int .i64 x.1.retries):=hc 3 _ rfl
   have j0:(0:Int) ≤ (i:Int):=by omega
   have j1:(i:Int) < (U.length:Int):=by omega
   have hkk:IntKind.i64.wrap ((i:Int) + 1)=((i + 1:Nat):Int):=by rw [IntKind.wrap_i64]; omega
   clear hc hxi hbl
   rw [hua] at z4
   have hks:Hid (∀ w',Ext wr w' → w'.cell? ⟨g,4,none⟩=some (.slice (some ⟨bu,gu,none⟩) U.length uc)∧w'.cell? ⟨bu,gu + i * 4,none⟩=some (.string (str x.1.name))∧w'.cell? ⟨bu,gu + i * 4 + 2,none⟩=some (.int .i64 x.1.timeout)∧w'.cell? ⟨bu,gu + i * 4 + 3,none⟩=some (.int .i64 x.1.retries)):=Lib.hid (fun w' e=>⟨(e.cell (lt_of_cell z4)).trans z4,(e.cell (lt_of_cell k0)).trans k0,(e.cell (lt_of_cell k2)).trans k2,(e.cell (lt_of_cell k3)).trans k3⟩)
   go_upto_region 5 with (fail)
   go_region_held3 (fun w'=>w'.cell? ⟨g,4,none⟩=some (.slice (some ⟨bu,gu,none⟩) U.length uc)∧w'.cell? ⟨bu,gu + i * 4,none⟩=some (.string (str x.1.name))∧w'.cell? ⟨bu,gu + i * 4 + 2,none⟩=some (.int .i64 x.1.timeout)∧w'.cell? ⟨bu,gu + i * 4 + 3,none⟩=some (.int .i64 x.1.retries)) (exact hks.out _ (by (repeat first | exact Ex0 | assumption | refine Ex1 ?_ | refine Ex2 ?_ | refine Ex3 ?_ | refine Ex4 ?_ | refine Ex5 ?_))) (fail)
   clear k0 k2 k3 hks z4
   obtain ⟨pu,hpu⟩:∃ b,b=wr.heap.size:=⟨_,rfl⟩
   obtain ⟨W3,hW3⟩:∃ W,W=(wr.alloc (.cells #[.string (str x.1.name),.slice none 0 0,.int .i64 x.1.timeout,.int .i64 x.1.retries] 73)).drew:=⟨_,rfl⟩
   obtain ⟨o3,ho3⟩:∃ o:Ow,o=fun b=>if b < wr.heap.size then oi b else 4:=⟨_,rfl⟩
   have hx3:Ext wr W3:=by rw [hW3]; exact ((Ext.rfl' wr).al _).dr
   have st3:∀ K,Stp K wr oi W3 o3:=fun K=>by rw [ho3]; exact Stp.ext2 hx3 (fun b hb=>if_pos hb)
   have HR3:Hid (W3.heap[pu]?=some (.cells #[.string (str x.1.name),.slice none 0 0,.int .i64 x.1.timeout,.int .i64 x.1.retries] 73 (0,0))):=Lib.hid (by rw [hW3,hpu]; exact heap_alloc_new wr _)
   have HQ3:Hid (o3 pu=4):=Lib.hid (by rw [ho3,hpu]; exact if_neg (by omega))
   have HS3:Hid (Stp (fun j=>j=4 ∨ j=5) wr oi W3 o3):=Lib.hid (st3 _)
   rw [← hW3,← hpu]
   clear hW3 ho3 hx3 st3
   have HPU:=Lib.hid hpu
   clear hpu
   go_wp2
   go_loopw [6] (fun v6 wx=>∃ (k:Nat) (o':Ow) (A:Option Addr) (cc:Nat),v6=.int .i64 (k:Int)∧k ≤ x.1.peers.length∧Hid (o' pu=4)∧Hid (wx.heap[pu]?=some (.cells #[.string (str x.1.name),.slice A k cc,.int .i64 x.1.timeout,.int .i64 x.1.retries] 73 (0,0))) ∧
    Hid (Sl wx o' 5 2 A k cc ((x.1.peers.take k).flatMap peV))∧(A=none → cc=0)∧Hid (Stp (fun j=>j=4 ∨ j=5) W3 o3 wx o')) (fun v6 _=>x.1.peers.length - (intOf v6).toNat)
   case atStart=>exact ⟨0,o3,none,0,rfl,Nat.zero_le _,HQ3,HR3,Lib.hid (Sl.nil_ _ _ _ _ _),fun _=>rfl,Lib.hid Stp.rfl'⟩
   case round =>
    obtain ⟨k,ok,A,cc,rfl,hk,HQ,HR,HSL,hna,HSK⟩:=hrel
    have HSY:=Lib.hid (HS3.out.tr HSK.out)
    have HSX:=Lib.hid (HSY.out.mono (L:=KC) (fun j hj=>by unfold KC; omega))
    have z4:=HCL.out _ _ (HS.out.tr HSX.out) 4 _ rfl
    rw [hua] at z4
    have k1:=HKU.out _ _ HSX.out 1 _ rfl
    by_cases hkt:k < x.1.peers.length
    ·obtain ⟨bp,gp,hpa,_,hc⟩:=(HPR.out _ _ HSX.out).row (sz:=2) (fun _=>rfl) (by omega) hkt
     have hft:(x.1.peers.take (k + 1)).flatMap peV=(x.1.peers.take k).flatMap peV ++ peV x.1.peers[k]:=by
      rw [List.take_succ_eq_append_getElem hkt,List.flatMap_append]; simp
     obtain ⟨y,hy⟩:∃ y,y=x.1.peers[k]:=⟨_,rfl⟩
     rw [← hy] at hc hft
     have HFT:=Lib.hid hft
     have m0:wr.cell? ⟨bp,gp + k * 2,none⟩=some (.int .i64 y.id):=hc 0 _ rfl
     have m1:wr.cell? ⟨bp,gp + k * 2 + 1,none⟩=some (.int .i64 y.most):=hc 1 _ rfl
     rw [hpa] at k1
     have i0:(0:Int) ≤ (k:Int):=by omega
     have i1:(k:Int) < (x.1.peers.length:Int):=by omega
     have hkj:IntKind.i64.wrap ((k:Int) + 1)=((k + 1:Nat):Int):=by rw [IntKind.wrap_i64]; omega
     clear hc hy hft
     go_upto_region 10 with (fail)
     obtain ⟨W4,hW4⟩:∃ W,W=wr.alloc (.cells #[.int .i64 y.id,.int .i64 y.most] 85):=⟨_,rfl⟩
     have b4:W4.heap[wr.heap.size]?=some (.cells #[.int .i64 y.id,.int .i64 y.most] 85 (0,0)):=by rw [hW4]; exact heap_alloc_new wr _
     have hx4:Ext wr W4:=by rw [hW4]; exact (Ext.rfl' _).al _
     obtain ⟨g4,hg4⟩:∃ b,b=wr.heap.size:=⟨_,rfl⟩
     rw [← hg4] at b4
     rw [← hW4,← hg4]
     clear hW4 hg4 m0 m1 z4 k1
     have n0:=(row_facts b4 0 _ rfl).1
     have n1:=(row_facts b4 1 _ rfl).1
     have HR4:=Lib.hid ((hx4.block pu (row_lt HR.out)).trans HR.out)
     have u1:=(row_facts HR4.out 1 _ rfl).1
     have HSL4:=Lib.hid (HSL.out.ext hx4)
     clear b4
     go_wp2_with (at_builtin; refine wpL_put slt_pe (.tmp 67) (.tmp 73) rfl rfl rfl rfl (HSL4.out.ext (by (repeat first | exact Ex0 | assumption | refine Ex1 ?_ | refine Ex2 ?_ | refine Ex3 ?_ | refine Ex4 ?_ | refine Ex5 ?_))) hna (Sl.src Tryz.underlying71 (n:=1) (rd_newV W4 _ rfl #[.int .i64 y.id,.int .i64 y.most] 75) (by simp) (by omega) (by simp [Value.oneCell']) _) (by omega) (by simp only [maxLen]; omega) ?_; intro A5 c5 w5 o5 hs5 st5 hn5; have ST5:Hid (Stp (fun i=>i=5) W4 ok w5 o5):=Lib.hid ((Stp.ext (by (repeat first | exact Ex0 | assumption | refine Ex1 ?_ | refine Ex2 ?_ | refine Ex3 ?_ | refine Ex4 ?_ | refine Ex5 ?_))).tr st5); have R5:=Lib.hid ((ST5.out.keep pu (row_lt HR4.out) (by rw [HQ.out]; omega)).trans HR4.out); have Q5:=Lib.hid ((ST5.out.own pu (row_lt HR4.out)).trans HQ.out); have v5:=(row_facts R5.out 1 _ rfl).1; have f5:=(row_facts R5.out 1 _ rfl).2; have HS5:=Lib.hid hs5; clear hs5 st5)
     have STS:Hid (Stp (fun j=>j=4) w5 o5 (w5.setCell ⟨pu,1,none⟩ (.slice A5 (k + 1) c5)) o5):=Lib.hid (Stp.set pu 1 _ (fun _=>Q5.out))
     go_roundw
     case rel =>
      refine ⟨k + 1,o5,A5,c5,rfl,by omega,Q5,Lib.hid (row_set R5.out 1 _),Lib.hid ?_,hn5,Lib.hid (((HSK.out.tr (Stp.ext hx4)).tr (ST5.out.mono fun j hj=>.inr hj)).tr (STS.out.mono fun j hj=>.inl hj))⟩
      rw [HFT.out]
      exact HS5.out.stp STS.out (by omega)
     case measure=>simp [intOf]; omega
    ·have i1:¬ (k:Int) < (x.1.peers.length:Int):=by omega
     have htk:x.1.peers.take k=x.1.peers:=List.take_of_length_le (by omega)
     have hkl:k=x.1.peers.length:=by omega
     subst hkl
     rw [htk] at HSL
     go_upto_region 11 with (fail)
     have HOY:=Lib.hid (HO.out.stp HSY.out (by omega) (by omega) (by omega) (by omega))
     have t4:=(row_facts HOY.out.row 4 _ rfl).1
     have HOYU:Hid (Sl wr ok 2 4 UA' i uc' (V.flatMap upV)):=Lib.hid (by have:=HOY.out.ups; rw [hVl] at this; exact this)
     have y0:=(row_facts HR.out 0 _ rfl).1
     have y1:=(row_facts HR.out 1 _ rfl).1
     have y2:=(row_facts HR.out 2 _ rfl).1
     have y3:=(row_facts HR.out 3 _ rfl).1
     clear z4 k1
     go_wp2_with (at_builtin; refine wpL_put slt_up (.tmp 77) (.tmp 79) rfl rfl rfl rfl (HOYU.out.ext (by (repeat first | exact Ex0 | assumption | refine Ex1 ?_ | refine Ex2 ?_ | refine Ex3 ?_ | refine Ex4 ?_ | refine Ex5 ?_))) HOY.out.una (Sl.src Tryz.underlying22 (n:=1) (rd_newV wr _ rfl #[.string (str x.1.name),.slice A x.1.peers.length cc,.int .i64 x.1.timeout,.int .i64 x.1.retries] 73) (by simp) (by omega) (by simp [Value.oneCell']) _) (by omega) (by simp only [maxLen]; omega) ?_; intro A5 c5 w5 o5 hs5 st5 hn5; have ST5:Hid (Stp (fun i=>i=2) wr ok w5 o5):=Lib.hid ((Stp.ext (by (repeat first | exact Ex0 | assumption | refine Ex1 ?_ | refine Ex2 ?_ | refine Ex3 ?_ | refine Ex4 ?_ | refine Ex5 ?_))).tr st5); have R5:=Lib.hid ((ST5.out.keep p (row_lt HOY.out.row) (by rw [HOY.out.own]; omega)).trans HOY.out.row); have Q5:=Lib.hid ((ST5.out.own p (row_lt HOY.out.row)).trans HOY.out.own); have v5:=(row_facts R5.out 4 _ rfl).1; have f5:=(row_facts R5.out 4 _ rfl).2; have HS5:=Lib.hid hs5; clear hs5 st5)
     have STS:Hid (Stp (fun j=>j=1) w5 o5 (w5.setCell ⟨p,4,none⟩ (.slice A5 (i + 1) c5)) o5):=Lib.hid (Stp.set p 4 _ (fun _=>Q5.out))
     have STT:=Lib.hid ((HSX.out.tr (ST5.out.mono fun j hj=>by unfold KC; omega)).tr (STS.out.mono fun j hj=>by unfold KC; omega))
     go_roundw
     case rel =>
      refine ⟨i + 1,by simp,by omega,endO o5,V ++ [(x.1,(A,cc))],(by simp; omega),Lib.hid ?_,⟨A5,c5,Lib.hid (HO.out.addU HN.out STT.out (x.1,(A,cc)) ((HSL.out.stp ST5.out (by omega)).stp STS.out (by omega)) (by rw [hVl]; exact HS5.out.stp STS.out (by omega)) hn5 ((HOY.out.srvs.stp ST5.out (by omega)).stp STS.out (by omega)) (by rw [hVl]; exact row_set R5.out 4 _))⟩,Lib.hid (endO_no _),Lib.hid (HS.out.tr (STT.out.endO HN.out))⟩
      rw [← List.map_take,HVN.out,List.map_append]
      rfl
     case measure=>simp [intOf]; omega
  ·have i1:¬ (i:Int) < (U.length:Int):=by omega
   have htk:U.take i=U:=List.take_of_length_le (by omega)
   rw [htk] at HV
   obtain ⟨nv,hnv⟩:∃ n,n=V.length:=⟨_,rfl⟩
   have hVU:Hid (V.map (·.1)=c.ups):=Lib.hid (by rw [HV.out]; exact (HRX.out _ _ HS.out).hU)
   clear HV hVl htk hnv
   go_wp2
   clear z4 i1
   go_loopw [8] (fun v8 wx=>∃ (m:Nat) (o':Ow) (X:List (Sr14 × Hd × Hd)) (SA':Option Addr) (sc':Nat),v8=.int .i64 (m:Int)∧m ≤ S.length∧Hid (X.length=m)∧Hid (X.map (·.1)=(S.take m).map (·.1))∧Hid (Ow0 wx o' p c V UA' uc' X SA' sc')∧Hid (NoR o')∧Hid (Stp KC W2 o2 wx o')) (fun v8 _=>S.length - (intOf v8).toNat)
   case atStart=>exact ⟨0,oi,[],none,0,rfl,Nat.zero_le _,Lib.hid rfl,Lib.hid rfl,HO,HN,HS⟩
   case round =>
    clear HO HS HN
    obtain ⟨m,om,X,SA',sc',rfl,hm,HXl,HXM,HO,HN,HS⟩:=hrel
    have z5:=HCL.out _ _ HS.out 5 _ rfl
    by_cases hlt2:m < S.length
    ·obtain ⟨bs,gs,hsa,hbl,hc⟩:=(HRX.out _ _ HS.out).srvs.row (sz:=3) (fun _=>rfl) (by omega) hlt2
     have HNR:Hid (∀ w' o',Stp KC wr om w' o' → Rd w' S[m].2.1.1 (strC S[m].1.names)):=Lib.hid (fun w' o' s=>(HRX.out _ _ (HS.out.tr s)).names S[m] (List.getElem_mem hlt2))
     have HLR:Hid (∀ w' o',Stp KC wr om w' o' → Rd w' S[m].2.2.1 (S[m].1.locs.flatMap loV)):=Lib.hid (fun w' o' s=>(HRX.out _ _ (HS.out.tr s)).locs S[m] (List.getElem_mem hlt2))
     obtain ⟨hnl,hll⟩:=HSZ.out S[m] (List.getElem_mem hlt2)
     have HXN:Hid ((S.take (m + 1)).map (·.1)=X.map (·.1) ++ [S[m].1]):=Lib.hid (by rw [List.take_succ_eq_append_getElem hlt2,List.map_append,HXM.out]; rfl)
     obtain ⟨x,hxi⟩:∃ x,x=S[m]:=⟨_,rfl⟩
     rw [← hxi] at hc HNR HLR hnl hll HXN
     have HKS:Hid (∀ w' o',Stp KC wr om w' o' → ∀ j u,(srV x)[j]?=some u → w'.cell? ⟨bs,gs + m * 3 + j,none⟩=some u):=Lib.hid (fun w' o' s j u hu=>by
      obtain ⟨b2,g2,h2,_,hc2⟩:=(HRX.out _ _ (HS.out.tr s)).srvs.row (sz:=3) (fun _=>rfl) (by omega) hlt2
      rw [hsa] at h2
      cases h2
      rw [← hxi] at hc2
      exact hc2 j u hu)
     have k0:wr.cell? ⟨bs,gs + m * 3,none⟩=some (.slice x.2.1.1 x.1.names.length x.2.1.2):=hc 0 _ rfl
     have k1:wr.cell? ⟨bs,gs + m * 3 + 1,none⟩=some (.bool x.1.dflt):=hc 1 _ rfl
     have j0:(0:Int) ≤ (m:Int):=by omega
     have j1:(m:Int) < (S.length:Int):=by omega
     have hkk:IntKind.i64.wrap ((m:Int) + 1)=((m + 1:Nat):Int):=by rw [IntKind.wrap_i64]; omega
     clear hc hxi hbl
     rw [hsa] at z5
     have HSA:=Lib.hid hsa
     clear hsa
     have hks:Hid (∀ w',Ext wr w' → w'.cell? ⟨g,5,none⟩=some (.slice (some ⟨bs,gs,none⟩) S.length sc)∧w'.cell? ⟨bs,gs + m * 3,none⟩=some (.slice x.2.1.1 x.1.names.length x.2.1.2)∧w'.cell? ⟨bs,gs + m * 3 + 1,none⟩=some (.bool x.1.dflt)):=Lib.hid (fun w' e=>⟨(e.cell (lt_of_cell z5)).trans z5,(e.cell (lt_of_cell k0)).trans k0,(e.cell (lt_of_cell k1)).trans k1⟩)
     go_upto_region 15 with (fail)
     go_cut [9] (fun v9 wx=>SrNew wr om x v9 wx)
     case first =>
      have HRN:=Lib.hid (HNR.out _ _ Stp.rfl')
      have HONE:Hid (∀ u ∈ strC x.1.names,u.oneCell'=true):=Lib.hid (strC_one _)
      have HSC:Hid ((strC x.1.names).length=x.1.names.length * 1):=Lib.hid (by simp [strC])
      obtain ⟨oq,hoq⟩:∃ o:Ow,o=fun b=>if b < wr.heap.size then om b else 4:=⟨_,rfl⟩
      have HOQ:Hid (∀ w',Ext wr w' → Stp (fun j=>j=6) wr om w' oq):=Lib.hid (fun w' e=>by rw [hoq]; exact Stp.ext2 e (fun b hb=>if_pos hb))
      have HOQ4:Hid (∀ b,wr.heap.size ≤ b → oq b=4):=Lib.hid (fun b hb=>by rw [hoq]; exact if_neg (by omega))
      clear hoq
      have HSS:Hid (∀ w5 o5,Stp (fun j=>j=4 ∨ j=6) wr om w5 o5 → ∀ w',Ext w5 w' → w'.cell? ⟨g,5,none⟩=some (.slice (some ⟨bs,gs,none⟩) S.length sc)∧w'.cell? ⟨bs,gs + m * 3,none⟩=some (.slice x.2.1.1 x.1.names.length x.2.1.2)∧w'.cell? ⟨bs,gs + m * 3 + 1,none⟩=some (.bool x.1.dflt)):=Lib.hid (fun w5 o5 s w' e=>by
       have s1:=s.mono (L:=KC) (fun j hj=>by unfold KC; omega)
       have y5:=HCL.out _ _ (HS.out.tr s1) 5 _ rfl
       rw [HSA.out] at y5
       have y0:=HKS.out _ _ s1 0 _ rfl
       have y1:=HKS.out _ _ s1 1 _ rfl
       exact ⟨(e.cell (lt_of_cell y5)).trans y5,(e.cell (lt_of_cell y0)).trans y0,(e.cell (lt_of_cell y1)).trans y1⟩)
      have HN1:Hid (((wr.alloc (.cells #[] 9)).alloc (.cells #[.slice none 0 0,.bool false,.slice none 0 0] 78)).heap[wr.heap.size + 1]?=some (.cells #[.slice none 0 0,.bool false,.slice none 0 0] 78 (0,0))):=Lib.hid (by
       have hn:=heap_alloc_new (wr.alloc (.cells #[] 9)) (.cells #[.slice none 0 0,.bool false,.slice none 0 0] 78)
       rw [show (wr.alloc (.cells #[] 9)).heap.size=wr.heap.size + 1 from by simp] at hn
       exact hn)
      have HN0:Hid (((wr.alloc (.cells #[.slice none 0 0,.bool false,.slice none 0 0] 78)).alloc (.cells #[] 9)).heap[wr.heap.size]?=some (.cells #[.slice none 0 0,.bool false,.slice none 0 0] 78 (0,0))):=Lib.hid (by
       have hn:=heap_alloc_new wr (.cells #[.slice none 0 0,.bool false,.slice none 0 0] 78)
       exact (((Ext.rfl' _).al _).block _ (row_lt hn)).trans hn)
      refine wp_region_noPanic ?_
      refine wp_region_held_drew (S:=fun w'=>w'.cell? ⟨g,5,none⟩=some (.slice (some ⟨bs,gs,none⟩) S.length sc)∧w'.cell? ⟨bs,gs + m * 3,none⟩=some (.slice x.2.1.1 x.1.names.length x.2.1.2)∧w'.cell? ⟨bs,gs + m * 3 + 1,none⟩=some (.bool x.1.dflt)) (by kernel_rfl) (hks.out _ (by (repeat first | exact Ex0 | assumption | refine Ex1 ?_ | refine Ex2 ?_ | refine Ex3 ?_ | refine Ex4 ?_ | refine Ex5 ?_))) (fun hHeld=>?_)
      refine wpAnyH_take (i:=1) (oi:=?_) (v:=?_) ?_ (by kernel_rfl) (by kernel_rfl) (by kernel_rfl) (fun _ _ _ h=>h) (Or.inl ⟨?_,?_⟩) (by assumption) ?_
      rotate_left 2
      ·(simp only [List.getElem?_toArray,List.getElem?_cons_succ,List.getElem?_cons_zero]; first | done | rfl)
      ·rfl
      ·intro w hSw
       try dsimp only at hSw
       go_simp <;> with_reducible rfl
      try simp only [Act.put,List.setIfInBounds_toArray,List.set_cons_zero,List.set_cons_succ]
      refine wpAnyH_take (i:=2) (oi:=?_) (v:=?_) ?_ (by kernel_rfl) (by kernel_rfl) (by kernel_rfl) (fun _ _ _ h=>h) (Or.inl ⟨?_,?_⟩) (by assumption) ?_
      rotate_left 2
      ·(simp only [List.getElem?_toArray,List.getElem?_cons_succ,List.getElem?_cons_zero]; first | done | rfl)
      ·rfl
      ·intro w hSw
       try dsimp only at hSw
       go_simp <;> with_reducible rfl
      try simp only [Act.put,List.setIfInBounds_toArray,List.set_cons_zero,List.set_cons_succ]
      refine wpAnyH_take (i:=3) (oi:=?_) (v:=?_) ?_ (by kernel_rfl) (by kernel_rfl) (by kernel_rfl) (fun _ _ _ h=>h) (Or.inl ⟨?_,?_⟩) (by assumption) ?_
      rotate_left 2
      ·(simp only [List.getElem?_toArray,List.getElem?_cons_succ,List.getElem?_cons_zero]; first | done | rfl)
      ·rfl
      ·intro w hSw
       try dsimp only at hSw
       go_simp <;> with_reducible rfl
      try simp only [Act.put,List.setIfInBounds_toArray,List.set_cons_zero,List.set_cons_succ]
      refine wpAnyH_take (i:=4) (oi:=?_) (v:=?_) ?_ (by kernel_rfl) (by kernel_rfl) (by kernel_rfl) (fun _ _ _ h=>h) (Or.inl ⟨?_,?_⟩) (by assumption) ?_
      rotate_left 2
      ·(simp only [List.getElem?_toArray,List.getElem?_cons_succ,List.getElem?_cons_zero]; first | done | rfl)
      ·rfl
      ·intro w hSw
       try dsimp only at hSw
       go_simp <;> with_reducible rfl
      try simp only [Act.put,List.setIfInBounds_toArray,List.set_cons_zero,List.set_cons_succ]
      refine wpAnyH_take (i:=5) (oi:=?_) (v:=?_) ?_ (by kernel_rfl) (by kernel_rfl) (by kernel_rfl) (fun _ _ _ h=>h) (Or.inl ⟨?_,?_⟩) (by assumption) ?_
      rotate_left 2
      ·(simp only [List.getElem?_toArray,List.getElem?_cons_succ,List.getElem?_cons_zero]; first | done | rfl)
      ·rfl
      ·intro w hSw
       try dsimp only at hSw
       go_simp <;> with_reducible rfl
      try simp only [Act.put,List.setIfInBounds_toArray,List.set_cons_zero,List.set_cons_succ]
      refine wpAnyH_take (i:=6) (oi:=?_) (v:=?_) ?_ (by kernel_rfl) (by kernel_rfl) (by kernel_rfl) (fun _ _ _ h=>h) (Or.inl ⟨?_,?_⟩) (by assumption) ?_
      rotate_left 2
      ·(simp only [List.getElem?_toArray,List.getElem?_cons_succ,List.getElem?_cons_zero]; first | done | rfl)
      ·rfl
      ·intro w hSw
       try dsimp only at hSw
       go_simp <;> with_reducible rfl
      try simp only [Act.put,List.setIfInBounds_toArray,List.set_cons_zero,List.set_cons_succ]
      refine wpAnyH_take (i:=8) (oi:=?_) (v:=?_) ?_ (by kernel_rfl) (by kernel_rfl) (by kernel_rfl) (fun _ _ _ h=>h) (Or.inl ⟨?_,?_⟩) (by assumption) ?_
      rotate_left 2
      ·(simp only [List.getElem?_toArray,List.getElem?_cons_succ,List.getElem?_cons_zero]; first | done | rfl)
      ·rfl
      ·intro w hSw
       try dsimp only at hSw
       go_simp <;> with_reducible rfl
      try simp only [Act.put,List.setIfInBounds_toArray,List.set_cons_zero,List.set_cons_succ]
      refine wpAnyH_take (i:=9) (oi:=?_) (v:=?_) ?_ (by kernel_rfl) (by kernel_rfl) (by kernel_rfl) (fun _ _ _ h=>h) (Or.inl ⟨?_,?_⟩) (by assumption) ?_
      rotate_left 2
      ·(simp only [List.getElem?_toArray,List.getElem?_cons_succ,List.getElem?_cons_zero]; first | done | rfl)
      ·rfl
      ·intro w hSw
       try dsimp only at hSw
       go_simp <;> with_reducible rfl
      try simp only [Act.put,List.setIfInBounds_toArray,List.set_cons_zero,List.set_cons_succ]
      refine wpAnyH_take (i:=10) (oi:=?_) (v:=?_) ?_ (by kernel_rfl) (by kernel_rfl) (by kernel_rfl) (fun _ _ _ h=>h) (Or.inl ⟨?_,?_⟩) (by assumption) ?_
      rotate_left 2
      ·(simp only [List.getElem?_toArray,List.getElem?_cons_succ,List.getElem?_cons_zero]; first | done | rfl)
      ·rfl
      ·intro w hSw
       try dsimp only at hSw
       go_simp <;> with_reducible rfl
      try simp only [Act.put,List.setIfInBounds_toArray,List.set_cons_zero,List.set_cons_succ]
      refine wpAnyH_take (i:=11) (oi:=?_) (v:=?_) ?_ (by kernel_rfl) (by kernel_rfl) (by kernel_rfl) (fun _ _ _ h=>h) (Or.inl ⟨?_,?_⟩) (by assumption) ?_
      rotate_left 2
      ·(simp only [List.getElem?_toArray,List.getElem?_cons_succ,List.getElem?_cons_zero]; first | done | rfl)
      ·rfl
      ·intro w hSw
       try dsimp only at hSw
       go_simp <;> with_reducible rfl
      try simp only [Act.put,List.setIfInBounds_toArray,List.set_cons_zero,List.set_cons_succ]
      refine wpAnyH_take (i:=12) (oi:=?_) (v:=?_) ?_ (by kernel_rfl) (by kernel_rfl) (by kernel_rfl) (fun _ _ _ h=>h) (Or.inl ⟨?_,?_⟩) (by assumption) ?_
      rotate_left 2
      ·(simp only [List.getElem?_toArray,List.getElem?_cons_succ,List.getElem?_cons_zero]; first | done | rfl)
      ·rfl
      ·intro w hSw
       try dsimp only at hSw
       go_simp <;> with_reducible rfl
      try simp only [Act.put,List.setIfInBounds_toArray,List.set_cons_zero,List.set_cons_succ]
      refine wpAnyH_take (i:=13) (oi:=?_) (v:=?_) ?_ (by kernel_rfl) (by kernel_rfl) (by kernel_rfl) (fun _ _ _ h=>h) (Or.inl ⟨?_,?_⟩) (by assumption) ?_
      rotate_left 2
      ·(simp only [List.getElem?_toArray,List.getElem?_cons_succ,List.getElem?_cons_zero]; first | done | rfl)
      ·rfl
      ·intro w hSw
       try dsimp only at hSw
       go_simp <;> with_reducible rfl
      try simp only [Act.put,List.setIfInBounds_toArray,List.set_cons_zero,List.set_cons_succ]
      refine wpAnyH_ready (rs:=[0,15]) (by kernel_rfl) (by simp) ?_
      refine AllReadyH.cons rfl (fun K hK=>?_) (AllReadyH.cons rfl (fun K hK=>?_) AllReadyH.nil)
      ·go_simp
       refine hK.out _ _ (hks.out _ (by (repeat first | exact Ex0 | assumption | refine Ex1 ?_ | refine Ex2 ?_ | refine Ex3 ?_ | refine Ex4 ?_ | refine Ex5 ?_))) (fun hHeld=>?_)
       clear hK K
       try simp only [List.getElem?_toArray,List.getElem?_cons_succ,List.getElem?_cons_zero,Act.put,List.setIfInBounds_toArray,List.set_cons_zero,List.set_cons_succ]
       refine wpAnyH_ready (rs:=[7,15]) (by kernel_rfl) (by simp) ?_
       refine AllReadyH.cons rfl (fun K hK=>?_) (AllReadyH.cons rfl (fun K hK=>?_) AllReadyH.nil)
       ·refine wp_putO slt_str14 (.tmp 89) (.tmp 95) rfl rfl rfl (Sl.nil_ _ oq 6 1 _) (fun _=>rfl) (Sl.src Tryz.underlying55 (HRN.out.ext (by (repeat first | exact Ex0 | assumption | refine Ex1 ?_ | refine Ex2 ?_ | refine Ex3 ?_ | refine Ex4 ?_ | refine Ex5 ?_))) HSC.out (by omega) HONE.out _) (by omega) (by simp only [maxLen]; omega) ?_
        intro A5 c5 w5 o5 hs5 st5 hn5
        have s5:=Lib.hid ((HOQ.out _ (by (repeat first | exact Ex0 | assumption | refine Ex1 ?_ | refine Ex2 ?_ | refine Ex3 ?_ | refine Ex4 ?_ | refine Ex5 ?_))).tr st5)
        rw [Nat.zero_add,List.nil_append] at hs5
        simp only [Nat.zero_add]
        refine hK.out _ _ (HSS.out _ _ (s5.out.mono fun j hj=>.inr hj) _ (Ext.rfl' _)) (fun hHeld=>?_)
        clear hK K
        try simp only [List.getElem?_toArray,List.getElem?_cons_succ,List.getElem?_cons_zero,Act.put,List.setIfInBounds_toArray,List.set_cons_zero,List.set_cons_succ]
        refine wpAnyH_take (i:=14) (oi:=?_) (v:=?_) ?_ (by kernel_rfl) (by kernel_rfl) (by kernel_rfl) (fun _ _ _ h=>h) (Or.inl ⟨?_,?_⟩) (by assumption) ?_
        rotate_left 2
        ·(simp only [List.getElem?_toArray,List.getElem?_cons_succ,List.getElem?_cons_zero]; first | done | rfl)
        ·rfl
        ·intro w hSw
         try dsimp only at hSw
         go_simp <;> with_reducible rfl
        try simp only [Act.put,List.setIfInBounds_toArray,List.set_cons_zero,List.set_cons_succ]
        refine wpAnyH_ready (rs:=[15]) (by kernel_rfl) (by simp) ?_
        refine AllReadyH.cons rfl (fun K hK=>?_) AllReadyH.nil
        go_simp
        refine hK.out _ _ (HSS.out _ _ (s5.out.mono fun j hj=>.inr hj) _ (by (repeat first | exact Ex0 | assumption | refine Ex1 ?_ | refine Ex2 ?_ | refine Ex3 ?_ | refine Ex4 ?_ | refine Ex5 ?_))) (fun hHeld=>?_)
        clear hK K
        try simp only [List.getElem?_toArray,List.getElem?_cons_succ,List.getElem?_cons_zero,Act.put,List.setIfInBounds_toArray,List.set_cons_zero,List.set_cons_succ]
        refine wpAnyH_ready (rs:=[16]) (by kernel_rfl) (by simp) ?_
        refine AllReadyH.cons rfl (fun K hK=>?_) AllReadyH.nil
        go_simp
        have HFB:=Lib.hid (srNew_b s5.out hs5)
        refine hK.out _ _ (by obtain ⟨_,_,_,_,_,_,_,_,st⟩:=HFB.out; exact HSS.out _ _ st _ (Ext.rfl' _)) (fun hHeld=>?_)
        clear hK K
        try simp only [List.getElem?_toArray,List.getElem?_cons_succ,List.getElem?_cons_zero,Act.put,List.setIfInBounds_toArray,List.set_cons_zero,List.set_cons_succ]
        refine wpAnyH_done (by kernel_rfl) ?_ _
        refine NoPanic.normal ?_
        go_wp2_with fail
        go_meet
        exact HFB.out
       ·go_simp
        refine hK.out _ _ (hks.out _ (by (repeat first | exact Ex0 | assumption | refine Ex1 ?_ | refine Ex2 ?_ | refine Ex3 ?_ | refine Ex4 ?_ | refine Ex5 ?_))) (fun hHeld=>?_)
        clear hK K
        try simp only [List.getElem?_toArray,List.getElem?_cons_succ,List.getElem?_cons_zero,Act.put,List.setIfInBounds_toArray,List.set_cons_zero,List.set_cons_succ]
        refine wpAnyH_ready (rs:=[7]) (by kernel_rfl) (by simp) ?_
        refine AllReadyH.cons rfl (fun K hK=>?_) AllReadyH.nil
        refine wp_putO slt_str14 (.tmp 89) (.tmp 95) rfl rfl rfl (Sl.nil_ _ oq 6 1 _) (fun _=>rfl) (Sl.src Tryz.underlying55 (HRN.out.ext (by (repeat first | exact Ex0 | assumption | refine Ex1 ?_ | refine Ex2 ?_ | refine Ex3 ?_ | refine Ex4 ?_ | refine Ex5 ?_))) HSC.out (by omega) HONE.out _) (by omega) (by simp only [maxLen]; omega) ?_
        intro A5 c5 w5 o5 hs5 st5 hn5
        have s5:=Lib.hid ((HOQ.out _ (by (repeat first | exact Ex0 | assumption | refine Ex1 ?_ | refine Ex2 ?_ | refine Ex3 ?_ | refine Ex4 ?_ | refine Ex5 ?_))).tr st5)
        rw [Nat.zero_add,List.nil_append] at hs5
        simp only [Nat.zero_add]
        refine hK.out _ _ (HSS.out _ _ (s5.out.mono fun j hj=>.inr hj) _ (Ext.rfl' _)) (fun hHeld=>?_)
        clear hK K
        try simp only [List.getElem?_toArray,List.getElem?_cons_succ,List.getElem?_cons_zero,Act.put,List.setIfInBounds_toArray,List.set_cons_zero,List.set_cons_succ]
        refine wpAnyH_take (i:=14) (oi:=?_) (v:=?_) ?_ (by kernel_rfl) (by kernel_rfl) (by kernel_rfl) (fun _ _ _ h=>h) (Or.inl ⟨?_,?_⟩) (by assumption) ?_
        rotate_left 2
        ·(simp only [List.getElem?_toArray,List.getElem?_cons_succ,List.getElem?_cons_zero]; first | done | rfl)
        ·rfl
        ·intro w hSw
         try dsimp only at hSw
         go_simp <;> with_reducible rfl
        try simp only [Act.put,List.setIfInBounds_toArray,List.set_cons_zero,List.set_cons_succ]
        have HFA:=Lib.hid (srNew_a s5.out hs5 ((st5.keep (wr.heap.size + 1) (row_lt HN1.out) (by rw [HOQ4.out _ (by omega)]; omega)).trans HN1.out) ((st5.own (wr.heap.size + 1) (row_lt HN1.out)).trans (HOQ4.out _ (by omega))))
        have r5:=(st5.keep (wr.heap.size + 1) (row_lt HN1.out) (by rw [HOQ4.out _ (by omega)]; omega)).trans HN1.out
        obtain ⟨u01,u02⟩:=row_facts r5 0 _ rfl
        obtain ⟨u11,u12⟩:=row_facts r5 1 _ rfl
        obtain ⟨u21,u22⟩:=row_facts r5 2 _ rfl
        clear r5
        refine wpAnyH_ready (rs:=[16]) (by kernel_rfl) (by simp) ?_
        refine AllReadyH.cons rfl (fun K hK=>?_) AllReadyH.nil
        go_simp
        refine hK.out _ _ (by obtain ⟨_,_,_,_,_,_,_,_,st⟩:=HFA.out; exact HSS.out _ _ st _ (Ext.rfl' _)) (fun hHeld=>?_)
        clear hK K
        try simp only [List.getElem?_toArray,List.getElem?_cons_succ,List.getElem?_cons_zero,Act.put,List.setIfInBounds_toArray,List.set_cons_zero,List.set_cons_succ]
        refine wpAnyH_done (by kernel_rfl) ?_ _
        refine NoPanic.normal ?_
        go_wp2_with fail
        go_meet
        exact HFA.out
      ·go_simp
       refine hK.out _ _ (hks.out _ (by (repeat first | exact Ex0 | assumption | refine Ex1 ?_ | refine Ex2 ?_ | refine Ex3 ?_ | refine Ex4 ?_ | refine Ex5 ?_))) (fun hHeld=>?_)
       clear hK K
       try simp only [List.getElem?_toArray,List.getElem?_cons_succ,List.getElem?_cons_zero,Act.put,List.setIfInBounds_toArray,List.set_cons_zero,List.set_cons_succ]
       refine wpAnyH_ready (rs:=[0]) (by kernel_rfl) (by simp) ?_
       refine AllReadyH.cons rfl (fun K hK=>?_) AllReadyH.nil
       go_simp
       refine hK.out _ _ (hks.out _ (by (repeat first | exact Ex0 | assumption | refine Ex1 ?_ | refine Ex2 ?_ | refine Ex3 ?_ | refine Ex4 ?_ | refine Ex5 ?_))) (fun hHeld=>?_)
       clear hK K
       try simp only [List.getElem?_toArray,List.getElem?_cons_succ,List.getElem?_cons_zero,Act.put,List.setIfInBounds_toArray,List.set_cons_zero,List.set_cons_succ]
       refine wpAnyH_ready (rs:=[7]) (by kernel_rfl) (by simp) ?_
       refine AllReadyH.cons rfl (fun K hK=>?_) AllReadyH.nil
       refine wp_putO slt_str14 (.tmp 89) (.tmp 95) rfl rfl rfl (Sl.nil_ _ oq 6 1 _) (fun _=>rfl) (Sl.src Tryz.underlying55 (HRN.out.ext (by (repeat first | exact Ex0 | assumption | refine Ex1 ?_ | refine Ex2 ?_ | refine Ex3 ?_ | refine Ex4 ?_ | refine Ex5 ?_))) HSC.out (by omega) HONE.out _) (by omega) (by simp only [maxLen]; omega) ?_
       intro A5 c5 w5 o5 hs5 st5 hn5
       have s5:=Lib.hid ((HOQ.out _ (by (repeat first | exact Ex0 | assumption | refine Ex1 ?_ | refine Ex2 ?_ | refine Ex3 ?_ | refine Ex4 ?_ | refine Ex5 ?_))).tr st5)
       rw [Nat.zero_add,List.nil_append] at hs5
       simp only [Nat.zero_add]
       refine hK.out _ _ (HSS.out _ _ (s5.out.mono fun j hj=>.inr hj) _ (Ext.rfl' _)) (fun hHeld=>?_)
       clear hK K
       try simp only [List.getElem?_toArray,List.getElem?_cons_succ,List.getElem?_cons_zero,Act.put,List.setIfInBounds_toArray,List.set_cons_zero,List.set_cons_succ]
       refine wpAnyH_take (i:=14) (oi:=?_) (v:=?_) ?_ (by kernel_rfl) (by kernel_rfl) (by kernel_rfl) (fun _ _ _ h=>h) (Or.inl ⟨?_,?_⟩) (by assumption) ?_
       rotate_left 2
       ·(simp only [List.getElem?_toArray,List.getElem?_cons_succ,List.getElem?_cons_zero]; first | done | rfl)
       ·rfl
       ·intro w hSw
        try dsimp only at hSw
        go_simp <;> with_reducible rfl
       try simp only [Act.put,List.setIfInBounds_toArray,List.set_cons_zero,List.set_cons_succ]
       have HFA:=Lib.hid (srNew_a s5.out hs5 ((st5.keep wr.heap.size (row_lt HN0.out) (by rw [HOQ4.out _ (by omega)]; omega)).trans HN0.out) ((st5.own wr.heap.size (row_lt HN0.out)).trans (HOQ4.out _ (by omega))))
       have r5:=(st5.keep wr.heap.size (row_lt HN0.out) (by rw [HOQ4.out _ (by omega)]; omega)).trans HN0.out
       obtain ⟨u01,u02⟩:=row_facts r5 0 _ rfl
       obtain ⟨u11,u12⟩:=row_facts r5 1 _ rfl
       obtain ⟨u21,u22⟩:=row_facts r5 2 _ rfl
       clear r5
       refine wpAnyH_ready (rs:=[16]) (by kernel_rfl) (by simp) ?_
       refine AllReadyH.cons rfl (fun K hK=>?_) AllReadyH.nil
       go_simp
       refine hK.out _ _ (by obtain ⟨_,_,_,_,_,_,_,_,st⟩:=HFA.out; exact HSS.out _ _ st _ (Ext.rfl' _)) (fun hHeld=>?_)
       clear hK K
       try simp only [List.getElem?_toArray,List.getElem?_cons_succ,List.getElem?_cons_zero,Act.put,List.setIfInBounds_toArray,List.set_cons_zero,List.set_cons_succ]
       refine wpAnyH_done (by kernel_rfl) ?_ _
       refine NoPanic.normal ?_
       go_wp2_with fail
       go_meet
       exact HFA.out
     case rest =>
      obtain ⟨ps,o3,NA,nc,rfl,hq3,hr3,hn3,st3⟩:=hcut
      obtain ⟨W3,rfl⟩:∃ W,W=wc:=⟨_,rfl⟩
      have HQ3:=Lib.hid hq3
      have HR3:=Lib.hid hr3
      have HN3:=Lib.hid hn3
      have HS3:Hid (Stp (fun j=>j=4 ∨ j=5 ∨ j=6) wr om W3 o3):=Lib.hid (st3.mono fun j hj=>by omega)
      clear hq3 hr3 hn3 st3 k0 k1 hks z5
      go_wp2
      go_loopw [10] (fun v10 wx=>∃ (k:Nat) (o':Ow) (A:Option Addr) (cc:Nat),v10=.int .i64 (k:Int)∧k ≤ x.1.locs.length∧Hid (o' ps=4)∧Hid (wx.heap[ps]?=some (.cells #[.slice NA x.1.names.length nc,.bool x.1.dflt,.slice A k cc] 78 (0,0))) ∧
       Hid (Sl wx o' 5 12 A k cc ((x.1.locs.take k).flatMap loV))∧(A=none → cc=0)∧Hid (Stp (fun j=>j=4 ∨ j=5) W3 o3 wx o')) (fun v10 _=>x.1.locs.length - (intOf v10).toNat)
      case atStart=>exact ⟨0,o3,none,0,rfl,Nat.zero_le _,HQ3,HR3,Lib.hid (Sl.nil_ _ _ _ _ _),fun _=>rfl,Lib.hid Stp.rfl'⟩
      case round =>
       obtain ⟨k,ok,A,cc,rfl,hk,HQ,HR,HSL,hna,HSK⟩:=hrel
       have HSY:=Lib.hid (HS3.out.tr (HSK.out.mono fun j hj=>by omega))
       have HSX:=Lib.hid (HSY.out.mono (L:=KC) (fun j hj=>by unfold KC; omega))
       have z5:=HCL.out _ _ (HS.out.tr HSX.out) 5 _ rfl
       rw [HSA.out] at z5
       have k2:=HKS.out _ _ HSX.out 2 _ rfl
       by_cases hkt:k < x.1.locs.length
       ·obtain ⟨bp,gp,hpa,_,hc⟩:=(HLR.out _ _ HSX.out).row (sz:=12) (fun _=>rfl) (by omega) hkt
        have hft:(x.1.locs.take (k + 1)).flatMap loV=(x.1.locs.take k).flatMap loV ++ loV x.1.locs[k]:=by
         rw [List.take_succ_eq_append_getElem hkt,List.flatMap_append]; simp
        obtain ⟨y,hy⟩:∃ y,y=x.1.locs[k]:=⟨_,rfl⟩
        rw [← hy] at hc hft
        have HFT:=Lib.hid hft
        have i0:(0:Int) ≤ (k:Int):=by omega
        have i1:(k:Int) < (x.1.locs.length:Int):=by omega
        have hkj:IntKind.i64.wrap ((k:Int) + 1)=((k + 1:Nat):Int):=by rw [IntKind.wrap_i64]; omega
        rw [hpa] at k2
        have r2:=(row_facts HR.out 2 _ rfl).1
        have HC:=Lib.hid (fun w' (e:Ext wr w') j u h=>(e.cell (lt_of_cell (hc j u h))).trans (hc j u h))
        have HZ5:=Lib.hid (fun w' (e:Ext wr w')=>(e.cell (lt_of_cell z5)).trans z5)
        have HK2:=Lib.hid (fun w' (e:Ext wr w')=>(e.cell (lt_of_cell k2)).trans k2)
        have HR2:=Lib.hid (fun w' (e:Ext wr w')=>(e.cell (lt_of_cell r2)).trans r2)
        have HFZ:=Lib.hid (row_facts HR.out 2 _ rfl).2
        clear hc hy hft r2
        go_upto_region 19 with (fail)
        clear z5 k2
        clear HPZ HSZ HPL HHP HXM HN HNR HKS HRS
        have CL:=Lib.hid (fun w=>cOwnLoc_c y w)
        unfold loA at CL
        obtain ⟨a5,a2,ar⟩:=(⟨HZ5.out _ (Ext.rfl' _),HK2.out _ (Ext.rfl' _),HR2.out _ (Ext.rfl' _)⟩:wr.cell? ⟨g,5,none⟩=some (.slice (some ⟨bs,gs,none⟩) S.length sc)∧wr.cell? ⟨bs,gs + m * 3 + 2,none⟩=some (.slice (some ⟨bp,gp,none⟩) x.1.locs.length x.2.2.2)∧wr.cell? ⟨ps,2,none⟩=some (.slice A k cc))
        have c0:=HC.out wr (Ext.rfl' _) 0 _ rfl
        have c1:=HC.out wr (Ext.rfl' _) 1 _ rfl
        have c2:=HC.out wr (Ext.rfl' _) 2 _ rfl
        have c3:=HC.out wr (Ext.rfl' _) 3 _ rfl
        have c4:=HC.out wr (Ext.rfl' _) 4 _ rfl
        have c5:=HC.out wr (Ext.rfl' _) 5 _ rfl
        have c6:=HC.out wr (Ext.rfl' _) 6 _ rfl
        have c7:=HC.out wr (Ext.rfl' _) 7 _ rfl
        have c8:=HC.out wr (Ext.rfl' _) 8 _ rfl
        have c9:=HC.out wr (Ext.rfl' _) 9 _ rfl
        have ca:=HC.out wr (Ext.rfl' _) 10 _ rfl
        have cb:=HC.out wr (Ext.rfl' _) 11 _ rfl
        have c0:wr.cell? ⟨bp,gp + k * 12,none⟩=some (.string (str y.pre)):=c0
        go_region_law (first
         | (refine step_call (.tmp 125) rfl rfl rfl (enter_ownLoc _ _) (CL.out _) ?_; intro w1 hx1; have e1:Ext wr w1:=(by (repeat first | exact Ex0 | assumption | refine Ex1 ?_ | refine Ex2 ?_ | refine Ex3 ?_ | refine Ex4 ?_ | refine Ex5 ?_)); have q1:=HR2.out w1 e1; have q2:=HR2.out (w1.alloc (.cells #[.string (str y.pre),.int .i64 y.kind,.string (str y.root),.string (str y.index),.int .i64 y.gzip,.int .i64 y.expires,.string (str y.up),.bool y.cache,.int .i64 y.rate,.int .i64 y.burst,.int .i64 y.status,.string (str y.goal)] 81)) (e1.al _))
         | (go_loud (refine step_put slt_lo (.tmp 116) (.tmp 127) rfl rfl rfl rfl (HSL.out.ext (by (repeat first | exact Ex0 | assumption | refine Ex1 ?_ | refine Ex2 ?_ | refine Ex3 ?_ | refine Ex4 ?_ | refine Ex5 ?_))) hna (Sl.src Tryz.underlying76 (n:=1) ((rd_newV w1 _ rfl #[.string (str y.pre),.int .i64 y.kind,.string (str y.root),.string (str y.index),.int .i64 y.gzip,.int .i64 y.expires,.string (str y.up),.bool y.cache,.int .i64 y.rate,.int .i64 y.burst,.int .i64 y.status,.string (str y.goal)] 81).ext (by (repeat first | exact Ex0 | assumption | refine Ex1 ?_ | refine Ex2 ?_ | refine Ex3 ?_ | refine Ex4 ?_ | refine Ex5 ?_))) (by simp) (by omega) (by simp [Value.oneCell']) 1) (by omega) (by simp only [maxLen]; omega) ?_; intro A5 c5 w5 o5 hs5 st5 hn5; have ST5:Hid (Stp (fun i=>i=5) wr ok w5 o5):=Lib.hid ((Stp.ext (by (repeat first | exact Ex0 | assumption | refine Ex1 ?_ | refine Ex2 ?_ | refine Ex3 ?_ | refine Ex4 ?_ | refine Ex5 ?_))).tr st5); have R5:=Lib.hid ((ST5.out.keep ps (row_lt HR.out) (by rw [HQ.out]; omega)).trans HR.out); have Q5:=Lib.hid ((ST5.out.own ps (row_lt HR.out)).trans HQ.out); have v5:=(row_facts R5.out 2 _ rfl).1; have f5:=(row_facts R5.out 2 _ rfl).2; have HS5:=Lib.hid hs5; clear hs5 st5)))
        all_goals
         have STS:Hid (Stp (fun j=>j=4) w5 o5 (w5.setCell ⟨ps,2,none⟩ (.slice A5 (k + 1) c5)) o5):=Lib.hid (Stp.set ps 2 _ (fun _=>Q5.out))
         go_wp2
         go_roundw
         case rel =>
          refine ⟨k + 1,o5,A5,c5,rfl,by omega,Q5,Lib.hid (row_set R5.out 2 _),Lib.hid ?_,hn5,Lib.hid ((HSK.out.tr (ST5.out.mono fun j hj=>.inr hj)).tr (STS.out.mono fun j hj=>.inl hj))⟩
          rw [HFT.out]
          exact HS5.out.stp STS.out (by omega)
         case measure=>simp [intOf]; omega
       ·have i1:¬ (k:Int) < (x.1.locs.length:Int):=by omega
        have htk:x.1.locs.take k=x.1.locs:=List.take_of_length_le (by omega)
        have hkl:k=x.1.locs.length:=by omega
        subst hkl
        rw [htk] at HSL
        go_upto_region 20 with (fail)
        have HOY:=Lib.hid (HO.out.stp HSY.out (by omega) (by omega) (by omega) (by omega))
        have t5:=(row_facts HOY.out.row 5 _ rfl).1
        have HOYS:Hid (Sl wr ok 3 3 SA' m sc' (X.flatMap srV)):=Lib.hid (by have:=HOY.out.srvs; rw [HXl.out] at this; exact this)
        rw [HXl.out] at t5
        have y0:=(row_facts HR.out 0 _ rfl).1
        have y1:=(row_facts HR.out 1 _ rfl).1
        have y2:=(row_facts HR.out 2 _ rfl).1
        clear z5 k2
        go_wp2_with (at_builtin; refine wpL_put slt_sr (.tmp 131) (.tmp 133) rfl rfl rfl rfl (HOYS.out.ext (by (repeat first | exact Ex0 | assumption | refine Ex1 ?_ | refine Ex2 ?_ | refine Ex3 ?_ | refine Ex4 ?_ | refine Ex5 ?_))) HOY.out.sna (Sl.src Tryz.underlying23 (n:=1) (rd_newV wr _ rfl #[.slice NA x.1.names.length nc,.bool x.1.dflt,.slice A x.1.locs.length cc] 78) (by simp) (by omega) (by simp [Value.oneCell']) _) (by omega) (by simp only [maxLen]; omega) ?_; intro A5 c5 w5 o5 hs5 st5 hn5; have ST5:Hid (Stp (fun i=>i=3) wr ok w5 o5):=Lib.hid ((Stp.ext (by (repeat first | exact Ex0 | assumption | refine Ex1 ?_ | refine Ex2 ?_ | refine Ex3 ?_ | refine Ex4 ?_ | refine Ex5 ?_))).tr st5); have R5:=Lib.hid ((ST5.out.keep p (row_lt HOY.out.row) (by rw [HOY.out.own]; omega)).trans HOY.out.row); have Q5:=Lib.hid ((ST5.out.own p (row_lt HOY.out.row)).trans HOY.out.own); have v5:=(row_facts R5.out 5 _ rfl).1; have f5:=(row_facts R5.out 5 _ rfl).2; have HS5:=Lib.hid hs5; clear hs5 st5)
        have STS:Hid (Stp (fun j=>j=1) w5 o5 (w5.setCell ⟨p,5,none⟩ (.slice A5 (m + 1) c5)) o5):=Lib.hid (Stp.set p 5 _ (fun _=>Q5.out))
        have STT:=Lib.hid ((HSX.out.tr (ST5.out.mono fun j hj=>by unfold KC; omega)).tr (STS.out.mono fun j hj=>by unfold KC; omega))
        go_roundw
        case rel =>
         have HOW:=Lib.hid (HO.out.addS HN.out STT.out (x.1,(NA,nc),(A,cc)) (((HN3.out.stp HSK.out (by omega)).stp ST5.out (by omega)).stp STS.out (by omega)) ((HSL.out.stp ST5.out (by omega)).stp STS.out (by omega)) (by rw [HXl.out]; exact HS5.out.stp STS.out (by omega)) hn5 ((HOY.out.ups.stp ST5.out (by omega)).stp STS.out (by omega)) (by rw [HXl.out]; exact row_set R5.out 5 _))
         refine ⟨m + 1,endO o5,X ++ [(x.1,(NA,nc),(A,cc))],A5,c5,rfl,by omega,Lib.hid (by simp [HXl.out]),Lib.hid ?_,HOW,Lib.hid (endO_no _),Lib.hid (HS.out.tr (STT.out.endO HN.out))⟩
         rw [HXN.out,List.map_append]
         rfl
        case measure=>simp [intOf]; omega
    ·have i1:¬ (m:Int) < (S.length:Int):=by omega
     have y0:=(row_facts HO.out.row 0 _ rfl).1
     have y1:=(row_facts HO.out.row 1 _ rfl).1
     have y2:=(row_facts HO.out.row 2 _ rfl).1
     have y3:=(row_facts HO.out.row 3 _ rfl).1
     have y4:=(row_facts HO.out.row 4 _ rfl).1
     have y5:=(row_facts HO.out.row 5 _ rfl).1
     have HRR:=Lib.hid (HRS.out _ _ HS.out)
     have q0:=row_facts HRR.out 0 _ rfl
     have q1:=row_facts HRR.out 1 _ rfl
     have q2:=row_facts HRR.out 2 _ rfl
     have q3:=row_facts HRR.out 3 _ rfl
     have q4:=row_facts HRR.out 4 _ rfl
     have q5:=row_facts HRR.out 5 _ rfl
     obtain ⟨q01,q02⟩:=q0
     obtain ⟨q11,q12⟩:=q1
     obtain ⟨q21,q22⟩:=q2
     obtain ⟨q31,q32⟩:=q3
     obtain ⟨q41,q42⟩:=q4
     obtain ⟨q51,q52⟩:=q5
     have hm2:S.take m=S:=List.take_of_length_le (by omega)
     rw [hm2] at HXM
     clear hm2
     have hlV:V.length=c.ups.length:=by rw [← hVU.out,List.length_map]
     have hlX:X.length=c.srvs.length:=by rw [HXl.out,← HCN.out.s]; omega
     rw [hlV] at y4
     rw [hlX] at y5
     have HLV:=Lib.hid hlV
     have HLX:=Lib.hid hlX
     clear hlV hlX
     have hr9:=row_set (row_set (row_set (row_set (row_set (row_set HRR.out 0 (.int .i64 c.keep)) 1 (.int .i64 c.body)) 2 (.int .i64 c.store)) 3 (.int .i64 c.conns)) 4 (.slice UA' c.ups.length uc')) 5 (.slice SA' c.srvs.length sc')
     have o7:om (g + 1)=7:=(HS.out.own _ HOL.out).trans HOG.out
     have st9:Stp (fun j=>j=7) wr om ((((((wr.setCell ⟨g + 1,0,none⟩ (.int .i64 c.keep)).setCell ⟨g + 1,1,none⟩ (.int .i64 c.body)).setCell ⟨g + 1,2,none⟩ (.int .i64 c.store)).setCell ⟨g + 1,3,none⟩ (.int .i64 c.conns)).setCell ⟨g + 1,4,none⟩ (.slice UA' c.ups.length uc')).setCell ⟨g + 1,5,none⟩ (.slice SA' c.srvs.length sc')) om:=(((((Stp.set (g + 1) 0 _ fun _=>o7).tr (Stp.set (g + 1) 1 _ fun _=>o7)).tr (Stp.set (g + 1) 2 _ fun _=>o7)).tr (Stp.set (g + 1) 3 _ fun _=>o7)).tr (Stp.set (g + 1) 4 _ fun _=>o7)).tr (Stp.set (g + 1) 5 _ fun _=>o7)
     have hx9:Ext w ((((((wr.setCell ⟨g + 1,0,none⟩ (.int .i64 c.keep)).setCell ⟨g + 1,1,none⟩ (.int .i64 c.body)).setCell ⟨g + 1,2,none⟩ (.int .i64 c.store)).setCell ⟨g + 1,3,none⟩ (.int .i64 c.conns)).setCell ⟨g + 1,4,none⟩ (.slice UA' c.ups.length uc')).setCell ⟨g + 1,5,none⟩ (.slice SA' c.srvs.length sc')):=((((((HX.out _ _ HS.out).st HGW.out _).st HGW.out _).st HGW.out _).st HGW.out _).st HGW.out _).st HGW.out _
     have HR9:=Lib.hid hr9
     have HST9:=Lib.hid st9
     have HX9:=Lib.hid hx9
     have HSS:=Lib.hid (HRX.out _ _ HS.out).hS
     clear hr9 o7 st9 hx9 HRX HCL HRS
     go_wp2
     obtain ⟨W9,hW9⟩:∃ W,W=((((((wr.setCell ⟨g + 1,0,none⟩ (.int .i64 c.keep)).setCell ⟨g + 1,1,none⟩ (.int .i64 c.body)).setCell ⟨g + 1,2,none⟩ (.int .i64 c.store)).setCell ⟨g + 1,3,none⟩ (.int .i64 c.conns)).setCell ⟨g + 1,4,none⟩ (.slice UA' c.ups.length uc')).setCell ⟨g + 1,5,none⟩ (.slice SA' c.srvs.length sc')):=⟨_,rfl⟩
     rw [← hW9] at HR9 HST9 HX9 ⊢
     clear hW9 q01 q02 q11 q12 q21 q22 q31 q32 q41 q42 q51 q52 HRR y0 y1 y2 y3 y4 y5 z5
     have f0:=(row_facts HR9.out 0 _ rfl).1
     have f1:=(row_facts HR9.out 1 _ rfl).1
     have f2:=(row_facts HR9.out 2 _ rfl).1
     have f3:=(row_facts HR9.out 3 _ rfl).1
     have f4:=(row_facts HR9.out 4 _ rfl).1
     have f5:=(row_facts HR9.out 5 _ rfl).1
     refine bodyPost_ret (v:=cfV c UA' uc' SA' sc') (by simp [results,Tryz.results12,go_sem,f0,f1,f2,f3,f4,f5,cfV]) rfl (Ret.mk ⟨V,UA',uc',X,SA',sc',rfl,⟨hVU.out,HXM.out.trans HSS.out,(HO.out.ups.stp HST9.out (by omega)).rd,(HO.out.srvs.stp HST9.out (by omega)).rd,fun x hx=>((HO.out.peers x hx).stp HST9.out (by omega)).1,fun x hx=>((HO.out.names x hx).stp HST9.out (by omega)).1,fun x hx=>((HO.out.locs x hx).stp HST9.out (by omega)).1⟩⟩ HX9.out)
end Go.Proofs.YtmnohicojefhfaaGreatDoor
end
