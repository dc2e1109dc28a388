/-
The reference's configuration that grows, in memory: the reader (as the program's builder: XCf13, XCf15, XCf18; three cells more).
-/
import Derived.Test.YtmnohicojefhfaaGreatDoorRPb
import Derived.Test.YtmnohicojefhfaaGreatDoorCFe
set_option maxRecDepth 100000
set_option maxHeartbeats 8000000
set_option linter.unusedVariables false
set_option linter.unusedSimpArgs false
section
namespace Go.Proofs.YtmnohicojefhfaaGreatDoor
open Go.RowKit
abbrev Xt:=Value × Value × Value
def rbC (c:Cf14) (X:Xt) (UA:Option Addr) (uc:Nat) (SA:Option Addr) (sc:Nat):Array Value :=
 #[.int .i64 c.keep,.int .i64 c.body,.int .i64 c.store,.int .i64 c.conns,.slice UA c.ups.length uc,.slice SA c.srvs.length sc,X.1,X.2.1,X.2.2]
structure Rf0 (w:World) (o:Ow) (p:Nat) (c:Cf14) (X:Xt) (U:List (Up14 × Hd)) (UA:Option Addr) (uc:Nat) (S:List (Sr14 × Hd × Hd)) (SA:Option Addr) (sc:Nat):Prop where
 own:o p=1
 row:w.heap[p]?=some (.cells (rbC c X UA uc SA sc) 67 (0,0))
 hU:U.map (·.1)=c.ups
 hS:S.map (·.1)=c.srvs
 ups:Sl w o 2 4 UA c.ups.length uc (U.flatMap upV)
 una:UA=none → uc=0
 srvs:Sl w o 3 3 SA c.srvs.length sc (S.flatMap srV)
 sna:SA=none → sc=0
 peers:∀ i x,U[i]?=some x → Sl w o (10 + 3 * i) 2 x.2.1 x.1.peers.length x.2.2 (x.1.peers.flatMap peV)∧(x.2.1=none → x.2.2=0)
 names:∀ i x,S[i]?=some x → Sl w o (11 + 3 * i) 1 x.2.1.1 x.1.names.length x.2.1.2 (strC x.1.names)∧(x.2.1.1=none → x.2.1.2=0)
 locs:∀ i x,S[i]?=some x → Sl w o (12 + 3 * i) 12 x.2.2.1 x.1.locs.length x.2.2.2 (x.1.locs.flatMap loV)∧(x.2.2.1=none → x.2.2.2=0)
def RfAt (w:World) (o:Ow) (p:Nat) (c:Cf14) (X:Xt):Prop:=∃ U UA uc S SA sc,Rf0 w o p c X U UA uc S SA sc
def KCr:Nat → Prop:=fun i=>i=1 ∨ i=2 ∨ i=3 ∨ 10 ≤ i
section
variable {K:Nat → Prop} {w w':World} {o o':Ow} {p uc sc:Nat} {X:Xt} {c:Cf14} {U:List (Up14 × Hd)} {S:List (Sr14 × Hd × Hd)} {UA SA:Option Addr}
theorem Rf0.lt (h:Rf0 w o p c X U UA uc S SA sc):p < w.heap.size:=row_lt h.row
theorem Rf0.stp (h:Rf0 w o p c X U UA uc S SA sc) (s:Stp K w o w' o') (hk:∀ i,i ≠ 0 → ¬ K i):Rf0 w' o' p c X U UA uc S SA sc :=
 ⟨(s.own p h.lt).trans h.own,(s.keep p h.lt (by rw [h.own]; exact hk 1 (by omega))).trans h.row,h.hU,h.hS,h.ups.stp s (hk 2 (by omega)),h.una,h.srvs.stp s (hk 3 (by omega)),h.sna,
  fun i x hx=>⟨(h.peers i x hx).1.stp s (hk _ (by omega)),(h.peers i x hx).2⟩,fun i x hx=>⟨(h.names i x hx).1.stp s (hk _ (by omega)),(h.names i x hx).2⟩,fun i x hx=>⟨(h.locs i x hx).1.stp s (hk _ (by omega)),(h.locs i x hx).2⟩⟩
theorem RfAt.stp (h:RfAt w o p c X) (s:Stp K w o w' o') (hk:∀ i,i ≠ 0 → ¬ K i):RfAt w' o' p c X:=by
 obtain ⟨U,UA,uc,S,SA,sc,h⟩:=h; exact ⟨U,UA,uc,S,SA,sc,h.stp s hk⟩
theorem RfAt.ext (h:RfAt w o p c X) (e:Ext w w'):RfAt w' o p c X:=h.stp (K:=fun _=>False) (Stp.ext e) (fun _ _ x=>x)
theorem Rf0.ext (h:Rf0 w o p c X U UA uc S SA sc) (e:Ext w w'):Rf0 w' o p c X U UA uc S SA sc:=h.stp (K:=fun _=>False) (Stp.ext e) (fun _ _ x=>x)
theorem Rf0.uln (h:Rf0 w o p c X U UA uc S SA sc):U.length=c.ups.length:=by rw [← h.hU,List.length_map]
theorem Rf0.sln (h:Rf0 w o p c X U UA uc S SA sc):S.length=c.srvs.length:=by rw [← h.hS,List.length_map]
theorem Rf0.cell (h:Rf0 w o p c X U UA uc S SA sc) (i:Nat) (u:Value) {c':Cf14} {X':Xt} (he:(rbC c X UA uc SA sc).setIfInBounds i u=rbC c' X' UA uc SA sc) (h1:c'.ups=c.ups) (h2:c'.srvs=c.srvs) :
  Rf0 (w.setCell ⟨p,i,none⟩ u) o p c' X' U UA uc S SA sc∧Stp KCr w o (w.setCell ⟨p,i,none⟩ u) o:=by
 have s:Stp (fun i=>i=1) w o (w.setCell ⟨p,i,none⟩ u) o:=Stp.set p i u (fun _=>h.own)
 refine ⟨⟨h.own,by rw [← he]; exact row_set h.row i u,by rw [h1]; exact h.hU,by rw [h2]; exact h.hS,by rw [h1]; exact h.ups.stp s (by omega),h.una,by rw [h2]; exact h.srvs.stp s (by omega),h.sna,
  fun i x hx=>⟨(h.peers i x hx).1.stp s (by omega),(h.peers i x hx).2⟩,fun i x hx=>⟨(h.names i x hx).1.stp s (by omega),(h.names i x hx).2⟩,fun i x hx=>⟨(h.locs i x hx).1.stp s (by omega),(h.locs i x hx).2⟩⟩,s.mono fun i hi=>by unfold KCr; omega⟩
end
section
variable {w w5:World} {o o5:Ow} {p uc sc:Nat} {X:Xt} {c:Cf14} {U:List (Up14 × Hd)} {S:List (Sr14 × Hd × Hd)} {UA SA:Option Addr}
theorem Rf0.up5 {a:List (Up14 × Hd)} {x:Up14 × Hd} {g f:Nat} (h:Rf0 w o p c X (a ++ [x]) (some ⟨g,f,none⟩) uc S SA sc) (st:Stp (fun i=>i=10 + 3 * a.length) w o w5 o5) (y:Up14 × Hd)
  (hp:Sl w5 o5 (10 + 3 * a.length) 2 y.2.1 y.1.peers.length y.2.2 (y.1.peers.flatMap peV)∧(y.2.1=none → y.2.2=0)) (j:Nat) (hj:j < 4) (u:Value) (hv:upV y=(upV x).set j u) :
  Rf0 (w5.setCell ⟨g,f + (a.length * 4 + j),none⟩ u) o5 p { c with ups:=(a ++ [y]).map (·.1) } X (a ++ [y]) (some ⟨g,f,none⟩) uc S SA sc∧Stp KCr w o (w5.setCell ⟨g,f + (a.length * 4 + j),none⟩ u) o5:=by
 have hul:=h.uln
 rw [List.length_append,List.length_singleton] at hul
 have hs5:=h.ups.stp st (by omega)
 have hset:=Sl.set hs5 (by omega) (a.length * 4 + j) (by rw [← hul,Nat.add_mul]; omega) u
 have s2:=hset.2
 have hpe:=list_one h.peers
 have hul2:((a ++ [y]).map (·.1)).length=c.ups.length:=by rw [List.length_map,List.length_append,List.length_singleton]; exact hul
 refine ⟨⟨?_,?_,rfl,h.hS,?_,h.una,(h.srvs.stp st (by omega)).stp s2 (by omega),h.sna,list_two (fun i x hx=>?_) ?_,fun i x hx=>?_,fun i x hx=>?_⟩,(st.mono fun i hi=>by unfold KCr; omega).tr (s2.mono fun i hi=>by unfold KCr; omega)⟩
 ·exact (st.own p h.lt).trans h.own
 ·have r5:=(st.keep p h.lt (by rw [h.own]; omega)).trans h.row
  have r6:=(s2.keep p (row_lt r5) (by rw [st.own p h.lt,h.own]; omega)).trans r5
  rw [r6]; unfold rbC; rw [hul2]
 ·rw [hul2,flat_set upV 4 upV_len a x y j u hv]; exact hset.1
 ·have:=hpe.1 i x hx
  have hi:=(List.getElem?_eq_some_iff.1 hx).1
  exact ⟨(this.1.stp st (by omega)).stp s2 (by omega),this.2⟩
 ·exact ⟨hp.1.stp s2 (by omega),hp.2⟩
 ·have:=h.names i x hx; exact ⟨(this.1.stp st (by omega)).stp s2 (by omega),this.2⟩
 ·have:=h.locs i x hx; exact ⟨(this.1.stp st (by omega)).stp s2 (by omega),this.2⟩
theorem Rf0.sr5 {a:List (Sr14 × Hd × Hd)} {x:Sr14 × Hd × Hd} {g f:Nat} (h:Rf0 w o p c X U UA uc (a ++ [x]) (some ⟨g,f,none⟩) sc) (st:Stp (fun i=>i=11 + 3 * a.length ∨ i=12 + 3 * a.length) w o w5 o5) (y:Sr14 × Hd × Hd)
  (hn:Sl w5 o5 (11 + 3 * a.length) 1 y.2.1.1 y.1.names.length y.2.1.2 (strC y.1.names)∧(y.2.1.1=none → y.2.1.2=0)) (hl:Sl w5 o5 (12 + 3 * a.length) 12 y.2.2.1 y.1.locs.length y.2.2.2 (y.1.locs.flatMap loV)∧(y.2.2.1=none → y.2.2.2=0)) (j:Nat) (hj:j < 3) (u:Value) (hv:srV y=(srV x).set j u) :
  Rf0 (w5.setCell ⟨g,f + (a.length * 3 + j),none⟩ u) o5 p { c with srvs:=(a ++ [y]).map (·.1) } X U UA uc (a ++ [y]) (some ⟨g,f,none⟩) sc∧Stp KCr w o (w5.setCell ⟨g,f + (a.length * 3 + j),none⟩ u) o5:=by
 have hul:=h.sln
 rw [List.length_append,List.length_singleton] at hul
 have hs5:=h.srvs.stp st (by omega)
 have hset:=Sl.set hs5 (by omega) (a.length * 3 + j) (by rw [← hul,Nat.add_mul]; omega) u
 have s2:=hset.2
 have hna:=list_one h.names
 have hlo:=list_one h.locs
 have hul2:((a ++ [y]).map (·.1)).length=c.srvs.length:=by rw [List.length_map,List.length_append,List.length_singleton]; exact hul
 refine ⟨⟨?_,?_,h.hU,rfl,(h.ups.stp st (by omega)).stp s2 (by omega),h.una,?_,h.sna,fun i x hx=>?_,list_two (fun i x hx=>?_) ?_,list_two (fun i x hx=>?_) ?_⟩,(st.mono fun i hi=>by unfold KCr; omega).tr (s2.mono fun i hi=>by unfold KCr; omega)⟩
 ·exact (st.own p h.lt).trans h.own
 ·have r5:=(st.keep p h.lt (by rw [h.own]; omega)).trans h.row
  have r6:=(s2.keep p (row_lt r5) (by rw [st.own p h.lt,h.own]; omega)).trans r5
  rw [r6]; unfold rbC; rw [hul2]
 ·rw [hul2,flat_set srV 3 srV_len a x y j u hv]; exact hset.1
 ·have:=h.peers i x hx; exact ⟨(this.1.stp st (by omega)).stp s2 (by omega),this.2⟩
 ·have:=hna.1 i x hx
  have hi:=(List.getElem?_eq_some_iff.1 hx).1
  exact ⟨(this.1.stp st (by omega)).stp s2 (by omega),this.2⟩
 ·exact ⟨hn.1.stp s2 (by omega),hn.2⟩
 ·have:=hlo.1 i x hx
  have hi:=(List.getElem?_eq_some_iff.1 hx).1
  exact ⟨(this.1.stp st (by omega)).stp s2 (by omega),this.2⟩
 ·exact ⟨hl.1.stp s2 (by omega),hl.2⟩
theorem Rf0.lo5 {a:List (Sr14 × Hd × Hd)} {x:Sr14 × Hd × Hd} {lo:List Lo14} {l l':Lo14} {g f:Nat} (h:Rf0 w o p c X U UA uc (a ++ [x]) SA sc) (hx:x.1.locs=lo ++ [l]) (hA:x.2.2.1=some ⟨g,f,none⟩) (j:Nat) (hj:j < 12) (u:Value) (hv:loV l'=(loV l).set j u) :
  Rf0 (w.setCell ⟨g,f + (lo.length * 12 + j),none⟩ u) o p { c with srvs:=(a ++ [locS x (lo ++ [l'])]).map (·.1) } X U UA uc (a ++ [locS x (lo ++ [l'])]) SA sc∧Stp KCr w o (w.setCell ⟨g,f + (lo.length * 12 + j),none⟩ u) o:=by
 have hul:=h.sln
 rw [List.length_append,List.length_singleton] at hul
 have hna:=list_one h.names
 have hlo:=list_one h.locs
 have hls:=hlo.2.1
 rw [hx,hA] at hls
 have hset:=Sl.set hls (by omega) (lo.length * 12 + j) (by rw [List.length_append,List.length_singleton,Nat.add_mul]; omega) u
 have s2:=hset.2
 have hul2:((a ++ [locS x (lo ++ [l'])]).map (·.1)).length=c.srvs.length:=by rw [List.length_map,List.length_append,List.length_singleton]; exact hul
 have hfl:(a ++ [locS x (lo ++ [l'])]).flatMap srV=(a ++ [x]).flatMap srV:=by
  rw [List.flatMap_append,List.flatMap_append]
  congr 1
  simp [srV,locS,hx]
 refine ⟨⟨h.own,?_,h.hU,rfl,h.ups.stp s2 (by omega),h.una,?_,h.sna,fun i x hx=>?_,list_two (fun i x hx=>?_) ?_,list_two (fun i x hx=>?_) ?_⟩,s2.mono fun i hi=>by unfold KCr; omega⟩
 ·have r6:=(s2.keep p h.lt (by rw [h.own]; omega)).trans h.row
  rw [r6]; unfold rbC; rw [hul2]
 ·rw [hul2,hfl]; exact h.srvs.stp s2 (by omega)
 ·have:=h.peers i x hx; exact ⟨this.1.stp s2 (by omega),this.2⟩
 ·have:=hna.1 i x hx; exact ⟨this.1.stp s2 (by omega),this.2⟩
 ·exact ⟨hna.2.1.stp s2 (by omega),hna.2.2⟩
 ·have:=hlo.1 i x hx
  have hi:=(List.getElem?_eq_some_iff.1 hx).1
  exact ⟨this.1.stp s2 (by omega),this.2⟩
 ·refine ⟨?_,hlo.2.2⟩
  have e2:=flat_set loV 12 loV_len lo l l' j u hv
  show Sl _ _ _ _ x.2.2.1 (lo ++ [l']).length x.2.2.2 ((lo ++ [l']).flatMap loV)
  rw [hA,e2,show (lo ++ [l']).length=(lo ++ [l]).length from by simp]
  exact hset.1
theorem Rf0.upN {A5:Option Addr} {c5:Nat} (h:Rf0 w o p c X U UA uc S SA sc) (st:Stp (fun i=>i=2) w o w5 o5) (n:Up14) (hp:n.peers=[]) (hs5:Sl w5 o5 2 4 A5 (c.ups.length + 1) c5 (U.flatMap upV ++ upV (n,none,0))) (hn5:A5=none → c5=0) :
  Rf0 (w5.setCell ⟨p,4,none⟩ (.slice A5 (c.ups.length + 1) c5)) o5 p { c with ups:=c.ups ++ [n] } X (U ++ [(n,none,0)]) A5 c5 S SA sc∧Stp KCr w o (w5.setCell ⟨p,4,none⟩ (.slice A5 (c.ups.length + 1) c5)) o5:=by
 have o5p:=(st.own p h.lt).trans h.own
 have r5:=(st.keep p h.lt (by rw [h.own]; omega)).trans h.row
 have s2:Stp (fun i=>i=1) w5 o5 (w5.setCell ⟨p,4,none⟩ (.slice A5 (c.ups.length + 1) c5)) o5:=Stp.set p 4 _ (fun _=>o5p)
 refine ⟨⟨o5p,?_,by rw [List.map_append,h.hU]; rfl,h.hS,?_,hn5,(h.srvs.stp st (by omega)).stp s2 (by omega),h.sna,list_two (fun i x hx=>?_) ?_,fun i x hx=>?_,fun i x hx=>?_⟩,(st.mono fun i hi=>by unfold KCr; omega).tr (s2.mono fun i hi=>by unfold KCr; omega)⟩
 ·rw [row_set r5 4 _]; simp [rbC]
 ·have:=hs5.stp s2 (by omega)
  rw [List.flatMap_append]
  simpa using this
 ·have:=h.peers i x hx; exact ⟨(this.1.stp st (by omega)).stp s2 (by omega),this.2⟩
 ·refine ⟨?_,fun _=>rfl⟩
  show Sl _ _ _ _ none n.peers.length 0 (n.peers.flatMap peV)
  rw [hp]; exact Sl.nil_ _ _ _ _ _
 ·have:=h.names i x hx; exact ⟨(this.1.stp st (by omega)).stp s2 (by omega),this.2⟩
 ·have:=h.locs i x hx; exact ⟨(this.1.stp st (by omega)).stp s2 (by omega),this.2⟩
theorem Rf0.srN {A5:Option Addr} {c5:Nat} (h:Rf0 w o p c X U UA uc S SA sc) (st:Stp (fun i=>i=3) w o w5 o5) (hs5:Sl w5 o5 3 3 A5 (c.srvs.length + 1) c5 (S.flatMap srV ++ srV (⟨[],false,[]⟩,(none,0),(none,0)))) (hn5:A5=none → c5=0) :
  Rf0 (w5.setCell ⟨p,5,none⟩ (.slice A5 (c.srvs.length + 1) c5)) o5 p { c with srvs:=c.srvs ++ [⟨[],false,[]⟩] } X U UA uc (S ++ [(⟨[],false,[]⟩,(none,0),(none,0))]) A5 c5∧Stp KCr w o (w5.setCell ⟨p,5,none⟩ (.slice A5 (c.srvs.length + 1) c5)) o5:=by
 have o5p:=(st.own p h.lt).trans h.own
 have r5:=(st.keep p h.lt (by rw [h.own]; omega)).trans h.row
 have s2:Stp (fun i=>i=1) w5 o5 (w5.setCell ⟨p,5,none⟩ (.slice A5 (c.srvs.length + 1) c5)) o5:=Stp.set p 5 _ (fun _=>o5p)
 refine ⟨⟨o5p,?_,h.hU,by rw [List.map_append,h.hS]; rfl,(h.ups.stp st (by omega)).stp s2 (by omega),h.una,?_,hn5,fun i x hx=>?_,list_two (fun i x hx=>?_) ?_,list_two (fun i x hx=>?_) ?_⟩,(st.mono fun i hi=>by unfold KCr; omega).tr (s2.mono fun i hi=>by unfold KCr; omega)⟩
 ·rw [row_set r5 5 _]; simp [rbC]
 ·have:=hs5.stp s2 (by omega)
  rw [List.flatMap_append]
  simpa using this
 ·have:=h.peers i x hx; exact ⟨(this.1.stp st (by omega)).stp s2 (by omega),this.2⟩
 ·have:=h.names i x hx; exact ⟨(this.1.stp st (by omega)).stp s2 (by omega),this.2⟩
 ·exact ⟨Sl.nil_ _ _ _ _ _,fun _=>rfl⟩
 ·have:=h.locs i x hx; exact ⟨(this.1.stp st (by omega)).stp s2 (by omega),this.2⟩
 ·exact ⟨Sl.nil_ _ _ _ _ _,fun _=>rfl⟩
end
section
variable {w w':World} {o:Ow} {p uc sc:Nat} {X:Xt} {c:Cf14} {U:List (Up14 × Hd)} {S:List (Sr14 × Hd × Hd)} {UA SA:Option Addr}
theorem Rf0.upX (h:Rf0 w o p c X U UA uc S SA sc) (hne:c.ups ≠ []):∃ a x g f,U=a ++ [x]∧UA=some ⟨g,f,none⟩∧c.ups.length=a.length + 1∧c.ups=a.map (·.1) ++ [x.1]∧g < w.heap.size ∧
  (∀ j u,(upV x)[j]?=some u → w.cell? ⟨g,f + a.length * 4 + j,none⟩=some u∧w.frozen? ⟨g,f + a.length * 4 + j,none⟩=false):=by
 have hU:U ≠ []:=fun e=>hne (by rw [← h.hU,e]; rfl)
 obtain ⟨a,x,rfl⟩:=snoc_of hU
 have hul:=h.uln
 rw [List.length_append,List.length_singleton] at hul
 obtain ⟨g,f,hA,_,hg,hc,hf⟩:=h.ups.cells (by omega)
 refine ⟨a,x,g,f,rfl,hA,hul.symm,by rw [← h.hU,List.map_append]; rfl,hg,fun j u hu=>?_⟩
 have hj:=(List.getElem?_eq_some_iff.1 hu).1
 rw [upV_len] at hj
 rw [Nat.add_assoc]
 exact ⟨hc _ _ (by rw [flat_last upV 4 upV_len]; exact hu),hf _ (by omega)⟩
theorem Rf0.srX (h:Rf0 w o p c X U UA uc S SA sc) (hne:c.srvs ≠ []):∃ a x g f,S=a ++ [x]∧SA=some ⟨g,f,none⟩∧c.srvs.length=a.length + 1∧c.srvs=a.map (·.1) ++ [x.1]∧g < w.heap.size ∧
  (∀ j u,(srV x)[j]?=some u → w.cell? ⟨g,f + a.length * 3 + j,none⟩=some u∧w.frozen? ⟨g,f + a.length * 3 + j,none⟩=false):=by
 have hS:S ≠ []:=fun e=>hne (by rw [← h.hS,e]; rfl)
 obtain ⟨a,x,rfl⟩:=snoc_of hS
 have hul:=h.sln
 rw [List.length_append,List.length_singleton] at hul
 obtain ⟨g,f,hA,_,hg,hc,hf⟩:=h.srvs.cells (by omega)
 refine ⟨a,x,g,f,rfl,hA,hul.symm,by rw [← h.hS,List.map_append]; rfl,hg,fun j u hu=>?_⟩
 have hj:=(List.getElem?_eq_some_iff.1 hu).1
 rw [srV_len] at hj
 rw [Nat.add_assoc]
 exact ⟨hc _ _ (by rw [flat_last srV 3 srV_len]; exact hu),hf _ (by omega)⟩
theorem Rf0.loX {a:List (Sr14 × Hd × Hd)} {x:Sr14 × Hd × Hd} (h:Rf0 w o p c X U UA uc (a ++ [x]) SA sc) (hne:x.1.locs ≠ []):∃ lo l g f,x.1.locs=lo ++ [l]∧x.2.2.1=some ⟨g,f,none⟩∧g < w.heap.size ∧
  (∀ j u,(loV l)[j]?=some u → w.cell? ⟨g,f + lo.length * 12 + j,none⟩=some u∧w.frozen? ⟨g,f + lo.length * 12 + j,none⟩=false):=by
 obtain ⟨lo,l,hl⟩:=snoc_of hne
 have hs:=(list_one h.locs).2.1
 rw [hl] at hs
 obtain ⟨g,f,hA,_,hg,hc,hf⟩:=hs.cells (by rw [List.length_append,List.length_singleton]; omega)
 refine ⟨lo,l,g,f,hl,hA,hg,fun j u hu=>?_⟩
 have hj:=(List.getElem?_eq_some_iff.1 hu).1
 rw [loV_len] at hj
 rw [Nat.add_assoc]
 exact ⟨hc _ _ (by rw [flat_last loV 12 loV_len]; exact hu),hf _ (by rw [List.length_append,List.length_singleton]; omega)⟩
theorem Rf0.c4 (h:Rf0 w o p c X U UA uc S SA sc):w.cell? ⟨p,4,none⟩=some (.slice UA c.ups.length uc):=(row_facts h.row 4 _ rfl).1
theorem Rf0.c5 (h:Rf0 w o p c X U UA uc S SA sc):w.cell? ⟨p,5,none⟩=some (.slice SA c.srvs.length sc):=(row_facts h.row 5 _ rfl).1
end
end Go.Proofs.YtmnohicojefhfaaGreatDoor
end
section
namespace Go.Proofs.YtmnohicojefhfaaGreatDoor
open Go.RowKit
def blkN (k:Dk):List UInt8:=match inD k with | none=>[] | some b=>nameD b
def mostR (k:Dk):Int:=match k with | .name=>1048576 | k=>(mostD k:Int)
theorem rwhere_c (k:Dk) (w:World):Calls Tryz.prog 62 #[.string (str (nameD k))] w (Gives (.tuple #[.string (str (blkN k)),.int .i64 (leastD k:Int),.int .i64 (mostR k),.bool (blockD k),.bool true]) w):=by
 cases k
 case keep=>as_aux_lemma =>
  show Calls Tryz.prog 62 #[.string ⟨#[107,101,101,112]⟩] w (Gives (.tuple #[.string ⟨#[]⟩,.int .i64 1,.int .i64 1,.bool false,.bool true]) w)
  go_enter Tryz.func62,Tryz.ntmps62
  go_wp2
  exact bodyPost_ret (v:=.tuple #[.string ⟨#[]⟩,.int .i64 1,.int .i64 1,.bool false,.bool true]) (by simp [results,Tryz.results62,go_sem]) rfl ⟨rfl,by (repeat first | exact Ex0 | assumption | refine Ex1 ?_ | refine Ex2 ?_ | refine Ex3 ?_ | refine Ex4 ?_ | refine Ex5 ?_)⟩
 case body=>as_aux_lemma =>
  show Calls Tryz.prog 62 #[.string ⟨#[98,111,100,121]⟩] w (Gives (.tuple #[.string ⟨#[]⟩,.int .i64 1,.int .i64 1,.bool false,.bool true]) w)
  go_enter Tryz.func62,Tryz.ntmps62
  go_wp2
  exact bodyPost_ret (v:=.tuple #[.string ⟨#[]⟩,.int .i64 1,.int .i64 1,.bool false,.bool true]) (by simp [results,Tryz.results62,go_sem]) rfl ⟨rfl,by (repeat first | exact Ex0 | assumption | refine Ex1 ?_ | refine Ex2 ?_ | refine Ex3 ?_ | refine Ex4 ?_ | refine Ex5 ?_)⟩
 case store=>as_aux_lemma =>
  show Calls Tryz.prog 62 #[.string ⟨#[115,116,111,114,101]⟩] w (Gives (.tuple #[.string ⟨#[]⟩,.int .i64 1,.int .i64 1,.bool false,.bool true]) w)
  go_enter Tryz.func62,Tryz.ntmps62
  go_wp2
  exact bodyPost_ret (v:=.tuple #[.string ⟨#[]⟩,.int .i64 1,.int .i64 1,.bool false,.bool true]) (by simp [results,Tryz.results62,go_sem]) rfl ⟨rfl,by (repeat first | exact Ex0 | assumption | refine Ex1 ?_ | refine Ex2 ?_ | refine Ex3 ?_ | refine Ex4 ?_ | refine Ex5 ?_)⟩
 case conns=>as_aux_lemma =>
  show Calls Tryz.prog 62 #[.string ⟨#[99,111,110,110,115]⟩] w (Gives (.tuple #[.string ⟨#[]⟩,.int .i64 1,.int .i64 1,.bool false,.bool true]) w)
  go_enter Tryz.func62,Tryz.ntmps62
  go_wp2
  exact bodyPost_ret (v:=.tuple #[.string ⟨#[]⟩,.int .i64 1,.int .i64 1,.bool false,.bool true]) (by simp [results,Tryz.results62,go_sem]) rfl ⟨rfl,by (repeat first | exact Ex0 | assumption | refine Ex1 ?_ | refine Ex2 ?_ | refine Ex3 ?_ | refine Ex4 ?_ | refine Ex5 ?_)⟩
 case upstream=>as_aux_lemma =>
  show Calls Tryz.prog 62 #[.string ⟨#[117,112,115,116,114,101,97,109]⟩] w (Gives (.tuple #[.string ⟨#[]⟩,.int .i64 1,.int .i64 1,.bool true,.bool true]) w)
  go_enter Tryz.func62,Tryz.ntmps62
  go_wp2
  exact bodyPost_ret (v:=.tuple #[.string ⟨#[]⟩,.int .i64 1,.int .i64 1,.bool true,.bool true]) (by simp [results,Tryz.results62,go_sem]) rfl ⟨rfl,by (repeat first | exact Ex0 | assumption | refine Ex1 ?_ | refine Ex2 ?_ | refine Ex3 ?_ | refine Ex4 ?_ | refine Ex5 ?_)⟩
 case peer=>as_aux_lemma =>
  show Calls Tryz.prog 62 #[.string ⟨#[112,101,101,114]⟩] w (Gives (.tuple #[.string ⟨#[117,112,115,116,114,101,97,109]⟩,.int .i64 1,.int .i64 2,.bool false,.bool true]) w)
  go_enter Tryz.func62,Tryz.ntmps62
  go_wp2
  exact bodyPost_ret (v:=.tuple #[.string ⟨#[117,112,115,116,114,101,97,109]⟩,.int .i64 1,.int .i64 2,.bool false,.bool true]) (by simp [results,Tryz.results62,go_sem]) rfl ⟨rfl,by (repeat first | exact Ex0 | assumption | refine Ex1 ?_ | refine Ex2 ?_ | refine Ex3 ?_ | refine Ex4 ?_ | refine Ex5 ?_)⟩
 case timeout=>as_aux_lemma =>
  show Calls Tryz.prog 62 #[.string ⟨#[116,105,109,101,111,117,116]⟩] w (Gives (.tuple #[.string ⟨#[117,112,115,116,114,101,97,109]⟩,.int .i64 1,.int .i64 1,.bool false,.bool true]) w)
  go_enter Tryz.func62,Tryz.ntmps62
  go_wp2
  exact bodyPost_ret (v:=.tuple #[.string ⟨#[117,112,115,116,114,101,97,109]⟩,.int .i64 1,.int .i64 1,.bool false,.bool true]) (by simp [results,Tryz.results62,go_sem]) rfl ⟨rfl,by (repeat first | exact Ex0 | assumption | refine Ex1 ?_ | refine Ex2 ?_ | refine Ex3 ?_ | refine Ex4 ?_ | refine Ex5 ?_)⟩
 case retries=>as_aux_lemma =>
  show Calls Tryz.prog 62 #[.string ⟨#[114,101,116,114,105,101,115]⟩] w (Gives (.tuple #[.string ⟨#[117,112,115,116,114,101,97,109]⟩,.int .i64 1,.int .i64 1,.bool false,.bool true]) w)
  go_enter Tryz.func62,Tryz.ntmps62
  go_wp2
  exact bodyPost_ret (v:=.tuple #[.string ⟨#[117,112,115,116,114,101,97,109]⟩,.int .i64 1,.int .i64 1,.bool false,.bool true]) (by simp [results,Tryz.results62,go_sem]) rfl ⟨rfl,by (repeat first | exact Ex0 | assumption | refine Ex1 ?_ | refine Ex2 ?_ | refine Ex3 ?_ | refine Ex4 ?_ | refine Ex5 ?_)⟩
 case server=>as_aux_lemma =>
  show Calls Tryz.prog 62 #[.string ⟨#[115,101,114,118,101,114]⟩] w (Gives (.tuple #[.string ⟨#[]⟩,.int .i64 0,.int .i64 0,.bool true,.bool true]) w)
  go_enter Tryz.func62,Tryz.ntmps62
  go_wp2
  exact bodyPost_ret (v:=.tuple #[.string ⟨#[]⟩,.int .i64 0,.int .i64 0,.bool true,.bool true]) (by simp [results,Tryz.results62,go_sem]) rfl ⟨rfl,by (repeat first | exact Ex0 | assumption | refine Ex1 ?_ | refine Ex2 ?_ | refine Ex3 ?_ | refine Ex4 ?_ | refine Ex5 ?_)⟩
 case name=>as_aux_lemma =>
  show Calls Tryz.prog 62 #[.string ⟨#[110,97,109,101]⟩] w (Gives (.tuple #[.string ⟨#[115,101,114,118,101,114]⟩,.int .i64 1,.int .i64 1048576,.bool false,.bool true]) w)
  go_enter Tryz.func62,Tryz.ntmps62
  go_wp2
  exact bodyPost_ret (v:=.tuple #[.string ⟨#[115,101,114,118,101,114]⟩,.int .i64 1,.int .i64 1048576,.bool false,.bool true]) (by simp [results,Tryz.results62,go_sem]) rfl ⟨rfl,by (repeat first | exact Ex0 | assumption | refine Ex1 ?_ | refine Ex2 ?_ | refine Ex3 ?_ | refine Ex4 ?_ | refine Ex5 ?_)⟩
 case dflt=>as_aux_lemma =>
  show Calls Tryz.prog 62 #[.string ⟨#[100,101,102,97,117,108,116]⟩] w (Gives (.tuple #[.string ⟨#[115,101,114,118,101,114]⟩,.int .i64 0,.int .i64 0,.bool false,.bool true]) w)
  go_enter Tryz.func62,Tryz.ntmps62
  go_wp2
  exact bodyPost_ret (v:=.tuple #[.string ⟨#[115,101,114,118,101,114]⟩,.int .i64 0,.int .i64 0,.bool false,.bool true]) (by simp [results,Tryz.results62,go_sem]) rfl ⟨rfl,by (repeat first | exact Ex0 | assumption | refine Ex1 ?_ | refine Ex2 ?_ | refine Ex3 ?_ | refine Ex4 ?_ | refine Ex5 ?_)⟩
 case location=>as_aux_lemma =>
  show Calls Tryz.prog 62 #[.string ⟨#[108,111,99,97,116,105,111,110]⟩] w (Gives (.tuple #[.string ⟨#[115,101,114,118,101,114]⟩,.int .i64 1,.int .i64 1,.bool true,.bool true]) w)
  go_enter Tryz.func62,Tryz.ntmps62
  go_wp2
  exact bodyPost_ret (v:=.tuple #[.string ⟨#[115,101,114,118,101,114]⟩,.int .i64 1,.int .i64 1,.bool true,.bool true]) (by simp [results,Tryz.results62,go_sem]) rfl ⟨rfl,by (repeat first | exact Ex0 | assumption | refine Ex1 ?_ | refine Ex2 ?_ | refine Ex3 ?_ | refine Ex4 ?_ | refine Ex5 ?_)⟩
 case root=>as_aux_lemma =>
  show Calls Tryz.prog 62 #[.string ⟨#[114,111,111,116]⟩] w (Gives (.tuple #[.string ⟨#[108,111,99,97,116,105,111,110]⟩,.int .i64 1,.int .i64 1,.bool false,.bool true]) w)
  go_enter Tryz.func62,Tryz.ntmps62
  go_wp2
  exact bodyPost_ret (v:=.tuple #[.string ⟨#[108,111,99,97,116,105,111,110]⟩,.int .i64 1,.int .i64 1,.bool false,.bool true]) (by simp [results,Tryz.results62,go_sem]) rfl ⟨rfl,by (repeat first | exact Ex0 | assumption | refine Ex1 ?_ | refine Ex2 ?_ | refine Ex3 ?_ | refine Ex4 ?_ | refine Ex5 ?_)⟩
 case index=>as_aux_lemma =>
  show Calls Tryz.prog 62 #[.string ⟨#[105,110,100,101,120]⟩] w (Gives (.tuple #[.string ⟨#[108,111,99,97,116,105,111,110]⟩,.int .i64 1,.int .i64 1,.bool false,.bool true]) w)
  go_enter Tryz.func62,Tryz.ntmps62
  go_wp2
  exact bodyPost_ret (v:=.tuple #[.string ⟨#[108,111,99,97,116,105,111,110]⟩,.int .i64 1,.int .i64 1,.bool false,.bool true]) (by simp [results,Tryz.results62,go_sem]) rfl ⟨rfl,by (repeat first | exact Ex0 | assumption | refine Ex1 ?_ | refine Ex2 ?_ | refine Ex3 ?_ | refine Ex4 ?_ | refine Ex5 ?_)⟩
 case gzip=>as_aux_lemma =>
  show Calls Tryz.prog 62 #[.string ⟨#[103,122,105,112]⟩] w (Gives (.tuple #[.string ⟨#[108,111,99,97,116,105,111,110]⟩,.int .i64 1,.int .i64 1,.bool false,.bool true]) w)
  go_enter Tryz.func62,Tryz.ntmps62
  go_wp2
  exact bodyPost_ret (v:=.tuple #[.string ⟨#[108,111,99,97,116,105,111,110]⟩,.int .i64 1,.int .i64 1,.bool false,.bool true]) (by simp [results,Tryz.results62,go_sem]) rfl ⟨rfl,by (repeat first | exact Ex0 | assumption | refine Ex1 ?_ | refine Ex2 ?_ | refine Ex3 ?_ | refine Ex4 ?_ | refine Ex5 ?_)⟩
 case expires=>as_aux_lemma =>
  show Calls Tryz.prog 62 #[.string ⟨#[101,120,112,105,114,101,115]⟩] w (Gives (.tuple #[.string ⟨#[108,111,99,97,116,105,111,110]⟩,.int .i64 1,.int .i64 1,.bool false,.bool true]) w)
  go_enter Tryz.func62,Tryz.ntmps62
  go_wp2
  exact bodyPost_ret (v:=.tuple #[.string ⟨#[108,111,99,97,116,105,111,110]⟩,.int .i64 1,.int .i64 1,.bool false,.bool true]) (by simp [results,Tryz.results62,go_sem]) rfl ⟨rfl,by (repeat first | exact Ex0 | assumption | refine Ex1 ?_ | refine Ex2 ?_ | refine Ex3 ?_ | refine Ex4 ?_ | refine Ex5 ?_)⟩
 case proxy=>as_aux_lemma =>
  show Calls Tryz.prog 62 #[.string ⟨#[112,114,111,120,121]⟩] w (Gives (.tuple #[.string ⟨#[108,111,99,97,116,105,111,110]⟩,.int .i64 1,.int .i64 1,.bool false,.bool true]) w)
  go_enter Tryz.func62,Tryz.ntmps62
  go_wp2
  exact bodyPost_ret (v:=.tuple #[.string ⟨#[108,111,99,97,116,105,111,110]⟩,.int .i64 1,.int .i64 1,.bool false,.bool true]) (by simp [results,Tryz.results62,go_sem]) rfl ⟨rfl,by (repeat first | exact Ex0 | assumption | refine Ex1 ?_ | refine Ex2 ?_ | refine Ex3 ?_ | refine Ex4 ?_ | refine Ex5 ?_)⟩
 case cache=>as_aux_lemma =>
  show Calls Tryz.prog 62 #[.string ⟨#[99,97,99,104,101]⟩] w (Gives (.tuple #[.string ⟨#[108,111,99,97,116,105,111,110]⟩,.int .i64 0,.int .i64 0,.bool false,.bool true]) w)
  go_enter Tryz.func62,Tryz.ntmps62
  go_wp2
  exact bodyPost_ret (v:=.tuple #[.string ⟨#[108,111,99,97,116,105,111,110]⟩,.int .i64 0,.int .i64 0,.bool false,.bool true]) (by simp [results,Tryz.results62,go_sem]) rfl ⟨rfl,by (repeat first | exact Ex0 | assumption | refine Ex1 ?_ | refine Ex2 ?_ | refine Ex3 ?_ | refine Ex4 ?_ | refine Ex5 ?_)⟩
 case limit=>as_aux_lemma =>
  show Calls Tryz.prog 62 #[.string ⟨#[108,105,109,105,116]⟩] w (Gives (.tuple #[.string ⟨#[108,111,99,97,116,105,111,110]⟩,.int .i64 2,.int .i64 2,.bool false,.bool true]) w)
  go_enter Tryz.func62,Tryz.ntmps62
  go_wp2
  exact bodyPost_ret (v:=.tuple #[.string ⟨#[108,111,99,97,116,105,111,110]⟩,.int .i64 2,.int .i64 2,.bool false,.bool true]) (by simp [results,Tryz.results62,go_sem]) rfl ⟨rfl,by (repeat first | exact Ex0 | assumption | refine Ex1 ?_ | refine Ex2 ?_ | refine Ex3 ?_ | refine Ex4 ?_ | refine Ex5 ?_)⟩
 case ret=>as_aux_lemma =>
  show Calls Tryz.prog 62 #[.string ⟨#[114,101,116,117,114,110]⟩] w (Gives (.tuple #[.string ⟨#[108,111,99,97,116,105,111,110]⟩,.int .i64 1,.int .i64 2,.bool false,.bool true]) w)
  go_enter Tryz.func62,Tryz.ntmps62
  go_wp2
  exact bodyPost_ret (v:=.tuple #[.string ⟨#[108,111,99,97,116,105,111,110]⟩,.int .i64 1,.int .i64 2,.bool false,.bool true]) (by simp [results,Tryz.results62,go_sem]) rfl ⟨rfl,by (repeat first | exact Ex0 | assumption | refine Ex1 ?_ | refine Ex2 ?_ | refine Ex3 ?_ | refine Ex4 ?_ | refine Ex5 ?_)⟩
theorem dk_none {l:List UInt8} (h:dkOf l=none) (k:Dk):l ≠ nameD k:=by
 unfold dkOf at h
 rw [List.find?_eq_none] at h
 have hk:k ∈ allD:=by cases k <;> simp [allD]
 have:=h k hk
 intro e
 exact this (decide_eq_true e.symm)
theorem dk_some {l:List UInt8} {k:Dk} (h:dkOf l=some k):l=nameD k:=by
 unfold dkOf at h
 have h2:=List.find?_some (p:=fun k=>decide (nameD k=l)) h
 exact (of_decide_eq_true h2).symm
theorem rwhere_no (l:List UInt8) (h:dkOf l=none) (w:World):Calls Tryz.prog 62 #[.string (str l)] w (Gives (.tuple #[.string ⟨#[]⟩,.int .i64 0,.int .i64 0,.bool false,.bool false]) w):=by
 obtain ⟨sv,hsv⟩:∃ s,s=str l:=⟨_,rfl⟩
 have hq:∀ k,¬ sv.toList=nameD k:=fun k=>by rw [hsv,str_tl]; exact dk_none h k
 rw [← hsv]
 have n0:¬ sv.toList=[107,101,101,112]:=hq .keep
 have b0:(sv.toList == [107,101,101,112])=false:=beq_eq_false_iff_ne.2 n0
 have n1:¬ sv.toList=[98,111,100,121]:=hq .body
 have b1:(sv.toList == [98,111,100,121])=false:=beq_eq_false_iff_ne.2 n1
 have n2:¬ sv.toList=[115,116,111,114,101]:=hq .store
 have b2:(sv.toList == [115,116,111,114,101])=false:=beq_eq_false_iff_ne.2 n2
 have n3:¬ sv.toList=[99,111,110,110,115]:=hq .conns
 have b3:(sv.toList == [99,111,110,110,115])=false:=beq_eq_false_iff_ne.2 n3
 have n4:¬ sv.toList=[117,112,115,116,114,101,97,109]:=hq .upstream
 have b4:(sv.toList == [117,112,115,116,114,101,97,109])=false:=beq_eq_false_iff_ne.2 n4
 have n5:¬ sv.toList=[112,101,101,114]:=hq .peer
 have b5:(sv.toList == [112,101,101,114])=false:=beq_eq_false_iff_ne.2 n5
 have n6:¬ sv.toList=[116,105,109,101,111,117,116]:=hq .timeout
 have b6:(sv.toList == [116,105,109,101,111,117,116])=false:=beq_eq_false_iff_ne.2 n6
 have n7:¬ sv.toList=[114,101,116,114,105,101,115]:=hq .retries
 have b7:(sv.toList == [114,101,116,114,105,101,115])=false:=beq_eq_false_iff_ne.2 n7
 have n8:¬ sv.toList=[115,101,114,118,101,114]:=hq .server
 have b8:(sv.toList == [115,101,114,118,101,114])=false:=beq_eq_false_iff_ne.2 n8
 have n9:¬ sv.toList=[110,97,109,101]:=hq .name
 have b9:(sv.toList == [110,97,109,101])=false:=beq_eq_false_iff_ne.2 n9
 have n10:¬ sv.toList=[100,101,102,97,117,108,116]:=hq .dflt
 have b10:(sv.toList == [100,101,102,97,117,108,116])=false:=beq_eq_false_iff_ne.2 n10
 have n11:¬ sv.toList=[108,111,99,97,116,105,111,110]:=hq .location
 have b11:(sv.toList == [108,111,99,97,116,105,111,110])=false:=beq_eq_false_iff_ne.2 n11
 have n12:¬ sv.toList=[114,111,111,116]:=hq .root
 have b12:(sv.toList == [114,111,111,116])=false:=beq_eq_false_iff_ne.2 n12
 have n13:¬ sv.toList=[105,110,100,101,120]:=hq .index
 have b13:(sv.toList == [105,110,100,101,120])=false:=beq_eq_false_iff_ne.2 n13
 have n14:¬ sv.toList=[103,122,105,112]:=hq .gzip
 have b14:(sv.toList == [103,122,105,112])=false:=beq_eq_false_iff_ne.2 n14
 have n15:¬ sv.toList=[101,120,112,105,114,101,115]:=hq .expires
 have b15:(sv.toList == [101,120,112,105,114,101,115])=false:=beq_eq_false_iff_ne.2 n15
 have n16:¬ sv.toList=[112,114,111,120,121]:=hq .proxy
 have b16:(sv.toList == [112,114,111,120,121])=false:=beq_eq_false_iff_ne.2 n16
 have n17:¬ sv.toList=[99,97,99,104,101]:=hq .cache
 have b17:(sv.toList == [99,97,99,104,101])=false:=beq_eq_false_iff_ne.2 n17
 have n18:¬ sv.toList=[108,105,109,105,116]:=hq .limit
 have b18:(sv.toList == [108,105,109,105,116])=false:=beq_eq_false_iff_ne.2 n18
 have n19:¬ sv.toList=[114,101,116,117,114,110]:=hq .ret
 have b19:(sv.toList == [114,101,116,117,114,110])=false:=beq_eq_false_iff_ne.2 n19
 clear hsv hq
 go_enter Tryz.func62,Tryz.ntmps62
 go_wp2
 exact bodyPost_ret (v:=.tuple #[.string ⟨#[]⟩,.int .i64 0,.int .i64 0,.bool false,.bool false]) (by simp [results,Tryz.results62,go_sem]) rfl ⟨rfl,by (repeat first | exact Ex0 | assumption | refine Ex1 ?_ | refine Ex2 ?_ | refine Ex3 ?_ | refine Ex4 ?_ | refine Ex5 ?_)⟩
end Go.Proofs.YtmnohicojefhfaaGreatDoor
end
section
namespace Go.Proofs.YtmnohicojefhfaaGreatDoor
open Go.RowKit
def numV (s:List UInt8):Int:=(numL 10 1000000000000000000 s).1
def numE (s:List UInt8):Bool:=!(decide ((numL 10 1000000000000000000 s).2=0))
theorem numC_eq (s:List UInt8):numC s=if numE s then none else some (numV s):=by
 unfold numC numE numV
 by_cases h:(numL 10 1000000000000000000 s).2=0
 ·rw [if_pos h,decide_eq_true h]; rfl
 ·rw [if_neg h,decide_eq_false h]; rfl
def doT (k:Dk) (a:List (List UInt8)) (c:Cf14):Cf14 × Bool :=
 let w0:=a.headD []
 let w1:=(a.drop 1).headD []
 match k with
 | .keep=>({ c with keep:=numV w0 },numE w0)
 | .body=>({ c with body:=numV w0 },numE w0)
 | .store=>({ c with store:=numV w0 },numE w0)
 | .conns=>({ c with conns:=numV w0 },numE w0)
 | .upstream=>({ c with ups:=c.ups ++ [⟨w0,[],10,1⟩] },false)
 | .peer=>if a.length=2 then (cfUp c fun u=>{ u with peers:=u.peers ++ [⟨numV w0,numV w1⟩] },numE w0 || numE w1) else (cfUp c fun u=>{ u with peers:=u.peers ++ [⟨numV w0,8⟩] },numE w0)
 | .timeout=>(cfUp c fun u=>{ u with timeout:=numV w0 },numE w0)
 | .retries=>(cfUp c fun u=>{ u with retries:=numV w0 },numE w0)
 | .server=>({ c with srvs:=c.srvs ++ [⟨[],false,[]⟩] },false)
 | .name=>(cfSr c fun s=>{ s with names:=s.names ++ a },false)
 | .dflt=>(cfSr c fun s=>{ s with dflt:=true },false)
 | .location=>(cfSr c fun s=>{ s with locs:=s.locs ++ [{ lo0 with pre:=w0 }] },false)
 | .root=>(cfLo c fun l=>{ l with kind:=1,root:=w0 },false)
 | .index=>(cfLo c fun l=>{ l with index:=w0 },false)
 | .gzip=>(cfLo c fun l=>{ l with gzip:=numV w0 },numE w0)
 | .expires=>(cfLo c fun l=>{ l with expires:=numV w0 },numE w0)
 | .proxy=>(cfLo c fun l=>{ l with kind:=2,up:=w0 },false)
 | .cache=>(cfLo c fun l=>{ l with cache:=true },false)
 | .limit=>(cfLo c fun l=>{ l with rate:=numV w0,burst:=numV w1 },numE w0 || numE w1)
 | .ret=>(cfLo c fun l=>if a.length=2 then { l with kind:=3,status:=numV w0,goal:=w1 } else { l with kind:=3,status:=numV w0 },numE w0)
theorem doT_eq (k:Dk) (a:List (List UInt8)) (c:Cf14):doD k a c=if (doT k a c).2 then none else some (doT k a c).1:=by
 obtain ⟨w0,hw0⟩:∃ w0,w0=a.headD []:=⟨_,rfl⟩
 obtain ⟨w1,hw1⟩:∃ w1,w1=(a.drop 1).headD []:=⟨_,rfl⟩
 have q0:=numC_eq w0
 have q1:=numC_eq w1
 unfold doD doT
 dsimp only
 rw [← hw0,← hw1]
 rcases Bool.eq_false_or_eq_true (numE w0) with h0 | h0 <;> rcases Bool.eq_false_or_eq_true (numE w1) with h1 | h1 <;> rw [h0] at q0 <;> rw [h1] at q1 <;> cases k <;> by_cases h2:a.length=2 <;> simp [h0,h1,h2,q0,q1]
section
variable {w w':World} {o o':Ow} {p uc sc:Nat} {c:Cf14} {X:Xt} {U:List (Up14 × Hd)} {S:List (Sr14 × Hd × Hd)} {UA SA:Option Addr}
theorem Rf0.word (h:Rf0 w o p c X U UA uc S SA sc) (i:Nat) (u:Value) (X':Xt) (he:(rbC c X UA uc SA sc).setIfInBounds i u=rbC c X' UA uc SA sc):Rf0 (w.setCell ⟨p,i,none⟩ u) o p c X' U UA uc S SA sc∧Stp (fun i=>i=1) w o (w.setCell ⟨p,i,none⟩ u) o:=by
 have s:Stp (fun i=>i=1) w o (w.setCell ⟨p,i,none⟩ u) o:=Stp.set p i u (fun _=>h.own)
 exact ⟨(h.cell i u he rfl rfl).1,s⟩
theorem Rf0.stpC {K:Nat → Prop} (h:Rf0 w o p c X U UA uc S SA sc) (s:Stp K w o w' o') (hk:∀ i,KCr i → ¬ K i):Rf0 w' o' p c X U UA uc S SA sc :=
 ⟨(s.own p h.lt).trans h.own,(s.keep p h.lt (by rw [h.own]; exact hk 1 (by unfold KCr; omega))).trans h.row,h.hU,h.hS,h.ups.stp s (hk 2 (by unfold KCr; omega)),h.una,h.srvs.stp s (hk 3 (by unfold KCr; omega)),h.sna,
  fun i x hx=>⟨(h.peers i x hx).1.stp s (hk _ (by unfold KCr; omega)),(h.peers i x hx).2⟩,fun i x hx=>⟨(h.names i x hx).1.stp s (hk _ (by unfold KCr; omega)),(h.names i x hx).2⟩,fun i x hx=>⟨(h.locs i x hx).1.stp s (hk _ (by unfold KCr; omega)),(h.locs i x hx).2⟩⟩
theorem Rf0.loF {a:List (Sr14 × Hd × Hd)} {x:Sr14 × Hd × Hd} {lo:List Lo14} {l:Lo14} {g f:Nat} (h:Rf0 w o p c X U UA uc (a ++ [x]) SA sc) (hx:x.1.locs=lo ++ [l]) (hA:x.2.2.1=some ⟨g,f,none⟩) (j:Nat) (u:Value) (hu:(loV l)[j]?=some u) :
  w.cell? ⟨g,f + lo.length * 12 + j,none⟩=some u∧w.frozen? ⟨g,f + lo.length * 12 + j,none⟩=false:=by
 obtain ⟨lo2,l2,g2,f2,e1,e2,_,hc⟩:=h.loX (by rw [hx]; simp)
 rw [hx] at e1
 obtain ⟨e3,e4⟩:=List.append_inj' e1 rfl
 rw [hA] at e2
 cases e2
 cases e4
 subst e3
 exact hc j u hu
end
def NuQ (w:World) (o:Ow) (p:Nat) (c:Cf14) (X:Xt) (U:List (Up14 × Hd)) (UA:Option Addr) (uc:Nat) (S:List (Sr14 × Hd × Hd)) (SA:Option Addr) (sc:Nat) (z:Int) (e:Ending) (w':World):Prop :=
 e=.returned (.int .i64 z)∧Stp (fun i=>i=1) w o w' o∧Rf0 w' o p c X U UA uc S SA sc
theorem rnumber_r (w:World) (o:Ow) (p uc sc:Nat) (c:Cf14) (x6 x7:Value) (b:Bool) (U:List (Up14 × Hd)) (S:List (Sr14 × Hd × Hd)) (UA SA:Option Addr) (h:Rf0 w o p c (x6,x7,.bool b) U UA uc S SA sc) (s:List UInt8) (hs:s.length ≤ 65536) :
  Calls Tryz.prog 109 #[.pointer (some ⟨p,0,none⟩),.string (str s)] w (NuQ w o p c (x6,x7,.bool (b || numE s)) U UA uc S SA sc (numV s)):=by
 have CD:=Lib.hid (fun w=>rDecimal_c s (by unfold maxLen; omega) w)
 have HE:Hid (numE s=!(decide ((numL 10 1000000000000000000 s).2=0))):=Lib.hid rfl
 have HV:Hid (numV s=(numL 10 1000000000000000000 s).1):=Lib.hid rfl
 rw [HV.out]
 obtain ⟨sv,hsv⟩:∃ v,v=str s:=⟨_,rfl⟩
 obtain ⟨z,hz⟩:∃ z,z=(numL 10 1000000000000000000 s).1:=⟨_,rfl⟩
 obtain ⟨er,her⟩:∃ z,z=(numL 10 1000000000000000000 s).2:=⟨_,rfl⟩
 rw [← hsv,← hz,← her] at CD
 rw [← her] at HE
 rw [← hsv,← hz]
 have HH:=Lib.hid h
 obtain ⟨bb,hbb⟩:∃ b',b'=(b || numE s):=⟨_,rfl⟩
 rw [← hbb]
 by_cases h0:er=0
 ·subst h0
  have hbb':bb=b:=by rw [hbb,HE.out]; simp
  have HB:=Lib.hid hbb'
  clear hsv hz her hbb hbb' h HV
  go_enter Tryz.func109,Tryz.ntmps109
  go_wp2_with (go_at_call 137; refine (CD.out _).mono ?_; rintro e' w1 ⟨rfl,hx1⟩)
  go_ret
  exact ⟨rfl,Stp.ext hx1,by rw [HB.out]; exact HH.out.ext hx1⟩
 ·have e0:(er == 0)=false:=by rw [beq_eq_false_iff_ne]; exact h0
  have e1:(er != 0)=true:=by rw [bne,e0]; rfl
  have hbb':bb=true:=by rw [hbb,HE.out]; simp [h0]
  have HB:=Lib.hid hbb'
  clear hsv hz her hbb hbb' h HV
  go_enter Tryz.func109,Tryz.ntmps109
  go_wp2_with (go_at_call 137; refine (CD.out _).mono ?_; rintro e' w1 ⟨rfl,hx1⟩; have HH1:=Lib.hid (HH.out.ext hx1); obtain ⟨q8,r8⟩:=row_facts HH1.out.row 8 (.bool b) rfl)
  go_ret
  have ht:=HH1.out.word 8 (.bool true) (x6,x7,.bool bb) (by rw [HB.out]; rfl)
  exact ⟨rfl,(Stp.ext hx1).tr ht.2,ht.1⟩
end Go.Proofs.YtmnohicojefhfaaGreatDoor
end
section
namespace Go.Proofs.YtmnohicojefhfaaGreatDoor
open Go.RowKit
def RfB (w:World) (o:Ow) (p:Nat) (c:Cf14) (x6 x7:Value) (b:Bool):Prop:=∃ U UA uc S SA sc,Rf0 w o p c (x6,x7,.bool b) U UA uc S SA sc
def RoQ (w:World) (o:Ow) (p:Nat) (c:Cf14) (x6 x7:Value) (b:Bool) (e:Ending) (w':World):Prop:=e=.returned (.tuple #[])∧∃ o',Stp KCr w o w' o'∧RfB w' o' p c x6 x7 b
structure LoCx where
 c:Cf14
 U:List (Up14 × Hd)
 UA:Option Addr
 uc:Nat
 a:List (Sr14 × Hd × Hd)
 x:Sr14 × Hd × Hd
 lo:List Lo14
 g:Nat
 f:Nat
 sc:Nat
 g2:Nat
 f2:Nat
 F:Nat
def LoCx.cfg (K:LoCx) (l:Lo14):Cf14:={ K.c with srvs:=(K.a ++ [locS K.x (K.lo ++ [l])]).map (·.1) }
structure LcA (K:LoCx) (w:World) (o:Ow) (p:Nat) (X:Xt) (l:Lo14):Prop where
 r:Rf0 w o p (K.cfg l) X K.U K.UA K.uc (K.a ++ [locS K.x (K.lo ++ [l])]) (some ⟨K.g,K.f,none⟩) K.sc
 hA:K.x.2.2.1=some ⟨K.g2,K.f2,none⟩
 hF:K.F=K.f2 + K.lo.length * 12
section
variable {K:LoCx} {w w':World} {o o':Ow} {p:Nat} {X:Xt} {l:Lo14}
theorem LcA.ext (h:LcA K w o p X l) (e:Ext w w'):LcA K w' o p X l:=⟨h.r.ext e,h.hA,h.hF⟩
theorem LcA.fact (h:LcA K w o p X l) (j:Nat) (u:Value) (hu:(loV l)[j]?=some u):w.cell? ⟨K.g2,K.F + j,none⟩=some u∧w.frozen? ⟨K.g2,K.F + j,none⟩=false:=by
 rw [h.hF]
 exact h.r.loF (x:=locS K.x (K.lo ++ [l])) rfl h.hA j u hu
theorem LcA.set (h:LcA K w o p X l) (j:Nat) (hj:j < 12) (u:Value) (l':Lo14) (hv:loV l'=(loV l).set j u):LcA K (w.setCell ⟨K.g2,K.F + j,none⟩ u) o p X l'∧Stp KCr w o (w.setCell ⟨K.g2,K.F + j,none⟩ u) o:=by
 have:=h.r.lo5 (x:=locS K.x (K.lo ++ [l])) rfl h.hA (l':=l') j hj u hv
 rw [← Nat.add_assoc,← h.hF] at this
 exact ⟨⟨this.1,h.hA,h.hF⟩,this.2⟩
theorem LcA.num {x6 x7:Value} {b:Bool} (h:LcA K w o p (x6,x7,.bool b) l) (s:List UInt8) (hs:s.length ≤ 65536) :
  Calls Tryz.prog 109 #[.pointer (some ⟨p,0,none⟩),.string (str s)] w fun e w'=>e=.returned (.int .i64 (numV s))∧Stp (fun i=>i=1) w o w' o∧LcA K w' o p (x6,x7,.bool (b || numE s)) l :=
 (rnumber_r w o p _ _ _ x6 x7 b _ _ _ _ h.r s hs).mono fun _ _ ⟨h1,h2,h3⟩=>⟨h1,h2,h3,h.hA,h.hF⟩
theorem LcA.open_ {c:Cf14} {x6 x7:Value} {b:Bool} (h:RfB w o p c x6 x7 b) (hL:LocOk c) (hM:CfB 1099511627776 c):∃ K l,LcA K w o p (x6,x7,.bool b) l∧(∀ G,cfLo c G=K.cfg (G l))∧K.a.length < 1099511627776∧K.lo.length < 1099511627776 ∧
  w.cell? ⟨p,5,none⟩=some (.slice (some ⟨K.g,K.f,none⟩) (K.a.length + 1) K.sc)∧w.cell? ⟨K.g,K.f + K.a.length * 3 + 2,none⟩=some (.slice (some ⟨K.g2,K.f2,none⟩) (K.lo.length + 1) K.x.2.2.2):=by
 obtain ⟨U,UA,uc,S,SA,sc,h⟩:=h
 obtain ⟨a,x,g,f,rfl,rfl,hl,hcs,hg,hce⟩:=h.srX hL.ne
 obtain ⟨lo,l,g2,f2,hlo,hA2,hg2,hce2⟩:=h.loX (hL.last hcs)
 have h5:=h.c5
 rw [hl] at h5
 have h2:=(hce 2 _ rfl).1
 rw [hA2,hlo,show (lo ++ [l]).length=lo.length + 1 from by simp] at h2
 have hx:locS x (lo ++ [l])=x:=by unfold locS; rw [← hlo]
 refine ⟨⟨c,U,UA,uc,a,x,lo,g,f,sc,g2,f2,f2 + lo.length * 12⟩,l,⟨?_,hA2,rfl⟩,fun G=>cfLo_eq hcs hlo G,by have:=hM.srvs; show a.length < _; omega,?_,h5,h2⟩
 ·have e:(⟨c,U,UA,uc,a,x,lo,g,f,sc,g2,f2,f2 + lo.length * 12⟩:LoCx).cfg l=c:=by
   unfold LoCx.cfg
   dsimp only
   rw [hx,List.map_append]
   show { c with srvs:=a.map (·.1) ++ [x.1] }=c
   rw [← hcs]
  rw [e]
  dsimp only
  rw [hx]
  exact h
 ·have:=hM.locs x.1 (by rw [hcs]; simp)
  rw [hlo,List.length_append,List.length_singleton] at this
  show lo.length < _
  omega
theorem LcA.done {x6 x7:Value} {b:Bool} (h:LcA K w' o' p (x6,x7,.bool b) l) (st:Stp KCr w o w' o'):RoQ w o p (K.cfg l) x6 x7 b (.returned (.tuple #[])) w':=⟨rfl,o',st,_,_,_,_,_,_,h.r⟩
end
theorem KCr1 {w w':World} {o o':Ow} (s:Stp (fun i=>i=1) w o w' o'):Stp KCr w o w' o':=s.mono fun _ h=>by unfold KCr; omega
theorem kc0:¬ KCr 0:=by unfold KCr; omega
theorem arg0 {w:World} {o:Ow} {A:Option Addr} {s:List UInt8} {r:List (List UInt8)} (h:RdZ w o A (strC (s :: r))):∃ b g,A=some ⟨b,g,none⟩∧∀ (K:Nat → Prop) w' o',Stp K w o w' o' → ¬ K 0 → ∀ j u,(strC (s :: r))[j]?=some u → w'.cell? ⟨b,g + j,none⟩=some u:=by
 rcases h.1 with h1 | ⟨b,g,hA,hc⟩
 ·cases h1
 ·refine ⟨b,g,hA,fun K w' o' st hk j u hj=>?_⟩
  have h2:=(h.stp st hk).1
  rcases h2 with h2 | ⟨b2,g2,hA2,hc2⟩
  ·cases h2
  ·rw [hA] at hA2
   cases hA2
   exact hc2 j u hj
end Go.Proofs.YtmnohicojefhfaaGreatDoor
end
