/-
The records of directives in memory.
-/
import Derived.Test.YtmnohicojefhfaaGreatDoorCFa
import Derived.Test.YtmnohicojefhfaaGreatDoorOWa
import Derived.WalkMore
import Derived.Test.YtmnohicojefhfaaGreatDoorNUa
import Derived.BigRegion
set_option maxRecDepth 100000
set_option maxHeartbeats 8000000
set_option linter.unusedVariables false
set_option linter.unusedSimpArgs false
section
namespace Go.Proofs.YtmnohicojefhfaaGreatDoor
open Go.RowKit
def ndC (n:Nr) (A:Option Addr) (c:Nat) (B:Option Addr) (d:Nat):Array Value:=#[.slice A n.ws.length c,.int .i64 (n.line:Int),.bool n.block,.slice B n.kids.length d]
def ptC (p:Nat):Value:=.pointer (some ⟨p,0,none⟩)
def strC (l:List (List UInt8)):List Value:=l.map fun x=>.string (str x)
structure NdAt (w:World) (o:Ow) (k p:Nat) (ps:List Nat) (n:Nr):Prop where
 own:o p=k
 at_:∃ A c B d,w.heap[p]?=some (.cells (ndC n A c B d) 58 (0,0))∧Sl w o (k + 1) 1 A n.ws.length c (strC n.ws)∧(A=none → c=0)∧Sl w o (k + 2) 1 B n.kids.length d (n.kids.map fun i=>ptC (ps.getD i 0))∧(B=none → d=0)
structure NsAt (w:World) (o:Ow) (ps:List Nat) (ns:List Nr):Prop where
 len:ps.length=ns.length
 kids:∀ n ∈ ns,∀ i ∈ n.kids,i < ns.length
 at_:∀ j n,ns[j]?=some n → NdAt w o (10 + 3 * j) (ps.getD j 0) ps n
section
variable {K:Nat → Prop} {w w':World} {o o':Ow} {k p q:Nat} {ps:List Nat} {n:Nr} {ns:List Nr}
theorem NdAt.lt (h:NdAt w o k p ps n):p < w.heap.size:=by obtain ⟨A,c,B,d,hr,_⟩:=h.at_; exact row_lt hr
theorem NdAt.stp (h:NdAt w o k p ps n) (s:Stp K w o w' o') (hk:¬ K k∧¬ K (k + 1)∧¬ K (k + 2)):NdAt w' o' k p ps n:=by
 have hl:=h.lt
 obtain ⟨A,c,B,d,hr,h1,h2,h3,h4⟩:=h.at_
 exact ⟨(s.own p hl).trans h.own,A,c,B,d,(s.keep p hl (by rw [h.own]; exact hk.1)).trans hr,h1.stp s hk.2.1,h2,h3.stp s hk.2.2,h4⟩
theorem NsAt.stp (h:NsAt w o ps ns) (s:Stp K w o w' o') (hk:∀ i,10 ≤ i → ¬ K i):NsAt w' o' ps ns :=
 ⟨h.len,h.kids,fun j n hj=>(h.at_ j n hj).stp s ⟨hk _ (by omega),hk _ (by omega),hk _ (by omega)⟩⟩
theorem NsAt.ext (h:NsAt w o ps ns) (e:Ext w w'):NsAt w' o ps ns:=h.stp (K:=fun _=>False) (Stp.ext e) (fun _ _ x=>x)
theorem NdAt.more (h:NdAt w o k p ps n) (hn:∀ i ∈ n.kids,i < ps.length) (q:Nat):NdAt w o k p (ps ++ [q]) n:=by
 obtain ⟨A,c,B,d,hr,h1,h2,h3,h4⟩:=h.at_
 refine ⟨h.own,A,c,B,d,hr,h1,h2,?_,h4⟩
 have:(n.kids.map fun i=>ptC ((ps ++ [q]).getD i 0))=n.kids.map fun i=>ptC (ps.getD i 0):=by
  refine List.map_congr_left fun i hi=>?_
  have hl:=hn i hi
  simp only [List.getD_eq_getElem?_getD]
  rw [List.getElem?_append_left hl]
 rw [this]; exact h3
theorem getD_last (ps:List Nat) (q:Nat):(ps ++ [q]).getD ps.length 0=q:=by simp
theorem getD_old (ps:List Nat) (q:Nat) {j:Nat} (h:j < ps.length):(ps ++ [q]).getD j 0=ps.getD j 0:=by
 simp only [List.getD_eq_getElem?_getD]; rw [List.getElem?_append_left h]
theorem NsAt.new (h:NsAt w o ps ns) (s:Stp (fun i=>i=10 + 3 * ns.length ∨ i=10 + 3 * ns.length + 1 ∨ i=10 + 3 * ns.length + 2) w o w' o') (hn:NdAt w' o' (10 + 3 * ns.length) q ps n) (hk:n.kids=[]):NsAt w' o' (ps ++ [q]) (ns ++ [n]):=by
 refine ⟨by simp [h.len],fun m hm i hi=>?_,fun j m hj=>?_⟩
 ·rw [List.length_append]
  rcases List.mem_append.1 hm with hm | hm
  ·have:=h.kids m hm i hi; omega
  ·rw [List.mem_singleton] at hm; subst hm; rw [hk] at hi; cases hi
 ·by_cases hjl:j < ns.length
  ·rw [List.getElem?_append_left hjl] at hj
   have h1:=(h.at_ j m hj).stp s ⟨by omega,by omega,by omega⟩
   have hmem:=List.mem_of_getElem? hj
   rw [getD_old ps q (by rw [h.len]; exact hjl)]
   exact h1.more (fun i hi=>by rw [h.len]; exact h.kids m hmem i hi) q
  ·obtain rfl:j=ns.length:=by
    have:=(List.getElem?_eq_some_iff.1 hj).1
    simp at this; omega
   rw [List.getElem?_append_right (Nat.le_refl _)] at hj
   simp at hj
   subst hj
   rw [← h.len,getD_last]
   rw [h.len]
   exact hn.more (fun i hi=>by rw [hk] at hi; cases hi) q
theorem NsAt.turn (h:NsAt w o ps ns) (j:Nat) (f:Nr → Nr) (hj:ns[j]?=some n) (s:Stp (fun i=>i=10 + 3 * j ∨ i=10 + 3 * j + 1 ∨ i=10 + 3 * j + 2) w o w' o')
  (hn:NdAt w' o' (10 + 3 * j) (ps.getD j 0) ps (f n)) (hk:∀ i ∈ (f n).kids,i < ns.length):NsAt w' o' ps (ns.modify j f):=by
 refine ⟨by rw [List.length_modify]; exact h.len,fun m hm i hi=>?_,fun x m hx=>?_⟩
 ·rw [List.length_modify]
  obtain ⟨x,hx⟩:=List.getElem?_of_mem hm
  rw [List.getElem?_modify] at hx
  by_cases e:j=x
  ·subst e
   simp [hj] at hx
   subst hx
   exact hk i hi
  ·simp [e] at hx
   exact h.kids m (List.mem_of_getElem? hx) i hi
 ·rw [List.getElem?_modify] at hx
  by_cases e:j=x
  ·subst e
   simp [hj] at hx
   subst hx
   exact hn
  ·simp [e] at hx
   exact (h.at_ x m hx).stp s ⟨by omega,by omega,by omega⟩
end
def FoAt (w:World):List Nat → Fo → Prop
 | ps,.nil=>ps=[]
 | ps,.node ws l b k n=>∃ p ps' A c pk B d,ps=p :: ps'∧w.heap[p]?=some (.cells #[.slice A ws.length c,.int .i64 (l:Int),.bool b,.slice B pk.length d] 58 (0,0))∧Rd w A (strC ws)∧Rd w B (pk.map ptC)∧FoAt w pk k∧FoAt w ps' n∧ws.length ≤ c
theorem FoAt.ext {w w':World} (e:Ext w w'):∀ {f:Fo} {ps:List Nat},FoAt w ps f → FoAt w' ps f:=by
 intro f
 induction f with
 | nil=>intro ps h; exact h
 | node ws l b k n ihk ihn =>
  rintro ps ⟨p,ps',A,c,pk,B,d,h0,h1,h2,h3,h4,h5,h6⟩
  exact ⟨p,ps',A,c,pk,B,d,h0,(e.block p (row_lt h1)).trans h1,h2.ext e,h3.ext e,ihk h4,ihn h5,h6⟩
theorem FoAt.of {w:World} {o:Ow} {ps:List Nat} {ns:List Nr} (h:NsAt w o ps ns):∀ (f:Fo) (s:Nat),(∀ i n,(f.recs s)[i]?=some n → ns[s + i]?=some n) → FoAt w ((f.roots s).map fun i=>ps.getD i 0) f:=by
 intro f
 induction f with
 | nil=>intro s _; rfl
 | node ws l b k n ihk ihn =>
  intro s hs
  have h0:=hs 0 ⟨ws,l,b,k.roots (s + 1)⟩ rfl
  obtain ⟨A,c,B,d,hr,h1,h2,h3,h4⟩:=(h.at_ _ _ h0).at_
  have hk:=ihk (s + 1) fun i m hi=>by
   have:=hs (i + 1) m (by
    simp only [Fo.recs,List.getElem?_cons_succ]
    rw [List.getElem?_append_left (List.getElem?_eq_some_iff.1 hi).1]; exact hi)
   rw [show s + 1 + i=s + (i + 1) from by omega]; exact this
  have hn:=ihn (s + 1 + k.size) fun i m hi=>by
   have:=hs (1 + k.size + i) m (by
    simp only [Fo.recs]
    rw [show 1 + k.size + i=(k.size + i) + 1 from by omega,List.getElem?_cons_succ,List.getElem?_append_right (by rw [Fo.recs_len]; omega),Fo.recs_len,show k.size + i - k.size=i from by omega]
    exact hi)
   rw [show s + 1 + k.size + i=s + (1 + k.size + i) from by omega]; exact this
  refine ⟨ps.getD s 0,_,A,c,_,B,d,rfl,?_,h1.rd,?_,hk,hn,h1.le⟩
  ·rw [List.length_map]; exact hr
  ·rw [List.map_map]; exact h3.rd
theorem FoAt.all {w:World} {o:Ow} {ps:List Nat} {f:Fo} (h:NsAt w o ps (nsOf f)):FoAt w ((f.roots 1).map fun i=>ps.getD i 0) f :=
 FoAt.of h f 1 fun i n hi=>by unfold nsOf; rw [Nat.add_comm 1 i,List.getElem?_cons_succ]; exact hi
end Go.Proofs.YtmnohicojefhfaaGreatDoor
end
section
namespace Go.Proofs.YtmnohicojefhfaaGreatDoor
open Go.RowKit
section
variable {w:World} {o:Ow} {k size n c:Nat} {A:Option Addr} {xs:List Value}
theorem Sl.set {g f:Nat} (h:Sl w o k size (some ⟨g,f,none⟩) n c xs) (hs:0 < size) (j:Nat) (hj:j < n * size) (u:Value) :
  Sl (w.setCell ⟨g,f + j,none⟩ u) o k size (some ⟨g,f,none⟩) n c (xs.set j u)∧Stp (fun i=>i=k) w o (w.setCell ⟨g,f + j,none⟩ u) o:=by
 have hl:=h.len
 have hle:=h.le
 rcases h.at_ with h0 | ⟨g',f',hA,ho,hg,hc,hr⟩
 ·subst h0
  obtain rfl:n=0:=by omega
  omega
 ·cases hA
  have e:w.setCell ⟨g,f + j,none⟩ u=w.setCells g (f + j) [u]:=rfl
  have hst:Stp (fun i=>i=k) w o (w.setCell ⟨g,f + j,none⟩ u) o:=Stp.set g (f + j) u (fun _=>ho)
  have hsome:∀ i,i < [u].length → (w.cell? ⟨g,f + j + i,none⟩).isSome=true:=fun i hi=>by
   obtain rfl:i=0:=by simpa using hi
   have:n * size ≤ c * size:=Nat.mul_le_mul_right _ hle
   exact (hr j (by omega)).1
  refine ⟨⟨by rw [List.length_set]; exact hl,hle,h.max,.inr ⟨g,f,rfl,ho,Nat.lt_of_lt_of_le hg hst.size,fun i v hv=>?_,fun i hi=>?_⟩⟩,hst⟩
  ·rw [e]
   by_cases hij:i=j
   ·subst hij
    rw [List.getElem?_set_self (by omega)] at hv
    cases hv
    have:=World.cell?_setCells_in g [u] (f + i) w hsome 0 (by simp)
    simpa using this
   ·rw [List.getElem?_set_ne (Ne.symm hij)] at hv
    have hor:f + i < f + j ∨ f + j + [u].length ≤ f + i:=by
     rw [List.length_singleton]
     omega
    rw [World.cell?_setCells_out g _ _ _ _ (fun _ _=>hor)]
    exact hc i v hv
  ·rw [e]
   exact ⟨World.isSome_setCells _ _ _ _ _ (hr i hi).1,by rw [World.frozen?_setCells]; exact (hr i hi).2⟩
theorem Sl.cells (h:Sl w o k size A n c xs) (hn:0 < n):∃ g f,A=some ⟨g,f,none⟩∧o g=k∧g < w.heap.size∧(∀ j u,xs[j]?=some u → w.cell? ⟨g,f + j,none⟩=some u)∧(∀ j,j < n * size → w.frozen? ⟨g,f + j,none⟩=false):=by
 have hle:=h.le
 rcases h.at_ with h0 | ⟨g,f,hA,ho,hg,hc,hr⟩
 ·omega
 ·exact ⟨g,f,hA,ho,hg,hc,fun j hj=>(hr j (by have:n * size ≤ c * size:=Nat.mul_le_mul_right _ hle; omega)).2⟩
end
section
variable {α:Type}
theorem modLast_len (g:α → α):∀ l:List α,(modLast g l).length=l.length:=by
 intro l
 induction l with
 | nil=>rfl
 | cons x l ih=>cases l with
  | nil=>rfl
  | cons y l=>unfold modLast; simp only [List.length_cons] at *; omega
theorem modLast_snoc (g:α → α) (l:List α) (x:α):modLast g (l ++ [x])=l ++ [g x]:=by
 induction l with
 | nil=>rfl
 | cons y l ih=>cases l with
  | nil=>rfl
  | cons z l=>simp only [List.cons_append,modLast] at *; rw [ih]
theorem snoc_of {l:List α} (h:l ≠ []):∃ a x,l=a ++ [x]:=⟨l.dropLast,l.getLast h,(List.dropLast_concat_getLast h).symm⟩
theorem flat_len (cf:α → List Value) (sz:Nat) (hs:∀ x,(cf x).length=sz) (l:List α):(l.flatMap cf).length=l.length * sz:=by
 induction l with
 | nil=>simp
 | cons x l ih=>rw [List.flatMap_cons,List.length_append,ih,hs,List.length_cons,Nat.add_mul]; omega
theorem flat_last (cf:α → List Value) (sz:Nat) (hs:∀ x,(cf x).length=sz) (a:List α) (x:α) (j:Nat):((a ++ [x]).flatMap cf)[a.length * sz + j]?=(cf x)[j]?:=by
 rw [List.flatMap_append,List.getElem?_append_right (by rw [flat_len cf sz hs]; omega),flat_len cf sz hs,show a.length * sz + j - a.length * sz=j from by omega]
 simp
end
abbrev Hd:=Option Addr × Nat
def peV (p:Pe14):List Value:=[.int .i64 p.id,.int .i64 p.most]
def upV (x:Up14 × Hd):List Value:=[.string (str x.1.name),.slice x.2.1 x.1.peers.length x.2.2,.int .i64 x.1.timeout,.int .i64 x.1.retries]
def srV (x:Sr14 × Hd × Hd):List Value:=[.slice x.2.1.1 x.1.names.length x.2.1.2,.bool x.1.dflt,.slice x.2.2.1 x.1.locs.length x.2.2.2]
def loV (l:Lo14):List Value:=[.string (str l.pre),.int .i64 l.kind,.string (str l.root),.string (str l.index),.int .i64 l.gzip,.int .i64 l.expires,.string (str l.up),.bool l.cache,.int .i64 l.rate,.int .i64 l.burst,.int .i64 l.status,.string (str l.goal)]
theorem peV_len (x:Pe14):(peV x).length=2:=rfl
theorem upV_len (x:Up14 × Hd):(upV x).length=4:=rfl
theorem srV_len (x:Sr14 × Hd × Hd):(srV x).length=3:=rfl
theorem loV_len (x:Lo14):(loV x).length=12:=rfl
def bdC (c:Cf14) (line:Nat) (UA:Option Addr) (uc:Nat) (SA:Option Addr) (sc:Nat):Array Value :=
 #[.int .i64 c.keep,.int .i64 c.body,.int .i64 c.store,.int .i64 c.conns,.slice UA c.ups.length uc,.slice SA c.srvs.length sc,.int .i64 (line:Int)]
structure Cf0 (w:World) (o:Ow) (p:Nat) (c:Cf14) (line:Nat) (U:List (Up14 × Hd)) (UA:Option Addr) (uc:Nat) (S:List (Sr14 × Hd × Hd)) (SA:Option Addr) (sc:Nat):Prop where
 own:o p=1
 row:w.heap[p]?=some (.cells (bdC c line UA uc SA sc) 51 (0,0))
 hU:U.map (·.1)=c.ups
 hS:S.map (·.1)=c.srvs
 ups:Sl w o 2 4 UA c.ups.length uc (U.flatMap upV)
 una:UA=none → uc=0
 srvs:Sl w o 3 3 SA c.srvs.length sc (S.flatMap srV)
 sna:SA=none → sc=0
 peers:∀ i x,U[i]?=some x → Sl w o (10 + 3 * i) 2 x.2.1 x.1.peers.length x.2.2 (x.1.peers.flatMap peV)∧(x.2.1=none → x.2.2=0)
 names:∀ i x,S[i]?=some x → Sl w o (11 + 3 * i) 1 x.2.1.1 x.1.names.length x.2.1.2 (strC x.1.names)∧(x.2.1.1=none → x.2.1.2=0)
 locs:∀ i x,S[i]?=some x → Sl w o (12 + 3 * i) 12 x.2.2.1 x.1.locs.length x.2.2.2 (x.1.locs.flatMap loV)∧(x.2.2.1=none → x.2.2.2=0)
def CfAt (w:World) (o:Ow) (p:Nat) (c:Cf14) (line:Nat):Prop:=∃ U UA uc S SA sc,Cf0 w o p c line U UA uc S SA sc
def KB:Nat → Prop:=fun i=>i ≠ 0
section
variable {K:Nat → Prop} {w w':World} {o o':Ow} {p line uc sc:Nat} {c:Cf14} {U:List (Up14 × Hd)} {S:List (Sr14 × Hd × Hd)} {UA SA:Option Addr}
theorem Cf0.lt (h:Cf0 w o p c line U UA uc S SA sc):p < w.heap.size:=row_lt h.row
theorem Cf0.stp (h:Cf0 w o p c line U UA uc S SA sc) (s:Stp K w o w' o') (hk:∀ i,i ≠ 0 → ¬ K i):Cf0 w' o' p c line U UA uc S SA sc :=
 ⟨(s.own p h.lt).trans h.own,(s.keep p h.lt (by rw [h.own]; exact hk 1 (by omega))).trans h.row,h.hU,h.hS,h.ups.stp s (hk 2 (by omega)),h.una,h.srvs.stp s (hk 3 (by omega)),h.sna,
  fun i x hx=>⟨(h.peers i x hx).1.stp s (hk _ (by omega)),(h.peers i x hx).2⟩,fun i x hx=>⟨(h.names i x hx).1.stp s (hk _ (by omega)),(h.names i x hx).2⟩,fun i x hx=>⟨(h.locs i x hx).1.stp s (hk _ (by omega)),(h.locs i x hx).2⟩⟩
theorem CfAt.stp (h:CfAt w o p c line) (s:Stp K w o w' o') (hk:∀ i,i ≠ 0 → ¬ K i):CfAt w' o' p c line:=by
 obtain ⟨U,UA,uc,S,SA,sc,h⟩:=h; exact ⟨U,UA,uc,S,SA,sc,h.stp s hk⟩
theorem CfAt.ext (h:CfAt w o p c line) (e:Ext w w'):CfAt w' o p c line:=h.stp (K:=fun _=>False) (Stp.ext e) (fun _ _ x=>x)
theorem Cf0.ext (h:Cf0 w o p c line U UA uc S SA sc) (e:Ext w w'):Cf0 w' o p c line U UA uc S SA sc:=h.stp (K:=fun _=>False) (Stp.ext e) (fun _ _ x=>x)
theorem Cf0.uln (h:Cf0 w o p c line U UA uc S SA sc):U.length=c.ups.length:=by rw [← h.hU,List.length_map]
theorem Cf0.sln (h:Cf0 w o p c line U UA uc S SA sc):S.length=c.srvs.length:=by rw [← h.hS,List.length_map]
theorem Cf0.cell (h:Cf0 w o p c line U UA uc S SA sc) (i:Nat) (u:Value) {c':Cf14} {line':Nat} (he:(bdC c line UA uc SA sc).setIfInBounds i u=bdC c' line' UA uc SA sc) (h1:c'.ups=c.ups) (h2:c'.srvs=c.srvs) :
  Cf0 (w.setCell ⟨p,i,none⟩ u) o p c' line' U UA uc S SA sc∧Stp KB w o (w.setCell ⟨p,i,none⟩ u) o:=by
 have s:Stp (fun i=>i=1) w o (w.setCell ⟨p,i,none⟩ u) o:=Stp.set p i u (fun _=>h.own)
 refine ⟨⟨h.own,by rw [← he]; exact row_set h.row i u,by rw [h1]; exact h.hU,by rw [h2]; exact h.hS,by rw [h1]; exact h.ups.stp s (by omega),h.una,by rw [h2]; exact h.srvs.stp s (by omega),h.sna,
  fun i x hx=>⟨(h.peers i x hx).1.stp s (by omega),(h.peers i x hx).2⟩,fun i x hx=>⟨(h.names i x hx).1.stp s (by omega),(h.names i x hx).2⟩,fun i x hx=>⟨(h.locs i x hx).1.stp s (by omega),(h.locs i x hx).2⟩⟩,s.mono fun i hi=>by unfold KB; omega⟩
end
end Go.Proofs.YtmnohicojefhfaaGreatDoor
end
section
namespace Go.Proofs.YtmnohicojefhfaaGreatDoor
open Go.RowKit
def locS (x:Sr14 × Hd × Hd) (L:List Lo14):Sr14 × Hd × Hd:=({ x.1 with locs:=L },x.2)
section
variable {w w5:World} {o o5:Ow} {p line uc sc:Nat} {c:Cf14} {U:List (Up14 × Hd)} {S:List (Sr14 × Hd × Hd)} {UA SA:Option Addr}
theorem list_two {α:Type} {P:Nat → α → Prop} {a:List α} {y:α} (h1:∀ i x,a[i]?=some x → P i x) (h2:P a.length y):∀ i x,(a ++ [y])[i]?=some x → P i x:=by
 intro i x hi
 by_cases h:i < a.length
 ·rw [List.getElem?_append_left h] at hi; exact h1 i x hi
 ·have hl:=(List.getElem?_eq_some_iff.1 hi).1
  simp at hl
  obtain rfl:i=a.length:=by omega
  rw [List.getElem?_append_right (Nat.le_refl _)] at hi
  simp at hi
  subst hi; exact h2
theorem list_one {α:Type} {P:Nat → α → Prop} {a:List α} {y:α} (h:∀ i x,(a ++ [y])[i]?=some x → P i x):(∀ i x,a[i]?=some x → P i x)∧P a.length y :=
 ⟨fun i x hi=>h i x (by rw [List.getElem?_append_left (List.getElem?_eq_some_iff.1 hi).1]; exact hi),h _ _ (by rw [List.getElem?_append_right (Nat.le_refl _)]; simp)⟩
theorem flat_set {α:Type} (cf:α → List Value) (sz:Nat) (hs:∀ x,(cf x).length=sz) (a:List α) (x y:α) (j:Nat) (u:Value) (hv:cf y=(cf x).set j u):(a ++ [y]).flatMap cf=((a ++ [x]).flatMap cf).set (a.length * sz + j) u:=by
 rw [List.flatMap_append,List.flatMap_append,← flat_len cf sz hs a,List.set_append_right _ _ (by omega),show (a.flatMap cf).length + j - (a.flatMap cf).length=j from by omega]
 simp [hv]
theorem Cf0.up5 {a:List (Up14 × Hd)} {x:Up14 × Hd} {g f:Nat} (h:Cf0 w o p c line (a ++ [x]) (some ⟨g,f,none⟩) uc S SA sc) (st:Stp (fun i=>i=10 + 3 * a.length) w o w5 o5) (y:Up14 × Hd)
  (hp:Sl w5 o5 (10 + 3 * a.length) 2 y.2.1 y.1.peers.length y.2.2 (y.1.peers.flatMap peV)∧(y.2.1=none → y.2.2=0)) (j:Nat) (hj:j < 4) (u:Value) (hv:upV y=(upV x).set j u) :
  Cf0 (w5.setCell ⟨g,f + (a.length * 4 + j),none⟩ u) o5 p { c with ups:=(a ++ [y]).map (·.1) } line (a ++ [y]) (some ⟨g,f,none⟩) uc S SA sc∧Stp KB w o (w5.setCell ⟨g,f + (a.length * 4 + j),none⟩ u) o5:=by
 have hul:=h.uln
 rw [List.length_append,List.length_singleton] at hul
 have hs5:=h.ups.stp st (by omega)
 have hset:=Sl.set hs5 (by omega) (a.length * 4 + j) (by rw [← hul,Nat.add_mul]; omega) u
 have s2:=hset.2
 have hpe:=list_one h.peers
 have hul2:((a ++ [y]).map (·.1)).length=c.ups.length:=by rw [List.length_map,List.length_append,List.length_singleton]; exact hul
 refine ⟨⟨?_,?_,rfl,h.hS,?_,h.una,(h.srvs.stp st (by omega)).stp s2 (by omega),h.sna,list_two (fun i x hx=>?_) ?_,fun i x hx=>?_,fun i x hx=>?_⟩,(st.mono fun i hi=>by unfold KB; omega).tr (s2.mono fun i hi=>by unfold KB; omega)⟩
 ·exact (st.own p h.lt).trans h.own
 ·have r5:=(st.keep p h.lt (by rw [h.own]; omega)).trans h.row
  have r6:=(s2.keep p (row_lt r5) (by rw [st.own p h.lt,h.own]; omega)).trans r5
  rw [r6]; unfold bdC; rw [hul2]
 ·rw [hul2,flat_set upV 4 upV_len a x y j u hv]; exact hset.1
 ·have:=hpe.1 i x hx
  have hi:=(List.getElem?_eq_some_iff.1 hx).1
  exact ⟨(this.1.stp st (by omega)).stp s2 (by omega),this.2⟩
 ·exact ⟨hp.1.stp s2 (by omega),hp.2⟩
 ·have:=h.names i x hx; exact ⟨(this.1.stp st (by omega)).stp s2 (by omega),this.2⟩
 ·have:=h.locs i x hx; exact ⟨(this.1.stp st (by omega)).stp s2 (by omega),this.2⟩
theorem Cf0.sr5 {a:List (Sr14 × Hd × Hd)} {x:Sr14 × Hd × Hd} {g f:Nat} (h:Cf0 w o p c line U UA uc (a ++ [x]) (some ⟨g,f,none⟩) sc) (st:Stp (fun i=>i=11 + 3 * a.length ∨ i=12 + 3 * a.length) w o w5 o5) (y:Sr14 × Hd × Hd)
  (hn:Sl w5 o5 (11 + 3 * a.length) 1 y.2.1.1 y.1.names.length y.2.1.2 (strC y.1.names)∧(y.2.1.1=none → y.2.1.2=0)) (hl:Sl w5 o5 (12 + 3 * a.length) 12 y.2.2.1 y.1.locs.length y.2.2.2 (y.1.locs.flatMap loV)∧(y.2.2.1=none → y.2.2.2=0)) (j:Nat) (hj:j < 3) (u:Value) (hv:srV y=(srV x).set j u) :
  Cf0 (w5.setCell ⟨g,f + (a.length * 3 + j),none⟩ u) o5 p { c with srvs:=(a ++ [y]).map (·.1) } line U UA uc (a ++ [y]) (some ⟨g,f,none⟩) sc∧Stp KB w o (w5.setCell ⟨g,f + (a.length * 3 + j),none⟩ u) o5:=by
 have hul:=h.sln
 rw [List.length_append,List.length_singleton] at hul
 have hs5:=h.srvs.stp st (by omega)
 have hset:=Sl.set hs5 (by omega) (a.length * 3 + j) (by rw [← hul,Nat.add_mul]; omega) u
 have s2:=hset.2
 have hna:=list_one h.names
 have hlo:=list_one h.locs
 have hul2:((a ++ [y]).map (·.1)).length=c.srvs.length:=by rw [List.length_map,List.length_append,List.length_singleton]; exact hul
 refine ⟨⟨?_,?_,h.hU,rfl,(h.ups.stp st (by omega)).stp s2 (by omega),h.una,?_,h.sna,fun i x hx=>?_,list_two (fun i x hx=>?_) ?_,list_two (fun i x hx=>?_) ?_⟩,(st.mono fun i hi=>by unfold KB; omega).tr (s2.mono fun i hi=>by unfold KB; omega)⟩
 ·exact (st.own p h.lt).trans h.own
 ·have r5:=(st.keep p h.lt (by rw [h.own]; omega)).trans h.row
  have r6:=(s2.keep p (row_lt r5) (by rw [st.own p h.lt,h.own]; omega)).trans r5
  rw [r6]; unfold bdC; rw [hul2]
 ·rw [hul2,flat_set srV 3 srV_len a x y j u hv]; exact hset.1
 ·have:=h.peers i x hx; exact ⟨(this.1.stp st (by omega)).stp s2 (by omega),this.2⟩
 ·have:=hna.1 i x hx
  have hi:=(List.getElem?_eq_some_iff.1 hx).1
  exact ⟨(this.1.stp st (by omega)).stp s2 (by omega),this.2⟩
 ·exact ⟨hn.1.stp s2 (by omega),hn.2⟩
 ·have:=hlo.1 i x hx
  have hi:=(List.getElem?_eq_some_iff.1 hx).1
  exact ⟨(this.1.stp st (by omega)).stp s2 (by omega),this.2⟩
 ·exact ⟨hl.1.stp s2 (by omega),hl.2⟩
theorem Cf0.lo5 {a:List (Sr14 × Hd × Hd)} {x:Sr14 × Hd × Hd} {lo:List Lo14} {l l':Lo14} {g f:Nat} (h:Cf0 w o p c line U UA uc (a ++ [x]) SA sc) (hx:x.1.locs=lo ++ [l]) (hA:x.2.2.1=some ⟨g,f,none⟩) (j:Nat) (hj:j < 12) (u:Value) (hv:loV l'=(loV l).set j u) :
  Cf0 (w.setCell ⟨g,f + (lo.length * 12 + j),none⟩ u) o p { c with srvs:=(a ++ [locS x (lo ++ [l'])]).map (·.1) } line U UA uc (a ++ [locS x (lo ++ [l'])]) SA sc∧Stp KB w o (w.setCell ⟨g,f + (lo.length * 12 + j),none⟩ u) o:=by
 have hul:=h.sln
 rw [List.length_append,List.length_singleton] at hul
 have hna:=list_one h.names
 have hlo:=list_one h.locs
 have hls:=hlo.2.1
 rw [hx,hA] at hls
 have hset:=Sl.set hls (by omega) (lo.length * 12 + j) (by rw [List.length_append,List.length_singleton,Nat.add_mul]; omega) u
 have s2:=hset.2
 have hul2:((a ++ [locS x (lo ++ [l'])]).map (·.1)).length=c.srvs.length:=by rw [List.length_map,List.length_append,List.length_singleton]; exact hul
 have hfl:(a ++ [locS x (lo ++ [l'])]).flatMap srV=(a ++ [x]).flatMap srV:=by
  rw [List.flatMap_append,List.flatMap_append]
  congr 1
  simp [srV,locS,hx]
 refine ⟨⟨h.own,?_,h.hU,rfl,h.ups.stp s2 (by omega),h.una,?_,h.sna,fun i x hx=>?_,list_two (fun i x hx=>?_) ?_,list_two (fun i x hx=>?_) ?_⟩,s2.mono fun i hi=>by unfold KB; omega⟩
 ·have r6:=(s2.keep p h.lt (by rw [h.own]; omega)).trans h.row
  rw [r6]; unfold bdC; rw [hul2]
 ·rw [hul2,hfl]; exact h.srvs.stp s2 (by omega)
 ·have:=h.peers i x hx; exact ⟨this.1.stp s2 (by omega),this.2⟩
 ·have:=hna.1 i x hx; exact ⟨this.1.stp s2 (by omega),this.2⟩
 ·exact ⟨hna.2.1.stp s2 (by omega),hna.2.2⟩
 ·have:=hlo.1 i x hx
  have hi:=(List.getElem?_eq_some_iff.1 hx).1
  exact ⟨this.1.stp s2 (by omega),this.2⟩
 ·refine ⟨?_,hlo.2.2⟩
  have e2:=flat_set loV 12 loV_len lo l l' j u hv
  show Sl _ _ _ _ x.2.2.1 (lo ++ [l']).length x.2.2.2 ((lo ++ [l']).flatMap loV)
  rw [hA,e2,show (lo ++ [l']).length=(lo ++ [l]).length from by simp]
  exact hset.1
theorem Cf0.upN {A5:Option Addr} {c5:Nat} (h:Cf0 w o p c line U UA uc S SA sc) (st:Stp (fun i=>i=2) w o w5 o5) (n:Up14) (hp:n.peers=[]) (hs5:Sl w5 o5 2 4 A5 (c.ups.length + 1) c5 (U.flatMap upV ++ upV (n,none,0))) (hn5:A5=none → c5=0) :
  Cf0 (w5.setCell ⟨p,4,none⟩ (.slice A5 (c.ups.length + 1) c5)) o5 p { c with ups:=c.ups ++ [n] } line (U ++ [(n,none,0)]) A5 c5 S SA sc∧Stp KB w o (w5.setCell ⟨p,4,none⟩ (.slice A5 (c.ups.length + 1) c5)) o5:=by
 have o5p:=(st.own p h.lt).trans h.own
 have r5:=(st.keep p h.lt (by rw [h.own]; omega)).trans h.row
 have s2:Stp (fun i=>i=1) w5 o5 (w5.setCell ⟨p,4,none⟩ (.slice A5 (c.ups.length + 1) c5)) o5:=Stp.set p 4 _ (fun _=>o5p)
 refine ⟨⟨o5p,?_,by rw [List.map_append,h.hU]; rfl,h.hS,?_,hn5,(h.srvs.stp st (by omega)).stp s2 (by omega),h.sna,list_two (fun i x hx=>?_) ?_,fun i x hx=>?_,fun i x hx=>?_⟩,(st.mono fun i hi=>by unfold KB; omega).tr (s2.mono fun i hi=>by unfold KB; omega)⟩
 ·rw [row_set r5 4 _]; simp [bdC]
 ·have:=hs5.stp s2 (by omega)
  rw [List.flatMap_append]
  simpa using this
 ·have:=h.peers i x hx; exact ⟨(this.1.stp st (by omega)).stp s2 (by omega),this.2⟩
 ·refine ⟨?_,fun _=>rfl⟩
  show Sl _ _ _ _ none n.peers.length 0 (n.peers.flatMap peV)
  rw [hp]; exact Sl.nil_ _ _ _ _ _
 ·have:=h.names i x hx; exact ⟨(this.1.stp st (by omega)).stp s2 (by omega),this.2⟩
 ·have:=h.locs i x hx; exact ⟨(this.1.stp st (by omega)).stp s2 (by omega),this.2⟩
theorem Cf0.srN {A5:Option Addr} {c5:Nat} (h:Cf0 w o p c line U UA uc S SA sc) (st:Stp (fun i=>i=3) w o w5 o5) (hs5:Sl w5 o5 3 3 A5 (c.srvs.length + 1) c5 (S.flatMap srV ++ srV (⟨[],false,[]⟩,(none,0),(none,0)))) (hn5:A5=none → c5=0) :
  Cf0 (w5.setCell ⟨p,5,none⟩ (.slice A5 (c.srvs.length + 1) c5)) o5 p { c with srvs:=c.srvs ++ [⟨[],false,[]⟩] } line U UA uc (S ++ [(⟨[],false,[]⟩,(none,0),(none,0))]) A5 c5∧Stp KB w o (w5.setCell ⟨p,5,none⟩ (.slice A5 (c.srvs.length + 1) c5)) o5:=by
 have o5p:=(st.own p h.lt).trans h.own
 have r5:=(st.keep p h.lt (by rw [h.own]; omega)).trans h.row
 have s2:Stp (fun i=>i=1) w5 o5 (w5.setCell ⟨p,5,none⟩ (.slice A5 (c.srvs.length + 1) c5)) o5:=Stp.set p 5 _ (fun _=>o5p)
 refine ⟨⟨o5p,?_,h.hU,by rw [List.map_append,h.hS]; rfl,(h.ups.stp st (by omega)).stp s2 (by omega),h.una,?_,hn5,fun i x hx=>?_,list_two (fun i x hx=>?_) ?_,list_two (fun i x hx=>?_) ?_⟩,(st.mono fun i hi=>by unfold KB; omega).tr (s2.mono fun i hi=>by unfold KB; omega)⟩
 ·rw [row_set r5 5 _]; simp [bdC]
 ·have:=hs5.stp s2 (by omega)
  rw [List.flatMap_append]
  simpa using this
 ·have:=h.peers i x hx; exact ⟨(this.1.stp st (by omega)).stp s2 (by omega),this.2⟩
 ·have:=h.names i x hx; exact ⟨(this.1.stp st (by omega)).stp s2 (by omega),this.2⟩
 ·exact ⟨Sl.nil_ _ _ _ _ _,fun _=>rfl⟩
 ·have:=h.locs i x hx; exact ⟨(this.1.stp st (by omega)).stp s2 (by omega),this.2⟩
 ·exact ⟨Sl.nil_ _ _ _ _ _,fun _=>rfl⟩
end
end Go.Proofs.YtmnohicojefhfaaGreatDoor
end
section
namespace Go.Proofs.YtmnohicojefhfaaGreatDoor
open Go.RowKit
theorem Fo.has_same:∀ (f:Fo) (d:Nat) (x:N1),f.has d → (f.snoc d x).has d:=by
 intro f
 induction f with
 | nil=>intro d x h; cases d with
  | zero=>trivial
  | succ d=>cases h
 | node a b c k n ihk ihn =>
  intro d x h
  cases d with
  | zero=>exact Fo.has_zero _
  | succ d=>cases n with
   | nil=>exact ⟨h.1,ihk d x h.2⟩
   | node a' b' c' k' n' =>
    have:=ihn (d + 1) x h
    unfold Fo.snoc
    cases hn:Fo.snoc (d + 1) x (.node a' b' c' k' n') with
    | nil=>rw [hn] at this; cases this
    | node=>rw [hn] at this; exact this
def nowN (d:Nat) (x:N1):Nd14:=⟨x.ws,d,x.block,x.line⟩
def addN (f:Fo) (r:List Nd14 × Option Nd14 × Nat):List Nd14 × Option Nd14 × Nat:=(f.flat 0 ++ r.1,r.2)
structure TInv (all rest:List Tk14) (f:Fo) (now:Option N1) (d:Nat):Prop where
 eq:nodesF all none 0=(nodesF rest (now.map (nowN d)) d).map (addN f)
 has:f.has d
 wf:f.wf
 le:d ≤ 3
 now:∀ x,now=some x → x.ws ≠ []∧x.block=false
section
variable {all ts:List Tk14} {t:Tk14} {f:Fo} {x:N1} {d:Nat}
theorem TInv.start:TInv all all .nil none 0:=⟨by
  show _=(nodesF all none 0).map (addN .nil)
  cases h:nodesF all none 0 <;> rfl,Fo.has_zero _,trivial,by omega,fun _ h=>by cases h⟩
theorem TInv.word0 (h:TInv all (t :: ts) f none d) (hm:t.mark=0):TInv all ts f (some ⟨[t.s],t.line,false⟩) d:=by
 refine ⟨?_,h.has,h.wf,h.le,fun x hx=>?_⟩
 ·rw [h.eq]
  simp only [Option.map_none,nodesF,hm,if_true]; rfl
 ·cases hx; exact ⟨by simp,rfl⟩
theorem TInv.word1 (h:TInv all (t :: ts) f (some x) d) (hm:t.mark=0):TInv all ts f (some { x with ws:=x.ws ++ [t.s] }) d:=by
 refine ⟨?_,h.has,h.wf,h.le,fun y hy=>?_⟩
 ·rw [h.eq]
  simp only [Option.map_some,nodesF,hm,if_true]; rfl
 ·cases hy; exact ⟨by simp,(h.now x rfl).2⟩
theorem TInv.shut (h:TInv all (t :: ts) f none (d + 1)) (hm:t.mark=125):TInv all ts f none d:=by
 refine ⟨?_,Fo.has_le f d h.has,h.wf,by have:=h.le; omega,fun x hx=>by cases hx⟩
 rw [h.eq]
 simp only [Option.map_none,nodesF,hm]
 rfl
theorem TInv.shut_bad0 (h:TInv all (t :: ts) f none 0) (hm:t.mark=125):nodesF all none 0=.error t.line:=by
 rw [h.eq]
 simp only [Option.map_none,nodesF,hm]
 rfl
theorem TInv.shut_bad1 (h:TInv all (t :: ts) f (some x) d) (hm:t.mark=125):nodesF all none 0=.error t.line:=by
 rw [h.eq]
 simp only [Option.map_some,nodesF,hm]
 simp [Except.map]
theorem map_map14 (g h:List Nd14 × Option Nd14 × Nat → List Nd14 × Option Nd14 × Nat) (x:Except Nat (List Nd14 × Option Nd14 × Nat)):(x.map g).map h=x.map fun r=>h (g r):=by cases x <;> rfl
theorem TInv.opens (h:TInv all (t :: ts) f (some x) d) (hm:t.mark=123) (hd:d ≠ 3):TInv all ts (f.snoc d { x with block:=true }) none (d + 1):=by
 refine ⟨?_,Fo.has_snoc f d _ rfl h.has,Fo.wf_snoc f d _ (h.now x rfl).1 h.has h.wf,by have:=h.le; omega,fun x hx=>by cases hx⟩
 rw [h.eq]
 simp only [Option.map_some,Option.map_none,nodesF,hm]
 simp only [hd,show ((123:UInt8)=0)=False from by decide,show ((123:UInt8)=125)=False from by decide,if_false,if_true]
 rw [map_map14]
 congr 1
 funext r
 simp only [addN,Fo.flat_snoc f d 0 _ h.has,nowN,Nat.zero_add,List.append_assoc,List.singleton_append]
theorem TInv.open_bad0 (h:TInv all (t :: ts) f none d) (hm:t.mark=123):nodesF all none 0=.error t.line:=by
 rw [h.eq]
 simp only [Option.map_none,nodesF,hm]
 rfl
theorem TInv.open_bad1 (h:TInv all (t :: ts) f (some x) 3) (hm:t.mark=123):nodesF all none 0=.error t.line:=by
 rw [h.eq]
 simp only [Option.map_some,nodesF,hm]
 rfl
theorem TInv.semi (h:TInv all (t :: ts) f (some x) d) (h0:t.mark ≠ 0) (h1:t.mark ≠ 125) (h2:t.mark ≠ 123):TInv all ts (f.snoc d x) none d:=by
 refine ⟨?_,Fo.has_same f d x h.has,Fo.wf_snoc f d _ (h.now x rfl).1 h.has h.wf,h.le,fun x hx=>by cases hx⟩
 rw [h.eq]
 simp only [Option.map_some,Option.map_none,nodesF,h0,h1,h2,if_false]
 rw [map_map14]
 congr 1
 funext r
 simp only [addN,Fo.flat_snoc f d 0 _ h.has,nowN,Nat.zero_add,List.append_assoc,List.singleton_append]
theorem TInv.semi_bad (h:TInv all (t :: ts) f none d) (h0:t.mark ≠ 0) (h1:t.mark ≠ 125):nodesF all none 0=.error t.line:=by
 rw [h.eq]
 simp only [Option.map_none,nodesF,h0,h1,if_false]
 rfl
end
theorem lexF_len:∀ (f:Nat) (l:List UInt8) (n:Nat),(lexF f l n).1.length ≤ l.length:=by
 intro f
 induction f with
 | zero=>intro l n; exact Nat.zero_le _
 | succ f ih =>
  intro l n
  cases l with
  | nil=>exact Nat.le_refl _
  | cons c r =>
   unfold lexF
   have h1:=ih r (n + 1)
   have h2:=ih r n
   have h3:=ih (r.dropWhile (· != 10)) n
   have hd:(r.dropWhile (· != 10)).length ≤ r.length:=(List.dropWhile_sublist _).length_le
   simp only [List.length_cons]
   split
   ·omega
   split
   ·omega
   split
   ·omega
   split
   ·simp only [List.length_cons]; omega
   split
   ·split
    ·simp
    ·have h4:=ih (r.drop ((r.takeWhile (· != 34)).length + 1)) n
     rw [List.length_drop] at h4
     simp only [List.length_cons]; omega
   split
   ·simp
   ·rename_i a1 a2 a3 a4 a5 a6
    have hw:wordB c=true:=by
     unfold wordB
     have g:∀ x:UInt8,c ≠ x → (c == x)=false:=fun x hx=>beq_eq_false_iff_ne.2 hx
     rw [g 59 (fun e=>a4 (.inl e)),g 123 (fun e=>a4 (.inr (.inl e))),g 125 (fun e=>a4 (.inr (.inr e))),g 35 a3,g 34 a5]
     simp; omega
    have hl:0 < ((c :: r).takeWhile wordB).length:=by rw [List.takeWhile_cons,hw]; simp
    have h5:=ih ((c :: r).drop ((c :: r).takeWhile wordB).length) n
    rw [List.length_drop,List.length_cons] at h5
    simp only [List.length_cons]; omega
theorem lexL_len (l:List UInt8):(lexL l).1.length ≤ l.length:=lexF_len _ _ _
theorem TInv.done {l:List UInt8} {f:Fo} {now:Option N1} {d:Nat} (h:TInv (lexL l).1 [] f now d) :
  treeL l=if 0 < (lexL l).2 then .error (lexL l).2 else if now.isSome ∨ 0 < d then .error 0 else .ok (f.flat 0):=by
 unfold treeL
 rw [h.eq]
 simp only [nodesF,Except.map,addN,List.append_nil,Option.isSome_map]
theorem TInv.dead {l:List UInt8} {n:Nat} (h:nodesF (lexL l).1 none 0=.error n):treeL l=.error n:=by
 unfold treeL
 rw [h]
end Go.Proofs.YtmnohicojefhfaaGreatDoor
end
section
namespace Go.Proofs.YtmnohicojefhfaaGreatDoor
open Go.RowKit
def GoneC (n:Nat):Ending:=.panicked [{ v:=.iface 48 (.int .i64 (n:Int)),recovered:=false }]
theorem ctreeF_no (g:Nat) (w:World):Calls Tryz.prog 60 #[.bool false,.pointer (some ⟨g,0,none⟩)] w fun e w'=>e=.returned (.tuple #[])∧w=w':=by
 go_enter Tryz.func60,Tryz.ntmps60
 go_wp2
 go_end0
 exact ⟨rfl,rfl⟩
theorem ctreeF_yes (g n:Nat) (w:World) (hc:w.cell? ⟨g,2,none⟩=some (.int .i64 (n:Int))):Calls Tryz.prog 60 #[.bool true,.pointer (some ⟨g,0,none⟩)] w fun e w'=>e=.panicked [{ v:=.iface 48 (.int .i64 (n:Int)),recovered:=false }]∧w=w':=by
 go_enter Tryz.func60,Tryz.ntmps60
 go_wp2
 simp [bodyPost,GoneC]
section
variable {w w5:World} {o o5:Ow} {k p c d c5:Nat} {ps:List Nat} {n:Nr} {A B A5:Option Addr}
def K3 (k:Nat):Nat → Prop:=fun i=>i=k ∨ i=k + 1 ∨ i=k + 2
theorem NdAt.word (ho:o p=k) (hr:w.heap[p]?=some (.cells (ndC n A c B d) 58 (0,0))) (h3:Sl w o (k + 2) 1 B n.kids.length d (n.kids.map fun i=>ptC (ps.getD i 0))) (h4:B=none → d=0) (s:List UInt8)
  (hs5:Sl w5 o5 (k + 1) 1 A5 (n.ws.length + 1) c5 (strC n.ws ++ [.string (str s)])) (hn5:A5=none → c5=0) (st:Stp (fun i=>i=k + 1) w o w5 o5) :
  NdAt (w5.setCell ⟨p,0,none⟩ (.slice A5 (n.ws.length + 1) c5)) o5 k p ps { n with ws:=n.ws ++ [s] }∧Stp (K3 k) w o (w5.setCell ⟨p,0,none⟩ (.slice A5 (n.ws.length + 1) c5)) o5:=by
 have hl:=row_lt hr
 have ho5:o5 p=k:=(st.own p hl).trans ho
 have hr5:=(st.keep p hl (by rw [ho]; omega)).trans hr
 have s2:Stp (fun i=>i=k) w5 o5 (w5.setCell ⟨p,0,none⟩ (.slice A5 (n.ws.length + 1) c5)) o5:=Stp.set p 0 _ (fun _=>ho5)
 refine ⟨⟨ho5,A5,c5,B,d,?_,?_,hn5,(h3.stp st (by omega)).stp s2 (by omega),h4⟩,(st.mono fun i hi=>.inr (.inl hi)).tr (s2.mono fun i hi=>.inl hi)⟩
 ·have:=row_set hr5 0 (.slice A5 (n.ws.length + 1) c5)
  rw [this]; simp [ndC]
 ·have:=hs5.stp s2 (by omega)
  simpa [strC] using this
theorem NdAt.kid (ho:o p=k) (hr:w.heap[p]?=some (.cells (ndC n A c B d) 58 (0,0))) (h1:Sl w o (k + 1) 1 A n.ws.length c (strC n.ws)) (h2:A=none → c=0) (i:Nat)
  (hs5:Sl w5 o5 (k + 2) 1 A5 (n.kids.length + 1) c5 ((n.kids.map fun i=>ptC (ps.getD i 0)) ++ [ptC (ps.getD i 0)])) (hn5:A5=none → c5=0) (st:Stp (fun i=>i=k + 2) w o w5 o5) :
  NdAt (w5.setCell ⟨p,3,none⟩ (.slice A5 (n.kids.length + 1) c5)) o5 k p ps (Fo.kid i n)∧Stp (K3 k) w o (w5.setCell ⟨p,3,none⟩ (.slice A5 (n.kids.length + 1) c5)) o5:=by
 have hl:=row_lt hr
 have ho5:o5 p=k:=(st.own p hl).trans ho
 have hr5:=(st.keep p hl (by rw [ho]; omega)).trans hr
 have s2:Stp (fun i=>i=k) w5 o5 (w5.setCell ⟨p,3,none⟩ (.slice A5 (n.kids.length + 1) c5)) o5:=Stp.set p 3 _ (fun _=>ho5)
 refine ⟨⟨ho5,A,c,A5,c5,?_,(h1.stp st (by omega)).stp s2 (by omega),h2,?_,hn5⟩,(st.mono fun i hi=>.inr (.inr hi)).tr (s2.mono fun i hi=>.inl hi)⟩
 ·have:=row_set hr5 3 (.slice A5 (n.kids.length + 1) c5)
  rw [this]; simp [ndC,Fo.kid]
 ·have:=hs5.stp s2 (by omega)
  simpa [Fo.kid] using this
theorem NdAt.blk (ho:o p=k) (hr:w.heap[p]?=some (.cells (ndC n A c B d) 58 (0,0))) (h1:Sl w o (k + 1) 1 A n.ws.length c (strC n.ws)) (h2:A=none → c=0) (h3:Sl w o (k + 2) 1 B n.kids.length d (n.kids.map fun i=>ptC (ps.getD i 0))) (h4:B=none → d=0) :
  NdAt (w.setCell ⟨p,2,none⟩ (.bool true)) o k p ps { n with block:=true }∧Stp (K3 k) w o (w.setCell ⟨p,2,none⟩ (.bool true)) o:=by
 have s2:Stp (fun i=>i=k) w o (w.setCell ⟨p,2,none⟩ (.bool true)) o:=Stp.set p 2 _ (fun _=>ho)
 refine ⟨⟨ho,A,c,B,d,?_,h1.stp s2 (by omega),h2,h3.stp s2 (by omega),h4⟩,s2.mono fun i hi=>.inl hi⟩
 have:=row_set hr 2 (.bool true)
 rw [this]; simp [ndC]
end
theorem NdAt.fresh (w:World) (o:Ow) (k:Nat) (ps:List Nat) (n:Nat):NdAt (w.alloc (.cells #[.slice none 0 0,.int .i64 (n:Int),.bool false,.slice none 0 0] 58)) (fun b=>if b < w.heap.size then o b else k) k w.heap.size ps ⟨[],n,false,[]⟩ :=
 ⟨by simp,none,0,none,0,heap_alloc_new w _,Sl.nil_ _ _ _ _ _,fun _=>rfl,Sl.nil_ _ _ _ _ _,fun _=>rfl⟩
def nowR:Option N1 → List Nr
 | none=>[]
 | some x=>[⟨x.ws,x.line,x.block,[]⟩]
def nowV (ps:List Nat) (f:Fo):Option N1 → Value
 | none=>.pointer none
 | some _=>ptC (ps.getD (f.size + 1) 0)
theorem Fo.path_bd:∀ (f:Fo) (d s:Nat),∀ i ∈ f.path d s,s ≤ i∧i < s + f.size:=by
 intro f
 induction f with
 | nil=>intro d s i hi; cases d <;> cases hi
 | node a b c k n ihk ihn =>
  intro d s i hi
  cases d with
  | zero=>cases hi
  | succ d=>cases n with
   | nil =>
    rw [Fo.path] at hi
    simp only [Fo.size]
    rcases List.mem_cons.1 hi with h | h
    ·omega
    ·have:=ihk _ _ i h; omega
   | node a' b' c' k' n' =>
    rw [Fo.path] at hi
    have:=ihn _ _ i hi
    simp only [Fo.size] at *
    omega
theorem opOf_bd {f:Fo} {d i:Nat} (h:i ∈ opOf d f):i < f.size + 1:=by
 rcases List.mem_cons.1 h with h | h
 ·omega
 ·have:=Fo.path_bd f d 1 i h; omega
theorem Fo.roots_bd:∀ (f:Fo) (s:Nat),(f.roots s).length ≤ f.size∧∀ i ∈ f.roots s,i < s + f.size:=by
 intro f
 induction f with
 | nil=>intro s; exact ⟨Nat.le_refl _,fun i hi=>by cases hi⟩
 | node a b c k n ihk ihn =>
  intro s
  have h:=ihn (s + 1 + k.size)
  simp only [Fo.roots,Fo.size,List.length_cons]
  refine ⟨by omega,fun i hi=>?_⟩
  rcases List.mem_cons.1 hi with h' | h'
  ·omega
  ·have:=h.2 i h'; omega
theorem Fo.recs_bd:∀ (f:Fo) (s:Nat),∀ n ∈ f.recs s,n.kids.length ≤ f.size∧∀ i ∈ n.kids,i < s + f.size:=by
 intro f
 induction f with
 | nil=>intro s n hn; cases hn
 | node a b c k n ihk ihn =>
  intro s m hm
  simp only [Fo.recs] at hm
  simp only [Fo.size]
  rcases List.mem_cons.1 hm with h | h
  ·subst h
   have:=Fo.roots_bd k (s + 1)
   exact ⟨by have:=this.1; show (k.roots (s + 1)).length ≤ _; omega,fun i hi=>by have:=this.2 i hi; omega⟩
  ·rcases List.mem_append.1 h with h | h
   ·have:=ihk (s + 1) m h
    exact ⟨by omega,fun i hi=>by have:=this.2 i hi; omega⟩
   ·have:=ihn _ m h
    exact ⟨by omega,fun i hi=>by have:=this.2 i hi; omega⟩
theorem nsOf_bd {f:Fo} {n:Nr} (h:n ∈ nsOf f):n.kids.length ≤ f.size∧∀ i ∈ n.kids,i < f.size + 1:=by
 rcases List.mem_cons.1 h with h | h
 ·subst h
  have:=Fo.roots_bd f 1
  exact ⟨this.1,fun i hi=>by have:=this.2 i hi; omega⟩
 ·have:=Fo.recs_bd f 1 n h
  exact ⟨this.1,fun i hi=>by have:=this.2 i hi; omega⟩
theorem opOf_same:∀ (f:Fo) (d:Nat) (x:N1),f.has d → opOf d (f.snoc d x)=opOf d f:=by
 intro f d x h
 have h1:=opOf_snoc x h
 have hl:=opOf_len h
 have h2:=opOf_len (Fo.has_same f d x h)
 unfold opOf at *
 cases hp:f.snoc d x with
 | nil=>have:=Fo.size_snoc f d x h; rw [hp] at this; simp [Fo.size] at this
 | node a b c k n =>
  rw [hp] at h1 h2
  have h3:∀ (g:Fo) (d s:Nat),(∃ r,g.path (d + 1) s=g.path d s ++ r):=by
   intro g
   induction g with
   | nil=>intro d s; exact ⟨[],by cases d <;> rfl⟩
   | node a b c k n ihk ihn =>
    intro d s
    cases n with
    | nil=>cases d with
     | zero=>exact ⟨_,by rw [Fo.path_zero]; rfl⟩
     | succ d =>
      obtain ⟨r,hr⟩:=ihk d (s + 1)
      exact ⟨r,by rw [Fo.path,Fo.path,hr,List.cons_append]⟩
    | node a' b' c' k' n'=>cases d with
     | zero=>exact ⟨_,by rw [Fo.path_zero]; rfl⟩
     | succ d =>
      obtain ⟨r,hr⟩:=ihn (d + 1) (s + 1 + k.size)
      exact ⟨r,by rw [Fo.path,hr]; rfl⟩
  obtain ⟨r,hr⟩:=h3 (.node a b c k n) d 1
  rw [hr] at h1
  have h4:(Fo.node a b c k n).path d 1 ++ r=f.path d 1 ++ [f.size + 1]:=by simpa using h1
  have h5:=List.append_inj_left h4 (by simp at hl h2; omega)
  rw [h5]
structure TreeAt (w0 wr:World) (all:List Tk14) (i:Nat) (f:Fo) (now:Option N1) (d:Nat) (ps:List Nat) (o:Ow) (A:Option Addr) (c:Nat):Prop where
 inv:TInv all (all.drop i) f now d
 ns:NsAt wr o ps (nsOf f ++ nowR now)
 op:Sl wr o 1 1 A (d + 1) c ((opOf d f).map fun i=>ptC (ps.getD i 0))
 na:A=none → c=0
 cnt:f.size + (nowR now).length ≤ i
 cnw:∀ x,now=some x → x.ws.length ≤ i
 stp:Stp (fun i=>i ≠ 0) w0 (fun _=>0) wr o
section
variable {w0 wr w':World} {all:List Tk14} {i d c:Nat} {f:Fo} {now:Option N1} {ps:List Nat} {o o':Ow} {A:Option Addr}
theorem TreeAt.plen (h:TreeAt w0 wr all i f now d ps o A c):ps.length=f.size + 1 + (nowR now).length:=by rw [h.ns.len,List.length_append,nsOf_len]
theorem TreeAt.top (h:TreeAt w0 wr all i f now d ps o A c):∃ gA fA q,A=some ⟨gA,fA,none⟩∧gA < wr.heap.size∧(opOf d f)[d]?=some q∧q < f.size + 1∧Hid (∀ w',Ext wr w' → w'.cell? ⟨gA,fA + d,none⟩=some (.pointer (some ⟨ps.getD q 0,0,none⟩))∧w'.cell? ⟨gA,fA,none⟩=some (.pointer (some ⟨ps.getD 0 0,0,none⟩))):=by
 obtain ⟨q,h1,h2,_⟩:=nsOf_snoc ⟨[],0,false⟩ h.inv.has
 rcases h.op.at_ with h0 | ⟨g,f',hA,_,hg,hc,_⟩
 ·have:=h.op.le; omega
 ·refine ⟨g,f',q,hA,hg,h1,h2,fun w' e=>⟨?_,?_⟩⟩
  ·rw [e.cell (p:=⟨g,f' + d,none⟩) hg]
   exact hc d _ (by rw [List.getElem?_map,h1]; rfl)
  ·rw [e.cell (p:=⟨g,f',none⟩) hg]
   exact hc 0 _ (by rw [List.getElem?_map]; rfl)
theorem op_more (f:Fo) (d:Nat) (ps:List Nat) (q:Nat) (h:f.size + 1 ≤ ps.length):((opOf d f).map fun i=>ptC ((ps ++ [q]).getD i 0))=(opOf d f).map fun i=>ptC (ps.getD i 0):=by
 refine List.map_congr_left fun i hi=>?_
 rw [getD_old ps q (by have:=opOf_bd hi; omega)]
theorem nth_now (f:Fo) (x:Nr):(nsOf f ++ [x])[f.size + 1]?=some x:=by
 rw [List.getElem?_append_right (by rw [nsOf_len]; exact Nat.le_refl _),nsOf_len]; simp
theorem mod_now (f:Fo) (x:Nr) (g:Nr → Nr):(nsOf f ++ [x]).modify (f.size + 1) g=nsOf f ++ [g x]:=by
 have:=Fo.modify_right g (nsOf f) [x] 0
 rw [nsOf_len,Nat.add_zero] at this
 rw [this]; rfl
theorem mod_old (f:Fo) (x:Nr) (g:Nr → Nr):∀ (a:List Nr) (q:Nat),q < a.length → (a ++ [x]).modify q g=a.modify q g ++ [x]:=by
 intro a
 induction a with
 | nil=>intro q h; simp at h
 | cons y a ih =>
  intro q h
  cases q with
  | zero=>rfl
  | succ q=>rw [List.cons_append,List.modify_succ_cons,List.modify_succ_cons,ih q (by simpa using h),List.cons_append]
theorem drop_at {α:Type} {l:List α} {i:Nat} {t:α} (h:l[i]?=some t):l.drop i=t :: l.drop (i + 1):=by
 obtain ⟨hi,h⟩:=List.getElem?_eq_some_iff.1 h
 rw [List.drop_eq_getElem_cons hi,h]
theorem K3_ne {k i:Nat} (hk:10 ≤ k) (h:K3 k i):i ≠ 0:=by unfold K3 at h; omega
theorem K3_one {k:Nat} (hk:10 ≤ k):¬ K3 k 1:=by unfold K3; omega
theorem TreeAt.word0 (h:TreeAt w0 wr all i f none d ps o A c) {t:Tk14} (ht:all[i]?=some t) (hm:t.mark=0) {p:Nat} (hn:NdAt w' o' (10 + 3 * (f.size + 1)) p ps ⟨[t.s],t.line,false,[]⟩) (s:Stp (K3 (10 + 3 * (f.size + 1))) wr o w' o') :
  TreeAt w0 w' all (i + 1) f (some ⟨[t.s],t.line,false⟩) d (ps ++ [p]) o' A c:=by
 have hns:=h.ns
 have hpl:=h.plen
 simp only [nowR,List.append_nil,List.length_nil,Nat.add_zero] at hns hpl
 refine ⟨?_,?_,?_,h.na,by have:=h.cnt; simp only [nowR,List.length_nil,List.length_singleton] at *; omega,fun x hx=>by cases hx; simp,h.stp.tr (s.mono fun i hi=>K3_ne (by omega) hi)⟩
 ·exact TInv.word0 (by rw [← drop_at ht]; exact h.inv) hm
 ·have:=NsAt.new (ns:=nsOf f) hns (by rw [nsOf_len]; exact s) (by rw [nsOf_len]; exact hn) rfl
  exact this
 ·rw [op_more f d ps p (by omega)]
  exact h.op.stp s (K3_one (by omega))
theorem TreeAt.word1 {x:N1} (h:TreeAt w0 wr all i f (some x) d ps o A c) {t:Tk14} (ht:all[i]?=some t) (hm:t.mark=0) (hn:NdAt w' o' (10 + 3 * (f.size + 1)) (ps.getD (f.size + 1) 0) ps { ws:=x.ws ++ [t.s],line:=x.line,block:=x.block,kids:=[] }) (s:Stp (K3 (10 + 3 * (f.size + 1))) wr o w' o') :
  TreeAt w0 w' all (i + 1) f (some { x with ws:=x.ws ++ [t.s] }) d ps o' A c:=by
 refine ⟨?_,?_,h.op.stp s (K3_one (by omega)),h.na,by have:=h.cnt; simp only [nowR,List.length_singleton] at *; omega,fun y hy=>by cases hy; have:=h.cnw x rfl; simp; omega,h.stp.tr (s.mono fun i hi=>K3_ne (by omega) hi)⟩
 ·exact TInv.word1 (by rw [← drop_at ht]; exact h.inv) hm
 ·have:=h.ns.turn (f.size + 1) (fun n=>{ n with ws:=n.ws ++ [t.s] }) (nth_now f ⟨x.ws,x.line,x.block,[]⟩) s hn (fun i hi=>by cases hi)
  simp only [nowR] at *
  rw [mod_now] at this
  exact this
theorem TreeAt.shut (h:TreeAt w0 wr all i f none (d + 1) ps o A c) {t:Tk14} (ht:all[i]?=some t) (hm:t.mark=125) (e:Ext wr w'):TreeAt w0 w' all (i + 1) f none d ps o A c:=by
 have ho:=(h.op.take (d + 1) (by omega)).ext e
 refine ⟨?_,h.ns.ext e,?_,h.na,by have:=h.cnt; omega,fun y hy=>(by cases hy),h.stp.tr (Stp.ext e)⟩
 ·exact TInv.shut (by rw [← drop_at ht]; exact h.inv) hm
 ·rw [opOf_pop h.inv.has,List.map_take]
  simpa using ho
theorem TreeAt.semi {x:N1} (h:TreeAt w0 wr all i f (some x) d ps o A c) {t:Tk14} (ht:all[i]?=some t) (hm0:t.mark ≠ 0) (hm1:t.mark ≠ 125) (hm2:t.mark ≠ 123) {q:Nat} {nq:Nr} (hq:(opOf d f)[d]?=some q) (hnq:(nsOf f)[q]?=some nq)
  (hn:NdAt w' o' (10 + 3 * q) (ps.getD q 0) ps (Fo.kid (f.size + 1) nq)) (s:Stp (K3 (10 + 3 * q)) wr o w' o'):TreeAt w0 w' all (i + 1) (f.snoc d x) none d ps o' A c:=by
 obtain ⟨q',h1,h2,h3⟩:=nsOf_snoc x h.inv.has
 obtain rfl:q=q':=by rw [hq] at h1; cases h1; rfl
 have hsz:=Fo.size_snoc f d x h.inv.has
 have hnq':(nsOf f ++ [(⟨x.ws,x.line,x.block,[]⟩:Nr)])[q]?=some nq:=by rw [List.getElem?_append_left (by rw [nsOf_len]; exact h2)]; exact hnq
 refine ⟨?_,?_,?_,h.na,by have:=h.cnt; simp only [nowR,List.length_singleton,List.length_nil] at *; omega,fun y hy=>(by cases hy),h.stp.tr (s.mono fun i hi=>K3_ne (by omega) hi)⟩
 ·exact TInv.semi (by rw [← drop_at ht]; exact h.inv) hm0 hm1 hm2
 ·have:=h.ns.turn q (Fo.kid (f.size + 1)) hnq' s hn (fun i hi=>by
   simp only [Fo.kid] at hi
   simp only [nowR,List.length_append,nsOf_len,List.length_singleton]
   rcases List.mem_append.1 hi with hi | hi
   ·have:=(nsOf_bd (List.mem_of_getElem? hnq)).2 i hi; omega
   ·rw [List.mem_singleton] at hi; omega)
  simp only [nowR] at *
  rw [mod_old f _ _ _ _ (by rw [nsOf_len]; exact h2),← h3] at this
  simpa using this
 ·have e:opOf d (f.snoc d x)=opOf d f:=by
   cases d with
   | zero=>unfold opOf; rw [Fo.path_zero,Fo.path_zero]
   | succ d =>
    have hb:=Fo.has_le _ d h.inv.has
    exact opOf_same f (d + 1) x h.inv.has
  rw [e]
  exact h.op.stp s (K3_one (by omega))
theorem TreeAt.opens {x:N1} (h:TreeAt w0 wr all i f (some x) d ps o A c) {t:Tk14} (ht:all[i]?=some t) (hm:t.mark=123) (hd:d ≠ 3) {q:Nat} (hq:(opOf d f)[d]?=some q) {A':Option Addr} {c':Nat}
  (hns:NsAt w' o' ps ((nsOf f ++ [(⟨x.ws,x.line,true,[]⟩:Nr)]).modify q (Fo.kid (f.size + 1)))) (hop:Sl w' o' 1 1 A' (d + 1 + 1) c' (((opOf d f).map fun i=>ptC (ps.getD i 0)) ++ [ptC (ps.getD (f.size + 1) 0)])) (hna:A'=none → c'=0) (s:Stp (fun i=>i ≠ 0) wr o w' o') :
  TreeAt w0 w' all (i + 1) (f.snoc d { x with block:=true }) none (d + 1) ps o' A' c':=by
 obtain ⟨q',h1,h2,h3⟩:=nsOf_snoc ({ x with block:=true }:N1) h.inv.has
 obtain rfl:q=q':=by rw [hq] at h1; cases h1; rfl
 have hsz:=Fo.size_snoc f d ({ x with block:=true }:N1) h.inv.has
 refine ⟨?_,?_,?_,hna,by have:=h.cnt; simp only [nowR,List.length_singleton,List.length_nil] at *; omega,fun y hy=>(by cases hy),h.stp.tr s⟩
 ·exact TInv.opens (by rw [← drop_at ht]; exact h.inv) hm hd
 ·rw [mod_old f _ _ _ _ (by rw [nsOf_len]; exact h2),← h3] at hns
  simpa [nowR] using hns
 ·rw [opOf_snoc _ h.inv.has,List.map_append]
  exact hop
theorem TreeAt.open5 {x:N1} {wt w3 w5:World} {o5:Ow} (h:TreeAt w0 wr all i f (some x) d ps o A c) (e1:Ext wr wt) (e2:Ext (wt.setCell ⟨ps.getD (f.size + 1) 0,2,none⟩ (.bool true)) w3) (st5:Stp (fun i=>i=1) w3 o w5 o5) :
  NsAt w5 o5 ps (nsOf f ++ [⟨x.ws,x.line,true,[]⟩])∧Stp (fun i=>K3 (10 + 3 * (f.size + 1)) i ∨ i=1) wr o w5 o5:=by
 have hN:=(h.ns.ext e1).at_ (f.size + 1) _ (nth_now f _)
 obtain ⟨A1,c1,B1,d1,rN,s1,n1,s2,n2⟩:=hN.at_
 obtain ⟨hb,hs⟩:=NdAt.blk hN.own rN s1 n1 s2 n2
 have ht:=(h.ns.ext e1).turn (f.size + 1) (fun n=>{ n with block:=true }) (nth_now f _) hs hb (fun i hi=>by cases hi)
 simp only [nowR] at ht
 rw [mod_now] at ht
 refine ⟨(ht.ext e2).stp st5 (fun i hi=>by omega),(((Stp.ext e1).tr (hs.mono fun i hi=>.inl hi)).tr (Stp.ext e2)).tr (st5.mono fun i hi=>.inr hi)⟩
theorem TreeAt.opens2 {x:N1} {w5 w6 w7:World} {o5 o7:Ow} {A5 A7:Option Addr} {c5 c7 pt:Nat} (h:TreeAt w0 wr all i f (some x) d ps o A c) {t:Tk14} (ht:all[i]?=some t) (hm:t.mark=123) (hd:d ≠ 3) {q:Nat} {nq:Nr} (hq:(opOf d f)[d]?=some q) (hql:q < f.size + 1) (hnq:(nsOf f)[q]?=some nq)
  (h5:NsAt w5 o5 ps (nsOf f ++ [⟨x.ws,x.line,true,[]⟩])∧Stp (fun i=>K3 (10 + 3 * (f.size + 1)) i ∨ i=1) wr o w5 o5)
  (hs5:Sl w5 o5 1 1 A5 (d + 1 + 1) c5 (((opOf d f).map fun i=>ptC (ps.getD i 0)) ++ [ptC (ps.getD (f.size + 1) 0)])) (hn5:A5=none → c5=0) (e6:Ext w5 w6) (hpt:pt=ps.getD q 0)
  (hs7:Sl w7 o7 (10 + 3 * q + 2) 1 A7 (nq.kids.length + 1) c7 ((nq.kids.map fun i=>ptC (ps.getD i 0)) ++ [ptC (ps.getD (f.size + 1) 0)])) (hn7:A7=none → c7=0) (st7:Stp (fun i=>i=10 + 3 * q + 2) w6 o5 w7 o7) :
  TreeAt w0 (w7.setCell ⟨pt,3,none⟩ (.slice A7 (nq.kids.length + 1) c7)) all (i + 1) (f.snoc d { x with block:=true }) none (d + 1) ps o7 A5 c5:=by
 subst hpt
 have hnq':(nsOf f ++ [(⟨x.ws,x.line,true,[]⟩:Nr)])[q]?=some nq:=by rw [List.getElem?_append_left (by rw [nsOf_len]; exact hql)]; exact hnq
 have hT:=h5.1.at_ q nq hnq'
 obtain ⟨A2,c2,B2,d2,rT,t1,tn1,t2,tn2⟩:=hT.at_
 have hW:=NdAt.kid (ps:=ps) hT.own rT t1 tn1 (f.size + 1) hs7 hn7 ((Stp.ext e6).tr st7)
 have hns:=h5.1.turn q (Fo.kid (f.size + 1)) hnq' hW.2 hW.1 (fun i hi=>by
  simp only [Fo.kid] at hi
  simp only [List.length_append,nsOf_len,List.length_singleton]
  rcases List.mem_append.1 hi with hi | hi
  ·have:=(nsOf_bd (List.mem_of_getElem? hnq)).2 i hi; omega
  ·rw [List.mem_singleton] at hi; omega)
 exact h.opens ht hm hd hq hns (hs5.stp hW.2 (K3_one (by omega))) hn5 ((h5.2.mono fun i hi=>by rcases hi with hi | hi; exact K3_ne (by omega) hi; omega).tr (hW.2.mono fun i hi=>K3_ne (by omega) hi))
end
def IsTree (ns:List Nd14) (v:Value) (w:World):Prop:=∃ f:Fo,f.wf∧f.flat 0=ns∧∃ p pk B d,v=.pointer (some ⟨p,0,none⟩)∧w.cell? ⟨p,3,none⟩=some (.slice B pk.length d)∧Rd w B (pk.map ptC)∧FoAt w pk f
def TreeQ (l:List UInt8) (w:World) (e:Ending) (w':World):Prop:=Ext w w'∧match treeL l with
 | .ok ns=>∃ v,e=.returned v∧IsTree ns v w'
 | .error n=>e=GoneC n
theorem TreeQ.gone {l:List UInt8} {w w':World} {n:Nat} (h:treeL l=.error n) (e:Ext w w'):TreeQ l w (GoneC n) w':=⟨e,by rw [h]⟩
theorem TreeQ.done {l:List UInt8} {w w':World} {ns:List Nd14} {v:Value} (h:treeL l=.ok ns) (e:Ext w w') (ht:IsTree ns v w'):TreeQ l w (.returned v) w':=⟨e,by rw [h]; exact ⟨v,rfl,ht⟩⟩
end Go.Proofs.YtmnohicojefhfaaGreatDoor
end
section
namespace Go.Proofs.YtmnohicojefhfaaGreatDoor
open Go.RowKit
theorem cup_c (p g f m uc:Nat) (w:World) (hm:m < 1099511627776) (h4:w.cell? ⟨p,4,none⟩=some (.slice (some ⟨g,f,none⟩) (m + 1) uc)) :
  Calls Tryz.prog 94 #[.pointer (some ⟨p,0,none⟩)] w (Gives (.pointer (some ⟨g,f + m * 4,none⟩)) w):=by
 have e1:IntKind.i64.wrap (m:Int)=(m:Int):=by rw [IntKind.wrap_i64]; omega
 have e2:(m:Int) < (m:Int) + 1:=by omega
 go_enter Tryz.func94,Tryz.ntmps94
 go_wp2
 go_quiet (fail)
 all_goals go_wp2
 all_goals go_ret
 all_goals exact ⟨rfl,by (repeat first | exact Ex0 | assumption | refine Ex1 ?_ | refine Ex2 ?_ | refine Ex3 ?_ | refine Ex4 ?_ | refine Ex5 ?_)⟩
theorem cserver_c (p g f m uc:Nat) (w:World) (hm:m < 1099511627776) (h4:w.cell? ⟨p,5,none⟩=some (.slice (some ⟨g,f,none⟩) (m + 1) uc)) :
  Calls Tryz.prog 99 #[.pointer (some ⟨p,0,none⟩)] w (Gives (.pointer (some ⟨g,f + m * 3,none⟩)) w):=by
 have e1:IntKind.i64.wrap (m:Int)=(m:Int):=by rw [IntKind.wrap_i64]; omega
 have e2:(m:Int) < (m:Int) + 1:=by omega
 go_enter Tryz.func99,Tryz.ntmps99
 go_wp2
 go_quiet (fail)
 all_goals go_wp2
 all_goals go_ret
 all_goals exact ⟨rfl,by (repeat first | exact Ex0 | assumption | refine Ex1 ?_ | refine Ex2 ?_ | refine Ex3 ?_ | refine Ex4 ?_ | refine Ex5 ?_)⟩
theorem cloc_c (p g f m uc g2 f2 m2 lc:Nat) (w:World) (hm:m < 1099511627776) (hm2:m2 < 1099511627776) (h4:w.cell? ⟨p,5,none⟩=some (.slice (some ⟨g,f,none⟩) (m + 1) uc)) (h2:w.cell? ⟨g,f + m * 3 + 2,none⟩=some (.slice (some ⟨g2,f2,none⟩) (m2 + 1) lc)) :
  Calls Tryz.prog 49 #[.pointer (some ⟨p,0,none⟩)] w (Gives (.pointer (some ⟨g2,f2 + m2 * 12,none⟩)) w):=by
 have C:=Lib.hid (cserver_c p g f m uc w hm h4)
 have hl:=lt_of_cell h2
 have F2:=Lib.hid (fun w' (e:Ext w w')=>(e.cell (p:=⟨g,f + m * 3 + 2,none⟩) hl).trans h2)
 have e1:IntKind.i64.wrap (m2:Int)=(m2:Int):=by rw [IntKind.wrap_i64]; omega
 have e2:(m2:Int) < (m2:Int) + 1:=by omega
 clear h2 h4
 go_enter Tryz.func49,Tryz.ntmps49
 go_wp2_with (first
  | (go_at_call 99; refine C.out.mono ?_; rintro e w1 ⟨rfl,hx1⟩; have h2:=F2.out w1 hx1))
 go_quiet (fail)
 all_goals go_wp2
 all_goals go_ret
 all_goals exact ⟨rfl,by (repeat first | exact Ex0 | assumption | refine Ex1 ?_ | refine Ex2 ?_ | refine Ex3 ?_ | refine Ex4 ?_ | refine Ex5 ?_)⟩
end Go.Proofs.YtmnohicojefhfaaGreatDoor
end
