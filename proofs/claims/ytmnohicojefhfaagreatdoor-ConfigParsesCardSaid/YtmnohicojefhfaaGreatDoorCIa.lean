/-
What a text is read as: how long its words are; plain laws.
-/
import Derived.Test.YtmnohicojefhfaaGreatDoorCFi
import Derived.Test.YtmnohicojefhfaaGreatDoorCHc
import Derived.Defers
import Derived.Recover
set_option maxRecDepth 100000
set_option maxHeartbeats 8000000
set_option linter.unusedVariables false
set_option linter.unusedSimpArgs false
section
namespace Go.Proofs.YtmnohicojefhfaaGreatDoor
open Go.RowKit
theorem lexF_s:∀ (f:Nat) (l:List UInt8) (n:Nat),∀ t ∈ (lexF f l n).1,t.s.length ≤ l.length:=by
 intro f
 induction f with
 | zero=>intro l n t h; cases h
 | succ f ih =>
  intro l n t h
  cases l with
  | nil=>cases h
  | cons c r =>
   have hd:(r.dropWhile (· != 10)).length ≤ r.length:=(List.dropWhile_sublist _).length_le
   have hr:∀ (l':List UInt8) (m:Nat),l'.length ≤ r.length → ∀ t ∈ (lexF f l' m).1,t.s.length ≤ (c :: r).length:=fun l' m hl t ht=>by
    have:=ih l' m t ht
    rw [List.length_cons]; omega
   unfold lexF at h
   split at h
   ·exact hr _ _ (Nat.le_refl _) t h
   split at h
   ·exact hr _ _ (Nat.le_refl _) t h
   split at h
   ·exact hr _ _ hd t h
   split at h
   ·rcases List.mem_cons.1 h with h | h
    ·rw [h]; exact Nat.zero_le _
    ·exact hr _ _ (Nat.le_refl _) t h
   split at h
   ·dsimp only at h
    split at h
    ·cases h
    ·rcases List.mem_cons.1 h with h | h
     ·rw [h]
      have:=(List.takeWhile_sublist (l:=r) (· != 34)).length_le
      rw [List.length_cons]
      exact Nat.le_succ_of_le this
     ·exact hr _ _ (by rw [List.length_drop]; omega) t h
   split at h
   ·cases h
   ·dsimp only at h
    rcases List.mem_cons.1 h with h | h
    ·rw [h]; exact (List.takeWhile_sublist (l:=c :: r) wordB).length_le
    ·have:=ih _ _ t h
     rw [List.length_drop] at this
     omega
def wsum (ns:List Nd14):Nat:=(ns.map fun n=>n.words.length).sum
def nowW (now:Option Nd14):List (List UInt8):=match now with | none=>[] | some n=>n.words
theorem nodes_w:∀ (ts:List Tk14) (now:Option Nd14) (d:Nat) (r:List Nd14 × Option Nd14 × Nat),nodesF ts now d=.ok r →
  wsum r.1 ≤ ts.length + (nowW now).length∧∀ n ∈ r.1,∀ w ∈ n.words,w ∈ nowW now ∨ ∃ t ∈ ts,w=t.s:=by
 intro ts
 induction ts with
 | nil =>
  intro now d r h
  simp only [nodesF,Except.ok.injEq] at h
  subst h
  exact ⟨Nat.zero_le _,fun n hn=>by cases hn⟩
 | cons t ts ih =>
  intro now d r h
  unfold nodesF at h
  split at h
  ·have:=ih _ _ _ h
   cases now with
   | none =>
    simp only [nowW,List.length_singleton,List.length_nil,List.length_cons] at *
    refine ⟨by omega,fun n hn w hw=>?_⟩
    rcases this.2 n hn w hw with h1 | ⟨t',h1,h2⟩
    ·rw [List.mem_singleton] at h1
     exact .inr ⟨t,by simp,h1⟩
    ·exact .inr ⟨t',by simp [h1],h2⟩
   | some m =>
    dsimp only at this
    have e0:nowW (some m)=m.words:=rfl
    have e1:nowW (some { m with words:=m.words ++ [t.s] })=m.words ++ [t.s]:=rfl
    rw [e1] at this
    rw [e0]
    have e2:(m.words ++ [t.s]).length=m.words.length + 1:=by simp
    have e3:(t :: ts).length=ts.length + 1:=rfl
    refine ⟨by omega,fun n hn w hw=>?_⟩
    rcases this.2 n hn w hw with h1 | ⟨t',h1,h2⟩
    ·rcases List.mem_append.1 h1 with h1 | h1
     ·exact .inl h1
     ·rw [List.mem_singleton] at h1
      exact .inr ⟨t,by simp,h1⟩
    ·exact .inr ⟨t',by simp [h1],h2⟩
  split at h
  ·split at h
   ·cases h
   ·have:=ih _ _ _ h
    simp only [nowW,List.length_nil,List.length_cons] at *
    refine ⟨by omega,fun n hn w hw=>?_⟩
    rcases this.2 n hn w hw with h1 | ⟨t',h1,h2⟩
    ·cases h1
    ·exact .inr ⟨t',by simp [h1],h2⟩
  ·cases now with
   | none=>cases h
   | some m =>
    have aux:∀ (m':Nd14) (d':Nat),m'.words=m.words → ((nodesF ts none d').map fun r=>(m' :: r.1,r.2))=.ok r → wsum r.1 ≤ (t :: ts).length + m.words.length∧∀ n ∈ r.1,∀ w ∈ n.words,w ∈ m.words ∨ ∃ t' ∈ t :: ts,w=t'.s:=by
     intro m' d' hm hr
     cases hx:nodesF ts none d' with
     | error e=>rw [hx] at hr; cases hr
     | ok r' =>
      rw [hx] at hr
      simp only [Except.map,Except.ok.injEq] at hr
      subst hr
      have:=ih _ _ _ hx
      simp only [nowW,List.length_nil] at this
      refine ⟨by simp only [wsum,List.map_cons,List.sum_cons,hm,List.length_cons] at *; omega,fun n hn w hw=>?_⟩
      rcases List.mem_cons.1 hn with h1 | h1
      ·subst h1; rw [hm] at hw; exact .inl hw
      ·rcases this.2 n h1 w hw with h2 | ⟨t',h2,h3⟩
       ·cases h2
       ·exact .inr ⟨t',by simp [h2],h3⟩
    dsimp only at h
    split at h
    ·split at h
     ·cases h
     ·exact aux { m with block:=true } (d + 1) rfl h
    ·exact aux m d rfl h
theorem tree_w {l:List UInt8} {ns:List Nd14} (h:treeL l=.ok ns):wsum ns ≤ l.length∧∀ n ∈ ns,∀ w ∈ n.words,w.length ≤ l.length:=by
 unfold treeL at h
 split at h
 ·cases h
 ·rename_i ns' now d' hx
  split at h
  ·cases h
  ·split at h
   ·cases h
   ·simp only [Except.ok.injEq] at h
    subst h
    have:=nodes_w _ _ _ _ hx
    have hl:=lexL_len l
    simp only [nowW,List.length_nil] at this
    refine ⟨by omega,fun n hn w hw=>?_⟩
    rcases this.2 n hn w hw with h1 | ⟨t,h1,h2⟩
    ·cases h1
    ·rw [h2]; exact lexF_s _ _ _ t h1
theorem fo_words:∀ (f:Fo) (d:Nat),wsum (f.flat d)=f.words:=by
 intro f
 induction f with
 | nil=>intro d; rfl
 | node ws l b k n ihk ihn =>
  intro d
  have a:=ihk (d + 1)
  have b:=ihn d
  simp only [wsum,Fo.flat,Fo.words,List.map_cons,List.map_append,List.sum_cons,List.sum_append] at *
  omega
theorem fo_b:∀ (f:Fo) (d M:Nat),(∀ n ∈ f.flat d,n.words.length ≤ M∧∀ s ∈ n.words,s.length ≤ 65536) → FoB f M:=by
 intro f
 induction f with
 | nil=>intro d M h; trivial
 | node ws l b k n ihk ihn =>
  intro d M h
  have h0:=h ⟨ws,d,b,l⟩ (by simp [Fo.flat])
  exact ⟨h0.1,h0.2,ihk (d + 1) M (fun x hx=>h x (by simp [Fo.flat,hx])),ihn d M (fun x hx=>h x (by simp [Fo.flat,hx]))⟩
theorem wsum_mem {ns:List Nd14} {n:Nd14} (h:n ∈ ns):n.words.length ≤ wsum ns:=by
 induction ns with
 | nil=>cases h
 | cons x r ih =>
  simp only [wsum,List.map_cons,List.sum_cons] at *
  rcases List.mem_cons.1 h with h | h
  ·rw [h]; omega
  ·have:=ih h; omega
theorem tree_fo {l:List UInt8} (hl:l.length ≤ 65536) {f:Fo} (h:treeL l=.ok (f.flat 0)):FoB f 65536∧f.words ≤ 65536:=by
 have hw:=tree_w h
 have h2:=fo_words f 0
 refine ⟨fo_b f 0 65536 fun n hn=>⟨?_,fun s hs=>?_⟩,by omega⟩
 ·have:=wsum_mem hn; omega
 ·have:=hw.2 n hn s hs; omega
structure CfT (c:Cf14):Prop where
 ups:∀ u ∈ c.ups,u.name.length ≤ 65536∧∀ p ∈ u.peers,I64 p.id
 srvs:∀ s ∈ c.srvs,(∀ n ∈ s.names,n.length ≤ 65536)∧∀ l ∈ s.locs,l.pre.length ≤ 65536∧l.root.length ≤ 65536∧l.index.length ≤ 65536∧l.goal.length ≤ 65536
theorem i64_nat (n:Nat) (h:n ≤ 1000000000000000000):I64 (n:Int):=by
 unfold I64
 have h1:IntKind.i64.min=-9223372036854775808:=rfl
 have h2:IntKind.i64.max=9223372036854775807:=rfl
 simp [Lit.wf,h1,h2]
 omega
theorem numC_i {w:List UInt8} {n:Int} (h:numC w=some n):I64 n:=by
 unfold numC at h
 split at h
 ·simp only [Option.some.injEq] at h
  subst h
  unfold numL
  split
  ·exact i64_nat 0 (by omega)
  ·split
   ·exact i64_nat _ ‹_›
   ·exact i64_nat 0 (by omega)
 ·cases h
theorem cfUp_t {c:Cf14} (h:CfT c) {g:Up14 → Up14} (hg:∀ u,(g u).name=u.name∧((∀ p ∈ u.peers,I64 p.id) → ∀ p ∈ (g u).peers,I64 p.id)):CfT (cfUp c g):=by
 refine ⟨fun u hu=>?_,h.srvs⟩
 rcases modLast_mem hu with h1 | ⟨x,h1,rfl⟩
 ·exact h.ups u h1
 ·exact ⟨by rw [(hg x).1]; exact (h.ups x h1).1,(hg x).2 (h.ups x h1).2⟩
def LoT (l:Lo14):Prop:=l.pre.length ≤ 65536∧l.root.length ≤ 65536∧l.index.length ≤ 65536∧l.goal.length ≤ 65536
theorem cfSr_t {c:Cf14} (h:CfT c) {g:Sr14 → Sr14} (hg:∀ s,((∀ n ∈ s.names,n.length ≤ 65536) → ∀ n ∈ (g s).names,n.length ≤ 65536)∧((∀ l ∈ s.locs,LoT l) → ∀ l ∈ (g s).locs,LoT l)):CfT (cfSr c g):=by
 refine ⟨h.ups,fun s hs=>?_⟩
 rcases modLast_mem hs with h1 | ⟨x,h1,rfl⟩
 ·exact h.srvs s h1
 ·exact ⟨(hg x).1 (h.srvs x h1).1,(hg x).2 (h.srvs x h1).2⟩
theorem cfLo_t {c:Cf14} (h:CfT c) {g:Lo14 → Lo14} (hg:∀ l,LoT l → LoT (g l)):CfT (cfLo c g):=by
 refine cfSr_t h fun s=>⟨fun x=>x,fun hl l hm=>?_⟩
 rcases modLast_mem hm with h1 | ⟨x,h1,rfl⟩
 ·exact hl l h1
 ·exact hg x (hl x h1)
theorem headD_len {a:List (List UInt8)} (ha:∀ s ∈ a,s.length ≤ 65536):(a.headD []).length ≤ 65536:=by
 cases a with
 | nil=>simp
 | cons x r=>exact ha x (by simp)
theorem doD_t {k:Dk} {a:List (List UInt8)} {c c1:Cf14} (h:doD k a c=some c1) (ha:∀ s ∈ a,s.length ≤ 65536) (hc:CfT c):CfT c1:=by
 have h0:=headD_len ha
 have h1:((a.drop 1).headD []).length ≤ 65536:=headD_len fun s hs=>ha s (List.mem_of_mem_drop hs)
 have hz:∀ c',c'.ups=c.ups → c'.srvs=c.srvs → CfT c':=fun c' e1 e2=>⟨by rw [e1]; exact hc.ups,by rw [e2]; exact hc.srvs⟩
 cases k
 case keep=>simp only [doD,Option.map_eq_some_iff] at h; obtain ⟨n,_,rfl⟩:=h; exact hz _ rfl rfl
 case body=>simp only [doD,Option.map_eq_some_iff] at h; obtain ⟨n,_,rfl⟩:=h; exact hz _ rfl rfl
 case store=>simp only [doD,Option.map_eq_some_iff] at h; obtain ⟨n,_,rfl⟩:=h; exact hz _ rfl rfl
 case conns=>simp only [doD,Option.map_eq_some_iff] at h; obtain ⟨n,_,rfl⟩:=h; exact hz _ rfl rfl
 case upstream =>
  simp only [doD,Option.some.injEq] at h; subst h
  refine ⟨fun u hu=>?_,hc.srvs⟩
  rcases List.mem_append.1 hu with h2 | h2
  ·exact hc.ups u h2
  ·rw [List.mem_singleton] at h2; subst h2; exact ⟨h0,fun p hp=>by cases hp⟩
 case server =>
  simp only [doD,Option.some.injEq] at h; subst h
  refine ⟨hc.ups,fun s hs=>?_⟩
  rcases List.mem_append.1 hs with h2 | h2
  ·exact hc.srvs s h2
  ·rw [List.mem_singleton] at h2; subst h2; exact ⟨fun p hp=>by (cases hp),fun p hp=>by cases hp⟩
 case peer =>
  have aux:∀ n m:Int,I64 n → CfT (cfUp c fun u=>{ u with peers:=u.peers ++ [⟨n,m⟩] }):=fun n m hn=>cfUp_t hc fun u=>⟨rfl,fun hu p hp=>by
   rcases List.mem_append.1 hp with h2 | h2
   ·exact hu p h2
   ·rw [List.mem_singleton] at h2; subst h2; exact hn⟩
  simp only [doD,Option.bind_eq_some_iff] at h
  obtain ⟨n,hn,h⟩:=h
  split at h
  ·simp only [Option.map_eq_some_iff] at h; obtain ⟨m,_,rfl⟩:=h; exact aux n m (numC_i hn)
  ·simp only [Option.some.injEq] at h; subst h; exact aux n 8 (numC_i hn)
 case timeout=>simp only [doD,Option.map_eq_some_iff] at h; obtain ⟨n,_,rfl⟩:=h; exact cfUp_t hc fun u=>⟨rfl,fun x=>x⟩
 case retries=>simp only [doD,Option.map_eq_some_iff] at h; obtain ⟨n,_,rfl⟩:=h; exact cfUp_t hc fun u=>⟨rfl,fun x=>x⟩
 case name =>
  simp only [doD,Option.some.injEq] at h; subst h
  exact cfSr_t hc fun s=>⟨fun hn n hm=>by
   rcases List.mem_append.1 hm with h2 | h2
   ·exact hn n h2
   ·exact ha n h2,fun x=>x⟩
 case dflt=>simp only [doD,Option.some.injEq] at h; subst h; exact cfSr_t hc fun s=>⟨fun x=>x,fun x=>x⟩
 case location =>
  simp only [doD,Option.some.injEq] at h; subst h
  exact cfSr_t hc fun s=>⟨fun x=>x,fun hl l hm=>by
   rcases List.mem_append.1 hm with h2 | h2
   ·exact hl l h2
   ·rw [List.mem_singleton] at h2; subst h2; exact ⟨h0,Nat.zero_le _,Nat.zero_le _,Nat.zero_le _⟩⟩
 case root=>simp only [doD,Option.some.injEq] at h; subst h; exact cfLo_t hc fun l hl=>⟨hl.1,h0,hl.2.2⟩
 case index=>simp only [doD,Option.some.injEq] at h; subst h; exact cfLo_t hc fun l hl=>⟨hl.1,hl.2.1,h0,hl.2.2.2⟩
 case gzip=>simp only [doD,Option.map_eq_some_iff] at h; obtain ⟨n,_,rfl⟩:=h; exact cfLo_t hc fun l hl=>hl
 case expires=>simp only [doD,Option.map_eq_some_iff] at h; obtain ⟨n,_,rfl⟩:=h; exact cfLo_t hc fun l hl=>hl
 case proxy=>simp only [doD,Option.some.injEq] at h; subst h; exact cfLo_t hc fun l hl=>hl
 case cache=>simp only [doD,Option.some.injEq] at h; subst h; exact cfLo_t hc fun l hl=>hl
 case limit=>simp only [doD,Option.map_eq_some_iff,Option.bind_eq_some_iff] at h; obtain ⟨n,_,m,_,rfl⟩:=h; exact cfLo_t hc fun l hl=>hl
 case ret =>
  simp only [doD,Option.map_eq_some_iff] at h; obtain ⟨n,_,rfl⟩:=h
  exact cfLo_t hc fun l hl=>by
   split
   ·exact ⟨hl.1,hl.2.1,hl.2.2.1,h1⟩
   ·exact hl
theorem build_t:∀ (f:Fo) (b:Option Dk) (came:List Dk) (c:Cf14) (r:List Dk × Cf14),FoB f 65536 → buildF b came c f=.ok r → CfT c → CfT r.2:=by
 intro f
 induction f with
 | nil=>intro b came c r _ h hc; cases h; exact hc
 | node ws l bl k n ihk ihn =>
  intro b came c r hw h hc
  rw [buildF] at h
  split at h
  ·cases h
  ·split at h
   ·split at h
    ·cases h
    ·rename_i c1 hd
     split at h
     ·cases h
     ·rename_i r1 hr
      have h1:=doD_t hd (fun s hs=>hw.2.1 s (List.mem_of_mem_drop hs)) hc
      exact ihn _ _ _ _ hw.2.2.2 h (ihk _ _ _ _ hw.2.2.1 hr h1)
   ·cases h
theorem cf0_t:CfT cf0:=⟨fun u hu=>(by cases hu),fun s hs=>(by cases hs)⟩
theorem cf0_b:CfB 0 cf0:=⟨Nat.le_refl _,Nat.le_refl _,fun u hu=>(by cases hu),fun s hs=>(by cases hs),fun s hs=>(by cases hs)⟩
theorem flat_bd {α:Type} (l:List α) (g:α → List (List UInt8)) (M:Nat) (h:∀ x ∈ l,(g x).length ≤ M):(l.flatMap g).length ≤ l.length * M:=by
 induction l with
 | nil=>simp
 | cons x l ih =>
  have:=ih fun y hy=>h y (by simp [hy])
  have h0:=h x (by simp)
  rw [List.flatMap_cons,List.length_append,List.length_cons,Nat.add_mul]
  omega
theorem CfS.of {c:Cf14} (hb:CfB 65536 c) (ht:CfT c):CfS c:=by
 refine ⟨by have:=hb.ups; omega,by have:=hb.srvs; omega,fun u hu=>⟨by have:=(ht.ups u hu).1; omega,by have:=hb.peers u hu; omega,(ht.ups u hu).2⟩,fun s hs=>⟨by have:=hb.names s hs; omega,by have:=hb.locs s hs; omega,fun n hn=>by have:=(ht.srvs s hs).1 n hn; omega,fun l hl=>?_⟩,?_⟩
 ·have:=(ht.srvs s hs).2 l hl
  exact ⟨by omega,by omega,by omega,by omega⟩
 ·have h1:=flat_bd c.srvs (·.names) 65536 hb.names
  have h2:=hb.srvs
  have h3:c.srvs.length * 65536 ≤ 65536 * 65536:=Nat.mul_le_mul_right _ h2
  omega
end Go.Proofs.YtmnohicojefhfaaGreatDoor
end
section
namespace Go.Proofs.YtmnohicojefhfaaGreatDoor
open Go.RowKit Go.Extern.Stop Go.Stop Go.Extern
theorem parseD_idle (p q r:Addr) (w:World) :
  CallsD Tryz.prog 20 #[.pointer (some p),.pointer (some q),.pointer (some r)] .returning w fun e u' w'=>e=.returned (.tuple #[])∧u'=.returning∧w'=w:=by
 refine callsD_of_wpS Tryz.func20 rfl fun c₀ cs hu=>?_
 apply wpS_seq
 apply wpS_region
 simp [wpOpsS,go_sem,recoverD,hu,Tryz.ntmps20,Exit.thenS]
 apply wpS_seq
 apply wpS_region
 simp [wpOpsS,go_sem,Exit.thenS]
 refine wpS_cond (t:=false) (by simp [Act.eval,Array.replicate]) ?_
 simp only [Bool.false_eq_true,if_false]
 refine wpS_of_wp (wp_skip ?_)
 cases c₀
 simp_all [bodyPostS,results,Tryz.results20,Exit.thenS]
def zCf:Array Value:=#[.int .i64 0,.int .i64 0,.int .i64 0,.int .i64 0,.slice none 0 0,.slice none 0 0]
structure PdAt (w:World) (bv bq br:Nat) (e:Int) (w':World):Prop where
 v:w'.heap[bv]?=some (.cells zCf 25 (0,0))
 q:w'.heap[bq]?=some (.cells #[.int .i64 e] 3 (0,0))
 r:w'.heap[br]?=some (.cells #[.int .i64 60] 26 (0,0))
 s:∀ (K:Nat → Prop) (o:Ow),K (o bv) → K (o bq) → K (o br) → Stp K w o w' o
def PdQ (w:World) (bv bq br:Nat) (e:Int) (x:Ending) (u':FrameMode) (w':World):Prop:=x=.returned (.tuple #[])∧u'=.panicking [{ v:=.iface 48 (.int .i64 e),recovered:=true }]∧PdAt w bv bq br e w'
theorem heap_setCell_ne (w:World) (a:Addr) (u:Value) (b:Nat) (h:b ≠ a.block):(w.setCell a u).heap[b]?=w.heap[b]?:=Below.heap_setCell w a u b h
theorem pd_mk (w:World) (bv bq br:Nat) (e e1 e2:Int) (c0 c1 c2 c3 c4 c5:Value) (hv:w.heap[bv]?=some (.cells #[c0,c1,c2,c3,c4,c5] 25 (0,0))) (hq:w.heap[bq]?=some (.cells #[.int .i64 e1] 3 (0,0))) (hr:w.heap[br]?=some (.cells #[.int .i64 e2] 26 (0,0)))
  (h1:bv ≠ bq) (h2:bv ≠ br) (h3:bq ≠ br) :
  PdAt w bv bq br e ((((((((w.setCell ⟨bv,0,none⟩ (.int .i64 0)).setCell ⟨bv,1,none⟩ (.int .i64 0)).setCell ⟨bv,2,none⟩ (.int .i64 0)).setCell ⟨bv,3,none⟩ (.int .i64 0)).setCell ⟨bv,4,none⟩ (.slice none 0 0)).setCell ⟨bv,5,none⟩ (.slice none 0 0)).setCell ⟨bq,0,none⟩ (.int .i64 e)).setCell ⟨br,0,none⟩ (.int .i64 60)).drew:=by
 have r1:=row_set (row_set (row_set (row_set (row_set (row_set hv 0 (.int .i64 0)) 1 (.int .i64 0)) 2 (.int .i64 0)) 3 (.int .i64 0)) 4 (.slice none 0 0)) 5 (.slice none 0 0)
 refine ⟨?_,?_,?_,fun K o k1 k2 k3=>?_⟩
 ·rw [show ∀ W:World,W.drew.heap=W.heap from fun _=>rfl,heap_setCell_ne _ _ _ _ (by simpa using h2),heap_setCell_ne _ _ _ _ (by simpa using h1)]
  exact r1
 ·rw [show ∀ W:World,W.drew.heap=W.heap from fun _=>rfl,heap_setCell_ne _ _ _ _ (by simpa using h3)]
  refine row_set (cs:=#[.int .i64 e1]) ?_ 0 _
  iterate 6 rw [heap_setCell_ne _ _ _ _ (by simpa using h1.symm)]
  exact hq
 ·rw [show ∀ W:World,W.drew.heap=W.heap from fun _=>rfl]
  refine row_set (cs:=#[.int .i64 e2]) ?_ 0 _
  rw [heap_setCell_ne _ _ _ _ (by simpa using h3.symm)]
  iterate 6 rw [heap_setCell_ne _ _ _ _ (by simpa using h2.symm)]
  exact hr
 ·refine Stp.tr ?_ (Stp.ext (Ext.dr (Ext.rfl' _)))
  refine Stp.tr ?_ (Stp.set br 0 _ (fun _=>k3))
  refine Stp.tr ?_ (Stp.set bq 0 _ (fun _=>k2))
  refine Stp.tr ?_ (Stp.set bv 5 _ (fun _=>k1))
  refine Stp.tr ?_ (Stp.set bv 4 _ (fun _=>k1))
  refine Stp.tr ?_ (Stp.set bv 3 _ (fun _=>k1))
  refine Stp.tr ?_ (Stp.set bv 2 _ (fun _=>k1))
  refine Stp.tr ?_ (Stp.set bv 1 _ (fun _=>k1))
  exact Stp.set bv 0 _ (fun _=>k1)
theorem parseD_caught (bv bq br:Nat) (e:Int) (w:World) (c0 c1 c2 c3 c4 c5:Value) (e1 e2:Int) (hv:w.heap[bv]?=some (.cells #[c0,c1,c2,c3,c4,c5] 25 (0,0))) (hq:w.heap[bq]?=some (.cells #[.int .i64 e1] 3 (0,0))) (hr:w.heap[br]?=some (.cells #[.int .i64 e2] 26 (0,0)))
  (h1:bv ≠ bq) (h2:bv ≠ br) (h3:bq ≠ br) :
  CallsD Tryz.prog 20 #[.pointer (some ⟨bv,0,none⟩),.pointer (some ⟨bq,0,none⟩),.pointer (some ⟨br,0,none⟩)] (.panicking [{ v:=.iface 48 (.int .i64 e),recovered:=false }]) w (PdQ w bv bq br e):=by
 have HPD:=Lib.hid (pd_mk w bv bq br e e1 e2 c0 c1 c2 c3 c4 c5 hv hq hr h1 h2 h3)
 refine callsD_of_wpS Tryz.func20 rfl fun c₀ cs hu=>?_
 apply wpS_seq
 apply wpS_region
 simp [wpOpsS,go_sem,recoverD,hu,Tryz.ntmps20,Exit.thenS]
 apply wpS_seq
 apply wpS_region
 simp [wpOpsS,go_sem,Exit.thenS]
 have hta:∀ w',(Instr.typeAssert (.iface 48 (.int .i64 e)) 20 48 false).run Tryz.prog w'=.ok (.int .i64 e) w':=fun _=>by first | rfl | (simp [Instr.typeAssert,go_sem]; done)
 refine wpS_cond (t:=true) (by simp [Act.eval,Array.replicate]) ?_
 simp only [if_true]
 refine wpS_of_wp ?_
 simp only [Array.replicate_succ,Array.replicate_zero,List.push_toArray,List.nil_append,List.cons_append,List.setIfInBounds_toArray,List.set_cons_zero,List.set_cons_succ,List.append_toArray]
 have v0:=row_facts hv 0 _ rfl
 have v1:=row_facts hv 1 _ rfl
 have v2:=row_facts hv 2 _ rfl
 have v3:=row_facts hv 3 _ rfl
 have v4:=row_facts hv 4 _ rfl
 have v5:=row_facts hv 5 _ rfl
 have q0:=row_facts hq 0 _ rfl
 have r0:=row_facts hr 0 _ rfl
 clear hv hq hr
 go_wp2
 go_region_with (fail)
 all_goals go_wp2
 all_goals cases c₀
 all_goals simp [bodyPostS,results,Tryz.results20,Exit.thenS]
 all_goals exact ⟨rfl,rfl,HPD.out⟩
end Go.Proofs.YtmnohicojefhfaaGreatDoor
end
section
namespace Go.Proofs.YtmnohicojefhfaaGreatDoor
open Go.RowKit Go.Extern.Stop Go.Stop Go.Extern
theorem ne_row {w:World} {P:Nat} {row:Array Value} {T:TypeId} (h:w.heap[P]?=some (.cells row T (0,0))) {b f:Nat} {v:Value} (hc:w.cell? ⟨b,f,none⟩=some v) (hv:∀ i:Nat,row[i]? ≠ some v):b ≠ P:=by
 rintro rfl
 rw [cell_of_row w b f row T (0,0) h] at hc
 exact hv _ hc
def oP (P:Nat):Ow:=fun b=>if b=P then 1 else 0
theorem oP_ne {P b:Nat} (h:b ≠ P):oP P b=0:=if_neg h
def rowB:Array Value:=bdC cf0 0 none 0 none 0
theorem rowB_str (s:ByteArray):∀ i:Nat,rowB[i]? ≠ some (.string s):=by
 intro i
 rcases i with _ | _ | _ | _ | _ | _ | _ | i <;> simp [rowB,bdC,cf0]
theorem rowB_ptr (a:Option Addr):∀ i:Nat,rowB[i]? ≠ some (.pointer a):=by
 intro i
 rcases i with _ | _ | _ | _ | _ | _ | _ | i <;> simp [rowB,bdC,cf0]
theorem rowB_if (t:TypeId) (v:Value):∀ i:Nat,rowB[i]? ≠ some (.iface t v):=by
 intro i
 rcases i with _ | _ | _ | _ | _ | _ | _ | i <;> simp [rowB,bdC,cf0]
theorem rowB_fn (f:Fn) (a b:Array Value):∀ i:Nat,rowB[i]? ≠ some (.func f a b):=by
 intro i
 rcases i with _ | _ | _ | _ | _ | _ | _ | i <;> simp [rowB,bdC,cf0]
section
variable {w:World} {P:Nat} (hP:w.heap[P]?=some (.cells rowB 51 (0,0)))
include hP
theorem rdz_of {A:Option Addr} {xs:List Value} (h:Rd w A xs) (hx:∀ u ∈ xs,∀ i:Nat,rowB[i]? ≠ some u):RdZ w (oP P) A xs:=by
 refine ⟨h,?_⟩
 rcases h with h | ⟨b,f,hA,hc⟩
 ·exact .inl h
 ·cases xs with
  | nil=>exact .inl rfl
  | cons x xs =>
   refine .inr fun a ha=>?_
   rw [hA] at ha
   cases ha
   exact oP_ne (ne_row hP (hc 0 x rfl) (hx x (by simp)))
theorem foz_of:∀ {f:Fo} {ps:List Nat},FoAt w ps f → FoZ w (oP P) ps f:=by
 intro f
 induction f with
 | nil=>intro ps h; exact h
 | node ws l b k n ihk ihn =>
  rintro ps ⟨p,ps',A,c,pk,B,d,h0,h1,h2,h3,h4,h5,h6⟩
  refine ⟨p,ps',A,c,pk,B,d,h0,h1,oP_ne ?_,rdz_of hP h2 ?_,rdz_of hP h3 ?_,ihk h4,ihn h5,h6⟩
  ·rintro rfl
   rw [h1] at hP
   simp [rowB,bdC] at hP
  ·intro u hu
   obtain ⟨x,_,rfl⟩:=List.mem_map.1 hu
   exact rowB_str _
  ·intro u hu
   obtain ⟨x,_,rfl⟩:=List.mem_map.1 hu
   exact rowB_ptr _
theorem dirsz_of {db:Nat} (h:DirsAt db w):DirsZ db w (oP P):=by
 obtain ⟨hl,M,h1,h2,h3⟩:=h
 refine ⟨hl,oP_ne ?_,M,h1,fun k=>?_,h3⟩
 ·rintro rfl
  obtain ⟨D,⟨es,clock,h0,_⟩,_⟩:=h1
  rw [h0] at hP
  simp at hP
 ·obtain ⟨fv,h4,h5⟩:=h2 k
  refine ⟨fv,h4,h5,fun gc e=>oP_ne ?_⟩
  subst e
  have aux:∀ G,SetF G (.func (.func 102) #[] #[.pointer (some ⟨gc,0,none⟩)]) w → gc ≠ P:=by
   rintro G ⟨g,hg,hc⟩
   injection hg with _ _ hg
   simp at hg
   subst hg
   exact ne_row hP hc (rowB_fn _ _ _)
  cases k <;> first | exact aux _ h5 | (exfalso; have h6:(Value.func (.func 102) #[] #[.pointer (some ⟨gc,0,none⟩)])=_:=h5; simp at h6)
theorem ge_of (h:ErrR w):GE w (oP P):=by
 refine ⟨h,?_⟩
 obtain ⟨te,pe,hc⟩:=h
 exact oP_ne (ne_row hP hc (rowB_if _ _))
theorem cfat_of:CfAt w (oP P) P cf0 0:=by
 refine ⟨[],none,0,[],none,0,⟨if_pos rfl,hP,rfl,rfl,Sl.nil_ _ _ _ _ _,fun _=>rfl,Sl.nil_ _ _ _ _ _,fun _=>rfl,fun i x h=>(by simp at h),fun i x h=>(by simp at h),fun i x h=>(by simp at h)⟩⟩
end
theorem Cf0.rd {w:World} {o:Ow} {p line uc sc:Nat} {c:Cf14} {U:List (Up14 × Hd)} {S:List (Sr14 × Hd × Hd)} {UA SA:Option Addr} (h:Cf0 w o p c line U UA uc S SA sc):CfR w c U UA S SA :=
 ⟨h.hU,h.hS,h.ups.rd,h.srvs.rd,fun x hx=>by obtain ⟨i,hi⟩:=List.getElem?_of_mem hx; exact (h.peers i x hi).1.rd,fun x hx=>by obtain ⟨i,hi⟩:=List.getElem?_of_mem hx; exact (h.names i x hi).1.rd,fun x hx=>by obtain ⟨i,hi⟩:=List.getElem?_of_mem hx; exact (h.locs i x hi).1.rd⟩
def cfV (c:Cf14) (UA:Option Addr) (uc:Nat) (SA:Option Addr) (sc:Nat):Value:=.agg #[.int .i64 c.keep,.int .i64 c.body,.int .i64 c.store,.int .i64 c.conns,.slice UA c.ups.length uc,.slice SA c.srvs.length sc]
def IsCf (c:Cf14) (v:Value) (w:World):Prop:=∃ U UA uc S SA sc,v=cfV c UA uc SA sc∧CfR w c U UA S SA
def IsPa (r:Cf14 × Nat × Int) (v:Value) (w:World):Prop:=∃ cv,v=.tuple #[cv,.int .i64 (r.2.1:Int),.int .i64 r.2.2]∧IsCf r.1 cv w∧CfB 65536 r.1∧CfT r.1
theorem IsCf.ext {c:Cf14} {v:Value} {w w':World} (h:IsCf c v w) (e:Ext w w'):IsCf c v w':=by
 obtain ⟨U,UA,uc,S,SA,sc,h1,h2⟩:=h
 exact ⟨U,UA,uc,S,SA,sc,h1,h2.ext e⟩
theorem IsCf.zero (w:World):IsCf cfZ (cfV cfZ none 0 none 0) w:=⟨[],none,0,[],none,0,rfl,rfl,rfl,.inl rfl,.inl rfl,fun x hx=>(by cases hx),fun x hx=>(by cases hx),fun x hx=>(by cases hx)⟩
theorem IsPa.bad {r:Cf14 × Nat × Int} (w:World) (n:Nat) (e:Int) (h:r=(cfZ,n,e)):IsPa r (.tuple #[.agg zCf,.int .i64 (n:Int),.int .i64 e]) w:=by
 subst h
 exact ⟨_,rfl,IsCf.zero w,⟨Nat.zero_le _,Nat.zero_le _,fun u hu=>(by cases hu),fun u hu=>(by cases hu),fun u hu=>(by cases hu)⟩,⟨fun u hu=>(by cases hu),fun u hu=>(by cases hu)⟩⟩
end Go.Proofs.YtmnohicojefhfaaGreatDoor
end
