/-
Directives: a number is put where a closure says.
-/
import Derived.Test.YtmnohicojefhfaaGreatDoorCFc
import Derived.Test.YtmnohicojefhfaaGreatDoorPUa
import Derived.Deep.CutBlock
import Derived.RegionDies
import Derived.Test.YtmnohicojefhfaaGreatDoorBase
import Derived.Maps.RangeWalk
import Derived.Maps.OwnSet
set_option maxRecDepth 100000
set_option maxHeartbeats 8000000
set_option linter.unusedVariables false
set_option linter.unusedSimpArgs false
section
namespace Go.Proofs.YtmnohicojefhfaaGreatDoor
open Go.RowKit
structure GE (w:World) (o:Ow):Prop where
 er:ErrR w
 o2:o 3=0
theorem GE.stp {K:Nat → Prop} {w w':World} {o o':Ow} (h:GE w o) (s:Stp K w o w' o') (h0:¬ K 0):GE w' o':=by
 obtain ⟨⟨t,p,he⟩,h2⟩:=h
 exact ⟨⟨t,p,s.cell (by rw [h2]; exact h0) he⟩,(s.own _ (lt_of_cell he)).trans h2⟩
theorem GE.ext {w w':World} {o:Ow} (h:GE w o) (e:Ext w w'):GE w' o:=h.stp (K:=fun _=>False) (Stp.ext e) (fun x=>x)
theorem post_put {P:Program} {fn:Func} {R:Ending → World → Prop} {c} {a:Act} {d:Option Tmp} {v:Value} {w:World} (h:bodyPost P fn R (.panic c) (a.put d v) w):bodyPost P fn R (.panic c) a w:=by cases d <;> exact h
theorem cnumber_yes (p:Nat) (s:List UInt8) (hs:s.length ≤ 65536) (n:Int) (hn:numC s=some n) (w:World) (hE:ErrR w) :
  Calls Tryz.prog 57 #[.pointer (some ⟨p,0,none⟩),.string (str s)] w (Gives (.int .i64 n) w):=by
 have C:=Decimal_c s (by omega) w hE
 have h2:(numL 10 1000000000000000000 s).2=0∧(numL 10 1000000000000000000 s).1=n:=by
  unfold numC at hn
  split at hn
  ·rename_i h; cases hn; exact ⟨h,rfl⟩
  ·cases hn
 rw [h2.1,h2.2] at C
 have C:=Lib.hid C
 obtain ⟨sv,hsv⟩:∃ x,x=str s:=⟨_,rfl⟩
 rw [← hsv] at C ⊢
 clear hn h2 hsv
 go_enter Tryz.func57,Tryz.ntmps57
 go_wp2_with (first
  | (go_at_call 103; refine C.out.mono ?_; rintro e w1 ⟨rfl,hx1⟩))
 go_ret
 exact ⟨rfl,by (repeat first | exact Ex0 | assumption | refine Ex1 ?_ | refine Ex2 ?_ | refine Ex3 ?_ | refine Ex4 ?_ | refine Ex5 ?_)⟩
theorem cnumber_no (p line:Nat) (s:List UInt8) (hs:s.length ≤ 65536) (hn:numC s=none) (w:World) (hE:ErrR w) (h6:w.cell? ⟨p,6,none⟩=some (.int .i64 (line:Int))) :
  Calls Tryz.prog 57 #[.pointer (some ⟨p,0,none⟩),.string (str s)] w fun e w'=>e=.panicked [{ v:=.iface 48 (.int .i64 (line:Int)),recovered:=false }]∧Ext w w':=by
 have C:=Decimal_c s (by omega) w hE
 obtain ⟨er,her⟩:∃ e,e=(numL 10 1000000000000000000 s).2:=⟨_,rfl⟩
 obtain ⟨nn,hnn⟩:∃ e,e=(numL 10 1000000000000000000 s).1:=⟨_,rfl⟩
 have h2:(er != 0)=true:=by
  unfold numC at hn
  rw [bne_iff_ne,her]
  intro h; rw [if_pos h] at hn; cases hn
 rw [← her,← hnn] at C
 have C:=Lib.hid C
 obtain ⟨sv,hsv⟩:∃ x,x=str s:=⟨_,rfl⟩
 rw [← hsv] at C ⊢
 have hl:=lt_of_cell h6
 have F6:=Lib.hid (fun w' (e:Ext w w')=>(e.cell (p:=⟨p,6,none⟩) hl).trans h6)
 clear hn hsv her hnn h6
 go_enter Tryz.func57,Tryz.ntmps57
 go_wp2_with (first
  | (go_at_call 103; refine C.out.mono ?_; rintro e w1 ⟨rfl,hx1⟩; have k6:=F6.out _ hx1))
 simp only [bodyPost]
 exact ⟨trivial,trivial,by (repeat first | exact Ex0 | assumption | refine Ex1 ?_ | refine Ex2 ?_ | refine Ex3 ?_ | refine Ex4 ?_ | refine Ex5 ?_)⟩
end Go.Proofs.YtmnohicojefhfaaGreatDoor
end
section
namespace Go.Proofs.YtmnohicojefhfaaGreatDoor
open Go.RowKit
open Go.Maps (Keyed IsMap Tidy)
open Go.WideMaps (keyOf_string_mk)
def heldR (v:Value):Option (DataW Value × List MemPlace):=some (.held v,[])
section
variable {α:Type}
def lkM (M:List (List UInt8 × α)) (l:List UInt8):Option α:=match M with | []=>none | (k,v) :: r=>if k=l then some v else lkM r l
def putM (M:List (List UInt8 × α)) (l:List UInt8) (v:α):List (List UInt8 × α):=match M with | []=>[(l,v)] | (k,u) :: r=>if k=l then (k,v) :: r else (k,u) :: putM r l v
theorem lk_put_same (M:List (List UInt8 × α)) (l:List UInt8) (v:α):lkM (putM M l v) l=some v:=by
 induction M with
 | nil=>simp [putM,lkM]
 | cons x r ih=>obtain ⟨k,u⟩:=x; unfold putM; by_cases h:k=l <;> simp [h,lkM,ih]
theorem lk_put_other (M:List (List UInt8 × α)) {l l':List UInt8} (h:l' ≠ l) (v:α):lkM (putM M l v) l'=lkM M l':=by
 induction M with
 | nil=>simp [putM,lkM,Ne.symm h]
 | cons x r ih =>
  obtain ⟨k,u⟩:=x; unfold putM
  by_cases hk:k=l
  ·subst hk; simp [lkM,Ne.symm h]
  ·simp only [hk,if_false,lkM,ih]
theorem put_len (M:List (List UInt8 × α)) (l:List UInt8) (v:α):(putM M l v).length=if (lkM M l).isSome then M.length else M.length + 1:=by
 induction M with
 | nil=>simp [putM,lkM]
 | cons x r ih =>
  obtain ⟨k,u⟩:=x; unfold putM
  by_cases hk:k=l
  ·simp [hk,lkM]
  ·simp only [hk,if_false,lkM,List.length_cons,ih]; split <;> rfl
theorem mem_put {M:List (List UInt8 × α)} {l:List UInt8} {v:α} {x:List UInt8 × α} (h:x ∈ putM M l v):x=(l,v) ∨ x ∈ M:=by
 induction M with
 | nil=>simp [putM] at h; exact .inl h
 | cons y r ih =>
  obtain ⟨k,u⟩:=y; unfold putM at h
  split at h
  ·rename_i hk; subst hk
   rcases List.mem_cons.1 h with h | h
   ·exact .inl h
   ·exact .inr (List.mem_cons_of_mem _ h)
  ·rcases List.mem_cons.1 h with h | h
   ·exact .inr (h ▸ List.mem_cons_self ..)
   ·rcases ih h with h | h
    ·exact .inl h
    ·exact .inr (List.mem_cons_of_mem _ h)
def OneM (M:List (List UInt8 × α)):Prop:=M.Pairwise (fun p q=>p.1 ≠ q.1)
theorem OneM.put {M:List (List UInt8 × α)} (h:OneM M) (l:List UInt8) (v:α):OneM (putM M l v):=by
 induction M with
 | nil=>simp [putM,OneM]
 | cons y r ih =>
  obtain ⟨k,u⟩:=y
  have h1:=List.pairwise_cons.1 h
  unfold putM
  split
  ·exact List.pairwise_cons.2 ⟨h1.1,h1.2⟩
  ·rename_i hk
   refine List.pairwise_cons.2 ⟨fun x hx=>?_,ih h1.2⟩
   rcases mem_put hx with e | hx
   ·subst e; exact hk
   ·exact h1.1 x hx
end
def World.isM (w:World) (P:Program) (k:TypeId) (b:Nat) (M:List (List UInt8 × Value)):Prop :=
 ∃ D:DataW Value,w.ownsMap P k heldR b M.length D∧OneM M∧Maps.size D=M.length∧(∀ l,Maps.has D (.string l)=(lkM M l).isSome)∧∀ l z,D.atKey (.string l) z=match lkM M l with | some v=>.held v | none=>z
variable {P:Program} {k:TypeId} {w:World} {b:Nat} {M:List (List UInt8 × Value)}
theorem World.isM_made (w:World) (P:Program) (k:TypeId):World.isM (w.alloc (.map #[] 0)) P k w.heap.size [] :=
 ⟨.map [],World.ownsMap_made w P k heldR,List.Pairwise.nil,rfl,fun _=>rfl,fun _ _=>rfl⟩
theorem World.isM.kept {w':World} {row:Option Nat} (h:World.isM w P k b M) (hg:w.grownBy w' row) (hne:some b ≠ row):World.isM w' P k b M:=by
 obtain ⟨D,h1,h2⟩:=h; exact ⟨D,h1.kept hg hne,h2⟩
theorem World.isM.lt (h:World.isM w P k b M):b < w.heap.size:=by obtain ⟨D,h1,_⟩:=h; exact h1.lt
theorem World.isM.one (h:World.isM w P k b M):OneM M:=by obtain ⟨D,_,h1,_⟩:=h; exact h1
theorem World.isM.same {w':World} (h:World.isM w P k b M) (hb:w'.heap[b]?=w.heap[b]?):World.isM w' P k b M:=by
 obtain ⟨D,⟨es,clock,h0,F,h1⟩,h2⟩:=h; exact ⟨D,⟨es,clock,hb.trans h0,F,h1⟩,h2⟩
theorem World.isM.ext {w':World} {B:Nat} (h:World.isM w P k b M) (hx:Below B w w') (hb:b < B):World.isM w' P k b M:=h.same (hx.block b hb)
theorem World.isM.put (h:World.isM w P k b M) (K:Keyed P k) {t e:TypeId} (ht:P.underlying t=some (.map k e)) (hs:P.underlying k=some .string) (hn:M.length < maxLen) {l:List UInt8} (hl:l.length ≤ maxLen) (v:Value) :
  ∃ w',(Instr.mapUpdate t (.map (some b)) (.string ⟨l.toArray⟩) v).run P w=.ok () w'∧World.isM w' P k b (putM M l v)∧w.mapTurned w' b:=by
 obtain ⟨D,h1,h2,h3,h4,h5⟩:=h
 have hk:keyOf P k (.string ⟨l.toArray⟩)=some (.string l):=by rw [keyOf_string_mk hs (show l.toArray.size ≤ maxLen by simpa using hl)]
 obtain ⟨w',r,o,t⟩:=h1.store K ht hn hk (show heldR v=some (.held v,[]) from rfl)
 have hsz:Maps.size (D.put (.string l) (.held v))=(putM M l v).length:=by rw [Maps.size_put (h1.tidy K),h4,put_len,h3]
 refine ⟨w',r,⟨_,?_,h2.put l v,hsz,fun l'=>?_,fun l' z=>?_⟩,t⟩
 ·obtain ⟨es,clock,hb,F,hs',hD⟩:=o
  refine ⟨es,clock,hb,F,?_,hD⟩
  rw [← hsz,hD]
  simp [Maps.size,length_sorted]
 ·by_cases e:l'=l
  ·subst e; rw [Maps.has_put_same h1.isMap (k:=.string l') trivial,lk_put_same]; rfl
  ·rw [Maps.has_put_other (by intro c; injection c with c; exact e c),lk_put_other M e]; exact h4 l'
 ·by_cases e:l'=l
  ·subst e; rw [Maps.atKey_put_same h1.isMap (k:=.string l') trivial,lk_put_same]
  ·rw [Maps.atKey_put_other (by intro c; injection c with c; exact e c),lk_put_other M e]; exact h5 l' z
theorem World.isM.look (h:World.isM w P k b M) (K:Keyed P k) {t e:TypeId} (ht:P.underlying t=some (.map k e)) (hs:P.underlying k=some .string) {z:Value} (hz:(zeroValue e).run P w=.ok z w) {l:List UInt8} (hl:l.length ≤ maxLen) :
  (Instr.lookup t (.map (some b)) (.string ⟨l.toArray⟩) true).run P w=.ok (.tuple #[(lkM M l).getD z,.bool (lkM M l).isSome]) w:=by
 obtain ⟨D,h1,h2,h3,h4,h5⟩:=h
 have hk:keyOf P k (.string ⟨l.toArray⟩)=some (.string l):=by rw [keyOf_string_mk hs (show l.toArray.size ≤ maxLen by simpa using hl)]
 obtain ⟨v,ps,r,hv⟩:=h1.look_ok K ht hz (show heldR z=some (.held z,[]) from rfl) hk
 rw [r,h4]
 have e:v=(lkM M l).getD z:=by
  simp only [heldR,Option.some.injEq,Prod.mk.injEq,h5] at hv
  cases hm:lkM M l with
  | none=>rw [hm] at hv; have:=hv.1; injection this
  | some u=>rw [hm] at hv; have:=hv.1; injection this
 rw [e]
theorem World.isM.len (h:World.isM w P k b M) {t e:TypeId} (ht:P.underlying t=some (.map k e)) (ty:TypeId):(Builtin.len_ #[t] ty #[.map (some b)]).run P w=.ok (.int .i64 M.length) w:=by
 obtain ⟨D,h1,_,h3,_⟩:=h
 rw [h1.len ht ty,h3]
section
variable {ops:Array Oper} {rest:List Oper} {o:Oper} {a:Act} {Q:Exit → Act → World → Prop}
theorem wpL_look (hg:o.guard=none) (m x:Operand) (t:TypeId) (hop:o.op=Op.lookup t m x true) (e:TypeId) (K:Keyed P k) (ht:P.underlying t=some (.map k e)) (hs:P.underlying k=some .string) {z:Value} (hz:(zeroValue e).run P w=.ok z w)
  (hm:a.eval m=.map (some b)) (h:World.isM w P k b M) (l:List UInt8) (hl:l.length ≤ maxLen) (hx:a.eval x=.string ⟨l.toArray⟩)
  (hK:wpList P ops Q rest (a.put o.dst (.tuple #[(lkM M l).getD z,.bool (lkM M l).isSome])) w):wpList P ops Q (o :: rest) a w:=by
 refine wpList_plain hg fun K' hK'=>?_
 unfold Oper.wp
 simp [execOp,hop,hm,hx,h.look K ht hs hz hl,Result.andThen]
 exact hK' _ _ hK
theorem wpL_mput (hg:o.guard=none) (m x v:Operand) (t:TypeId) (hop:o.op=Op.mapUpdate t m x v) (e:TypeId) (K:Keyed P k) (ht:P.underlying t=some (.map k e)) (hs:P.underlying k=some .string)
  (hm:a.eval m=.map (some b)) (h:World.isM w P k b M) (hn:M.length < maxLen) (l:List UInt8) (hl:l.length ≤ maxLen) (hx:a.eval x=.string ⟨l.toArray⟩) (u:Value) (hv:a.eval v=u)
  (hK:∀ w',World.isM w' P k b (putM M l u) → w.mapTurned w' b → wpList P ops Q rest (a.put o.dst undef) w'):wpList P ops Q (o :: rest) a w:=by
 refine wpList_plain hg fun K' hK'=>?_
 obtain ⟨w',r,r1,r2⟩:=h.put K ht hs hn hl u
 unfold Oper.wp
 simp [execOp,hop,hm,hx,hv,r,Result.andThen]
 exact hK' _ _ (hK w' r1 r2)
end
end Go.Proofs.YtmnohicojefhfaaGreatDoor
end
section
namespace Go.Proofs.YtmnohicojefhfaaGreatDoor
open Go.RowKit
theorem rev_ind {α:Type} {P:List α → Prop} (h0:P []) (h1:∀ a x,P a → P (a ++ [x])) (l:List α):P l:=by
 have h:∀ n (l:List α),l.length=n → P l:=by
  intro n
  induction n with
  | zero=>intro l hl; rw [List.eq_nil_of_length_eq_zero hl]; exact h0
  | succ n ih =>
   intro l hl
   obtain ⟨a,x,rfl⟩:=snoc_of (l:=l) (by intro e; rw [e] at hl; simp at hl)
   exact h1 a x (ih a (by simp at hl; exact hl))
 exact h _ l rfl
def SetF (G:Nat) (fv:Value) (w:World):Prop:=∃ gc,fv=.func (.func 102) #[] #[.pointer (some ⟨gc,0,none⟩)]∧w.cell? ⟨gc,0,none⟩=some (.func (.func G) #[] #[])
def FnOk (k:Dk) (fv:Value) (w:World):Prop:=match k with
 | .keep=>SetF 88 fv w
 | .body=>SetF 89 fv w
 | .store=>SetF 90 fv w
 | .conns=>SetF 91 fv w
 | .upstream=>fv=.func (.func 92) #[] #[]
 | .peer=>fv=.func (.func 93) #[] #[]
 | .timeout=>SetF 95 fv w
 | .retries=>SetF 96 fv w
 | .server=>fv=.func (.func 97) #[] #[]
 | .name=>fv=.func (.func 98) #[] #[]
 | .dflt=>fv=.func (.func 100) #[] #[]
 | .location=>fv=.func (.func 101) #[] #[]
 | .root=>fv=.func (.func 48) #[] #[]
 | .index=>fv=.func (.func 50) #[] #[]
 | .gzip=>SetF 52 fv w
 | .expires=>SetF 53 fv w
 | .proxy=>fv=.func (.func 54) #[] #[]
 | .cache=>fv=.func (.func 55) #[] #[]
 | .limit=>fv=.func (.func 56) #[] #[]
 | .ret=>fv=.func (.func 58) #[] #[]
def inN:Option Dk → List UInt8
 | none=>[]
 | some k=>nameD k
def dirV (k:Dk) (fv:Value):Value:=.agg #[.string (str (inN (inD k))),.int .i64 (leastD k:Int),.int .i64 (mostD k:Int),.bool (blockD k),.bool (manyD k),fv]
def dm (L:List (Dk × Value)):List (List UInt8 × Value):=L.foldl (fun M x=>putM M (nameD x.1) (dirV x.1 x.2)) []
theorem dm_snoc (L:List (Dk × Value)) (x:Dk × Value):dm (L ++ [x])=putM (dm L) (nameD x.1) (dirV x.1 x.2):=by simp [dm]
theorem nameD_inj:∀ a b:Dk,nameD a=nameD b → a=b:=by
 intro a b
 cases a <;> cases b <;> first | (intro _; rfl) | (intro h; revert h; decide)
theorem dm_len (L:List (Dk × Value)):(dm L).length ≤ L.length:=by
 refine rev_ind (P:=fun L=>(dm L).length ≤ L.length) (by simp [dm]) ?_ L
 ·intro a x ih
  rw [dm_snoc,put_len,List.length_append,List.length_singleton]
  split <;> omega
theorem lk_dm (L:List (Dk × Value)):(L.map (·.1)).Nodup → ∀ k fv,(k,fv) ∈ L → lkM (dm L) (nameD k)=some (dirV k fv):=by
 refine rev_ind (P:=fun L=>(L.map (·.1)).Nodup → ∀ k fv,(k,fv) ∈ L → lkM (dm L) (nameD k)=some (dirV k fv)) ?_ ?_ L
 ·intro _ k fv h; cases h
 ·intro a x ih hn k fv h
  rw [List.map_append,List.nodup_append] at hn
  rw [dm_snoc]
  rcases List.mem_append.1 h with h | h
  ·have hne:nameD k ≠ nameD x.1:=fun e=>by
    have:=nameD_inj _ _ e
    exact hn.2.2 k (List.mem_map.2 ⟨_,h,rfl⟩) x.1 (by simp) this
   rw [lk_put_other _ hne]
   exact ih hn.1 k fv h
  ·rw [List.mem_singleton] at h
   subst h
   exact lk_put_same _ _ _
theorem lk_dm_none (L:List (Dk × Value)) (l:List UInt8):(∀ x ∈ L,nameD x.1 ≠ l) → lkM (dm L) l=none:=by
 refine rev_ind (P:=fun L=>(∀ x ∈ L,nameD x.1 ≠ l) → lkM (dm L) l=none) (fun _=>rfl) ?_ L
 ·intro a x ih h
  rw [dm_snoc,lk_put_other _ (h x (by simp)).symm]
  exact ih fun y hy=>h y (by simp [hy])
theorem cell_turned {w w':World} {b:Nat} (h:w.mapTurned w' b) {a:Addr} {u:Value} (hc:w.cell? a=some u):w'.cell? a=some u:=by
 have hb:a.block ≠ b:=by
  obtain ⟨es,clock,_,_,hh,_⟩:=h
  intro e
  unfold World.cell? at hc
  rw [e,hh] at hc
  simp at hc
 exact h.grown.cell hc fun e=>by first | exact hb (Option.some.inj e) | exact hb (Option.some.inj e).symm
theorem FnOk.keep {k:Dk} {fv:Value} {w w':World} (h:FnOk k fv w) (hc:∀ a u,w.cell? a=some u → w'.cell? a=some u):FnOk k fv w':=by
 cases k <;> first | exact h | exact ⟨h.choose,h.choose_spec.1,hc _ _ h.choose_spec.2⟩
structure DAt (b:Nat) (L:List (Dk × Value)) (w:World):Prop where
 m:World.isM w Tryz.prog 9 b (dm L)
 f:∀ x ∈ L,FnOk x.1 x.2 w
theorem DAt.ext {b:Nat} {L:List (Dk × Value)} {w w':World} (h:DAt b L w) (e:Ext w w'):DAt b L w' :=
 ⟨World.isM.same h.m (e.block b h.m.lt),fun x hx=>(h.f x hx).keep fun a u hc=>(e.cell (lt_of_cell hc)).trans hc⟩
theorem DAt.put {b:Nat} {L:List (Dk × Value)} {w w':World} (h:DAt b L w) {k:Dk} {fv:Value} (hf:FnOk k fv w) (hm:World.isM w' Tryz.prog 9 b (putM (dm L) (nameD k) (dirV k fv))) (ht:w.mapTurned w' b):DAt b (L ++ [(k,fv)]) w':=by
 refine ⟨by rw [dm_snoc]; exact hm,fun x hx=>?_⟩
 rcases List.mem_append.1 hx with hx | hx
 ·exact (h.f x hx).keep fun a u hc=>cell_turned ht hc
 ·rw [List.mem_singleton] at hx; subst hx
  exact hf.keep fun a u hc=>cell_turned ht hc
structure DirsAt (b:Nat) (w:World):Prop where
 lt:b < w.heap.size
 m:∃ M,World.isM w Tryz.prog 9 b M∧(∀ k,∃ fv,lkM M (nameD k)=some (dirV k fv)∧FnOk k fv w)∧∀ l,dkOf l=none → lkM M l=none
theorem DirsAt.ext {b:Nat} {w w':World} (h:DirsAt b w) (e:Ext w w'):DirsAt b w':=by
 obtain ⟨hl,M,h1,h2,h3⟩:=h
 refine ⟨Nat.lt_of_lt_of_le hl e.size,M,World.isM.same h1 (e.block b hl),fun k=>?_,h3⟩
 obtain ⟨fv,h4,h5⟩:=h2 k
 exact ⟨fv,h4,h5.keep fun a u hc=>(e.cell (lt_of_cell hc)).trans hc⟩
theorem DAt.all {b:Nat} {L:List (Dk × Value)} {w:World} (h:DAt b L w) (hk:L.map (·.1)=allD):DirsAt b w:=by
 have hn:(L.map (·.1)).Nodup:=by rw [hk]; decide
 refine ⟨h.m.lt,dm L,h.m,fun k=>?_,fun l hl=>?_⟩
 ·have hka:k ∈ L.map (·.1):=by rw [hk]; cases k <;> decide
  obtain ⟨x,hx,rfl⟩:=List.mem_map.1 hka
  exact ⟨x.2,lk_dm L hn x.1 x.2 hx,h.f x hx⟩
 ·refine lk_dm_none L l fun x hx=>?_
  have hxa:x.1 ∈ allD:=by rw [← hk]; exact List.mem_map.2 ⟨x,hx,rfl⟩
  have:=List.find?_eq_none.1 hl x.1 hxa
  simpa using this
theorem keyedC:Go.Maps.Keyed Tryz.prog 9:=Go.Maps.string_keyed Tryz.underlying9
theorem mapD:Tryz.prog.underlying 53=some (.map 9 115):=Tryz.underlying53
end Go.Proofs.YtmnohicojefhfaaGreatDoor
end
section
namespace Go.Proofs.YtmnohicojefhfaaGreatDoor
open Go.RowKit
def RdZ (w:World) (o:Ow) (A:Option Addr) (xs:List Value):Prop:=Rd w A xs∧(xs=[] ∨ ∀ a,A=some a → o a.block=0)
theorem RdZ.stp {K:Nat → Prop} {w w':World} {o o':Ow} {A:Option Addr} {xs:List Value} (h:RdZ w o A xs) (s:Stp K w o w' o') (h0:¬ K 0):RdZ w' o' A xs:=by
 rcases h.2 with h2 | h2
 ·exact ⟨.inl h2,.inl h2⟩
 ·by_cases hx:xs=[]
  ·exact ⟨.inl hx,.inl hx⟩
  ·refine ⟨h.1.stp s fun a ha _ hk=>h0 (by rw [h2 a ha] at hk; exact hk),.inr fun a ha=>?_⟩
   rcases h.1 with h1 | ⟨b,f,hA,hc⟩
   ·exact absurd h1 hx
   ·rw [hA] at ha; cases ha
    have hl:b < w.heap.size:=by
     obtain ⟨y,ys,rfl⟩:∃ y ys,xs=y :: ys:=by
      cases xs with
      | nil=>exact absurd rfl hx
      | cons y ys=>exact ⟨y,ys,rfl⟩
     exact lt_of_cell (hc 0 y rfl)
    exact (s.own b hl).trans (h2 _ hA)
def FoZ (w:World) (o:Ow):List Nat → Fo → Prop
 | ps,.nil=>ps=[]
 | ps,.node ws l b k n=>∃ p ps' A c pk B d,ps=p :: ps'∧w.heap[p]?=some (.cells #[.slice A ws.length c,.int .i64 (l:Int),.bool b,.slice B pk.length d] 58 (0,0))∧o p=0∧RdZ w o A (strC ws)∧RdZ w o B (pk.map ptC)∧FoZ w o pk k∧FoZ w o ps' n∧ws.length ≤ c
theorem FoZ.stp {K:Nat → Prop} {w w':World} {o o':Ow} (s:Stp K w o w' o') (h0:¬ K 0):∀ {f:Fo} {ps:List Nat},FoZ w o ps f → FoZ w' o' ps f:=by
 intro f
 induction f with
 | nil=>intro ps h; exact h
 | node ws l b k n ihk ihn =>
  rintro ps ⟨p,ps',A,c,pk,B,d,e0,h1,hz,h2,h3,h4,h5,h6⟩
  exact ⟨p,ps',A,c,pk,B,d,e0,(s.keep p (row_lt h1) (by rw [hz]; exact h0)).trans h1,(s.own p (row_lt h1)).trans hz,h2.stp s h0,h3.stp s h0,ihk h4,ihn h5,h6⟩
def FnZ (o:Ow) (fv:Value):Prop:=∀ gc,fv=.func (.func 102) #[] #[.pointer (some ⟨gc,0,none⟩)] → o gc=0
structure DirsZ (b:Nat) (w:World) (o:Ow):Prop where
 lt:b < w.heap.size
 own:o b=0
 m:∃ M,World.isM w Tryz.prog 9 b M∧(∀ k,∃ fv,lkM M (nameD k)=some (dirV k fv)∧FnOk k fv w∧FnZ o fv)∧∀ l,dkOf l=none → lkM M l=none
theorem SetF.stp {K:Nat → Prop} {w w':World} {o o':Ow} {G:Nat} {fv:Value} (s:Stp K w o w' o') (h0:¬ K 0) (h:SetF G fv w) (hz:FnZ o fv):SetF G fv w'∧FnZ o' fv:=by
 obtain ⟨gc,rfl,hc⟩:=h
 have hg:=hz gc rfl
 refine ⟨⟨gc,rfl,s.cell (a:=⟨gc,0,none⟩) (by show ¬ K (o gc); rw [hg]; exact h0) hc⟩,fun g' e=>?_⟩
 injection e with _ _ e
 simp at e
 subst e
 exact (s.own gc (lt_of_cell hc)).trans hg
theorem FnOk.stp {K:Nat → Prop} {w w':World} {o o':Ow} {k:Dk} {fv:Value} (s:Stp K w o w' o') (h0:¬ K 0) (h:FnOk k fv w) (hz:FnZ o fv):FnOk k fv w'∧FnZ o' fv:=by
 cases k <;> first | exact SetF.stp s h0 h hz | (refine ⟨h,fun g' e=>?_⟩; rw [show fv=_ from h] at e; simp at e)
theorem DirsZ.stp {K:Nat → Prop} {b:Nat} {w w':World} {o o':Ow} (h:DirsZ b w o) (s:Stp K w o w' o') (h0:¬ K 0):DirsZ b w' o':=by
 obtain ⟨hl,ho,M,h1,h2,h3⟩:=h
 refine ⟨Nat.lt_of_lt_of_le hl s.size,(s.own b hl).trans ho,M,World.isM.same h1 (s.keep b hl (by rw [ho]; exact h0)),fun k=>?_,h3⟩
 obtain ⟨fv,h4,h5,h6⟩:=h2 k
 exact ⟨fv,h4,FnOk.stp s h0 h5 h6⟩
theorem Stp.turn {K:Nat → Prop} {w w1 w2:World} {o o1:Ow} {b:Nat} (s:Stp K w o w1 o1) (t:w1.mapTurned w2 b) (hb:w.heap.size ≤ b):Stp K w o w2 o1:=by
 have g:=t.grown
 obtain ⟨es,clock,es',clock',hh,rfl⟩:=t
 have h2:w1.heap.size ≤ (Go.ChangeMaps.setBlock w1 b (.map es' clock')).heap.size:=by simp [Go.ChangeMaps.setBlock]
 exact ⟨s.os,s.tape,s.output,Nat.le_trans s.size h2,s.own,fun i hi hk=>(Go.ChangeMaps.heap_setBlock_other hh _ (by omega)).trans (s.keep i hi hk)⟩
theorem Stp.turn0 {w1 w2:World} {o1:Ow} {b:Nat} (t:w1.mapTurned w2 b) (hb:o1 b=0):Stp (fun i=>i=0) w1 o1 w2 o1:=by
 obtain ⟨es,clock,es',clock',hh,rfl⟩:=t
 exact ⟨rfl,rfl,rfl,by simp [Go.ChangeMaps.setBlock],fun _ _=>rfl,fun i _ hk=>Go.ChangeMaps.heap_setBlock_other hh _ (fun e=>hk (by rw [e]; exact hb))⟩
def FoB:Fo → Nat → Prop
 | .nil,_=>True
 | .node ws _ _ k n,M=>ws.length ≤ M∧(∀ s ∈ ws,s.length ≤ 65536)∧FoB k M∧FoB n M
def Fo.words:Fo → Nat
 | .nil=>0
 | .node ws _ _ k n=>ws.length + k.words + n.words
def OkB:Option Dk → Cf14 → Prop
 | some .upstream,c=>c.ups ≠ []
 | some .server,c=>c.srvs ≠ []
 | some .location,c=>∃ s,c.srvs.getLast?=some s∧s.locs ≠ []
 | _,_=>True
def BuQ (w:World) (o:Ow) (p:Nat) (r:Except Nat (List Dk × Cf14)) (e:Ending) (w':World):Prop:=∃ o',Stp KB w o w' o'∧match r with
 | .ok r=>e=.returned (.tuple #[])∧∃ line,CfAt w' o' p r.2 line
 | .error l=>e=GoneC l
end Go.Proofs.YtmnohicojefhfaaGreatDoor
end
