/-
ConnRefuses, walked.
-/
import Derived.Test.YthbofilcnpdghaaGreatDoorZbe
import Derived.Test.YthbofilcnpdghaaGreatDoorZbq
set_option maxRecDepth 100000
set_option maxHeartbeats 8000000
set_option linter.unusedVariables false
set_option linter.unusedSimpArgs false
namespace Go.Proofs.YthbofilcnpdghaaGreatDoor
open Go.RowKit
theorem ids_at:∀ (l:List Ev24) (i j:Nat) (hj:j<l.length),idsC i l→l[j].id=i+j
 | e::t,i,0,_,h=>h.1
 | e::t,i,j+1,hj,h=>by
  have:=ids_at t (i+1) j (by simpa using hj) h.2
  simp only [List.getElem_cons_succ]
  omega
theorem EvL.one {w:World} {o:Ow}:∀ {l:List Ev24} {us:List Value},EvL w o l us→∀ u∈us,u.oneCell'=true
 | [],_,h,u,hu=>by rw [show _=[] from h] at hu;cases hu
 | e::t,us,⟨a,b,hab,⟨_,_,_,_,ha,_⟩,h2⟩,u,hu=>by
  rw [hab] at hu
  rcases List.mem_append.1 hu with h | h
  ·rw [ha] at h
   simp only [List.mem_cons,List.not_mem_nil,or_false] at h
   rcases h with rfl | rfl | rfl | rfl | rfl | rfl <;> rfl
  ·exact EvL.one h2 u h
theorem oz_ol {w w':World} {o:Ow} (h:∀ x,x<w.heap.size→o x≠100):∀ b,b<w'.heap.size→oz w o b≠100:=fun b _=>by
 unfold oz
 split
 ·exact h b (by assumption)
 ·decide
def EvI (A:Option Addr) (n:Nat) (w:World) (o:Ow):Prop:=∀ j,j<n→∃ g f,A=some ⟨g,f,none⟩∧o g=95∧w.cell? ⟨g,f+j*6,none⟩=some (.int .i64 (j:Int))
theorem EvI.sto {K:Nat→Prop} {A:Option Addr} {n:Nat} {w w':World} {o o':Ow} (h:EvI A n w o) (s:Sto K w o w' o') (h0:¬ K 95):EvI A n w' o':=fun j hj=>by
 obtain ⟨g,f,hA,ho,hc⟩:=h j hj
 have hk:¬ K (o g):=by rw [ho];exact h0
 exact ⟨g,f,hA,(s.own g (lt_of_cell hc) hk).trans ho,s.cell (a:=⟨g,f+j*6,none⟩) hk hc⟩
theorem EvI.mk {A:Option Addr} {w w1:World} {o o1:Ow} {l:List Ev24} {c n:Nat} {es:List Value} (hn:n=l.length) (hi:idsC 0 l) (h:Sl w o 95 6 A n c es) (he:EvL w1 o1 l es):EvI A n w o:=fun j hj=>by
 rcases h.at_ with h0 | ⟨g,f,hA,hg,hl,hc,_⟩
 ·have:=h.le;omega
 ·obtain ⟨vs,⟨_,_,_,_,hv,_⟩,hu⟩:=he.at_ j (by omega)
  have h1:=hu 0 (.int .i64 (l[j].id:Int)) (by rw [hv];rfl)
  rw [ids_at l 0 j (by omega) hi,Nat.zero_add] at h1
  exact ⟨g,f,hA,hg,hc (j*6+0) _ h1⟩
structure RfP (w:World) (c:Nat) (z:Cst) (A:Option Addr) (n d:Nat) (wx:World) (o:Ow):Prop where
 i:InI [] z
 nn:n=z.evs.length
 old:Old w wx o
 cn:CnAt wx o 20 c (putC z)
 ol:∀ x,x<wx.heap.size→o x≠100
 ev:∃ es,Sl wx o 95 6 A n d es∧EvL wx o z.evs es
 na:A=none→d=0
def RfE (w:World) (c:Nat) (z:Cst) (v:Value) (wx:World):Prop:=∃ A n d o,v=.slice A n d∧RfP w c z A n d wx o
def RfF (w:World) (c:Nat) (v:Value) (wx:World):Prop:=∃ z A n d o,v=.slice A n d∧z.reads=false∧RfP w c z A n d wx o
theorem RfE.mk {w:World} {c:Nat} {z:Cst} {v:Value} {w2 w3:World} {o2 o3:Ow} (i:InI [] z) (hO:Old w w2 o2) (h1:IsEvs 95 z.evs v w3 o3) (h2:CnAt w3 o3 20 c (putC z)) (h3:∀ x,x<w3.heap.size→o3 x≠100) (st:Sto (KC 20) w2 o2 w3 o3):RfE w c z v w3:=by
 obtain ⟨A,d,es,rfl,e1,e2,e3⟩:=h1
 exact ⟨A,_,d,o3,rfl,i,rfl,hO.sto st (kc0 (by decide)),h2,h3,⟨es,e1,e3⟩,e2⟩
theorem RfF.mk {w:World} {c:Nat} {z z2:Cst} {w4 w7:World} {o4 o7:Ow} {A7:Option Addr} {n1 c7 m:Nat} {l2:List Ev24} {es es2:List Value} (i:InI [] z2) (hr:z2.reads=false) (he:z2.evs=z.evs++l2) (hn1:n1=z.evs.length) (hm:m=l2.length) (hO:Old w w4 o4) (h2:CnAt w4 o4 20 c (putC z2)) (h3:∀ x,x<w4.heap.size→o4 x≠100)
  (hs:Sl w7 o7 95 6 A7 (n1+m) c7 (es++es2)) (st:Stp (fun i=>i=95) w4 o4 w7 o7) (hz:A7=none→c7=0) (e1:EvL w4 o4 z.evs es) (e2:EvL w4 o4 l2 es2):RfF w c (.slice A7 (n1+m) c7) w7:=by
 have t:=no100 st.sto h3
 refine ⟨z2,A7,_,c7,o99 o7,rfl,hr,i,by rw [he,List.length_append,hm,hn1],hO.sto t (by decide),h2.sto t (by decide) (fun i hi=>show ¬(20+i=95) by omega) (fun a _=>show ¬(KA 20 a.id=95) by unfold KA;omega),fun x _=>o99_no o7 x,⟨es++es2,hs.give (fun b _ hb=>(show (if o7 b=100 then 0 else o7 b)=95 from by rw [hb];rfl)),?_⟩,hz⟩
 rw [he]
 exact (e1.app e2).sto t (by decide)
structure RfS (w:World) (c:Nat) (s:Cst) (A:Option Addr) (n:Nat) (wx:World) (o:Ow):Prop where
 old:Old w wx o
 cn:CnAt wx o 20 c s
 ol:∀ x,x<wx.heap.size→o x≠100
 ev:EvI A n wx o
theorem RfS.on {w:World} {c:Nat} {s s':Cst} {A:Option Addr} {n:Nat} {wx w':World} {o o':Ow} (h:RfS w c s A n wx o) (t:Sto (KC 20) wx o w' o') (hc:CnAt w' o' 20 c s'):RfS w c s' A n w' (o99 o') :=
 have t2:=no100 t h.ol
 ⟨h.old.sto t2 (kc0 (by decide)),hc.o99 (by decide) (by decide),fun x _=>o99_no o' x,h.ev.sto t2 (by unfold KC;omega)⟩
end Go.Proofs.YthbofilcnpdghaaGreatDoor
