/-
ConnRefuses, walked.
-/
import Derived.Test.YthbofilcnpdghaaGreatDoorLost
import Derived.Test.YthbofilcnpdghaaGreatDoorZca
import Derived.Test.YthbofilcnpdghaaGreatDoorZbs
set_option maxRecDepth 100000
set_option maxHeartbeats 8000000
set_option linter.unusedVariables false
set_option linter.unusedSimpArgs false
namespace Go.Proofs.YthbofilcnpdghaaGreatDoor
open Go.RowKit
theorem ids_at:∀ (l:List Ev24) (i j:Nat) (hj:j<l.length),idsC i l→l[j].id=i+j
 | e::t,i,0,_,h=>h.1
 | e::t,i,j+1,hj,h=>by
  have:=ids_at t (i+1) j (by simpa using hj) h.2
  simp only [List.getElem_cons_succ]
  omega
theorem EvL.one {w:World} {o:Ow}:∀ {l:List Ev24} {us:List Value},EvL w o l us→∀ u∈us,u.oneCell'=true
 | [],_,h,u,hu=>by rw [show _=[] from h] at hu;cases hu
 | e::t,us,⟨a,b,hab,⟨_,_,_,_,ha,_⟩,h2⟩,u,hu=>by
  rw [hab] at hu
  rcases List.mem_append.1 hu with h | h
  ·rw [ha] at h
   simp only [List.mem_cons,List.not_mem_nil,or_false] at h
   rcases h with rfl | rfl | rfl | rfl | rfl | rfl <;> rfl
  ·exact EvL.one h2 u h
theorem oz_ol {w w':World} {o:Ow} (h:∀ x,x<w.heap.size→o x≠100):∀ b,b<w'.heap.size→oz w o b≠100:=fun b _=>by
 unfold oz
 split
 ·exact h b (by assumption)
 ·decide
def kn24C:List UInt8:=[71,69,84,32,47,32,72,84,84,80,47,49,46,49,13,10,72,111,115,116,58,32,97,13,10,72,111,115,116,58,32,97,13,10,13,10]
def EvI (A:Option Addr) (n:Nat) (w:World) (o:Ow):Prop:=∀ j,j<n→∃ g f,A=some ⟨g,f,none⟩∧o g=95∧w.cell? ⟨g,f+j*6,none⟩=some (.int .i64 (j:Int))
theorem EvI.sto {K:Nat→Prop} {A:Option Addr} {n:Nat} {w w':World} {o o':Ow} (h:EvI A n w o) (s:Sto K w o w' o') (h0:¬ K 95):EvI A n w' o':=fun j hj=>by
 obtain ⟨g,f,hA,ho,hc⟩:=h j hj
 have hk:¬ K (o g):=by rw [ho];exact h0
 exact ⟨g,f,hA,(s.own g (lt_of_cell hc) hk).trans ho,s.cell (a:=⟨g,f+j*6,none⟩) hk hc⟩
theorem EvI.mk {A:Option Addr} {w w1:World} {o o1:Ow} {l:List Ev24} {c n:Nat} {es:List Value} (hn:n=l.length) (hi:idsC 0 l) (h:Sl w o 95 6 A n c es) (he:EvL w1 o1 l es):EvI A n w o:=fun j hj=>by
 rcases h.at_ with h0 | ⟨g,f,hA,hg,hl,hc,_⟩
 ·have:=h.le;omega
 ·obtain ⟨vs,⟨_,_,_,_,hv,_⟩,hu⟩:=he.at_ j (by omega)
  have h1:=hu 0 (.int .i64 (l[j].id:Int)) (by rw [hv];rfl)
  rw [ids_at l 0 j (by omega) hi,Nat.zero_add] at h1
  exact ⟨g,f,hA,hg,hc (j*6+0) _ h1⟩
structure RfP (w:World) (c:Nat) (z:Cst) (A:Option Addr) (n d:Nat) (wx:World) (o:Ow):Prop where
 i:InI [] z
 nn:n=z.evs.length
 old:Old w wx o
 cn:CnAt wx o 20 c (putC z)
 ol:∀ x,x<wx.heap.size→o x≠100
 ev:∃ es,Sl wx o 95 6 A n d es∧EvL wx o z.evs es
 na:A=none→d=0
def RfE (w:World) (c:Nat) (z:Cst) (v:Value) (wx:World):Prop:=∃ A n d o,v=.slice A n d∧RfP w c z A n d wx o
def RfF (w:World) (c:Nat) (v:Value) (wx:World):Prop:=∃ z A n d o,v=.slice A n d∧z.reads=false∧RfP w c z A n d wx o
theorem RfE.mk {w:World} {c:Nat} {z:Cst} {v:Value} {w2 w3:World} {o2 o3:Ow} (i:InI [] z) (hO:Old w w2 o2) (h1:IsEvs 95 z.evs v w3 o3) (h2:CnAt w3 o3 20 c (putC z)) (h3:∀ x,x<w3.heap.size→o3 x≠100) (st:Sto (KC 20) w2 o2 w3 o3):RfE w c z v w3:=by
 obtain ⟨A,d,es,rfl,e1,e2,e3⟩:=h1
 exact ⟨A,_,d,o3,rfl,i,rfl,hO.sto st (kc0 (by decide)),h2,h3,⟨es,e1,e3⟩,e2⟩
theorem RfF.mk {w:World} {c:Nat} {z z2:Cst} {w4 w7:World} {o4 o7:Ow} {A7:Option Addr} {n1 c7 m:Nat} {l2:List Ev24} {es es2:List Value} (i:InI [] z2) (hr:z2.reads=false) (he:z2.evs=z.evs++l2) (hn1:n1=z.evs.length) (hm:m=l2.length) (hO:Old w w4 o4) (h2:CnAt w4 o4 20 c (putC z2)) (h3:∀ x,x<w4.heap.size→o4 x≠100)
  (hs:Sl w7 o7 95 6 A7 (n1+m) c7 (es++es2)) (st:Stp (fun i=>i=95) w4 o4 w7 o7) (hz:A7=none→c7=0) (e1:EvL w4 o4 z.evs es) (e2:EvL w4 o4 l2 es2):RfF w c (.slice A7 (n1+m) c7) w7:=by
 have t:=no100 st.sto h3
 refine ⟨z2,A7,_,c7,o99 o7,rfl,hr,i,by rw [he,List.length_append,hm,hn1],hO.sto t (by decide),h2.sto t (by decide) (fun i hi=>show ¬(20+i=95) by omega) (fun a _=>show ¬(KA 20 a.id=95) by unfold KA;omega),fun x _=>o99_no o7 x,⟨es++es2,hs.give (fun b _ hb=>(show (if o7 b=100 then 0 else o7 b)=95 from by rw [hb];rfl)),?_⟩,hz⟩
 rw [he]
 exact (e1.app e2).sto t (by decide)
structure RfS (w:World) (c:Nat) (s:Cst) (A:Option Addr) (n:Nat) (wx:World) (o:Ow):Prop where
 old:Old w wx o
 cn:CnAt wx o 20 c s
 ol:∀ x,x<wx.heap.size→o x≠100
 ev:EvI A n wx o
theorem RfS.on {w:World} {c:Nat} {s s':Cst} {A:Option Addr} {n:Nat} {wx w':World} {o o':Ow} (h:RfS w c s A n wx o) (t:Sto (KC 20) wx o w' o') (hc:CnAt w' o' 20 c s'):RfS w c s' A n w' (o99 o') :=
 have t2:=no100 t h.ol
 ⟨h.old.sto t2 (kc0 (by decide)),hc.o99 (by decide) (by decide),fun x _=>o99_no o' x,h.ev.sto t2 (by unfold KC;omega)⟩
def IdleR (w:World) (c:Nat) (s:Cst) (A:Option Addr) (n k:Nat) (e:Ending) (w':World):Prop:=∃ A5 c5 o5,e=.returned (.slice A5 k c5)∧RfS w c s A n w' o5
theorem nIdle_c {w:World} (hL:Lb w) {c:Nat} {s:Cst} {A:Option Addr} {n:Nat} {wx:World} {o:Ow} (h:RfS w c s A n wx o) {e0:List Ev24} (hs:InI e0 s∨(s.reads=false∧RowOk s.row∧s.out.length+s.row.length*40000≤1099511627776)) {m:List UInt8} (hidle:inputC s m=(s,[])) {M:Option Addr} {p q:Nat} (hp:p=m.length∧p≤q∧p≤4611686018427387904) (hM:Rd w M (bc m)) :
  Calls Tryz.prog 10 #[.pointer (some ⟨c,0,none⟩),.slice M p q,.int .i64 0] wx (IdleR w c s A n 0):=by
 refine (nInput_c w hL 96 20 c (by decide) (by decide) (by decide) e0 s hs m M p q hp.1 hp.2.1 hp.2.2 wx o h.old h.ol h.cn (Ro.olds hM h.old)).mono ?_
 rw [hidle]
 rintro e w' ⟨v,o',rfl,⟨⟨A5,c5,es,rfl,_⟩,h2,_⟩,st⟩
 exact ⟨A5,c5,_,rfl,h.on st h2⟩
theorem nOut_c {w:World} {c:Nat} {s:Cst} {A:Option Addr} {n:Nat} {wx:World} {o:Ow} (h:RfS w c s A n wx o) {k:Nat} (hk:k=s.out.length) :
  Calls Tryz.prog 14 #[.pointer (some ⟨c,0,none⟩)] wx (IdleR w c { s with out:=[] } A n k):=by
 refine (nOutput_c 96 20 c (by decide) (by decide) s wx o h.cn).mono ?_
 rw [hk]
 rintro e w' ⟨v,o',rfl,⟨⟨A5,c5,rfl,_⟩,h2⟩,st⟩
 exact ⟨A5,c5,_,rfl,h.on st h2⟩
theorem nAns_c {w:World} (hL:Lb w) {c:Nat} {s:Cst} {A:Option Addr} {n:Nat} {wx:World} {o:Ow} (h:RfS w c s A n wx o) {r:Bool} {t:List Th24} (ht:EndR t) {i:Nat} {e0:Ev24} {l:List Ev24} (hr:RefI r t i (e0::l) s) :
  Calls Tryz.prog 13 #[.pointer (some ⟨c,0,none⟩),.int .i64 (i:Int),.agg #[.int .i64 200,.slice none 0 0,.slice none 0 0]] wx fun e w'=>∃ s' o',e=.returned (.int .i64 0)∧RefI r t (i+1) l s'∧RfS w c s' A n w' o':=by
 obtain ⟨h1,h2⟩:=hr.step ht [] (by decide)
 refine (nAnswer_c w hL 20 c (by decide) (by decide) s hr.ok hr.sz (hr.uni ht) i [] (by decide) none 0 wx o h.old h.cn (.inl rfl)).mono ?_
 rintro e w' ⟨v,o',rfl,⟨rfl,h4⟩,st⟩
 exact ⟨_,_,by rw [h2],h1,h.on st h4⟩
def RfL (w:World) (c:Nat) (t:List Th24) (A:Option Addr) (n:Nat) (v:Value) (wr:World):Prop:=∃ i m s o,v=.int .i64 ((i:Nat):Int)∧i+m.length=n∧RefI false t i m s∧RfS w c s A n wr o
theorem connRefuses_w (w:World) (hL:Lb w) (b:List UInt8) (B:Option Addr) (n d:Nat) (hn:n=b.length) (hd:n≤d) (hnb:n≤4611686018427387904) (hB:Rd w B (bc b)) (m:List UInt8) (M:Option Addr) (p q:Nat) (hp:p=m.length) (hpq:p≤q) (hpb:p≤4611686018427387904) (hM:Rd w M (bc m)) :
  Calls Tryz.prog 4 #[.slice B n d,.slice M p q] w (Gives (.bool true) w):=by
 have HL:=Lib.hid hL
 have HN:=Lib.hid (And.intro hn (And.intro hd hnb))
 have HP:=Lib.hid (And.intro hp (And.intro hpq hpb))
 have HB:=Lib.hid hB
 have HM:=Lib.hid hM
 have CN:=Lib.hid (show Calls Tryz.prog 7 #[.agg #[.int .i64 1000,.int .i64 0],.int .i64 0] w _ from nNew_c 20 (by decide) (by decide) 1000 0 (by decide) (by decide) w (fun _=>0))
 clear hL hn hd hnb hp hpq hpb hB hM
 go_enter Tryz.func4,Tryz.ntmps4
 go_upto_region 4 with (first
  | (go_at_call 7;refine (CN.out).mono ?_;rintro e w1 ⟨c,o1,rfl,hC1,st1,hle⟩;have ST1:=Lib.hid (no100 st1 (fun _ _=>by decide));have HC1:=Lib.hid hC1;clear st1 hC1 hle)
  | (go_at_call 8;refine (nNum_c _ _).mono ?_;rintro e w2 ⟨rfl,hw⟩;subst hw)
  | (go_at_call 9;refine (knows_c w HL.out w1 (o99 o1) ((Old.start w).sto ST1.out (fun h=>h)) (fun b _=>o99_no o1 b)).mono ?_;rintro e w2 ⟨rfl,o2,st2,hn2⟩))
 have HO2:=Lib.hid (((Old.start w).sto ST1.out (fun h=>h)).sto st2 (kc0 (by decide)))
 have HC2:=Lib.hid ((HC1.out.o99 (by decide) (by decide)).sto st2 (kc0 (by decide)) (kc_no (k:=60) (j:=20) (by decide) (by decide) (by decide)).1 (fun a _=>(kc_no (k:=60) (j:=20) (by decide) (by decide) (by decide)).2 a.id))
 have HN2:=Lib.hid hn2
 clear hn2 st2 ST1 HC1
 have CI:=nInput_c w HL.out 95 20 c (by decide) (by decide) (by decide) [] (newC 1000) (.inl (new_in (by decide))) b B n d HN.out.1 HN.out.2.1 HN.out.2.2 w2 o2 HO2.out HN2.out HC2.out (Ro.olds HB.out HO2.out)
 rw [put_new] at CI
 obtain ⟨z,hz⟩:∃ z,z=allC (newC 1000) b:=⟨_,rfl⟩
 rw [← hz] at CI
 dsimp only at CI
 have HZ:=Lib.hid hz
 have HI:=Lib.hid (show InI [] z from by rw [hz];exact all_in (new_in (by decide)) b)
 have CI:=Lib.hid CI
 clear hz
 go_cut [7] (fun v7 wx=>RfE w c z v7 wx)
 case first =>
  go_wp2_with (go_at_call 10;refine (CI.out).mono ?_;rintro e w3 ⟨v,o3,rfl,⟨h1,h2,h3⟩,st3⟩)
  go_meet
  exact RfE.mk HI.out HO2.out h1 h2 h3 st3
 case rest =>
  obtain ⟨A,n1,d1,o3,rfl,hP⟩:=hcut
  have HPP:=Lib.hid hP
  clear hP CI HO2 HC2 HN2
  go_step
  go_step
  go_cut [7] (fun v7 wx=>RfF w c v7 wx)
  case first =>
   obtain ⟨rd,hrd⟩:∃ r,r=z.reads:=⟨_,rfl⟩
   have CR:=Lib.hid (show Calls Tryz.prog 11 #[.pointer (some ⟨c,0,none⟩)] wc (Tells (.bool rd) wc) from by rw [hrd];exact nReading_c 20 c (putC z) wc o3 HPP.out.cn)
   cases rd with
   | false =>
    have HR:=Lib.hid hrd.symm
    clear hrd
    go_wp2_with (go_at_call 11;refine (CR.out).mono ?_;rintro e w2 ⟨rfl,hw⟩;subst hw)
    go_meet
    exact ⟨z,A,n1,d1,o3,rfl,HR.out,HPP.out⟩
   | true =>
    have hcs:∀ (w:World),(convert 22 22 (.slice (some ⟨w.heap.size,0,none⟩) 36 36)).run Tryz.prog (w.alloc (.cells #[.int .u8 71,.int .u8 69,.int .u8 84,.int .u8 32,.int .u8 47,.int .u8 32,.int .u8 72,.int .u8 84,.int .u8 84,.int .u8 80,.int .u8 47,.int .u8 49,.int .u8 46,.int .u8 49,.int .u8 13,.int .u8 10,.int .u8 72,.int .u8 111,.int .u8 115,.int .u8 116,.int .u8 58,.int .u8 32,.int .u8 97,.int .u8 13,.int .u8 10,.int .u8 72,.int .u8 111,.int .u8 115,.int .u8 116,.int .u8 58,.int .u8 32,.int .u8 97,.int .u8 13,.int .u8 10,.int .u8 13,.int .u8 10] 5))=.ok (.slice (some ⟨w.heap.size,0,none⟩) 36 36) (w.alloc (.cells #[.int .u8 71,.int .u8 69,.int .u8 84,.int .u8 32,.int .u8 47,.int .u8 32,.int .u8 72,.int .u8 84,.int .u8 84,.int .u8 80,.int .u8 47,.int .u8 49,.int .u8 46,.int .u8 49,.int .u8 13,.int .u8 10,.int .u8 72,.int .u8 111,.int .u8 115,.int .u8 116,.int .u8 58,.int .u8 32,.int .u8 97,.int .u8 13,.int .u8 10,.int .u8 72,.int .u8 111,.int .u8 115,.int .u8 116,.int .u8 58,.int .u8 32,.int .u8 97,.int .u8 13,.int .u8 10,.int .u8 13,.int .u8 10] 5 (36,37))):=fun w=>Lib.run_convert_bytes_const w 22 5 #[.int .u8 71,.int .u8 69,.int .u8 84,.int .u8 32,.int .u8 47,.int .u8 32,.int .u8 72,.int .u8 84,.int .u8 84,.int .u8 80,.int .u8 47,.int .u8 49,.int .u8 46,.int .u8 49,.int .u8 13,.int .u8 10,.int .u8 72,.int .u8 111,.int .u8 115,.int .u8 116,.int .u8 58,.int .u8 32,.int .u8 97,.int .u8 13,.int .u8 10,.int .u8 72,.int .u8 111,.int .u8 115,.int .u8 116,.int .u8 58,.int .u8 32,.int .u8 97,.int .u8 13,.int .u8 10,.int .u8 13,.int .u8 10] 36 36 Tryz.underlying22 Tryz.underlying5
    obtain ⟨h1,h2⟩:=put_more (m:=1000) (by decide) b kn24C
    rw [← HZ.out] at h1 h2
    obtain ⟨z2,hz2⟩:∃ z,z=allC (newC 1000) (b++kn24C):=⟨_,rfl⟩
    obtain ⟨l2,hl2⟩:∃ l,l=(inputC (putC z) kn24C).2:=⟨_,rfl⟩
    rw [← hz2,← hl2] at h1 h2
    have hI2:InI [] z2:=by rw [hz2];exact all_in (new_in (by decide)) _
    have CI:=fun (w':World) (e:Ext wc w') (B:Option Addr) (hB:Ro w' (oz wc o3) B (bc kn24C))=>nInput_c w HL.out 96 20 c (by decide) (by decide) (by decide) z.evs (putC z) (in_any HPP.out.i) kn24C B 36 36 rfl (by omega) (by decide) w' (oz wc o3) (HPP.out.old.sto (oz_sto e) (kc0 (by decide:0<20))) (oz_ol HPP.out.ol) (HPP.out.cn.sto (K:=fun _=>False) (oz_sto e) (fun h=>h) (fun _ _ h=>h) (fun _ _ h=>h)) hB
    rw [h1] at CI
    dsimp only at CI
    have CI:=Lib.hid CI
    have HI2:=Lib.hid hI2
    have HEV:=Lib.hid h2
    have hnn:=HPP.out.nn
    have f1:=HPP.out.i.few
    have f2:=hI2.few
    rw [h2,List.length_append] at f2
    have HBD:=Lib.hid (show n1+l2.length≤64 from by omega)
    obtain ⟨es,es1,es2⟩:=HPP.out.ev
    have HES1:=Lib.hid es1
    have HES2:=Lib.hid es2
    obtain ⟨r2,hr2⟩:∃ r,r=z2.reads:=⟨_,rfl⟩
    have HR2:=Lib.hid hr2
    have HNA:=Lib.hid HPP.out.na
    have HN1:=Lib.hid hnn
    clear hrd h1 h2 hz2 hl2 hI2 hnn f1 f2 es1 es2 hr2
    cases r2
    all_goals (go_wp2_with (first
     | (go_at_call 11;refine (CR.out).mono ?_;clear CR;rintro e w2 ⟨rfl,hw⟩;subst hw)
     | (go_at_call 10;refine (CI.out _ (by (repeat first | exact Ex0 | assumption | refine Ex1 ?_ | refine Ex2 ?_ | refine Ex3 ?_ | refine Ex4 ?_ | refine Ex5 ?_)) _ (Ro.new (w1:=wc) (Rd.newZ wc _ _ _) (by (repeat first | exact Ex0 | assumption | refine Ex1 ?_ | refine Ex2 ?_ | refine Ex3 ?_ | refine Ex4 ?_ | refine Ex5 ?_)) (by intro a ha;cases ha;exact Nat.le_refl _) (fun b hb=>oz_new wc o3 hb))).mono ?_;rintro e w4 ⟨v,o4,rfl,⟨⟨A4,c4,es4,rfl,hs4,hz4,he4⟩,hC4,hn4⟩,st4⟩;have ST4:=Lib.hid ((oz_sto (w:=wc) (o:=o3) (by (repeat first | exact Ex0 | assumption | refine Ex1 ?_ | refine Ex2 ?_ | refine Ex3 ?_ | refine Ex4 ?_ | refine Ex5 ?_))).tr st4);have HS4:=Lib.hid hs4;have HE4:=Lib.hid he4;have HC4:=Lib.hid hC4;have HN4:=Lib.hid hn4;clear st4 hs4 hz4 he4 hC4 hn4)
     | (at_builtin;go_loud (refine wpL_put slt_ev (.tmp 31) (.tmp 35) rfl rfl rfl rfl (HES1.out.sto ST4.out (by unfold KC;omega)) HNA.out (Sl.src Tryz.underlying32 HS4.out.rd HS4.out.len (by omega) HE4.out.one c4) (by have:=HBD.out;omega) (by have:=HBD.out;unfold maxLen;omega) ?_;intro A7 c7 w7 o7 hs7 hst7 hz7;have HS7:=Lib.hid hs7;have HST7:=Lib.hid hst7;have HZ7:=Lib.hid hz7;clear hs7 hst7 hz7))
     | (go_at_call 11;have CR2:=nReading_c 20 c (putC z2) w7 o7 (HC4.out.sto HST7.out.sto (by decide) (fun i hi=>show ¬(20+i=95) by omega) (fun a _=>show ¬(KA 20 a.id=95) by unfold KA;omega));rw [show (putC z2).reads=_ from HR2.out.symm] at CR2;refine CR2.mono ?_;clear CR2;rintro e w2 ⟨rfl,hw⟩;subst hw)))
    ·go_meet
     exact RfF.mk HI2.out HR2.out.symm HEV.out HN1.out rfl (HPP.out.old.sto ST4.out (kc0 (by decide))) HC4.out HN4.out HS7.out HST7.out HZ7.out (HES2.out.sto ST4.out (kc0 (by decide))) HE4.out
    ·go_ret
     exact ⟨rfl,((HPP.out.old.sto ST4.out (kc0 (by decide))).sto HST7.out.sto (by decide)).ext⟩
  case rest =>
   clear HPP HI HZ
   obtain ⟨z2,A2,n2,d2,o4,rfl,hr,hP⟩:=hcut
   have hidle:=put_idle (z:=z2) hP.i.f hr m
   obtain ⟨t,ht,hst⟩:=RefI.start hP.i
   rw [hr] at hst
   obtain ⟨es,es1,es2⟩:=hP.ev
   have hS:RfS w c (putC z2) A2 n2 wc o4:=⟨hP.old,hP.cn,hP.ol,EvI.mk hP.nn hP.i.f.ids es1 es2⟩
   have CI:=Lib.hid (nIdle_c HL.out hS (in_any hP.i) hidle HP.out HM.out)
   have CW:=fun (w':World) (o':Ow) (h:CnAt w' o' 20 c (putC z2))=>nWaiting_c 20 c (putC z2) (by have:=(put_fit hP.i).2.2;omega) w' o' h
   obtain ⟨W,hW⟩:∃ W,W=waitC (putC z2).row:=⟨_,rfl⟩
   rw [← hW] at CW
   have CW1:=Lib.hid (CW wc o4 hP.cn)
   have CW:=Lib.hid CW
   have CR:=Lib.hid (fun (w':World) (o':Ow) (h:CnAt w' o' 20 c (putC z2))=>(show Calls Tryz.prog 11 #[.pointer (some ⟨c,0,none⟩)] w' (Tells (.bool false) w') from by have:=nReading_c 20 c (putC z2) w' o' h;rw [show (putC z2).reads=_ from hr] at this;exact this))
   have HST:=Lib.hid hst
   have HT:=Lib.hid ht
   have HN2:=Lib.hid hP.nn
   have HB64:=Lib.hid (show n2≤64 from by rw [hP.nn];exact hP.i.few.1)
   clear hr hP hidle ht hst es1 es2 hS hW
   go_upto_region 13 with (first
    | (go_at_call 16;refine (CW1.out).mono ?_;clear CW1;rintro e w2 ⟨rfl,hw⟩;subst hw)
    | (go_at_call 10;refine (CI.out).mono ?_;rintro e w4 ⟨A5,c5,o5,rfl,hS5⟩;have HS5:=Lib.hid hS5;clear hS5)
    | (go_at_call 16;refine (CW.out _ _ HS5.out.cn).mono ?_;rintro e w2 ⟨rfl,hw⟩;subst hw)
    | (go_at_call 11;refine (CR.out _ _ HS5.out.cn).mono ?_;rintro e w2 ⟨rfl,hw⟩;subst hw))
   clear CI CW CR
   go_loopw [9] (fun v9 wr=>RfL w c t A2 n2 v9 wr) (fun v9 _=>n2-(intOf v9).toNat)
   case atStart=>exact ⟨0,z2.evs,putC z2,o5,rfl,by rw [HN2.out,Nat.zero_add],HST.out,HS5.out⟩
   case round =>
    obtain ⟨i,mm,s,o',rfl,hlen,hRI,hS⟩:=hrel
    have HS:=Lib.hid hS
    have HRI:=Lib.hid hRI
    clear hS hRI HS5 HST
    cases mm with
    | nil =>
     obtain rfl:i=n2:=by simpa using hlen
     obtain ⟨k,hk⟩:∃ k,k=s.out.length:=⟨_,rfl⟩
     have CO:=Lib.hid (nOut_c HS.out hk)
     obtain ⟨s5,hs5⟩:∃ x,x={ s with out:=[] }:=⟨_,rfl⟩
     have q1:s5.reads=false:=by rw [hs5];exact HRI.out.rd
     have q2:s5.row=[]:=by rw [hs5];exact HRI.out.row
     have q3:s5.evs=[]:=by rw [hs5];exact HRI.out.ev
     have q4:s5.out=[]:=by rw [hs5]
     have q5:({ s5 with out:=[] }:Cst)=s5:=by rw [hs5]
     rw [← hs5] at CO
     have CI2:=Lib.hid (fun (w':World) (o':Ow) (h:RfS w c s5 A2 i w' o')=>nIdle_c HL.out h (e0:=[]) (.inr ⟨q1,by rw [q2];exact (fun x hx=>by cases hx),by rw [q2,q4];decide⟩) (done_input q1 q2 q3 m) HP.out HM.out)
     have CO2:=Lib.hid (fun (w':World) (o':Ow) (h:RfS w c s5 A2 i w' o')=>(show Calls Tryz.prog 14 #[.pointer (some ⟨c,0,none⟩)] w' (IdleR w c s5 A2 i 0) from by have:=nOut_c h (k:=0) (by rw [q4];rfl);rw [q5] at this;exact this))
     have CC:=Lib.hid (fun (w':World) (o':Ow) (h:RfS w c s5 A2 i w' o')=>(show Calls Tryz.prog 15 #[.pointer (some ⟨c,0,none⟩)] w' (Tells (.bool true) w') from by have:=nClosed_c 20 c s5 w' o' h.cn;rw [show closedC s5=true from by unfold closedC;rw [q1,q2];rfl] at this;exact this))
     clear hlen hk hs5 q1 q2 q3 q4 q5
     go_wp2_with (first
      | (go_at_call 14;refine (CO.out).mono ?_;clear CO;rintro e w5 ⟨A6,c6,o6,rfl,hS6⟩;have HS6:=Lib.hid hS6;clear hS6)
      | (go_at_call 10;refine (CI2.out _ _ HS6.out).mono ?_;clear CI2;rintro e w6 ⟨A7,c7,o7,rfl,hS7⟩;have HS7:=Lib.hid hS7;clear hS7)
      | (go_at_call 14;refine (CO2.out _ _ HS7.out).mono ?_;clear CO2;rintro e w7 ⟨A8,c8,o8,rfl,hS8⟩;have HS8:=Lib.hid hS8;clear hS8)
      | (go_at_call 15;refine (CC.out _ _ HS8.out).mono ?_;rintro e w2 ⟨rfl,hw⟩;subst hw))
     go_ret
     exact ⟨rfl,HS8.out.old.ext⟩
    | cons e0 mm =>
     have hi:i<n2:=by simp at hlen;omega
     have hii:(i:Int)<(n2:Int):=by omega
     have hi0:(0:Int)≤(i:Int):=by omega
     obtain ⟨g,f,rfl,_,hc⟩:=HS.out.ev i hi
     have CA:=Lib.hid (nAns_c HL.out HS.out HT.out HRI.out)
     have hnb:n2≤1000000:=by have:=HB64.out;omega
     clear hi
     go_wp2_with (go_at_call 13;refine (CA.out).mono ?_;rintro e w4 ⟨s4,o4,rfl,hR4,hS4⟩;have HS4:=Lib.hid hS4;have HR4:=Lib.hid hR4;clear hS4 hR4)
     go_roundw
     case rel=>exact ⟨i+1,mm,s4,o4,by go_num,by simp at hlen;omega,HR4.out,HS4.out⟩
     case measure=>simp [intOf];omega
end Go.Proofs.YthbofilcnpdghaaGreatDoor
