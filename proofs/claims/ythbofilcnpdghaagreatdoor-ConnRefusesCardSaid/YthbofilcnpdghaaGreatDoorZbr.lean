/-
What is written is whole at its last byte, and is read as it was: plain laws.
-/
import Derived.Test.YthbofilcnpdghaaGreatDoorZat
import Derived.Test.YthbofilcnpdghaaGreatDoorZau
import Derived.Test.YthbofilcnpdghaaGreatDoorZbc
import Derived.Test.YthbofilcnpdghaaGreatDoorZav
import Derived.Test.YthbofilcnpdghaaGreatDoorZbq
import Derived.Test.YthbofilcnpdghaaGreatDoorZbe
import Derived.Test.YthbofilcnpdghaaGreatDoorZbd
import Derived.Test.YthbofilcnpdghaaGreatDoorJn
set_option maxRecDepth 100000
set_option maxHeartbeats 8000000
set_option linter.unusedVariables false
set_option linter.unusedSimpArgs false
section
namespace Go.Proofs.YthbofilcnpdghaaGreatDoor
open Go.RowKit
def vals (l:List UInt8):Prop:=∀ b ∈ l,valB b.toNat=true
end Go.Proofs.YthbofilcnpdghaaGreatDoor
end
section
namespace Go.Proofs.YthbofilcnpdghaaGreatDoor
open Go.RowKit
end Go.Proofs.YthbofilcnpdghaaGreatDoor
end
section
namespace Go.Proofs.YthbofilcnpdghaaGreatDoor
open Go.RowKit
end Go.Proofs.YthbofilcnpdghaaGreatDoor
end
section
namespace Go.Proofs.YthbofilcnpdghaaGreatDoor
open Go.RowKit
def contR:List UInt8:=(rsW 100 []).1
structure OutOk (s:Cst):Prop where
 o:s.out=[] ∨ s.out=contR
 e:s.reads=true → s.row=[] → s.inBody=false → s.out=[]
def OutQ (q:Sp24):Prop:=(q.1.out=[] ∨ q.1.out=contR)∧(q.2.1=none → q.1.reads=true → q.1.row=[] → q.1.inBody=false → q.1.out=[])
theorem end_out {q:Sp24} (h:OutQ q):OutOk (endC q).1:=by
 obtain ⟨s,st,r⟩:=q
 cases st with
 | none=>exact ⟨h.1,h.2 rfl⟩
 | some x=>exact ⟨h.1,fun e=>by cases e⟩
theorem whole_out {s:Cst} (h:OutOk s) (hr:s.reads=true) (hb:s.inBody=false) (r:List UInt8):OutQ ((wholeC s).1,(wholeC s).2,r):=by
 unfold wholeC
 dsimp only
 split
 ·exact ⟨h.o,fun e=>by cases e⟩
 ·split
  ·exact ⟨h.o,fun e=>by cases e⟩
  ·split
   ·exact ⟨h.o,fun e=>by cases e⟩
   ·split
    ·exact ⟨h.o,fun e=>by cases e⟩
    ·split
     ·exact ⟨h.o,fun e=>by cases e⟩
     ·split
      ·exact ⟨h.o,fun e=>by cases e⟩
      ·refine ⟨?_,fun _ _ _ e=>by cases e⟩
       dsimp only
       split
       ·rename_i hc
        rw [h.e hr hc.2.1 hb]
        exact .inr rfl
       ·exact h.o
theorem heads_out {s:Cst} (h:OutOk s) (hr:s.reads=true) (hb:s.inBody=false) (b:List UInt8):OutQ (headsC s b):=by
 unfold headsC
 dsimp only
 split
 ·exact ⟨h.o,fun e=>by cases e⟩
 ·split
  ·exact ⟨h.o,fun e=>by cases e⟩
  ·split
   ·exact whole_out (s:=looksC { s with hp:=(feedP s.hp b).1 } (b.take (feedP s.hp b).2.1)) ⟨h.o,h.e⟩ hr hb _
   ·exact ⟨h.o,fun _=>h.e⟩
theorem bodies_out {s:Cst} (h:s.out=[] ∨ s.out=contR) (hb:s.inBody=true) (b:List UInt8):OutQ (bodiesC s b):=by
 unfold bodiesC
 split
 ·exact ⟨h,fun _ _ _ e=>by rw [hb] at e; cases e⟩
 ·dsimp only
  split
  ·exact ⟨h,fun e=>by cases e⟩
  ·split
   ·exact ⟨h,fun e=>by cases e⟩
   ·split
    ·refine ⟨h,fun _ _ e=>?_⟩
     unfold requestC at e
     simp at e
    ·exact ⟨h,fun _ _ _ e=>by rw [show _=s.inBody from rfl,hb] at e; cases e⟩
theorem read_out {s:Cst} (h:OutOk s) (hr:s.reads=true) (b:List UInt8):OutOk (readC s b).1:=by
 by_cases hb:s.inBody=true
 ·rw [read_b _ hb]; exact end_out (bodies_out h.o hb b)
 ·have hb:s.inBody=false:=by simpa using hb
  rw [read_h _ hb]
  have hq:=heads_out h hr hb b
  split
  ·rename_i hc
   exact end_out (bodies_out hq.1 hc.2 _)
  ·exact end_out hq
theorem new_out (m:Nat):OutOk (newC m):=⟨.inl rfl,fun _ _ _=>rfl⟩
end Go.Proofs.YthbofilcnpdghaaGreatDoor
end
section
namespace Go.Proofs.YthbofilcnpdghaaGreatDoor
open Go.RowKit
def StOk (o:Option Int):Prop:=∀ st,o=some st → 400 ≤ st∧st ≤ 503
theorem stOk_none:StOk none:=fun _ h=>by cases h
theorem stOk_some {st:Int} (h:400 ≤ st∧st ≤ 503):StOk (some st):=fun x hx=>by cases hx; exact h
theorem whole_st (s:Cst):StOk (wholeC s).2:=by
 unfold wholeC
 dsimp only
 split
 ·exact stOk_some ⟨by decide,by decide⟩
 ·split
  ·exact stOk_some ⟨by decide,by decide⟩
  ·split
   ·exact stOk_some ⟨by decide,by decide⟩
   ·split
    ·exact stOk_some ⟨by decide,by decide⟩
    ·split
     ·exact stOk_some ⟨by decide,by decide⟩
     ·split
      ·exact stOk_some ⟨by decide,by decide⟩
      ·exact stOk_none
theorem heads_st (s:Cst) (b:List UInt8):StOk (headsC s b).2.1:=by
 unfold headsC
 dsimp only
 split
 ·split <;> exact stOk_some ⟨by decide,by decide⟩
 ·split
  ·exact stOk_some ⟨by decide,by decide⟩
  ·split
   ·exact whole_st _
   ·exact stOk_none
theorem bodies_st (s:Cst) (b:List UInt8):StOk (bodiesC s b).2.1:=by
 unfold bodiesC
 split
 ·exact stOk_none
 ·dsimp only
  split
  ·exact stOk_some ⟨by decide,by decide⟩
  ·split
   ·exact stOk_some ⟨by decide,by decide⟩
   ·split
    ·unfold requestC
     dsimp only
     split
     ·exact stOk_some ⟨by decide,by decide⟩
     ·exact stOk_none
    ·exact stOk_none
def RowOk (l:List Th24):Prop:=∀ t ∈ l,TOk t
theorem RowOk.snoc {l:List Th24} {t:Th24} (h:RowOk l) (ht:TOk t):RowOk (l ++ [t]):=fun x hx=>by
 rcases List.mem_append.1 hx with hx | hx
 ·exact h x hx
 ·rw [List.mem_singleton.1 hx]; exact ht
theorem end_row {q:Sp24} (h:RowOk q.1.row) (hs:StOk q.2.1):RowOk (endC q).1.row:=by
 obtain ⟨s,st,r⟩:=q
 cases st with
 | none=>exact h
 | some st=>exact h.snoc (by have:=hs st rfl; exact ⟨by omega,by omega⟩)
theorem bodies_rowOk {s:Cst} (h:RowOk s.row) (b:List UInt8):RowOk (bodiesC s b).1.row:=by
 unfold bodiesC
 split
 ·exact h
 ·dsimp only
  split
  ·exact h
  ·split
   ·exact h
   ·split
    ·exact h.snoc (fun x hx=>by cases hx)
    ·exact h
theorem read_rowOk {s:Cst} (h:RowOk s.row) (b:List UInt8):RowOk (readC s b).1.row:=by
 by_cases hb:s.inBody=true
 ·rw [read_b _ hb]; exact end_row (bodies_rowOk h b) (bodies_st s b)
 ·rw [read_h _ (by simpa using hb)]
  have hh:RowOk (headsC s b).1.row:=by rw [(heads_same s b).2.1]; exact h
  split
  ·exact end_row (bodies_rowOk hh _) (bodies_st _ _)
  ·exact end_row hh (heads_st s b)
theorem end_le (q:Sp24):(endC q).2.length ≤ q.2.2.length:=by
 obtain ⟨s,st,r⟩:=q
 cases st with
 | none=>exact Nat.le_refl _
 | some st=>exact Nat.zero_le _
theorem read_less {s:Cst} (hk:Cok s) {b:List UInt8} (hb:b ≠ []):(readC s b).2.length < b.length:=by
 by_cases hi:s.inBody=true
 ·rw [read_b _ hi]
  obtain ⟨r,h1,hg⟩:=hk.bd hi
  exact Nat.lt_of_le_of_lt (end_le _) (bodies_less h1 hg hb)
 ·rw [read_h _ (by simpa using hi)]
  have hl:=heads_less hk.hp hb
  split
  ·have h1:=bodies_most (headsC s b).1 (headsC s b).2.2
   have h2:=end_le (bodiesC (headsC s b).1 (headsC s b).2.2)
   omega
  ·exact Nat.lt_of_le_of_lt (end_le _) hl
structure InI (e:List Ev24) (s:Cst):Prop where
 f:Fresh (pushE e s)
 o:OutOk s
 r:RowOk s.row
 g:s.reads=true → Cgo s∧GotOk s
theorem InI.read {e:List Ev24} {s:Cst} (h:InI e s) (hr:s.reads=true) {b:List UInt8} (hb:b ≠ []):InI e (readC s b).1:=by
 obtain ⟨g1,g2⟩:=h.g hr
 refine ⟨?_,read_out h.o hr b,read_rowOk h.r b,fun h1=>⟨read_go g1 hb h1,read_got g1 g2 h1⟩⟩
 have:=read_fresh h.f (by exact hr) b
 rw [read_push] at this
 exact this
theorem InI.few {e:List Ev24} {s:Cst} (h:InI e s):s.evs.length ≤ 64∧s.row.length ≤ 65∧s.number ≤ 64∧s.out.length ≤ 32768:=by
 have h1:=h.f.all
 have h2:=h.f.nm
 have h3:=h.f.row
 have ha:(pushE e s).evs=e ++ s.evs:=rfl
 have hr:(pushE e s).row=s.row:=rfl
 have hn:(pushE e s).number=s.number:=rfl
 rw [ha,List.length_append] at h1
 rw [ha,hn,List.length_append] at h2
 refine ⟨by omega,?_,by omega,?_⟩
 ·rw [hr,ha] at h3
  rcases h3 with h3 | ⟨_,st,h3⟩
  ·rw [h3,asks_len,List.length_append]; omega
  ·rw [h3,List.length_append,asks_len,List.length_append]; simp; omega
 ·rcases h.o.o with h | h
  ·rw [h]; exact Nat.zero_le _
  ·rw [h]; exact rsW_le _ _
theorem all_read {s:Cst} (hk:Cok s) (hr:s.reads=true) {b:List UInt8} (hb:b ≠ []):allC s b=allC (readC s b).1 (readC s b).2:=by
 rw [all_step hk hr hb]
 split
 ·rfl
 ·rename_i h
  exact (all_no _ (by simpa using h)).symm
theorem new_in {m:Nat} (h:m ≤ 1048576):InI [] (newC m):=⟨new_fresh m,new_out m,(fun t ht=>by cases ht),fun _=>⟨new_go h,new_got m⟩⟩
end Go.Proofs.YthbofilcnpdghaaGreatDoor
end
section
namespace Go.Proofs.YthbofilcnpdghaaGreatDoor
open Go.RowKit
def IsEvs (j:Nat) (l:List Ev24) (v:Value) (w:World) (o:Ow):Prop:=∃ A c es,v=.slice A l.length c∧Sl w o j 6 A l.length c es∧(A=none → c=0)∧EvL w o l es
def slN:Value → Nat
 | .slice _ n _=>n
 | _=>0
structure InpI (k c:Nat) (w:World) (o:Ow) (e:List Ev24) (s:Cst) (b:List UInt8) (wr:World) (s':Cst) (b':List UInt8) (B':Option Addr) (d':Nat) (o':Ow):Prop where
 x:CnAt wr o' k c s'
 st:Sto (KC k) w o wr o'
 i:InI e s' ∨ (s'=s∧s.reads=false)
 eq:allC s b=allC s' b'
 d:b'.length ≤ d'
 n:b'.length ≤ b.length
 B:Ro wr o' B' (bc b')
 ol:∀ x,x < wr.heap.size → o' x ≠ 100
def InpL (k c:Nat) (w:World) (o:Ow) (e:List Ev24) (s:Cst) (b:List UInt8) (vb:Value) (wr:World):Prop:=∃ s' b' B' d' o',vb=.slice B' b'.length d'∧InpI k c w o e s b wr s' b' B' d' o'
theorem nInput_c (w0:World) (hL:Lb w0) (j k c:Nat) (hj:j ≠ 100) (hk:0 < k) (hk8:k < 80) (e:List Ev24) (s:Cst) (hs:InI e s ∨ (s.reads=false∧RowOk s.row∧s.out.length + s.row.length * 40000 ≤ 1099511627776)) (b:List UInt8) (B:Option Addr) (n d:Nat) (hn:n=b.length) (hd:n ≤ d) (hnb:n ≤ 4611686018427387904) (w:World) (o:Ow) (hO:Old w0 w o) (hol:∀ b,b < w.heap.size → o b ≠ 100) (h:CnAt w o k c s) (hB:Ro w o B (bc b)) :
  Calls Tryz.prog 10 #[.pointer (some ⟨c,0,none⟩),.slice B n d,.int .i64 0] w (TurnsO (KC k) w o fun v w' o'=>IsEvs j (inputC s b).2 v w' o'∧CnAt w' o' k c (inputC s b).1∧∀ x,x < w'.heap.size → o' x ≠ 100):=by
 obtain ⟨a,hx,hnx⟩:=id h
 have c6:w.cell? ⟨c,6,none⟩=some (.func (.func a.nx) #[.pointer (some ⟨c,0,none⟩)] #[]):=hx.row.c6
 have c2:w.cell? ⟨c,2,none⟩=some (.int .i64 0):=hx.row.c2
 have f2:=hx.row.fz 2 (by decide)
 have hI1:InpL k c w o e s b (.slice B n d) (w.setCell ⟨c,2,none⟩ (.int .i64 0)):=by
  have t:Sto (fun i=>i=k) w o (w.setCell ⟨c,2,none⟩ (.int .i64 0)) o:=Sto.set c 2 _ (fun _=>hx.own)
  refine ⟨s,b,B,d,o,by rw [hn],⟨⟨a,⟨hx.own,hx.row.set 2 _ rfl,hx.p.cell hk hx.own 2 _⟩,hnx⟩,setC_sto 2 _ hx.own hk8,?_,rfl,by omega,Nat.le_refl _,hB.sto t (by omega),fun x hx'=>hol x (by simpa using hx')⟩⟩
  rcases hs with h | h
  ·exact .inl h
  ·exact .inr ⟨rfl,h.1⟩
 have HI:=Lib.hid hI1
 have HO:=Lib.hid hO
 have HOL:=Lib.hid hol
 have HS:=Lib.hid hs
 have HN:=Lib.hid hn
 clear hx hnx hO hol h hB hs hI1 hn hd
 go_enter Tryz.func10,Tryz.ntmps10
 go_wp2_with (first
  | (go_at_call 25; refine (nNone_c _ _ _ _ c6).mono ?_; rintro e w2 ⟨rfl,rfl⟩)
  | (go_at_call 24; refine (nTime_c _ _ c2 f2).mono ?_; rintro e w2 ⟨rfl,rfl⟩))
 go_loopw [1] (fun vb wr=>InpL k c w o e s b vb wr) (fun vb _=>slN vb)
 case atStart=>exact HI.out
 case round =>
  obtain ⟨s1,b1,B1,d1,o1,rfl,hI⟩:=hrel
  have HII:=Lib.hid hI
  obtain ⟨a1,hx1,hn1⟩:=hI.x
  have d4:wr.cell? ⟨c,4,none⟩=some (.bool s1.reads):=hx1.row.c4
  clear hx1 hn1 hI c6 c2 f2
  obtain ⟨rd,hrd⟩:∃ r,r=s1.reads:=⟨_,rfl⟩
  rw [← hrd] at d4
  have HRD:=Lib.hid hrd
  clear hrd
  obtain ⟨n1,hn1⟩:∃ m,m=b1.length:=⟨_,rfl⟩
  rw [← hn1]
  have HN1:=Lib.hid hn1
  clear hn1
  by_cases hgo:rd=true∧0 < n1
  ·obtain ⟨rfl,hp⟩:=hgo
   have hp':(0:Int) < (n1:Int):=by omega
   have hne:b1 ≠ []:=by intro h; have:=HN1.out; rw [h] at this; simp at this; omega
   have hInI:InI e s1:=by
    rcases HII.out.i with h | ⟨h1,h2⟩
    ·exact h
    ·have:=HRD.out; rw [h1,h2] at this; cases this
   obtain ⟨g1,g2⟩:=hInI.g HRD.out.symm
   obtain ⟨m1,m2,m3,m4⟩:=hInI.few
   have hOl:∀ b,b < wr.heap.size → o1 b ≠ 100:=HII.out.ol
   have CR:=Lib.hid (nRead_c w0 hL k c hk hk8 s1 HRD.out.symm g1 g2 (by omega) (by omega) (by omega) (by omega) b1 B1 n1 d1 HN1.out (by rw [HN1.out]; exact HII.out.d) (by have:=HII.out.n; have:=HN.out; have:=HN1.out; omega) wr o1 (HO.out.sto HII.out.st (kc0 hk)) hOl HII.out.x HII.out.B)
   have HIN:=Lib.hid (hInI.read HRD.out.symm hne)
   have HAL:=Lib.hid (HII.out.eq.trans (all_read g1.ok HRD.out.symm hne))
   have HLE:=Lib.hid (read_less g1.ok hne)
   obtain ⟨⟨s2,b2⟩,hq⟩:∃ q,q=readC s1 b1:=⟨_,rfl⟩
   rw [← hq] at CR HIN HAL HLE
   clear hq hInI g1 g2 m1 m2 m3 m4 hOl hne hp
   go_wp2_with (go_at_call 26; refine (CR.out).mono ?_; rintro e w3 ⟨o3,B3,d3,rfl,hd3,hB3,hA3,st3,hn100⟩)
   go_roundw
   case rel=>exact ⟨s2,b2,B3,d3,o3,rfl,hA3,HII.out.st.tr st3,.inl HIN.out,HAL.out,hd3,(by have h1:b2.length < b1.length:=HLE.out; have h2:=HII.out.n; omega),hB3,fun x _=>hn100 x⟩
   case measure=>show b2.length < n1; rw [HN1.out]; exact HLE.out
  ·have HFI:=Lib.hid (show allC s b=s1 from by
    rw [HII.out.eq]
    cases rd with
    | false=>exact all_no _ HRD.out.symm
    | true =>
     have h0:b1=[]:=List.eq_nil_of_length_eq_zero (by have:=HN1.out; have h:¬ 0 < n1:=fun h=>hgo ⟨rfl,h⟩; omega)
     rw [h0]; rfl)
   have hok:RowOk s1.row∧s1.out.length + s1.row.length * 40000 ≤ 1099511627776:=by
    rcases HII.out.i with h | ⟨h1,h2⟩
    ·obtain ⟨m1,m2,m3,m4⟩:=h.few
     exact ⟨h.r,by omega⟩
    ·rcases HS.out with h | ⟨_,h3,h4⟩
     ·obtain ⟨m1,m2,m3,m4⟩:=h.few
      rw [h1]
      exact ⟨h.r,by omega⟩
     ·rw [h1]; exact ⟨h3,h4⟩
   have CW:=Lib.hid (nWrite_c w0 hL k c hk hk8 s1 hok.1 hok.2 wr o1 (HO.out.sto HII.out.st (kc0 hk)) HII.out.x)
   have HQ:=Lib.hid (show inputC s b=({ writeC s1 with evs:=[] },(writeC s1).evs) from by unfold inputC; dsimp only; rw [show readsC b.length s b=allC s b from rfl,HFI.out])
   obtain ⟨s5,hs5⟩:∃ x,x=writeC s1:=⟨_,rfl⟩
   rw [← hs5] at CW HQ
   clear hok hs5
   have hgo':rd=false ∨ (rd=true∧n1=0):=by
    cases rd with
    | false=>exact .inl rfl
    | true=>exact .inr ⟨rfl,by have:¬ 0 < n1:=fun h=>hgo ⟨rfl,h⟩; omega⟩
   clear hgo
   rcases hgo' with rfl | ⟨rfl,rfl⟩
   all_goals (
    go_wp2_with (go_at_call 27; refine (CW.out).mono ?_; rintro e w5 ⟨rfl,o5,⟨a5,hx5,hn5⟩,st5⟩; have k15:w5.cell? ⟨c,15,none⟩=some (.slice a5.E s5.evs.length a5.ce):=hx5.row.c15; have kf:=hx5.row.fz 15 (by decide); have HX5:=Lib.hid hx5; have HN5:=Lib.hid hn5; have ST5:=Lib.hid st5; clear hx5 hn5 st5)
    go_ret
    have hx5:=HX5.out
    have hp:=hx5.p
    have ho:=hx5.own
    have t1:Sto (fun i=>i=k) w5 o5 (w5.setCell ⟨c,15,none⟩ (.slice none 0 0)) o5:=Sto.set c 15 _ (fun _=>ho)
    obtain ⟨o',ho'⟩:∃ o':Ow,o'=fun b=>if o5 b=k + 3 then j else if o5 b=100 then 0 else o5 b:=⟨_,rfl⟩
    have t2:Sto (fun i=>i=k + 3 ∨ i=100) (w5.setCell ⟨c,15,none⟩ (.slice none 0 0)) o5 (w5.setCell ⟨c,15,none⟩ (.slice none 0 0)) o':=Sto.give (fun b _ hb=>by rw [ho']; exact (if_neg (fun x=>hb (.inl x))).trans (if_neg (fun x=>hb (.inr x))))
    have t3:Sto (fun i=>i=k ∨ i=k + 3 ∨ i=100) w5 o5 (w5.setCell ⟨c,15,none⟩ (.slice none 0 0)) o':=(t1.mono fun _ h=>.inl h).tr (t2.mono fun _ h=>.inr h)
    obtain ⟨p1,p2,p3⟩:=hp.hd t3 (by omega) (fun i _ _=>by omega)
    obtain ⟨es,e1,e2⟩:=hp.evs
    rw [HQ.out]
    refine TurnsO.mk o' rfl ⟨⟨a5.E,a5.ce,es,rfl,(e1.sto t1 (by omega)).give (fun b _ hb=>by rw [ho']; exact if_pos hb),hp.ez,e2.sto t3 (by omega)⟩,⟨{ a5 with E:=none,ce:=0 },⟨?_,hx5.row.set 15 _ (by simp [Cst.cells]),?_⟩,HN5.out⟩,?_⟩ ?_
    ·rw [ho']
     exact (if_neg (by rw [ho]; omega)).trans ((if_neg (by rw [ho]; omega)).trans ho)
    ·exact ⟨p1,p2,p3,hp.got.sto t3 (by omega),⟨[],Sl.nil_ _ _ _ _ _,rfl⟩,fun _=>rfl,hp.rowS t3 (by omega) (by omega) (fun a _=>by unfold KA; omega),hp.lz,hp.out.sto t3 (by omega),hp.oz⟩
    ·intro x _
     rw [ho']
     show (if o5 x=k + 3 then j else if o5 x=100 then 0 else o5 x) ≠ 100
     split
     ·exact hj
     ·split <;> omega
    ·have tt:=((HII.out.st.tr ST5.out).tr (t1.mono fun i hi=>by subst hi; unfold KC; omega))
     have hol:=HOL.out
     refine ⟨tt.os,tt.tape,tt.output,tt.size,fun b hb hk'=>?_,tt.keep⟩
     have h1:=tt.own b hb hk'
     have h2:=hol b hb
     rw [ho']
     show (if o5 b=k + 3 then j else if o5 b=100 then 0 else o5 b)=o b
     rw [h1,if_neg (fun h=>hk' (by rw [h]; unfold KC; omega)),if_neg h2])
end Go.Proofs.YthbofilcnpdghaaGreatDoor
end
