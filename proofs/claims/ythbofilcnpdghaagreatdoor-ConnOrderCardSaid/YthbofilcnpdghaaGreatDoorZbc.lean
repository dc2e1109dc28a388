/-
A client's connection: the body so far is no longer than what its reader counted (plain law).
-/
import Derived.Test.YthbofilcnpdghaaGreatDoorZbb
import Derived.Test.YthbofilcnpdghaaGreatDoorZaq
import Derived.Test.YthbofilcnpdghaaGreatDoorZas
import Derived.Test.YthbofilcnpdghaaGreatDoorZba
set_option maxRecDepth 100000
set_option maxHeartbeats 8000000
set_option linter.unusedVariables false
set_option linter.unusedSimpArgs false
section
namespace Go.Proofs.YthbofilcnpdghaaGreatDoor
open Go.RowKit
def AllB (s t:Rst):Prop:=t.all+s.body.length=t.body.length+s.all∧t.most=s.most
theorem AllB.rfl' (s:Rst):AllB s s:=⟨Nat.add_comm _ _,rfl⟩
theorem AllB.tr {a b c:Rst} (h:AllB a b) (k:AllB b c):AllB a c:=by
 obtain ⟨h1,h2⟩:=h
 obtain ⟨k1,k2⟩:=k
 exact ⟨by omega,k2.trans h2⟩
theorem text_allB (s:Rst) (c:UInt8):AllB s (textF s c).1:=by
 unfold textF
 split
 ·split <;> exact ⟨Nat.add_comm _ _,rfl⟩
 ·split
  ·exact ⟨Nat.add_comm _ _,rfl⟩
  ·split
   ·split <;> exact ⟨Nat.add_comm _ _,rfl⟩
   ·exact ⟨Nat.add_comm _ _,rfl⟩
theorem size_allB (s:Rst) (l:List UInt8):AllB s (sizeL s l).1:=by
 unfold sizeL
 split
 ·split <;> exact ⟨Nat.add_comm _ _,rfl⟩
 ·exact ⟨Nat.add_comm _ _,rfl⟩
theorem tail_allB (s:Rst) (l:List UInt8):AllB s (tailL s l).1:=by
 unfold tailL
 split
 ·exact ⟨Nat.add_comm _ _,rfl⟩
 ·split
  ·exact ⟨Nat.add_comm _ _,rfl⟩
  ·split <;> exact ⟨Nat.add_comm _ _,rfl⟩
theorem take_allB (s:Rst) (c:UInt8):AllB s (takeF s c).1:=by
 unfold takeF
 split
 ·unfold plainF
  split
  ·exact ⟨by simp;omega,rfl⟩
  ·exact AllB.rfl' s
 ·split
  ·unfold sizeF
   split
   ·rename_i h;have:=text_allB s c;rw [h] at this;exact this
   ·rename_i h;have:=text_allB s c;rw [h] at this;exact this.tr (size_allB _ _)
  ·split
   ·unfold dataF
    split
    ·exact ⟨by simp;omega,rfl⟩
    ·exact ⟨by simp;omega,rfl⟩
   ·split
    ·unfold behindF
     by_cases hc:c=(if s.left=2 then 13 else 10)
     ·rw [if_pos hc]
      by_cases h1:s.left=1
      ·rw [if_pos h1];exact ⟨Nat.add_comm _ _,rfl⟩
      ·rw [if_neg h1];exact ⟨Nat.add_comm _ _,rfl⟩
     ·rw [if_neg hc];exact AllB.rfl' s
    ·unfold trailF
     split
     ·rename_i h;have:=text_allB s c;rw [h] at this;exact this
     ·rename_i h;have:=text_allB s c;rw [h] at this;exact this.tr (tail_allB _ _)
theorem run_allB:∀ (l:List UInt8) (s:Rst),AllB s (runF s l).1
 | [],s=>AllB.rfl' s
 | c::l,s=>by
  rw [runF_cons]
  split
  ·exact AllB.rfl' s
  ·split
   ·exact take_allB s c
   ·exact (take_allB s c).tr (run_allB l _)
theorem go_allB (s:Rst) (b:List UInt8):AllB s (goF s b).1:=by
 have hr:AllB s (readyF s).1:=by
  unfold readyF
  split
  ·exact ⟨Nat.add_comm _ _,rfl⟩
  ·split
   ·split <;> exact ⟨Nat.add_comm _ _,rfl⟩
   ·exact AllB.rfl' s
 unfold goF
 split
 ·exact AllB.rfl' s
 ·dsimp only
  split
  ·exact hr
  ·exact hr.tr (run_allB b _)
def GotOk (s:Cst):Prop:=s.inBody=true→∃ r,s.rd=some r∧Rok r∧r.body=[]∧s.got.length≤r.all
theorem feed_fits {r:Rst} (hr:Rok r) (hb:r.body=[]) (b:List UInt8):(feedF r b).2.2.1.length+r.all=(feedF r b).1.all∧(feedF r b).1.body=[]∧(feedF r b).1.most=r.most:=by
 have h:=go_allB r b
 unfold feedF
 dsimp only
 obtain ⟨h1,h2⟩:=h
 rw [hb] at h1
 exact ⟨by simp at h1;omega,rfl,h2⟩
theorem feed_all_le {r:Rst} (hr:Rok r) (b:List UInt8):(feedF r b).1.all≤r.most:=by
 show (goF r b).1.all≤_
 unfold goF
 split
 ·exact hr.al
 ·dsimp only
  have hok:=ready_okF hr
  have hm:(readyF r).1.most=r.most:=by
   unfold readyF
   split
   ·rfl
   ·split
    ·split <;> rfl
    ·rfl
  split
  ·show (readyF r).1.all≤_
   rw [← hm];exact hok.al
  ·show (runF (readyF r).1 b).1.all≤_
   have:=(runF_ok b _ hok).al
   rw [← hm,← (run_allB b (readyF r).1).2]
   exact this
theorem bodies_got {s:Cst} (h:GotOk s) (hi:s.inBody=true) (b:List UInt8) (hn:(bodiesC s b).2.1=none):GotOk (bodiesC s b).1:=by
 obtain ⟨r,h1,hr,hb,hl⟩:=h hi
 obtain ⟨f1,f2,f3⟩:=feed_fits hr hb b
 intro hi2
 unfold bodiesC at hn hi2 ⊢
 rw [h1] at hn hi2 ⊢
 dsimp only at hn hi2 ⊢
 split at hn
 ·cases hn
 ·rename_i k1
  rw [if_neg k1] at hi2 ⊢
  split at hn
  ·cases hn
  ·rename_i k2
   rw [if_neg k2] at hi2 ⊢
   split at hn
   ·rename_i k3
    rw [if_pos k3] at hi2
    cases hi2
   ·rename_i k3
    rw [if_neg k3]
    by_cases hd:r.done=true
    ·exfalso
     apply k3
     show (goF r b).1.done=true
     unfold goF
     rw [if_pos (.inl hd)];exact hd
    ·exact ⟨_,rfl,(rgo_feed hr (by simpa using hd) b (by simpa using k3) (by simpa using k2)).1,f2,by show (s.got++_).length≤_;rw [List.length_append];omega⟩
theorem whole_got {s:Cst} (hm:s.most≤1048576) (h:(wholeC s).2=none):GotOk (wholeC s).1:=by
 obtain ⟨_,_,h3,_,_,_,_,h8,r,hr,hok,hd⟩:=whole_ok hm h
 intro _
 refine ⟨r,hr,hok,?_,by rw [h8];exact Nat.zero_le _⟩
 unfold wholeC at hr h
 dsimp only at hr h
 split at h
 ·cases h
 ·rename_i k1
  rw [if_neg k1] at hr
  split at h
  ·cases h
  ·rename_i k2
   rw [if_neg k2] at hr
   split at h
   ·cases h
   ·rename_i k3
    rw [if_neg k3] at hr
    split at h
    ·cases h
    ·rename_i k4
     rw [if_neg k4] at hr
     split at h
     ·cases h
     ·rename_i k5
      rw [if_neg k5] at hr
      split at h
      ·cases h
      ·rename_i k6
       rw [if_neg k6] at hr
       cases hr
       rfl
theorem heads_got {s:Cst} (hm:s.most≤1048576) (h0:s.inBody=false) (b:List UInt8) (hn:(headsC s b).2.1=none):GotOk (headsC s b).1:=by
 intro hi
 obtain ⟨h1,h2⟩:=inBody_heads hi h0 hn
 have e:headsC s b=((wholeC (looksC { s with hp:=(feedP s.hp b).1 } (b.take (feedP s.hp b).2.1))).1,(wholeC (looksC { s with hp:=(feedP s.hp b).1 } (b.take (feedP s.hp b).2.1))).2,b.drop (feedP s.hp b).2.1):=by
  unfold headsC
  dsimp only
  rw [h1,h2]
  simp
 rw [e] at hi hn ⊢
 exact whole_got (by exact hm) hn hi
theorem read_got {s:Cst} (hk:Cgo s) (h:GotOk s) {b:List UInt8} (hr:(readC s b).1.reads=true):GotOk (readC s b).1:=by
 by_cases hi:s.inBody=true
 ·rw [read_b _ hi] at hr ⊢
  obtain ⟨hn,he⟩:=end_reads hr
  rw [he]
  exact bodies_got h hi b hn
 ·have hi:s.inBody=false:=by simpa using hi
  rw [read_h _ hi] at hr ⊢
  by_cases hc:(headsC s b).2.1=none∧(headsC s b).1.inBody=true
  ·rw [if_pos hc] at hr ⊢
   obtain ⟨hn,he⟩:=end_reads hr
   rw [he]
   exact bodies_got (heads_got hk.ok.mo hi b hc.1) hc.2 _ hn
  ·rw [if_neg hc] at hr ⊢
   obtain ⟨hn,he⟩:=end_reads hr
   rw [he]
   exact heads_got hk.ok.mo hi b hn
theorem new_got (m:Nat):GotOk (newC m):=fun e=>by cases e
def EndR (t:List Th24):Prop:=t=[]∨∃ st,t=[.ref st]
def leftC (i:Nat) (l:List Ev24) (t:List Th24):List Th24:=match l with
 | []=>[]
 | e::m=>asksC i (e::m)++t
theorem writes_end (rd:Bool) {t:List Th24} (h:EndR t):(writesC rd t).2=[]:=by
 rcases h with rfl | ⟨st,rfl⟩ <;> rfl
theorem writes_left (rd:Bool) (i:Nat) (l:List Ev24) {t:List Th24} (h:EndR t):(writesC rd (asksC i l++t)).2=leftC i l t:=by
 cases l with
 | nil=>exact writes_end rd h
 | cons e m=>rfl
theorem fresh_row {z:Cst} (h:Fresh z):∃ t,EndR t∧z.row=asksC 0 z.evs++t∧(putC z).row=leftC 0 z.evs t:=by
 have k:∃ t,EndR t∧z.row=asksC 0 z.evs++t:=by
  rcases h.row with h | ⟨_,st,h⟩
  ·exact ⟨[],.inl rfl,by rw [h,List.append_nil]⟩
  ·exact ⟨_,.inr ⟨st,rfl⟩,h⟩
 obtain ⟨t,ht,hr⟩:=k
 refine ⟨t,ht,hr,?_⟩
 show (writesC z.reads z.row).2=_
 rw [hr]
 exact writes_left _ _ _ ht
theorem answer_step {s:Cst} {i:Nat} {e:Ev24} {l:List Ev24} {t:List Th24} (ht:EndR t) (h:s.row=leftC i (e::l) t) (x:List UInt8) :
  (answerC s i x).2=0∧(answerC s i x).1.row=leftC (i+1) l t∧(answerC s i x).1.reads=s.reads:=by
 have e1:tellC i x s.row=some (.ask ⟨i,e.r,lastingC e.r,some x⟩::(asksC (i+1) l++t)):=by
  rw [h]
  show (if _ then _ else _)=_
  rw [if_pos ⟨rfl,rfl⟩]
  rfl
 unfold answerC
 rw [e1]
 refine ⟨rfl,?_,rfl⟩
 show (writesC s.reads (.ask ⟨i,e.r,lastingC e.r,some x⟩::(asksC (i+1) l++t))).2=_
 rw [writes_some s.reads rfl]
 exact writes_left _ _ _ ht
theorem wait_app (a b:List Th24):waitC (a++b)=waitC a+waitC b:=by unfold waitC;rw [List.filter_append,List.length_append]
def asksA (A:Nat→Bool) (f:Nat→List UInt8):Nat→List Ev24→List Th24
 | _,[]=>[]
 | i,e::t=>.ask ⟨i,e.r,lastingC e.r,if A i=true then some (f i) else none⟩::asksA A f (i+1) t
theorem asksA_none (f:Nat→List UInt8):∀ (l:List Ev24) (i:Nat),asksA (fun _=>false) f i l=asksC i l
 | [],_=>rfl
 | e::t,i=>by
  show _::asksA _ f (i+1) t=_::asksC (i+1) t
  rw [asksA_none f t (i+1)]
  rfl
theorem asksA_len (A:Nat→Bool) (f:Nat→List UInt8):∀ (l:List Ev24) (i:Nat),(asksA A f i l).length=l.length
 | [],_=>rfl
 | _::t,i=>congrArg (·+1) (asksA_len A f t (i+1))
theorem asksA_same {A B:Nat→Bool} (f:Nat→List UInt8):∀ (l:List Ev24) (i:Nat),(∀ j,i≤j→A j=B j)→asksA A f i l=asksA B f i l
 | [],_,_=>rfl
 | e::t,i,h=>by
  show _::asksA A f (i+1) t=_::asksA B f (i+1) t
  rw [asksA_same f t (i+1) (fun j hj=>h j (by omega)),h i (Nat.le_refl _)]
def addA (A:Nat→Bool) (k:Nat):Nat→Bool:=fun j=>A j || decide (j=k)
theorem tell_at (A:Nat→Bool) (f:Nat→List UInt8) (k:Nat) (hk:A k=false) (t:List Th24):∀ (l:List Ev24) (i:Nat),i≤k→k<i+l.length →
  tellC k (f k) (asksA A f i l++t)=some (asksA (addA A k) f i l++t)
 | [],i,h1,h2=>by simp at h2;omega
 | e::m,i,h1,h2=>by
  show (if _ then _ else _)=_
  by_cases he:i=k
  ·subst he
   rw [if_pos ⟨rfl,by simp [hk]⟩]
   show _=some (Th24.ask ⟨i,e.r,lastingC e.r,if addA A i i=true then some (f i) else none⟩::(asksA (addA A i) f (i+1) m++t))
   have hs:=asksA_same (A:=A) (B:=addA A i) f m (i+1) (fun (j:Nat) hj=>by
    unfold addA
    have:¬ j=i:=by omega
    simp [this])
   rw [hs,show addA A i i=true from by unfold addA;simp]
   rfl
  ·rw [if_neg (fun x=>he x.1)]
   have hx:=tell_at A f k hk t m (i+1) (by omega) (by simp only [List.length_cons] at h2;omega)
   show (tellC k (f k) (asksA A f (i+1) m++t)).map _=_
   rw [hx]
   show some (Th24.ask ⟨i,e.r,lastingC e.r,if A i=true then some (f i) else none⟩::(asksA (addA A k) f (i+1) m++t))=some (Th24.ask ⟨i,e.r,lastingC e.r,if addA A k i=true then some (f i) else none⟩::(asksA (addA A k) f (i+1) m++t))
   have:addA A k i=A i:=by unfold addA;simp [he]
   rw [this]
theorem nil_same (A B:Nat→Bool) (f:Nat→List UInt8) (i:Nat) (l:List Ev24) (t:List Th24):decide (asksA A f i l++t=[])=decide (asksA B f i l++t=[]):=by
 cases l <;> rfl
theorem tell_more (rd:Bool) (A:Nat→Bool) (f:Nat→List UInt8) (k:Nat) (hk:A k=false) (t:List Th24):∀ (l:List Ev24) (i:Nat),i≤k→k<i+l.length →
  ∃ r,tellC k (f k) (writesC rd (asksA A f i l++t)).2=some r ∧
   writesC rd (asksA (addA A k) f i l++t)=((writesC rd (asksA A f i l++t)).1++(writesC rd r).1,(writesC rd r).2)
 | [],i,h1,h2=>by simp at h2;omega
 | e::m,i,h1,h2=>by
  cases ha:A i with
  | false =>
   have e1:writesC rd (asksA A f i (e::m)++t)=([],asksA A f i (e::m)++t):=by
    show writesC rd (.ask ⟨i,e.r,lastingC e.r,if A i=true then some (f i) else none⟩::(asksA A f (i+1) m++t))=_
    rw [writes_none rd (by simp [ha])]
    rfl
   rw [e1]
   exact ⟨_,tell_at A f k hk t (e::m) i h1 h2,by simp⟩
  | true =>
   have hik:¬ i=k:=fun x=>by rw [x,hk] at ha;cases ha
   have e1:∀ B:Nat→Bool,B i=true→writesC rd (asksA B f i (e::m)++t)=(writtenC ⟨i,e.r,lastingC e.r,if B i=true then some (f i) else none⟩ (decide (asksA B f (i+1) m++t=[]) && !rd) (f i)++(writesC rd (asksA B f (i+1) m++t)).1,(writesC rd (asksA B f (i+1) m++t)).2):=fun B hB=>by
    show writesC rd (.ask ⟨i,e.r,lastingC e.r,if B i=true then some (f i) else none⟩::(asksA B f (i+1) m++t))=_
    rw [writes_some rd (x:=f i) (by simp [hB])]
   have hB:addA A k i=true:=by unfold addA;simp [ha]
   obtain ⟨r,h3,h4⟩:=tell_more rd A f k hk t m (i+1) (by omega) (by simp only [List.length_cons] at h2;omega)
   rw [e1 A ha,e1 (addA A k) hB,h4,ha,hB,nil_same (addA A k) A]
   exact ⟨r,h3,by simp [List.append_assoc]⟩
def AtA (A:Nat→Bool) (f:Nat→List UInt8) (l:List Ev24) (t:List Th24) (o:List UInt8) (s:Cst):Prop :=
 s.row=(writesC s.reads (asksA A f 0 l++t)).2∧s.out=o++(writesC s.reads (asksA A f 0 l++t)).1
theorem at_tell {A:Nat→Bool} {f:Nat→List UInt8} {l:List Ev24} {t:List Th24} {o:List UInt8} {s:Cst} (h:AtA A f l t o s) {k:Nat} (hk:A k=false) (hl:k<l.length) :
  (answerC s k (f k)).2=0∧AtA (addA A k) f l t o (answerC s k (f k)).1∧(answerC s k (f k)).1.reads=s.reads:=by
 obtain ⟨h1,h2⟩:=h
 obtain ⟨r,h3,h4⟩:=tell_more s.reads A f k hk t l 0 (by omega) (by omega)
 unfold answerC
 rw [h1,h3]
 refine ⟨rfl,⟨?_,?_⟩,rfl⟩
 ·show (writesC s.reads r).2=(writesC s.reads (asksA (addA A k) f 0 l++t)).2
  rw [h4]
 ·show s.out++(writesC s.reads r).1=o++(writesC s.reads (asksA (addA A k) f 0 l++t)).1
  rw [h4,h2,List.append_assoc]
theorem run_sized:∀ (l:List UInt8) (s:Rst),s.kind=1→s.state=0→s.done=decide (s.all=s.n)→s.all+l.length=s.n→s.n≤s.most→∀ m:List UInt8,
  runF s (l++m)=({ s with all:=s.n,body:=s.body++l,done:=true },l.length,0)
 | [],s,hk,hs,hd,hl,hm,m=>by
  have h1:s.all=s.n:=by simpa using hl
  have h2:s.done=true:=by rw [hd];simp [h1]
  rw [List.nil_append,runF_done h2]
  obtain ⟨a1,a2,a3,a4,a5,a6,a7,a8,a9,b1,b2,b3⟩:=s
  dsimp only at h1 h2 ⊢
  subst h1 h2
  simp
 | c::l,s,hk,hs,hd,hl,hm,m=>by
  have h1:¬ s.all=s.n:=by simp only [List.length_cons] at hl;omega
  have h2:¬ s.done=true:=by rw [hd];simp [h1]
  have h3:s.all<s.most:=by simp only [List.length_cons] at hl;omega
  have ht:takeF s c=({ s with all:=s.all+1,body:=s.body++[c],done:=decide (s.kind=1) && decide (s.all+1=s.n) },0):=by
   unfold takeF
   rw [if_pos hs]
   unfold plainF
   rw [if_pos h3]
  rw [List.cons_append,runF_cons,if_neg h2,ht]
  dsimp only
  rw [if_neg (by simp)]
  have hx:=run_sized l { s with all:=s.all+1,body:=s.body++[c],done:=decide (s.kind=1) && decide (s.all+1=s.n) } hk hs (by simp [hk]) (by show s.all+1+l.length=s.n;simp only [List.length_cons] at hl;omega) hm m
  rw [hx]
  simp
theorem feed_sized (n most:Nat) (l m:List UInt8) (hl:l.length=n) (hn:n≤most):(feedF (newF 1 n most) (l++m)).2=(n,l,true,0):=by
 have hr:readyF (newF 1 n most)=({ newF 1 n most with done:=decide ((newF 1 n most).all=(newF 1 n most).n) },0):=by
  unfold readyF
  rw [if_neg (by show ¬(1:Nat)=0;decide),if_pos (by rfl),if_pos (by exact hn)]
 have hx:=run_sized l { newF 1 n most with done:=decide ((newF 1 n most).all=(newF 1 n most).n) } rfl rfl rfl (by show 0+l.length=n;omega) hn m
 have hg:goF (newF 1 n most) (l++m)=({ { newF 1 n most with done:=true } with all:=n,body:=[]++l,done:=true,e:=0 },l.length):=by
  unfold goF
  rw [if_neg (by show ¬(false=true∨(0:Int)≠0);simp)]
  dsimp only
  rw [hr]
  dsimp only
  rw [if_neg (by simp),hx]
  rfl
 unfold feedF
 dsimp only
 rw [hg,hl]
 rfl
theorem feed_none (most:Nat) (m:List UInt8):(feedF (newF 0 0 most) m).2=(0,[],true,0):=by
 have hg:goF (newF 0 0 most) m=({ newF 0 0 most with done:=true,e:=0 },0):=by
  unfold goF
  rw [if_neg (by show ¬(false=true∨(0:Int)≠0);simp)]
  dsimp only
  have hr:readyF (newF 0 0 most)=({ newF 0 0 most with done:=true },0):=by unfold readyF;rw [if_pos (by rfl)]
  rw [hr]
  dsimp only
  rw [if_neg (by simp),runF_done rfl]
 unfold feedF
 dsimp only
 rw [hg]
 rfl
def vals (l:List UInt8):Prop:=∀ b∈l,valB b.toNat=true
theorem take_text {s:Pst} {c:UInt8} (hcr:s.cr=false) (hv:valB c.toNat=true) (ha:s.all+1≤32768) (hl:s.line.length+1≤8192):takeP s c=({ s with all:=s.all+1,line:=s.line++[c] },0):=by
 have hc:c≠13:=fun e=>by rw [e] at hv;exact absurd hv (by decide)
 unfold takeP
 rw [if_neg (by omega),if_neg (by rw [hcr];decide),if_neg hc,if_pos hv,if_pos (by omega)]
theorem run_text:∀ (l rest:List UInt8) (s:Pst),s.cr=false→s.done=false→vals l→s.all+l.length≤32768→s.line.length+l.length≤8192 →
  runP s (l++rest)=((runP { s with all:=s.all+l.length,line:=s.line++l } rest).1,l.length+(runP { s with all:=s.all+l.length,line:=s.line++l } rest).2.1,(runP { s with all:=s.all+l.length,line:=s.line++l } rest).2.2)
 | [],rest,s,_,_,_,_,_=>by simp
 | c::l,rest,s,hcr,hd,hv,ha,hl=>by
  simp only [List.length_cons] at ha hl
  have ht:=take_text (s:=s) (c:=c) hcr (hv c List.mem_cons_self) (by omega) (by omega)
  show runP s (c::(l++rest))=_
  rw [run_cons,ht]
  dsimp only
  rw [if_neg (by simp),if_neg (by rw [hd];decide)]
  have ih:=run_text l rest { s with all:=s.all+1,line:=s.line++[c] } hcr hd (fun b hb=>hv b (List.mem_cons_of_mem _ hb)) (by dsimp only;omega) (by dsimp only;rw [List.length_append];simp only [List.length_cons,List.length_nil];omega)
  rw [ih]
  dsimp only
  have e1:s.all+1+l.length=s.all+(c::l).length:=by simp only [List.length_cons];omega
  have e2:s.line++[c]++l=s.line++c::l:=by simp
  rw [e1,e2]
  simp only [Prod.mk.injEq,true_and,and_true,List.length_cons]
  omega
theorem run_crlf (rest:List UInt8) (s:Pst) (hcr:s.cr=false) (hd:s.done=false) (ha:s.all+2≤32768) (q:Pst × Int) (hq:q=lineP { s with all:=s.all+2,cr:=false,line:=[] } s.line) :
  runP s (13::10::rest)=if q.2≠0 then (q.1,2,q.2) else if q.1.done=true then (q.1,2,0) else ((runP q.1 rest).1,2+(runP q.1 rest).2.1,(runP q.1 rest).2.2):=by
 have h1:takeP s 13=({ s with all:=s.all+1,cr:=true },0):=by
  unfold takeP
  rw [if_neg (by omega),if_neg (by rw [hcr];decide),if_pos rfl]
 have h2:takeP { s with all:=s.all+1,cr:=true } 10=q:=by
  rw [hq]
  unfold takeP
  dsimp only
  rw [if_neg (by omega),if_pos rfl,if_pos rfl]
 rw [run_cons,h1]
 dsimp only
 rw [if_neg (by simp),if_neg (by rw [hd];decide),run_cons,h2]
 by_cases k1:q.2≠0
 ·rw [if_pos k1,if_pos k1]
 ·rw [if_neg k1,if_neg k1]
  by_cases k2:q.1.done=true
  ·rw [if_pos k2,if_pos k2]
  ·rw [if_neg k2,if_neg k2]
   simp only [Prod.mk.injEq,true_and,and_true]
   omega
theorem run_line (l rest:List UInt8) (s:Pst) (hcr:s.cr=false) (hd:s.done=false) (hv:vals l) (hln:s.line=[]) (ha:s.all+l.length+2≤32768) (hl:l.length≤8192) (q:Pst × Int) (hq:q=lineP { s with all:=s.all+l.length+2,cr:=false,line:=[] } l) (h0:q.2=0) :
  runP s (l++(13::10::rest))=if q.1.done=true then (q.1,l.length+2,0) else ((runP q.1 rest).1,l.length+2+(runP q.1 rest).2.1,(runP q.1 rest).2.2):=by
 rw [run_text l _ s hcr hd hv (by omega) (by rw [hln];simpa using hl)]
 have hc:=run_crlf rest { s with all:=s.all+l.length,line:=s.line++l } hcr hd (by dsimp only;omega) q (by rw [hq,hln];rfl)
 rw [if_neg (by rw [h0];simp)] at hc
 rw [hc]
 split <;> first | rfl | (simp only [Prod.mk.injEq,true_and,and_true];omega)
theorem tok_val {l:List UInt8} (h:tokL l=true):vals l∧58∉l∧32∉l:=by
 unfold tokL at h
 rw [Bool.and_eq_true,List.all_eq_true] at h
 have key:∀ c:Fin 256,tokB c.val=true→valB c.val=true∧c.val≠58∧c.val≠32:=by decide +kernel
 have k2:∀ b∈l,valB b.toNat=true∧b.toNat≠58∧b.toNat≠32:=fun b hb=>key ⟨b.toNat,UInt8.toNat_lt b⟩ (h.1 b hb)
 exact ⟨fun b hb=>(k2 b hb).1,fun hm=>(k2 _ hm).2.1 rfl,fun hm=>(k2 _ hm).2.2 rfl⟩
theorem vl_val {l:List UInt8} (h:vlL l=true):vals l:=by
 unfold vlL at h
 rw [Bool.and_eq_true,List.all_eq_true] at h
 exact h.1
theorem trim_blank {l:List UInt8} (h:vlL l=true):trimL (32::l)=l:=by
 unfold vlL at h
 rw [Bool.and_eq_true] at h
 have e:=h.2
 rw [← trim_ends,beq_iff_eq] at e
 have e2:trimL (32::l)=trimL l:=by
  rw [trimL_eq,trimL_eq]
  rw [List.dropWhile_cons,if_pos (by decide)]
 rw [e2,e]
theorem fldV_wr {f:Fld} (h:okF f=true):fldV (f.1++58::32::f.2)=some f:=by
 unfold okF at h
 rw [Bool.and_eq_true] at h
 unfold fldV
 rw [cutW_at _ (tok_val h.1).2.1]
 dsimp only
 rw [trim_blank h.2,h.1,h.2]
 rfl
theorem run_fields:∀ (fs:List Fld) (more:List UInt8) (s:Pst),s.nx=51→s.cr=false→s.done=false→s.line=[]→fs.all okF=true→(∀ f∈fs,lenF f≤8192)→s.fields.length+fs.length≤100→s.all+lenS fs+2≤32768 →
  runP s (wrS fs++13::10::more)=({ s with all:=s.all+lenS fs+2,cr:=false,line:=[],fields:=s.fields++fs,done:=true },lenS fs+2,0)
 | [],more,s,hnx,hcr,hd,hln,_,_,_,ha=>by
  have ha2:s.all+2≤32768:=ha
  have hq:lineP { s with all:=s.all+2,cr:=false,line:=[] } s.line=({ s with all:=s.all+2,cr:=false,line:=[],done:=true },0):=by
   rw [hln]
   unfold lineP
   dsimp only
   rw [if_neg (by rw [hnx];decide),if_neg (by rw [hnx];decide)]
   rfl
  have hc:=run_crlf more s hcr hd ha2 _ hq.symm
  rw [if_neg (by simp),if_pos rfl] at hc
  show runP s (13::10::more)=_
  rw [hc]
  simp [lenS]
 | f::fs,more,s,hnx,hcr,hd,hln,hok,hlen,hcnt,ha=>by
  rw [List.all_cons,Bool.and_eq_true] at hok
  have hS:lenS (f::fs)=lenF f+2+lenS fs:=by unfold lenS;simp
  rw [hS] at ha
  simp only [List.length_cons] at hcnt
  have hlf:=hlen f List.mem_cons_self
  have hok1:=hok.1
  unfold okF at hok1
  rw [Bool.and_eq_true] at hok1
  have hll:(f.1++58::32::f.2).length=lenF f:=by unfold lenF;simp;omega
  have hv:vals (f.1++58::32::f.2):=by
   intro b hb
   rcases List.mem_append.1 hb with h | h
   ·exact (tok_val hok1.1).1 b h
   ·rcases List.mem_cons.1 h with rfl | h
    ·decide
    ·rcases List.mem_cons.1 h with rfl | h
     ·decide
     ·exact vl_val hok1.2 b h
  have hq:lineP { s with all:=s.all+(f.1++58::32::f.2).length+2,cr:=false,line:=[] } (f.1++58::32::f.2)=({ s with all:=s.all+(f.1++58::32::f.2).length+2,cr:=false,line:=[],fields:=s.fields++[f] },0):=by
   unfold lineP
   dsimp only
   rw [if_neg (by rw [hnx];decide),if_neg (by rw [hnx];decide)]
   unfold fldP
   rw [if_neg (by simp),fldV_wr hok.1]
   dsimp only
   rw [if_pos (by omega)]
  have hr:=run_line (f.1++58::32::f.2) (wrS fs++13::10::more) s hcr hd hv hln (by rw [hll];omega) (by rw [hll];exact hlf) _ hq.symm rfl
  have e0:wrS (f::fs)++13::10::more=(f.1++58::32::f.2)++(13::10::(wrS fs++13::10::more)):=by
   unfold wrS wrF
   rw [List.flatMap_cons]
   simp
  rw [e0,hr,if_neg (by show ¬ s.done=true;rw [hd];decide)]
  have ih:=run_fields fs more { s with all:=s.all+(f.1++58::32::f.2).length+2,cr:=false,line:=[],fields:=s.fields++[f] } hnx rfl hd rfl hok.2 (fun g hg=>hlen g (List.mem_cons_of_mem _ hg)) (by dsimp only;rw [List.length_append];simp only [List.length_cons,List.length_nil];omega) (by dsimp only;rw [hll];omega)
  rw [ih]
  dsimp only
  rw [hll,hS]
  have e1:s.all+lenF f+2+lenS fs+2=s.all+(lenF f+2+lenS fs)+2:=by omega
  have e2:s.fields++[f]++fs=s.fields++f::fs:=by simp
  rw [e1,e2]
  simp only [Prod.mk.injEq,true_and,and_true]
  omega
theorem run_head (first:List UInt8) (fs:List Fld) (more:List UInt8) (s:Pst) (hcr:s.cr=false) (hd:s.done=false) (hln:s.line=[]) (h0:s.all=0) (hf0:s.fields=[]) (hv:vals first) (hok:fs.all okF=true) (hlong:longH first.length fs=false)
  (s1:Pst) (hq:lineP { s with all:=first.length+2,cr:=false,line:=[] } first=(s1,0)) (h1:s1.nx=51∧s1.cr=false∧s1.done=false∧s1.line=[]∧s1.all=first.length+2∧s1.fields=[]) :
  runP s (first++([13,10]++(wrS fs++[13,10]))++more)=({ s1 with all:=first.length+2+lenS fs+2,cr:=false,line:=[],fields:=fs,done:=true },(first++([13,10]++(wrS fs++[13,10]))).length,0):=by
 unfold longH at hlong
 simp only [Bool.or_eq_false_iff,decide_eq_false_iff_not] at hlong
 obtain ⟨⟨⟨k1,k2⟩,k3⟩,k4⟩:=hlong
 rw [List.any_eq_false] at k3
 obtain ⟨n1,n2,n3,n4,n5,n6⟩:=h1
 have e0:first++([13,10]++(wrS fs++[13,10]))++more=first++(13::10::(wrS fs++13::10::more)):=by simp
 have hr:=run_line first (wrS fs++13::10::more) s hcr hd hv hln (by omega) (by omega) (s1,0) (by rw [h0,Nat.zero_add];exact hq.symm) rfl
 rw [e0,hr,if_neg (by show ¬ s1.done=true;rw [n3];decide)]
 have hf:=run_fields fs more s1 n1 n2 n3 n4 hok (fun f hf=>by have:=k3 f hf;simp at this;exact this) (by rw [n6];simp;omega) (by rw [n5];omega)
 rw [hf,n5,n6]
 simp only [List.nil_append,Prod.mk.injEq,true_and,and_true,List.length_append,List.length_cons,List.length_nil,wrS_len]
 omega
theorem wrH_zero {first:List UInt8} {fs:List Fld} (h:(wrH first fs).2=0):fs.all okF=true∧longH first.length fs=false∧(wrH first fs).1=first++([13,10]++(wrS fs++[13,10])):=by
 by_cases h1:fs.all okF=true
 ·cases h2:longH first.length fs with
  | true=>rw [wrH_long h1 h2] at h;cases h
  | false=>rw [wrH_good h1 h2];exact ⟨h1,rfl,rfl⟩
 ·have h1':fs.all okF=false:=by simpa using h1
  unfold wrH at h
  rw [if_pos h1'] at h
  cases h
theorem vals_app {a b:List UInt8} (ha:vals a) (hb:vals b):vals (a++b):=fun x hx=>(List.mem_append.1 hx).elim (ha x) (hb x)
theorem vals_cons {c:UInt8} {b:List UInt8} (hc:valB c.toNat=true) (hb:vals b):vals (c::b):=fun x hx=>(List.mem_cons.1 hx).elim (fun e=>by rw [e];exact hc) (hb x)
theorem line_rsp {s:Pst} {l v c r:List UInt8} (hnx:s.nx=38) (hl:l=v++32::(c++32::r)) (hv:32∉v) (hc:32∉c) (hg:rspG (v,c,r)=true) :
  lineP s l=({ s with nx:=51,minor:=(verH v).1,status:=(stN c).1,reason:=r },0):=by
 unfold lineP rspP
 rw [if_neg (by rw [hnx];decide),if_pos hnx,hl,w3_yes hv hc]
 dsimp only
 rw [if_pos hg]
theorem stat_dig:∀ (st:Int),100≤st→st≤599→(Lib.itoa st).length=3∧vals (Lib.itoa st)∧32∉Lib.itoa st:=by
 intro st h0 h1
 have key:∀ k:Fin 500,(Lib.itoa (((100+k.val:Nat)):Int)).length=3∧((Lib.itoa (((100+k.val:Nat)):Int)).all fun b=>valB b.toNat && decide (b≠32))=true:=by decide +kernel
 have h2:=key ⟨st.toNat-100,by omega⟩
 have h3:((100+(st.toNat-100):Nat):Int)=st:=by omega
 dsimp only at h2
 rw [h3] at h2
 have h4:∀ b∈Lib.itoa st,valB b.toNat=true∧b≠32:=fun b hb=>by
  have:=List.all_eq_true.1 h2.2 b hb
  simpa using this
 exact ⟨h2.1,fun b hb=>(h4 b hb).1,fun hm=>(h4 32 hm).2 rfl⟩
theorem rea_vals (st:Int):vals (reaL st):=by
 unfold reaL
 split
 ·rename_i p hp
  have hm:=List.mem_of_find?_eq_some hp
  have key:∀ p∈rsT,(p.2.2.all fun b=>valB b.toNat)=true:=by decide +kernel
  exact fun b hb=>List.all_eq_true.1 (key p hm) b hb
 ·intro b hb;cases hb
theorem back_rsp (st:Int) (fs:List Fld) (more:List UInt8) (h:(rsW st fs).2=0) :
  (feedP (newP true) ((rsW st fs).1++more)).2=((rsW st fs).1.length,true,0)∧tellP (feedP (newP true) ((rsW st fs).1++more)).1=(st,1,reaL st,fs)∧fs.length≤100∧(rsW st fs).1.length≤32768:=by
 unfold rsW at h ⊢
 split at h
 ·rename_i hc
  rw [if_pos hc]
  obtain ⟨k1,k2,k3⟩:=wrH_zero h
  obtain ⟨_,k5,k6⟩:=good_bd k2
  obtain ⟨d1,d2,d3⟩:=stat_dig st hc.1 hc.2
  rw [k3]
  have hrs:rsF st=[72,84,84,80,47,49,46,49]++32::(Lib.itoa st++32::reaL st):=by unfold rsF;simp
  have hv:vals (rsF st):=by
   rw [hrs]
   exact vals_app (fun b hb=>by revert b;decide) (vals_cons (by decide) (vals_app d2 (vals_cons (by decide) (rea_vals st))))
  have hst:stN (Lib.itoa st)=(st,0):=by
   have:=num_dec st.toNat (by omega)
   rw [show ((st.toNat:Nat):Int)=st by omega] at this
   exact this
  have hG:rspG ([72,84,84,80,47,49,46,49],Lib.itoa st,reaL st)=true:=by
   unfold rspG
   dsimp only
   rw [hst,decide_eq_true d1]
   dsimp only
   rw [decide_eq_true hc.1,decide_eq_true hc.2]
   rfl
  have hq:=line_rsp (s:={ newP true with all:=(rsF st).length+2,cr:=false,line:=[] }) rfl hrs (by decide) d3 hG
  have hr:=run_head (rsF st) fs more (newP true) rfl rfl rfl rfl rfl hv k1 k2 _ hq ⟨rfl,rfl,rfl,rfl,rfl,rfl⟩
  have hf:feedP (newP true) (rsF st++([13,10]++(wrS fs++[13,10]))++more)=({ (runP (newP true) (rsF st++([13,10]++(wrS fs++[13,10]))++more)).1 with e:=(runP (newP true) (rsF st++([13,10]++(wrS fs++[13,10]))++more)).2.2 },(runP (newP true) (rsF st++([13,10]++(wrS fs++[13,10]))++more)).2.1,decide ((runP (newP true) (rsF st++([13,10]++(wrS fs++[13,10]))++more)).2.2=0) && (runP (newP true) (rsF st++([13,10]++(wrS fs++[13,10]))++more)).1.done,(runP (newP true) (rsF st++([13,10]++(wrS fs++[13,10]))++more)).2.2):=if_neg (by decide)
  rw [hf,hr]
  refine ⟨rfl,?_,k5,by simp [wrS_len];omega⟩
  unfold tellP
  dsimp only
  rw [if_pos (by rfl),hst]
  rfl
 ·cases h
end Go.Proofs.YthbofilcnpdghaaGreatDoor
end
