/-
A row of requests: each has a number of its own; what is written is not more than the row's share.
-/
import Derived.Test.YthbofilcnpdghaaGreatDoorZbs
import Derived.Test.YthbofilcnpdghaaGreatDoorZbq
import Derived.Test.YthbofilcnpdghaaGreatDoorZbr
set_option maxRecDepth 100000
set_option maxHeartbeats 8000000
set_option linter.unusedVariables false
set_option linter.unusedSimpArgs false
section
namespace Go.Proofs.YthbofilcnpdghaaGreatDoor
theorem uni_nil:UnI []:=fun p a t h=>by cases p <;> cases h
theorem uni_cons {x:Th24} {l:List Th24} (h:UnI l) (hx:∀ a,x=.ask a → ∀ b,Th24.ask b ∈ l → b.id ≠ a.id):UnI (x :: l):=by
 intro p a t e
 cases p with
 | nil =>
  have e1:x=.ask a∧l=t:=by simpa using e
  obtain ⟨e1,rfl⟩:=e1
  exact ⟨fun b hb=>(by cases hb),hx a e1⟩
 | cons y p =>
  have e1:x=y∧l=p ++ .ask a :: t:=by simpa using e
  obtain ⟨rfl,e1⟩:=e1
  obtain ⟨h1,h2⟩:=h p a t e1
  refine ⟨fun b hb=>?_,h2⟩
  rcases List.mem_cons.1 hb with hb | hb
  ·exact fun e=>hx b hb.symm a (by rw [e1]; simp) e.symm
  ·exact h1 b hb
theorem ids_asks:∀ (l:List Ev24) (i:Nat) (t:List Th24),EndR t → ∀ b,Th24.ask b ∈ asksC i l ++ t → i ≤ b.id
 | [],i,t,ht,b,hb=>by
  rcases ht with rfl | ⟨st,rfl⟩
  ·simp [asksC] at hb
  ·simp [asksC] at hb
 | e :: l,i,t,ht,b,hb=>by
  rcases List.mem_cons.1 (show Th24.ask b ∈ Th24.ask ⟨i,e.r,lastingC e.r,none⟩ :: (asksC (i + 1) l ++ t) from hb) with h | h
  ·have:b=⟨i,e.r,lastingC e.r,none⟩:=by simpa using h
   rw [this]; exact Nat.le_refl _
  ·have:=ids_asks l (i + 1) t ht b h
   omega
theorem uni_asks:∀ (l:List Ev24) (i:Nat) (t:List Th24),EndR t → UnI (asksC i l ++ t)
 | [],i,t,ht=>by
  rcases ht with rfl | ⟨st,rfl⟩
  ·exact uni_nil
  ·exact uni_cons uni_nil (fun a h=>by cases h)
 | e :: l,i,t,ht=>by
  refine uni_cons (x:=.ask ⟨i,e.r,lastingC e.r,none⟩) (uni_asks l (i + 1) t ht) (fun a ha b hb=>?_)
  have h1:=ids_asks l (i + 1) t ht b hb
  have h2:a=⟨i,e.r,lastingC e.r,none⟩:=by simpa using ha.symm
  rw [h2]
  show b.id ≠ i
  omega
theorem uni_left {i:Nat} {l:List Ev24} {t:List Th24} (ht:EndR t):UnI (leftC i l t):=by
 cases l with
 | nil=>exact uni_nil
 | cons e m=>exact uni_asks (e :: m) i t ht
theorem writes_fit (rd:Bool):∀ (l:List Th24),RowOk l → (writesC rd l).1.length + (writesC rd l).2.length * 40000 ≤ l.length * 40000
 | [],_=>by simp [writesC]
 | .ref st :: t,h=>by
  have h1:=writes_fit rd t (fun x hx=>h x (List.mem_cons_of_mem _ hx))
  have h2:=refused_le st
  show (refusedC st ++ (writesC rd t).1).length + (writesC rd t).2.length * 40000 ≤ _
  rw [List.length_append,List.length_cons]
  omega
 | .ask a :: t,h=>by
  have h1:=writes_fit rd t (fun x hx=>h x (List.mem_cons_of_mem _ hx))
  cases ha:a.ans with
  | none =>
   have e:writesC rd (.ask a :: t)=([],.ask a :: t):=by unfold writesC; rw [ha]
   rw [e]
   simp
  | some x =>
   have hx:=h _ List.mem_cons_self x ha
   have e:writesC rd (.ask a :: t)=(writtenC a (decide (t=[]) && !rd) x ++ (writesC rd t).1,(writesC rd t).2):=by conv=>lhs; unfold writesC; rw [ha]
   rw [e]
   have h2:=written_le a (decide (t=[]) && !rd) x hx
   show (writtenC a (decide (t=[]) && !rd) x ++ (writesC rd t).1).length + (writesC rd t).2.length * 40000 ≤ (Th24.ask a :: t).length * 40000
   rw [List.length_append,List.length_cons]
   omega
end Go.Proofs.YthbofilcnpdghaaGreatDoor
end
section
namespace Go.Proofs.YthbofilcnpdghaaGreatDoor
theorem put_idle {z:Cst} (hf:Fresh z) (hr:z.reads=false) (p:List UInt8):inputC (putC z) p=(putC z,[]):=by
 rw [(put_input hf p).1,all_no _ hr]
 simp
theorem rowOk_left {i:Nat} {l:List Ev24} {t:List Th24} (h:RowOk (asksC i l ++ t)):RowOk (leftC i l t):=by
 cases l with
 | nil=>exact fun x hx=>by cases hx
 | cons e m=>exact h
theorem ans_fit {s:Cst} {i:Nat} {e:Ev24} {l:List Ev24} {t:List Th24} {x:List UInt8} (ht:EndR t) (h:s.row=leftC i (e :: l) t) (hr:RowOk s.row) (hx:x.length ≤ 100) :
  RowOk (answerC s i x).1.row∧(answerC s i x).1.out.length + (answerC s i x).1.row.length * 40000 ≤ s.out.length + s.row.length * 40000:=by
 have hr2:RowOk (asksC i (e :: l) ++ t):=by rw [h] at hr; exact hr
 have hr3:RowOk (asksC (i + 1) l ++ t):=fun y hy=>hr2 y (List.mem_cons_of_mem _ hy)
 refine ⟨by rw [(answer_step ht h x).2.1]; exact rowOk_left hr3,?_⟩
 have e1:tellC i x s.row=some (.ask ⟨i,e.r,lastingC e.r,some x⟩ :: (asksC (i + 1) l ++ t)):=by
  rw [h]
  show (if _ then _ else _)=_
  rw [if_pos ⟨rfl,rfl⟩]
  rfl
 have hR:RowOk (.ask ⟨i,e.r,lastingC e.r,some x⟩ :: (asksC (i + 1) l ++ t)):=fun y hy=>by
  rcases List.mem_cons.1 hy with rfl | hy
  ·intro z hz; cases hz; exact hx
  ·exact hr3 y hy
 have hw:=writes_fit s.reads _ hR
 generalize hRe:(Th24.ask ⟨i,e.r,lastingC e.r,some x⟩ :: (asksC (i + 1) l ++ t))=R at e1 hw hR
 have hl:s.row.length=R.length:=by rw [h,← hRe]; rfl
 unfold answerC
 rw [e1]
 show (s.out ++ (writesC s.reads R).1).length + (writesC s.reads R).2.length * 40000 ≤ s.out.length + s.row.length * 40000
 rw [List.length_append,hl]
 omega
end Go.Proofs.YthbofilcnpdghaaGreatDoor
end
section
namespace Go.Proofs.YthbofilcnpdghaaGreatDoor
theorem reads_in {e:List Ev24}:∀ (n:Nat) (s:Cst) (b:List UInt8),InI e s → InI e (readsC n s b)
 | 0,_,_,h=>h
 | n + 1,s,b,h=>by
  show InI e (if _ then _ else _)
  split
  ·rename_i hc
   exact reads_in n _ _ (h.read hc.1 hc.2)
  ·exact h
theorem all_in {e:List Ev24} {s:Cst} (h:InI e s) (b:List UInt8):InI e (allC s b):=reads_in _ _ _ h
theorem write_in {z:Cst} (h:InI [] z) (hr:z.reads=true):writeC z=z:=by
 rcases h.f.row with h1 | ⟨h1,_⟩
 ·exact write_asks h1
 ·rw [show (pushE [] z).reads=z.reads from rfl,hr] at h1; cases h1
theorem in_put {z:Cst} (h:InI [] z) (hr:z.reads=true):InI z.evs (putC z):=by
 have e:putC z={ z with evs:=[] }:=by unfold putC; rw [write_in h hr]
 have e2:pushE z.evs { z with evs:=[] }=z:=by
  show ({ z with evs:=z.evs ++ [] }:Cst)=z
  rw [List.append_nil]
 rw [e]
 obtain ⟨g1,g2⟩:=h.g hr
 refine ⟨by rw [e2]; exact h.f,⟨h.o.o,h.o.e⟩,h.r,fun _=>⟨⟨⟨g1.ok.mo,g1.ok.hp,g1.ok.rp,g1.ok.bd⟩,g1.inv,g1.fl⟩,g2⟩⟩
theorem rowOk_writes (rd:Bool):∀ l:List Th24,RowOk l → RowOk (writesC rd l).2
 | [],h=>h
 | .ref st :: t,h=>rowOk_writes rd t (fun x hx=>h x (List.mem_cons_of_mem _ hx))
 | .ask a :: t,h=>by
  cases ha:a.ans with
  | none=>rw [writes_none rd ha]; exact h
  | some x=>rw [writes_some rd ha]; exact rowOk_writes rd t (fun x hx=>h x (List.mem_cons_of_mem _ hx))
theorem put_fit {z:Cst} (h:InI [] z):RowOk (putC z).row∧(putC z).out.length + (putC z).row.length * 40000 ≤ 1099511627776∧(putC z).row.length ≤ 65:=by
 obtain ⟨h1,h2,h3,h4⟩:=h.few
 have h5:=writes_fit z.reads z.row h.r
 refine ⟨rowOk_writes _ _ h.r,?_,?_⟩
 ·show (z.out ++ (writesC z.reads z.row).1).length + (writesC z.reads z.row).2.length * 40000 ≤ _
  rw [List.length_append]
  omega
 ·show (writesC z.reads z.row).2.length ≤ 65
  omega
structure RefI (r:Bool) (t:List Th24) (i:Nat) (m:List Ev24) (s:Cst):Prop where
 row:s.row=leftC i m t
 rd:s.reads=r
 ev:s.evs=[]
 ok:RowOk s.row
 sz:s.out.length + s.row.length * 40000 ≤ 1099511627776
theorem RefI.start {z:Cst} (h:InI [] z):∃ t,EndR t∧RefI z.reads t 0 z.evs (putC z):=by
 obtain ⟨t,ht,_,h2⟩:=fresh_row (z:=z) h.f
 obtain ⟨h3,h4,_⟩:=put_fit h
 exact ⟨t,ht,h2,rfl,rfl,h3,h4⟩
theorem answer_evs (s:Cst) (id:Nat) (x:List UInt8):(answerC s id x).1.evs=s.evs:=by
 unfold answerC
 split <;> rfl
theorem RefI.step {r:Bool} {t:List Th24} (ht:EndR t) {i:Nat} {e:Ev24} {m:List Ev24} {s:Cst} (h:RefI r t i (e :: m) s) (x:List UInt8) (hx:x.length ≤ 100):RefI r t (i + 1) m (answerC s i x).1∧(answerC s i x).2=0:=by
 obtain ⟨h1,h2,h3⟩:=answer_step ht h.row x
 obtain ⟨h4,h5⟩:=ans_fit ht h.row h.ok hx
 exact ⟨⟨h2,h3.trans h.rd,(answer_evs s i x).trans h.ev,h4,Nat.le_trans h5 h.sz⟩,h1⟩
theorem RefI.uni {r:Bool} {t:List Th24} (ht:EndR t) {i:Nat} {m:List Ev24} {s:Cst} (h:RefI r t i m s):UnI s.row:=by rw [h.row]; exact uni_left ht
theorem done_input {s:Cst} (hr:s.reads=false) (h0:s.row=[]) (he:s.evs=[]) (b:List UInt8):inputC s b=(s,[]):=by
 have h1:readsC b.length s b=s:=all_no b hr
 have h2:writeC s=s:=write_asks (l:=[]) (i:=0) h0
 unfold inputC
 dsimp only
 rw [h1,h2,he]
 cases s
 simp only at he
 rw [he]
theorem in_any {z:Cst} (h:InI [] z):InI z.evs (putC z) ∨ ((putC z).reads=false∧RowOk (putC z).row∧(putC z).out.length + (putC z).row.length * 40000 ≤ 1099511627776):=by
 cases hr:z.reads with
 | true=>exact .inl (in_put h hr)
 | false=>exact .inr ⟨hr,(put_fit h).1,(put_fit h).2.1⟩
theorem put_more {m:Nat} (hm:m ≤ 1048576) (a p:List UInt8):inputC (putC (allC (newC m) a)) p=(putC (allC (newC m) (a ++ p)),(inputC (putC (allC (newC m) a)) p).2)∧(allC (newC m) (a ++ p)).evs=(allC (newC m) a).evs ++ (inputC (putC (allC (newC m) a)) p).2:=by
 have hf:=all_fresh (new_fresh m) a
 have e:=all_app a.length (newC m) a p (Nat.le_refl _) (new_cok hm)
 obtain ⟨h1,h2⟩:=put_input hf p
 rw [e]
 exact ⟨by
      conv=>lhs; rw [h1]
      rw [h1],h2⟩
theorem put_new (m:Nat) (b:List UInt8):inputC (newC m) b=(putC (allC (newC m) b),(allC (newC m) b).evs):=rfl
end Go.Proofs.YthbofilcnpdghaaGreatDoor
end
section
namespace Go.Proofs.YthbofilcnpdghaaGreatDoor
open Go.RowKit
def WaitL (s:Cst) (w:World) (v3 v16:Value) (wr:World):Prop:=∃ l t,s.row=l ++ t∧v16=.int .i64 (l.length:Int)∧v3=.int .i64 (waitC l:Int)∧wr=w
theorem wait_le (l:List Th24):waitC l ≤ l.length:=List.length_filter_le _ _
theorem nWaiting_c (k c:Nat) (s:Cst) (hsz:s.row.length ≤ 1000000) (w:World) (o:Ow) (h:CnAt w o k c s):Calls Tryz.prog 16 #[.pointer (some ⟨c,0,none⟩)] w (Tells (.int .i64 (waitC s.row:Int)) w):=by
 obtain ⟨a,hx,hnx⟩:=h
 have HX:=Lib.hid hx
 obtain ⟨us,us1,us2⟩:=hx.p.row
 have US1:=Lib.hid us1
 have US2:=Lib.hid us2
 have c6:w.cell? ⟨c,6,none⟩=some (.func (.func a.nx) #[.pointer (some ⟨c,0,none⟩)] #[]):=hx.row.c6
 have c16:w.cell? ⟨c,16,none⟩=some (.slice a.L s.row.length a.cl):=hx.row.c16
 obtain ⟨AL,hAL⟩:∃ A,A=a.L:=⟨_,rfl⟩
 rw [← hAL] at c16
 have HLK:=Lib.hid (show ∀ m u,us[m]?=some u → ∃ g f,AL=some ⟨g,f,none⟩∧w.cell? ⟨g,f + m,none⟩=some u from fun m u hu=>by
  rcases US1.out.rd with h0 | ⟨g,f,hA,hc⟩
  ·rw [h0] at hu; simp at hu
  ·exact ⟨g,f,hAL.trans hA,hc m u hu⟩)
 obtain ⟨rn,hrn⟩:∃ n,n=s.row.length:=⟨_,rfl⟩
 rw [← hrn] at c16
 have HRN:=Lib.hid hrn
 have HSZ:=Lib.hid hsz
 clear us1 us2 hAL hrn hx hnx hsz
 go_enter Tryz.func16,Tryz.ntmps16
 go_wp2_with (go_at_call 25; refine (nNone_c _ _ _ _ c6).mono ?_; rintro e w2 ⟨rfl,hw⟩; subst hw)
 go_loopw [3,16] (fun v3 v16 wr=>WaitL s w v3 v16 wr) (fun _ v16 _=>rn - (intOf v16).toNat)
 case atStart=>exact ⟨[],s.row,rfl,rfl,rfl,rfl⟩
 case round =>
  obtain ⟨l,t,hlt,rfl,rfl,hw⟩:=hrel
  have hw:=hw.symm
  subst hw
  have hlen:rn=l.length + t.length:=by rw [HRN.out,hlt,List.length_append]
  obtain ⟨m,hm⟩:∃ m,m=l.length:=⟨_,rfl⟩
  obtain ⟨n,hn⟩:∃ n,n=waitC l:=⟨_,rfl⟩
  have hnm:n ≤ m:=by rw [hn,hm]; exact wait_le l
  rw [← hm]
  rw [← hn]
  cases t with
  | nil =>
   have hmr:¬ (m:Int) < (rn:Int):=by simp at hlen; omega
   have HQ:=Lib.hid (show waitC s.row=n from by rw [hlt,List.append_nil,hn])
   clear hlt hlen hm hn hnm
   go_wp2
   go_ret
   rw [HQ.out]
   exact ⟨rfl,rfl⟩
  | cons el r =>
   have hmr:(m:Int) < (rn:Int):=by simp at hlen; omega
   have hm0:(0:Int) ≤ (m:Int):=by omega
   have hrs:rn ≤ 1000000:=by rw [HRN.out]; exact HSZ.out
   have hm2:IntKind.i64.wrap ((m:Int) + 1)=((m + 1:Nat):Int):=by rw [IntKind.wrap_i64]; omega
   have hn2:IntKind.i64.wrap ((n:Int) + 1)=((n + 1:Nat):Int):=by rw [IntKind.wrap_i64]; omega
   obtain ⟨u,hu,hth⟩:=ThL.at_ (p:=l) (t:=r) (x:=el) (by rw [← hlt]; exact US2.out)
   obtain ⟨g,f,rfl,hcb⟩:=HLK.out _ u hu
   rw [← hm] at hcb
   have HM:=Lib.hid hm
   have HN:=Lib.hid hn
   have HRW:=Lib.hid hlt
   clear hlt hm hn hu hnm hlen hrs
   cases el with
   | ref st =>
    obtain rfl:u=.iface 85 (.int .i64 st):=hth
    have h1:=ta_ra st
    go_wp2
    go_roundw
    case rel=>exact ⟨l ++ [.ref st],r,by rw [List.append_assoc]; exact HRW.out,by rw [List.length_append,← HM.out]; go_num,by rw [wait_app,← HN.out]; rfl,rfl⟩
    case measure=>simp [intOf]; omega
   | ask q =>
    obtain ⟨p,rfl,_⟩:=hth
    have h2:=ta_aa ⟨p,0,none⟩
    go_wp2
    go_roundw
    case rel=>exact ⟨l ++ [.ask q],r,by rw [List.append_assoc]; exact HRW.out,by rw [List.length_append,← HM.out]; go_num,by rw [wait_app,← HN.out]; rfl,rfl⟩
    case measure=>simp [intOf]; omega
end Go.Proofs.YthbofilcnpdghaaGreatDoor
end
