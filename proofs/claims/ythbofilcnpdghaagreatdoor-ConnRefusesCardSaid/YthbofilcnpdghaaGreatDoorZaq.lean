/-
Head's Feed, whole; what a parser tells: Request, Response.
-/
import Derived.Test.YthbofilcnpdghaaGreatDoorZap
import Derived.Test.YthbofilcnpdghaaGreatDoorZam
import Derived.Test.YthbofilcnpdghaaGreatDoorZab
import Derived.Test.YthbofilcnpdghaaGreatDoorZaf
import Derived.RangeFuncNested
import Derived.RangeFuncBound
import Derived.RangeFuncCalls
import Derived.RangeFuncLeaves
import Derived.RangeFuncBox
import Derived.Shelf.Abstract
import Derived.Shelf.RegionOpen
import Derived.OwnWalkIn
import Derived.TacticsInMore
import Derived.LoopNIn
import Derived.LoopIn
set_option maxRecDepth 100000
set_option maxHeartbeats 8000000
set_option linter.unusedVariables false
set_option linter.unusedSimpArgs false
section
namespace Go.Proofs.YthbofilcnpdghaaGreatDoor
open Go.RowKit Go.Extern.Stop Go.Stop Go.Extern
def Pgo (s:Pst):Prop:=s.done=true ∨ s.e ≠ 0 ∨ Pok s
theorem hFeed_c (k P:Nat) (hk:0 < k) (s:Pst) (hs:Pgo s) (b:List UInt8) (B:Option Addr) (n d:Nat) (hn:n=b.length) (hb:n ≤ 4611686018427387904) (w:World) (o:Ow) (h:PsAt w o k P s) (hG:Gl w o) (hB:Rd w B (bc b)) (hBo:b ≠ [] → ∀ a,B=some a → a.block < w.heap.size → ¬ KP k (o a.block)) :
  Calls Tryz.prog 32 #[.pointer (some ⟨P,0,none⟩),.slice B n d] w (Turns (KP k) w o fun v w' o'=>v=feedV (feedP s b)∧PsAt w' o' k P (feedP s b).1):=by
 rcases hs with h1 | h1 | h1
 ·exact hFeed_shut k P s (.inl h1) b B n d w o h
 ·exact hFeed_shut k P s (.inr h1) b B n d w o h
 ·exact hFeed_on k P hk s h1 b B n d hn hb w o h hG hB hBo
def askP (s:Pst):List UInt8 × List UInt8 × Int × List Fld:=if (s.done && !s.reply)=true then (s.meth,s.targ,s.minor,s.fields) else ([],[],0,[])
def IsRq (r:List UInt8 × List UInt8 × Int × List Fld) (v:Value) (w:World):Prop:=∃ A c,v=.agg #[.string (str r.1),.string (str r.2.1),.int .i64 r.2.2.1,.slice A r.2.2.2.length c]∧Rd w A (fc r.2.2.2)
def IsRqN (w0:World) (r:List UInt8 × List UInt8 × Int × List Fld) (v:Value) (w:World):Prop:=∃ A c,v=.agg #[.string (str r.1),.string (str r.2.1),.int .i64 r.2.2.1,.slice A r.2.2.2.length c]∧Rd w A (fc r.2.2.2)∧(r.2.2.2=[] ∨ ∀ a,A=some a → w0.heap.size ≤ a.block)
theorem hAsk_no (P:Nat) (d r:Bool) (hdr:(d && !r)=false) (w:World) (h4:w.cell? ⟨P,4,none⟩=some (.bool d)) (h1:w.cell? ⟨P,1,none⟩=some (.bool r)) :
  Calls Tryz.prog 58 #[.pointer (some ⟨P,0,none⟩)] w (Ret (IsRq ([],[],0,[])) w):=by
 have c4:∀ x,(w.alloc x).cell? ⟨P,4,none⟩=some (.bool d):=fun x=>(((Ext.rfl' w).al x).cell (lt_of_cell h4)).trans h4
 have c1:∀ x,(w.alloc x).cell? ⟨P,1,none⟩=some (.bool r):=fun x=>(((Ext.rfl' w).al x).cell (lt_of_cell h1)).trans h1
 clear h4 h1
 cases d with
 | false =>
  clear hdr
  go_enter Tryz.func58,Tryz.ntmps58
  go_wp2
  refine bodyPost_ret (v:=.agg #[.string ⟨#[]⟩,.string ⟨#[]⟩,.int .i64 0,.slice none 0 0]) (by simp [results,Tryz.results58,go_sem]) rfl ?_
  exact Ret.mk ⟨none,0,rfl,.inl rfl⟩ (by (repeat first | exact Ex0 | assumption | refine Ex1 ?_ | refine Ex2 ?_ | refine Ex3 ?_ | refine Ex4 ?_ | refine Ex5 ?_))
 | true =>
  cases r with
  | false=>cases hdr
  | true =>
   clear hdr
   go_enter Tryz.func58,Tryz.ntmps58
   go_wp2
   refine bodyPost_ret (v:=.agg #[.string ⟨#[]⟩,.string ⟨#[]⟩,.int .i64 0,.slice none 0 0]) (by simp [results,Tryz.results58,go_sem]) rfl ?_
   exact Ret.mk ⟨none,0,rfl,.inl rfl⟩ (by (repeat first | exact Ex0 | assumption | refine Ex1 ?_ | refine Ex2 ?_ | refine Ex3 ?_ | refine Ex4 ?_ | refine Ex5 ?_))
theorem two_rows {w w1:World} {x y:Array Value} {t u:TypeId} (e:Ext ((w.alloc (.cells x t)).alloc (.cells y u)) w1):w1.heap[w.heap.size]?=some (.cells x t (0,0))∧w1.heap[w.heap.size + 1]?=some (.cells y u (0,0)):=by
 have hz:(w.alloc (.cells x t)).heap.size=w.heap.size + 1:=by simp
 have h1:=heap_alloc_new (w.alloc (.cells x t)) (.cells y u)
 rw [hz] at h1
 exact ⟨(e.block w.heap.size (by simp; omega)).trans ((((Ext.rfl' (w.alloc _)).al _).block w.heap.size (by simp)).trans (heap_alloc_new w (.cells x t))),(e.block (w.heap.size + 1) (by simp)).trans h1⟩
theorem hAsk_yes (k P:Nat) (s:Pst) (hd:s.done=true) (hr:s.reply=false) (hf:s.fields.length ≤ 1000000) (w:World) (o:Ow) (h:PsAt w o k P s) :
  Calls Tryz.prog 58 #[.pointer (some ⟨P,0,none⟩)] w (Ret (IsRqN w (s.meth,s.targ,s.minor,s.fields)) w):=by
 obtain ⟨A,c,B,d,hrow,h1,h2,h3,h4⟩:=h.row
 have HR:=Lib.hid hrow
 have HF:=Lib.hid h3.rd
 have cs:∀ x,(w.alloc x).cell? ⟨P,4,none⟩=some (.bool true)∧(w.alloc x).cell? ⟨P,1,none⟩=some (.bool false)∧(w.alloc x).cell? ⟨P,9,none⟩=some (.string (str s.meth))∧(w.alloc x).cell? ⟨P,10,none⟩=some (.string (str s.targ))∧(w.alloc x).cell? ⟨P,11,none⟩=some (.int .i64 s.minor)∧(w.alloc x).cell? ⟨P,12,none⟩=some (.slice none 0 0):=fun x=>by
  have hx:=HR.out.ext ((Ext.rfl' w).al x)
  exact ⟨by rw [← hd]; exact hx.c4,by rw [← hr]; exact hx.c1,(row_facts hx 9 _ rfl).1,(row_facts hx 10 _ rfl).1,(row_facts hx 11 _ rfl).1,(row_facts hx 12 _ rfl).1⟩
 have c15:∀ x y,((w.alloc x).alloc y).cell? ⟨P,15,none⟩=some (.slice B s.fields.length d):=fun x y=>(HR.out.ext (((Ext.rfl' w).al x).al y)).c15
 have a0:=fun x=>(cs x).1
 have a1:=fun x=>(cs x).2.1
 have a2:=fun x=>(cs x).2.2.1
 have a3:=fun x=>(cs x).2.2.2.1
 have a4:=fun x=>(cs x).2.2.2.2.1
 have a5:=fun x=>(cs x).2.2.2.2.2
 clear cs hrow h1 h2 h3 h4 h hd hr
 go_enter Tryz.func58,Tryz.ntmps58
 go_wp2_with (go_at_call 48; refine (hClone_c 9 s.fields B _ d rfl hf _ (fun _=>8) (HF.out.ext (by (repeat first | exact Ex0 | assumption | refine Ex1 ?_ | refine Ex2 ?_ | refine Ex3 ?_ | refine Ex4 ?_ | refine Ex5 ?_)))).mono ?_; rintro e w1 ⟨v,o1,rfl,⟨A1,c1,rfl,hs1,hn1⟩,st1⟩; obtain ⟨g0,g1⟩:=two_rows st1.noExt; obtain ⟨p0,pf0⟩:=row_facts g0 0 _ rfl; obtain ⟨p1,pf1⟩:=row_facts g0 1 _ rfl; obtain ⟨p2,pf2⟩:=row_facts g0 2 _ rfl; obtain ⟨p3,pf3⟩:=row_facts g0 3 _ rfl; obtain ⟨q0,qf0⟩:=row_facts g1 0 _ rfl; obtain ⟨q1,qf1⟩:=row_facts g1 1 _ rfl; obtain ⟨q2,qf2⟩:=row_facts g1 2 _ rfl; obtain ⟨q3,qf3⟩:=row_facts g1 3 _ rfl)
 have hx1:Ext w w1:=(((Ext.rfl' w).al _).al _).tr st1.noExt
 have u0:o1 w.heap.size=8:=(st1.own _ (by simp; omega)).trans rfl
 have u1:o1 (w.heap.size + 1)=8:=(st1.own _ (by simp)).trans rfl
 refine bodyPost_ret (v:=.agg #[.string (str s.meth),.string (str s.targ),.int .i64 s.minor,.slice A1 s.fields.length c1]) (by simp [results,Tryz.results58,go_sem,p0,p1,p2,p3]) rfl ?_
 have t1:Stp (fun i=>i=8) w1 o1 _ o1:=Stp.set (w.heap.size + 1) 3 (.slice A1 s.fields.length c1) (fun _=>u1)
 refine Ret.mk ⟨A1,c1,rfl,?_,?_⟩ (Ext.st (Ext.st (Ext.st (Ext.st (Ext.st hx1 (by simp) _) (by simp) _) (by simp) _) (by simp) _) (by simp) _)
 ·exact (hs1.stp ((((t1.tr (Stp.set w.heap.size 0 _ (fun _=>u0))).tr (Stp.set w.heap.size 1 _ (fun _=>u0))).tr (Stp.set w.heap.size 2 _ (fun _=>u0))).tr (Stp.set w.heap.size 3 _ (fun _=>u0))) (by omega)).rd
 ·rcases hs1.at_ with h0 | ⟨g,f,hA,hg,hl,_⟩
  ·have:=hs1.le
   exact .inl (List.eq_nil_of_length_eq_zero (by show s.fields.length=0; omega))
  ·refine .inr fun a ha=>?_
   rw [hA] at ha
   cases ha
   rcases Nat.lt_or_ge g w.heap.size with hlt | hge
   ·have:=st1.own g (by simp; omega); rw [hg] at this; exact absurd this (by decide)
   ·exact hge
theorem hAskN_c (k P:Nat) (s:Pst) (hf:s.fields.length ≤ 1000000) (w:World) (o:Ow) (h:PsAt w o k P s):Calls Tryz.prog 58 #[.pointer (some ⟨P,0,none⟩)] w (Ret (IsRqN w (askP s)) w):=by
 unfold askP
 cases hd:(s.done && !s.reply) with
 | true =>
  rw [if_pos rfl]
  rw [Bool.and_eq_true] at hd
  exact hAsk_yes k P s hd.1 (by simpa using hd.2) hf w o h
 | false =>
  rw [if_neg (by decide)]
  obtain ⟨A,c,B,d,hr,_⟩:=h.row
  exact (hAsk_no P s.done s.reply hd w hr.c4 hr.c1).mono (by rintro e w' ⟨v,rfl,⟨A,c,hv,hr⟩,hx⟩; exact Ret.mk ⟨A,c,hv,hr,.inl rfl⟩ hx)
end Go.Proofs.YthbofilcnpdghaaGreatDoor
end
section
namespace Go.Proofs.YthbofilcnpdghaaGreatDoor
open Go.RowKit
end Go.Proofs.YthbofilcnpdghaaGreatDoor
end
section
namespace Go.Proofs.YthbofilcnpdghaaGreatDoor
open Go.RowKit
theorem dw_idH (p:UInt8 → Bool):∀ l:List UInt8,(l.dropWhile p).dropWhile p=l.dropWhile p
 | []=>rfl
 | a :: l=>by by_cases h:p a=true <;> simp [List.dropWhile_cons,h,dw_idH p l]
theorem trim_idH (l:List UInt8):trimL (trimL l)=trimL l:=by
 rw [trimL_eq (trimL l)]
 have h1:(trimL l).dropWhile blk=trimL l:=by
  rw [trimL_eq l,← trim_comm blk l,dw_idH]
 rw [h1]
 have h2:(trimL l).reverse.dropWhile blk=(trimL l).reverse:=by
  rw [trimL_eq l,List.reverse_reverse,dw_idH]
 rw [h2,List.reverse_reverse]
def FOk (f:Fld):Prop:=tokL f.1=true∧vlL f.2=true∧trimL f.2=f.2∧f.1.length ≤ 8192∧f.2.length ≤ 8192
structure HInv (u:List UInt8) (s:Pst):Prop where
 nx:s.nx=37 ∨ s.nx=51
 ends:s.nx=51 → s.line=[] → if s.cr=true then ∃ v,u=v ++ [13,10,13] else ∃ v,u=v ++ [13,10]
 crU:s.cr=true → ∃ v,u=v ++ [13]
 first:s.nx=51 → tokL s.meth=true∧tgH s.targ=true∧s.meth.length ≤ 8192∧s.targ.length ≤ 8192
 ln:s.line.length ≤ 8192
 flds:∀ f ∈ s.fields,FOk f
structure HEnd (u:List UInt8) (s:Pst):Prop where
 ends:∃ v,u=v ++ [13,10,13,10]
 tok:tokL s.meth=true
 tg:tgH s.targ=true
 lm:s.meth.length ≤ 8192
 lt:s.targ.length ≤ 8192
 flds:∀ f ∈ s.fields,FOk f
theorem fldV_ok {l:List UInt8} {p:Fld} (hl:l.length ≤ 8192) (h:fldV l=some p):FOk p:=by
 unfold fldV at h
 cases hc:cutW 58 l with
 | none=>rw [hc] at h; cases h
 | some q =>
  rw [hc] at h
  dsimp only at h
  split at h
  ·rename_i hg
   cases h
   rw [Bool.and_eq_true] at hg
   obtain ⟨e,_⟩:=cutW_some hc
   have e2:=congrArg List.length e
   simp at e2
   have:=trim_len q.2
   exact ⟨hg.1,hg.2,trim_idH _,by dsimp only; omega,by dsimp only; omega⟩
  ·cases h
theorem w3_len {l:List UInt8} {p:List UInt8 × List UInt8 × List UInt8} (h:w3 l=some p):p.1.length ≤ l.length∧p.2.1.length ≤ l.length:=by
 obtain ⟨a,b,t⟩:=p
 obtain ⟨e,_⟩:=w3_some h
 have e2:=congrArg List.length e
 simp at e2
 constructor <;> (dsimp only; omega)
theorem take_inv {u:List UInt8} {s:Pst} {c:UInt8} (h:HInv u s) (h0:(takeP s c).2=0) :
  s.done=false → ((takeP s c).1.done=true → HEnd (u ++ [c]) (takeP s c).1)∧((takeP s c).1.done=false → HInv (u ++ [c]) (takeP s c).1):=by
 intro hnd
 unfold takeP at h0 ⊢
 split at h0
 ·cases h0
 ·rename_i k0
  rw [if_neg k0]
  split at h0
  ·rename_i k1
   rw [if_pos k1]
   split at h0
   ·rename_i k2
    rw [if_pos k2]
    subst k2
    obtain ⟨v,hv⟩:=h.crU k1
    have hu:∃ v,u ++ [10]=v ++ [13,10]:=⟨v,by rw [hv]; simp⟩
    unfold lineP at h0 ⊢
    dsimp only at h0 ⊢
    split at h0
    ·rename_i k3
     rw [if_pos k3]
     unfold reqP at h0 ⊢
     dsimp only at h0 ⊢
     split at h0
     ·rename_i k4
      rw [if_pos k4]
      refine ⟨fun hd=>absurd (hd.symm.trans hnd) (by decide),fun _=>?_⟩
      ·exact ⟨.inl k3,fun hf=>absurd (k3.symm.trans hf) num_rf,fun hc=>(by cases hc),fun hf=>absurd (k3.symm.trans hf) num_rf,Nat.zero_le _,h.flds⟩
     ·rename_i k4
      rw [if_neg k4]
      cases hw:w3 s.line with
      | none=>rw [hw] at h0; cases h0
      | some p =>
       rw [hw] at h0
       dsimp only at h0 ⊢
       split at h0
       ·rename_i k5
        rw [if_pos k5]
        unfold reqG at k5
        simp only [Bool.and_eq_true] at k5
        refine ⟨fun hd=>absurd (hd.symm.trans hnd) (by decide),fun _=>?_⟩
        ·exact ⟨.inr rfl,fun _ _=>by rw [if_neg Bool.false_ne_true]; exact hu,fun hc=>(by cases hc),fun _=>⟨k5.1.1.2,k5.1.2,by have:=w3_len hw; have:=h.ln; dsimp only; omega,by have:=w3_len hw; have:=h.ln; dsimp only; omega⟩,Nat.zero_le _,h.flds⟩
       ·cases h0
    ·rename_i k3
     rw [if_neg k3]
     have hnx:s.nx=51:=by rcases h.nx with e | e; exact absurd e k3; exact e
     have k4:¬ s.nx=38:=fun e=>num_sf (e.symm.trans hnx)
     rw [if_neg k4] at h0 ⊢
     unfold fldP at h0 ⊢
     split at h0
     ·rename_i k5
      rw [if_pos k5]
      refine ⟨fun _=>?_,fun hd=>(by cases hd)⟩
      have he:=h.ends hnx k5
      rw [if_pos k1] at he
      obtain ⟨v2,hv2⟩:=he
      exact ⟨⟨v2,by rw [hv2]; simp⟩,(h.first hnx).1,(h.first hnx).2.1,(h.first hnx).2.2.1,(h.first hnx).2.2.2,h.flds⟩
     ·rename_i k5
      rw [if_neg k5]
      cases hw:fldV s.line with
      | none=>rw [hw] at h0; cases h0
      | some p =>
       rw [hw] at h0
       dsimp only at h0 ⊢
       split at h0
       ·rename_i k6
        rw [if_pos k6]
        refine ⟨fun hd=>absurd (hd.symm.trans hnd) (by decide),fun _=>?_⟩
        ·refine ⟨.inr hnx,fun _ _=>by rw [if_neg Bool.false_ne_true]; exact hu,fun hc=>(by cases hc),h.first,Nat.zero_le _,fun f hf=>?_⟩
         rcases List.mem_append.1 hf with e | e
         ·exact h.flds f e
         ·rw [List.mem_singleton.1 e]; exact fldV_ok h.ln hw
       ·cases h0
   ·cases h0
  ·rename_i k1
   rw [if_neg k1]
   split at h0
   ·rename_i k2
    rw [if_pos k2]
    subst k2
    refine ⟨fun hd=>absurd (hd.symm.trans hnd) (by decide),fun _=>?_⟩
    ·refine ⟨h.nx,fun hf hl=>?_,fun _=>⟨u,rfl⟩,h.first,h.ln,h.flds⟩
     have he:=h.ends hf hl
     rw [if_neg k1] at he
     obtain ⟨v,hv⟩:=he
     rw [if_pos rfl]
     exact ⟨v,by rw [hv]; simp⟩
   ·rename_i k2
    rw [if_neg k2]
    split at h0
    ·rename_i k3
     rw [if_pos k3]
     split at h0
     ·rename_i k4
      rw [if_pos k4]
      refine ⟨fun hd=>absurd (hd.symm.trans hnd) (by decide),fun _=>?_⟩
      ·exact ⟨h.nx,fun _ hl=>by simp at hl,fun hc=>absurd hc k1,h.first,by dsimp only; rw [List.length_append]; simp only [List.length_cons,List.length_nil]; omega,h.flds⟩
     ·cases h0
    ·cases h0
theorem run_inv:∀ (l u:List UInt8) (s:Pst),HInv u s → s.done=false → (runP s l).2.2=0 → (runP s l).1.done=true → HEnd (u ++ l.take (runP s l).2.1) (runP s l).1
 | [],u,s,_,h0,_,h2=>by rw [show (runP s []).1=s from rfl,h0] at h2; cases h2
 | c :: l,u,s,h,h0,h1,h2=>by
  rw [run_cons] at h1 h2 ⊢
  by_cases k1:(takeP s c).2 ≠ 0
  ·rw [if_pos k1] at h1; exact absurd h1 k1
  ·rw [if_neg k1] at h1 h2 ⊢
   have hi:=take_inv (c:=c) h (by simpa using k1) h0
   by_cases k2:(takeP s c).1.done=true
   ·rw [if_pos k2]
    simpa using hi.1 k2
   ·rw [if_neg k2] at h1 h2 ⊢
    have ih:=run_inv l (u ++ [c]) _ (hi.2 (by simpa using k2)) (by simpa using k2) h1 h2
    simpa using ih
theorem newP_inv:HInv [] (newP false):=⟨.inl rfl,fun h=>absurd h num_rf,fun h=>(by cases h),fun h=>absurd h num_rf,Nat.zero_le _,fun f hf=>by cases hf⟩
theorem take_rf (s:Pst) (c:UInt8) (h:s.fields.length ≤ 100):(takeP s c).1.reply=s.reply∧(takeP s c).1.fields.length ≤ 100:=by
 have hl:∀ (s:Pst) (l:List UInt8),s.fields.length ≤ 100 → (lineP s l).1.reply=s.reply∧(lineP s l).1.fields.length ≤ 100:=fun s l h=>by
  unfold lineP
  split
  ·unfold reqP
   split
   ·exact ⟨rfl,h⟩
   ·split
    ·exact ⟨rfl,h⟩
    ·split <;> exact ⟨rfl,h⟩
  ·split
   ·unfold rspP
    split
    ·exact ⟨rfl,h⟩
    ·split <;> exact ⟨rfl,h⟩
   ·unfold fldP
    split
    ·exact ⟨rfl,h⟩
    ·split
     ·exact ⟨rfl,h⟩
     ·split
      ·exact ⟨rfl,by dsimp only; rw [List.length_append]; simp only [List.length_cons,List.length_nil]; omega⟩
      ·exact ⟨rfl,h⟩
 unfold takeP
 split
 ·exact ⟨rfl,h⟩
 ·split
  ·split
   ·exact hl _ _ h
   ·exact ⟨rfl,h⟩
  ·split
   ·exact ⟨rfl,h⟩
   ·split
    ·split <;> exact ⟨rfl,h⟩
    ·exact ⟨rfl,h⟩
theorem run_rf:∀ (l:List UInt8) (s:Pst),s.fields.length ≤ 100 → (runP s l).1.reply=s.reply∧(runP s l).1.fields.length ≤ 100
 | [],s,h=>⟨rfl,h⟩
 | c :: l,s,h=>by
  have h1:=take_rf s c h
  have ih:=run_rf l (takeP s c).1 h1.2
  rw [run_cons]
  split
  ·exact h1
  ·split
   ·exact h1
   ·exact ⟨ih.1.trans h1.1,ih.2⟩
theorem feed_rf (l:List UInt8) (s:Pst) (h:s.fields.length ≤ 100):(feedP s l).1.reply=s.reply∧(feedP s l).1.fields.length ≤ 100:=by
 unfold feedP
 split
 ·exact ⟨rfl,h⟩
 ·exact run_rf l s h
end Go.Proofs.YthbofilcnpdghaaGreatDoor
end
section
namespace Go.Proofs.YthbofilcnpdghaaGreatDoor
open Go.RowKit
end Go.Proofs.YthbofilcnpdghaaGreatDoor
end
section
namespace Go.Proofs.YthbofilcnpdghaaGreatDoor
open Go.RowKit
end Go.Proofs.YthbofilcnpdghaaGreatDoor
end
section
namespace Go.Proofs.YthbofilcnpdghaaGreatDoor
open Go.RowKit
structure Sto (K:Nat → Prop) (w:World) (o:Ow) (w':World) (o':Ow):Prop where
 os:w'.os=w.os
 tape:w'.tape=w.tape
 output:w'.output=w.output
 size:w.heap.size ≤ w'.heap.size
 own:∀ b,b < w.heap.size → ¬ K (o b) → o' b=o b
 keep:∀ b,b < w.heap.size → ¬ K (o b) → w'.heap[b]?=w.heap[b]?
section
variable {K L:Nat → Prop} {w w' w'':World} {o o' o'':Ow}
theorem Stp.sto (h:Stp K w o w' o'):Sto K w o w' o':=⟨h.os,h.tape,h.output,h.size,fun b hb _=>h.own b hb,h.keep⟩
theorem Sto.rfl':Sto K w o w o:=Stp.rfl'.sto
theorem Sto.tr (h:Sto K w o w' o') (k:Sto K w' o' w'' o''):Sto K w o w'' o'' :=
 ⟨k.os.trans h.os,k.tape.trans h.tape,k.output.trans h.output,Nat.le_trans h.size k.size,
  fun b hb hk=>(k.own b (Nat.lt_of_lt_of_le hb h.size) (by rw [h.own b hb hk]; exact hk)).trans (h.own b hb hk),
  fun b hb hk=>(k.keep b (Nat.lt_of_lt_of_le hb h.size) (by rw [h.own b hb hk]; exact hk)).trans (h.keep b hb hk)⟩
theorem Sto.mono (h:Sto K w o w' o') (hm:∀ i,K i → L i):Sto L w o w' o' :=
 ⟨h.os,h.tape,h.output,h.size,fun b hb hk=>h.own b hb fun x=>hk (hm _ x),fun b hb hk=>h.keep b hb fun x=>hk (hm _ x)⟩
theorem Sto.ext (h:Ext w w'):Sto K w o w' o:=(Stp.ext h).sto
theorem Sto.ext2 (h:Ext w w') (ho:∀ b,b < w.heap.size → ¬ K (o b) → o' b=o b):Sto K w o w' o':=⟨h.os,h.tape,h.output,h.size,ho,fun b hb _=>h.block b hb⟩
theorem Sto.cell (h:Sto K w o w' o') {a:Addr} {u:Value} (hb:¬ K (o a.block)) (hc:w.cell? a=some u):w'.cell? a=some u:=by
 rw [← hc]; exact World.cell?_of_block (h.keep _ (lt_of_cell hc) hb)
theorem Sto.set (b off:Nat) (u:Value) (hk:b < w.heap.size → K (o b)):Sto K w o (w.setCell ⟨b,off,none⟩ u) o:=(Stp.set b off u hk).sto
theorem Sto.give (ho:∀ b,b < w.heap.size → ¬ K (o b) → o' b=o b):Sto K w o w o':=Sto.ext2 (Ext.rfl' w) ho
theorem Sl.sto {k size n c:Nat} {A:Option Addr} {xs:List Value} (h:Sl w o k size A n c xs) (s:Sto K w o w' o') (hk:¬ K k):Sl w' o' k size A n c xs:=by
 refine ⟨h.len,h.le,h.max,?_⟩
 rcases h.at_ with h0 | ⟨g,f,hA,ho,hl,hc,hr⟩
 ·exact .inl h0
 ·have hg:w'.heap[g]?=w.heap[g]?:=s.keep g hl (by rw [ho]; exact hk)
  refine .inr ⟨g,f,hA,by rw [s.own g hl (by rw [ho]; exact hk)]; exact ho,Nat.lt_of_lt_of_le hl s.size,fun j u hu=>?_,fun j hj=>?_⟩
  ·rw [World.cell?_of_block (a:=⟨g,f + j,none⟩) hg]; exact hc j u hu
  ·rw [World.cell?_of_block (a:=⟨g,f + j,none⟩) hg,World.frozen?_of_block (a:=⟨g,f + j,none⟩) hg]; exact hr j hj
theorem Sl.give {k j size n c:Nat} {A:Option Addr} {xs:List Value} (h:Sl w o k size A n c xs) (ho:∀ b,b < w.heap.size → o b=k → o' b=j):Sl w o' j size A n c xs:=by
 refine ⟨h.len,h.le,h.max,?_⟩
 rcases h.at_ with h0 | ⟨g,f,hA,hg,hl,hc,hr⟩
 ·exact .inl h0
 ·exact .inr ⟨g,f,hA,ho g hl hg,hl,hc,hr⟩
theorem FsAt.sto {k p:Nat} {s:Rst} (h:FsAt w o k p s) (st:Sto K w o w' o') (h0:¬ K k) (h1:¬ K (k + 1)) (h2:¬ K (k + 2)) (h3:¬ K (k + 3)):FsAt w' o' k p s:=by
 obtain ⟨A,c,B,d,C,g,hh,hs,hn,ht,hm,hu,hv⟩:=h.row
 have hk:¬ K (o p):=by rw [h.own]; exact h0
 exact ⟨by rw [st.own p (row_lt hh) hk]; exact h.own,A,c,B,d,C,g,(st.keep p (row_lt hh) hk).trans hh,hs.sto st h1,hn,ht.sto st h2,hm,hu.sto st h3,hv⟩
theorem PsAt.sto {k p:Nat} {s:Pst} (h:PsAt w o k p s) (st:Sto K w o w' o') (h0:¬ K k) (h1:¬ K (k + 1)) (h2:¬ K (k + 2)):PsAt w' o' k p s:=by
 obtain ⟨A,c,B,d,hh,hs,hn,ht,hm⟩:=h.row
 have hk:¬ K (o p):=by rw [h.own]; exact h0
 exact PsAt.of (by rw [st.own p (row_lt hh) hk]; exact h.own) ((st.keep p (row_lt hh) hk).trans hh) (hs.sto st h1) hn (ht.sto st h2) hm
end
def Ro (w:World) (o:Ow) (A:Option Addr) (xs:List Value):Prop:=xs=[] ∨ ∃ g f,A=some ⟨g,f,none⟩∧g < w.heap.size∧o g=0∧∀ j u,xs[j]?=some u → w.cell? ⟨g,f + j,none⟩=some u
section
variable {K:Nat → Prop} {w w':World} {o o':Ow} {A:Option Addr} {xs:List Value}
theorem Ro.rd (h:Ro w o A xs):Rd w A xs:=h.elim .inl fun ⟨g,f,hA,_,_,hc⟩=>.inr ⟨g,f,hA,hc⟩
theorem Ro.sto (h:Ro w o A xs) (s:Sto K w o w' o') (h0:¬ K 0):Ro w' o' A xs:=by
 rcases h with h | ⟨g,f,hA,hl,ho,hc⟩
 ·exact .inl h
 ·have hk:¬ K (o g):=by rw [ho]; exact h0
  exact .inr ⟨g,f,hA,Nat.lt_of_lt_of_le hl s.size,(s.own g hl hk).trans ho,fun j u hu=>s.cell (a:=⟨g,f + j,none⟩) hk (hc j u hu)⟩
theorem Ro.ext (h:Ro w o A xs) (e:Ext w w'):Ro w' o A xs:=h.sto (K:=fun _=>False) (Sto.ext e) (fun x=>x)
theorem Ro.old {w0:World} (h:Rd w0 A xs) (x:Ext w0 w) (ho:∀ b,b < w0.heap.size → o b=0):Ro w o A xs:=by
 rcases h.ext x with h1 | ⟨g,f,hA,hc⟩
 ·exact .inl h1
 ·rcases h with h2 | ⟨g',f',hA',hc'⟩
  ·exact .inl h2
  ·cases hA.symm.trans hA'
   cases xs with
   | nil=>exact .inl rfl
   | cons u t =>
    have hl:g < w0.heap.size:=lt_of_cell (hc' 0 u rfl)
    exact .inr ⟨g,f,hA,Nat.lt_of_lt_of_le hl x.size,ho g hl,hc⟩
theorem Ro.new {w1:World} (h:Rd w' A xs) (e:Ext w1 w') (hb:∀ a,A=some a → w1.heap.size ≤ a.block) (ho:∀ b,w1.heap.size ≤ b → o' b=0):Ro w' o' A xs:=by
 rcases h with h | ⟨g,f,hA,hc⟩
 ·exact .inl h
 ·cases xs with
  | nil=>exact .inl rfl
  | cons u t=>exact .inr ⟨g,f,hA,lt_of_cell (hc 0 u rfl),ho g (hb _ hA),hc⟩
theorem Sl.ro {k size n c:Nat} (h:Sl w o k size A n c xs) (ho:∀ b,b < w.heap.size → o b=k → o' b=0):Ro w o' A xs:=by
 rcases h.at_ with h0 | ⟨g,f,hA,hg,hl,hc,_⟩
 ·have:=h.len; have:=h.le
  obtain rfl:n=0:=by omega
  exact .inl (List.eq_nil_of_length_eq_zero (by omega))
 ·exact .inr ⟨g,f,hA,hl,ho g hl hg,hc⟩
end
structure Old (w0 w:World) (o:Ow):Prop where
 ext:Ext w0 w
 own:∀ b,b < w0.heap.size → o b=0
theorem Old.sto {K:Nat → Prop} {w0 w w':World} {o o':Ow} (h:Old w0 w o) (s:Sto K w o w' o') (h0:¬ K 0):Old w0 w' o' :=
 ⟨⟨s.os.trans h.ext.os,s.tape.trans h.ext.tape,s.output.trans h.ext.output,Nat.le_trans h.ext.size s.size,fun b hb=>(s.keep b (by have:=h.ext.size; omega) (by rw [h.own b hb]; exact h0)).trans (h.ext.block b hb)⟩,
  fun b hb=>(s.own b (by have:=h.ext.size; omega) (by rw [h.own b hb]; exact h0)).trans (h.own b hb)⟩
theorem Old.exto {w0 w w':World} {o:Ow} (h:Old w0 w o) (e:Ext w w'):Old w0 w' o:=h.sto (K:=fun _=>False) (Sto.ext e) (fun x=>x)
theorem Old.start (w:World):Old w w (fun _=>0):=⟨Ext.rfl' w,fun _ _=>rfl⟩
structure Lb (w:World):Prop where
 mx:Mx w
 er:ErrR w
 pw:Pow w
theorem Lb.ext {w w':World} (h:Lb w) (e:Ext w w'):Lb w':=⟨h.mx.ext e,h.er.ext e,h.pw.ext e⟩
theorem Old.gl {w0 w:World} {o:Ow} (x:Old w0 w o) (h:Lb w0):Gl w o:=by
 obtain ⟨m,hm⟩:=h.mx
 obtain ⟨t,p,he⟩:=h.er
 exact ⟨h.mx.ext x.ext,h.er.ext x.ext,x.own _ (lt_of_cell hm),x.own _ (lt_of_cell he)⟩
theorem Old.glF {w0 w:World} {o:Ow} (x:Old w0 w o) (h:Lb w0):GlF w o:=by
 obtain ⟨t,p,he⟩:=h.er
 exact ⟨h.er.ext x.ext,x.own _ (lt_of_cell he)⟩
def TurnsO (K:Nat → Prop) (w:World) (o:Ow) (R:Value → World → Ow → Prop) (e:Ending) (w':World):Prop:=∃ v o',e=.returned v∧R v w' o'∧Sto K w o w' o'
theorem TurnsO.mk {K:Nat → Prop} {w:World} {o:Ow} {R:Value → World → Ow → Prop} {e:Ending} {w':World} {v:Value} (o':Ow) (he:e=.returned v) (h:R v w' o') (s:Sto K w o w' o'):TurnsO K w o R e w':=⟨v,o',he,h,s⟩
end Go.Proofs.YthbofilcnpdghaaGreatDoor
end
section
namespace Go.Proofs.YthbofilcnpdghaaGreatDoor
open Go.RowKit Go.Shelf
def toksL (l:List UInt8):List (List UInt8) × Int:=if (splitL 44 l).all tokL12=true then ((splitL 44 l).map lowL,0) else ([],42)
def chkN:List UInt8:=[99,104,117,110,107,101,100]
def toksA (vs:List (List UInt8)):List (List UInt8):=vs.flatMap fun v=>(toksL v).1
def codV (vs:List (List UInt8)):Int :=
 if vs.any (fun v=>decide ((toksL v).2 ≠ 0))=true then 45 else
 if (toksA vs).any (fun c=>!(c == chkN))=true then 46 else if (toksA vs).length ≠ 1 then 45 else 0
theorem toks_len (l:List UInt8):(toksL l).1.length ≤ l.length + 1:=by
 unfold toksL
 have:=splitL_len 44 l
 split
 ·rw [List.length_map]; exact this
 ·simp
theorem toksA_take (vs:List (List UInt8)) (k:Nat) (h:k < vs.length):toksA (vs.take (k + 1))=toksA (vs.take k) ++ (toksL vs[k]).1:=by
 unfold toksA
 rw [List.take_succ_eq_append_getElem h,List.flatMap_append]
 simp
theorem toksA_le (vs:List (List UInt8)) (k:Nat):(toksA (vs.take k)).length ≤ (toksA vs).length:=by
 have h:=List.take_append_drop k vs
 conv=>rhs; rw [← h]
 unfold toksA
 rw [List.flatMap_append,List.length_append]
 omega
theorem grown_extT {a b:World} (h:Ext a b):a.grownBy b none:=⟨h.os,h.tape,h.output,h.size,fun k hk _=>h.block k hk⟩
def KpE (n c:Nat) (W W':World):Prop:=Below n W W'∧W'.heap[c]?=W.heap[c]?∧W'.heap[c + 1]?=W.heap[c + 1]?
theorem kpE_t {n c:Nat} {A B C:World} (h:KpE n c A B) (k:KpE n c B C):KpE n c A C:=⟨h.1.trans k.1,k.2.1.trans h.2.1,k.2.2.trans h.2.2⟩
theorem kpE_b {n c:Nat} {w:World} (hn:n ≤ w.heap.size) (hc:c + 2 ≤ w.heap.size) (W:World) (l:Nat) (o o':Obj) (hl:w.heap.size ≤ l) (h:W.heap[l]?=some o) (h1:o.isCells=false) (h2:o.isWalk=false):KpE n c W (W.putObj l o') :=
 ⟨belowK_b hn W l o o' hl h h1 h2,World.putObj_heap_other (by omega),World.putObj_heap_other (by omega)⟩
end Go.Proofs.YthbofilcnpdghaaGreatDoor
end
