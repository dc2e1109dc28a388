/-
The reference's directives of a text: plain laws, memory.
-/
import Derived.Test.YtmnohicojefhfaaGreatDoorRPa
import Derived.Test.YtmnohicojefhfaaGreatDoorCFh
import Derived.Test.YtmnohicojefhfaaGreatDoorCFd
set_option maxRecDepth 100000
set_option maxHeartbeats 8000000
set_option linter.unusedVariables false
set_option linter.unusedSimpArgs false
section
namespace Go.Proofs.YtmnohicojefhfaaGreatDoor
open Go.RowKit
def NdInv (all rest:List Tk14) (done:List Nd14) (now:Option Nd14) (d:Nat):Prop:=nodesF all none 0=(nodesF rest now d).map fun r=>(done ++ r.1,r.2)
def addW (now:Option Nd14) (t:Tk14) (d:Nat):Nd14:=match now with | none=>⟨[t.s],d,false,t.line⟩ | some n=>{ n with words:=n.words ++ [t.s] }
section
variable {all ts:List Tk14} {t:Tk14} {done:List Nd14} {now:Option Nd14} {n:Nd14} {d:Nat}
theorem NdInv.start (all:List Tk14):NdInv all all [] none 0:=by
 unfold NdInv
 cases nodesF all none 0 <;> rfl
theorem NdInv.word (h:NdInv all (t :: ts) done now d) (hm:t.mark=0):NdInv all ts done (some (addW now t d)) d:=by
 unfold NdInv at *
 rw [h]
 conv=>lhs; unfold nodesF
 rw [if_pos hm]
 cases now <;> rfl
theorem NdInv.shut (h:NdInv all (t :: ts) done none d) (hm:t.mark=125) (hd:d ≠ 0):NdInv all ts done none (d - 1):=by
 unfold NdInv at *
 rw [h]
 conv=>lhs; unfold nodesF
 rw [if_neg (by rw [hm]; decide),if_pos hm,if_neg (by simp [hd])]
theorem NdInv.shut_bad (h:NdInv all (t :: ts) done now d) (hm:t.mark=125) (hd:now.isSome ∨ d=0):nodesF all none 0=.error t.line:=by
 unfold NdInv at h
 rw [h]
 unfold nodesF
 rw [if_neg (by rw [hm]; decide),if_pos hm,if_pos hd]
 rfl
theorem NdInv.open_ (h:NdInv all (t :: ts) done (some n) d) (hm:t.mark=123) (hd:d ≠ 3):NdInv all ts (done ++ [{ n with block:=true }]) none (d + 1):=by
 unfold NdInv at *
 rw [h]
 conv=>lhs; unfold nodesF
 rw [if_neg (by rw [hm]; decide),if_neg (by rw [hm]; decide)]
 dsimp only
 rw [if_pos hm,if_neg hd]
 cases nodesF ts none (d + 1) <;> simp [Except.map]
theorem NdInv.open_bad (h:NdInv all (t :: ts) done now d) (hm:t.mark=123) (hd:now=none ∨ d=3):nodesF all none 0=.error t.line:=by
 unfold NdInv at h
 rw [h]
 unfold nodesF
 rw [if_neg (by rw [hm]; decide),if_neg (by rw [hm]; decide)]
 cases now with
 | none=>rfl
 | some n =>
  dsimp only
  rcases hd with hd | hd
  ·cases hd
  rw [if_pos hm,if_pos hd]
  rfl
theorem NdInv.semi (h:NdInv all (t :: ts) done (some n) d) (h0:t.mark ≠ 0) (h1:t.mark ≠ 125) (h2:t.mark ≠ 123):NdInv all ts (done ++ [n]) none d:=by
 unfold NdInv at *
 rw [h]
 conv=>lhs; unfold nodesF
 rw [if_neg h0,if_neg h1]
 dsimp only
 rw [if_neg h2]
 cases nodesF ts none d <;> simp [Except.map]
theorem NdInv.semi_bad (h:NdInv all (t :: ts) done none d) (h0:t.mark ≠ 0) (h1:t.mark ≠ 125):nodesF all none 0=.error t.line:=by
 unfold NdInv at h
 rw [h]
 unfold nodesF
 rw [if_neg h0,if_neg h1]
 rfl
theorem NdInv.end_ (h:NdInv all [] done now d):nodesF all none 0=.ok (done,now,d):=by
 unfold NdInv at h
 rw [h]
 simp [nodesF,Except.map]
end
def nowRV (now:Option Nd14) (H:Hd):Array Value:=match now with
 | none=>#[.slice none 0 0,.int .i64 0,.bool false,.int .i64 0]
 | some n=>#[.slice H.1 n.words.length H.2,.int .i64 (n.deep:Int),.bool n.block,.int .i64 (n.line:Int)]
def ndV (x:Nd14 × Hd):List Value:=[.slice x.2.1 x.1.words.length x.2.2,.int .i64 (x.1.deep:Int),.bool x.1.block,.int .i64 (x.1.line:Int)]
theorem ndV_len (x:Nd14 × Hd):(ndV x).length=4:=rfl
theorem slt_nodeR:SlT Tryz.prog 61 70 (.agg #[.slice none 0 0,.int .i64 0,.bool false,.int .i64 0]) 4 48:=⟨Tryz.underlying61,by kernel_rfl,rfl,by omega⟩
def nowWR (now:Option Nd14):List (List UInt8):=match now with | none=>[] | some n=>n.words
def KNd:Nat → Prop:=fun i=>i=1 ∨ i=2 ∨ i=3
structure NsA (w:World) (q:Ow) (wr:World) (o:Ow) (g:Nat) (N:List (Nd14 × Hd)) (A:Option Addr) (c:Nat) (now:Option Nd14) (H:Hd):Prop where
 st:Stp KNd w q wr o
 own:o g=2
 row:wr.heap[g]?=some (.cells (nowRV now H) 70 (0,0))
 out:Sl wr o 1 4 A N.length c (N.flatMap ndV)
 na:A=none → c=0
 words:Sl wr o 3 1 H.1 (nowWR now).length H.2 (strC (nowWR now))
 wna:H.1=none → H.2=0
 done:∀ x ∈ N,RdZ wr o x.2.1 (strC x.1.words)
 cap:∀ x ∈ N,x.1.words.length ≤ x.2.2
theorem Sl.reownR {w:World} {o o':Ow} {k size n c:Nat} {A:Option Addr} {xs:List Value} (h:Sl w o k size A n c xs) (ho:∀ b,o b=k → o' b=k):Sl w o' k size A n c xs:=by
 refine ⟨h.len,h.le,h.max,?_⟩
 rcases h.at_ with h0 | ⟨g,f,hA,hg,hl,hc,hr⟩
 ·exact .inl h0
 ·exact .inr ⟨g,f,hA,ho g hg,hl,hc,hr⟩
theorem rdz_lt {w:World} {o:Ow} {A:Option Addr} {xs:List Value} (h:Rd w A xs) (ho:∀ b,b < w.heap.size → o b=0):RdZ w o A xs:=by
 by_cases hx:xs=[]
 ·exact ⟨.inl hx,.inl hx⟩
 refine ⟨h,.inr fun a ha=>?_⟩
 rcases h with h | ⟨b,f,hA,hc⟩
 ·exact absurd h hx
 ·rw [hA] at ha
  cases ha
  obtain ⟨u,us,rfl⟩:∃ u us,xs=u :: us:=by cases xs with | nil=>exact absurd rfl hx | cons u us=>exact ⟨u,us,rfl⟩
  exact ho b (lt_of_cell (hc 0 u rfl))
section
variable {w wr w':World} {q o o':Ow} {g c:Nat} {N:List (Nd14 × Hd)} {A:Option Addr} {now:Option Nd14} {H:Hd}
theorem NsA.ext (h:NsA w q wr o g N A c now H) (e:Ext wr w'):NsA w q w' o g N A c now H :=
 ⟨h.st.tr (Stp.ext e),h.own,(e.block g (row_lt h.row)).trans h.row,h.out.ext e,h.na,h.words.ext e,h.wna,fun x hx=>(h.done x hx).stp (K:=fun _=>False) (Stp.ext e) (fun x=>x),h.cap⟩
theorem NsA.turn (h:NsA w q wr o g N A c now H) (st:Stp (fun i=>i=2) wr o w' o) {now':Option Nd14} {H':Hd} (hr:w'.heap[g]?=some (.cells (nowRV now' H') 70 (0,0))) (hw:Sl w' o 3 1 H'.1 (nowWR now').length H'.2 (strC (nowWR now'))) (hn:H'.1=none → H'.2=0):NsA w q w' o g N A c now' H' :=
 ⟨h.st.tr (st.mono fun i hi=>by unfold KNd; omega),h.own,hr,h.out.stp st (by omega),h.na,hw,hn,fun x hx=>(h.done x hx).stp st (by omega),h.cap⟩
theorem NsA.grown {n:Nd14} (h:NsA w q wr o g N A c (some n) H) {s:List UInt8} {w5:World} {o5:Ow} {A5:Option Addr} {c5:Nat} (hs:Sl w5 o5 3 1 A5 (n.words.length + 1) c5 (strC n.words ++ [.string (str s)])) (st:Stp (fun i=>i=3) wr o w5 o5) (hn:A5=none → c5=0) :
  NsA w q (w5.setCell ⟨g,0,none⟩ (.slice A5 (n.words.length + 1) c5)) o5 g N A c (some { n with words:=n.words ++ [s] }) (A5,c5):=by
 have hg:=row_lt h.row
 have o5g:o5 g=2:=(st.own g hg).trans h.own
 have r5:=(st.keep g hg (by rw [h.own]; omega)).trans h.row
 have s2:Stp (fun i=>i=2) w5 o5 (w5.setCell ⟨g,0,none⟩ (.slice A5 (n.words.length + 1) c5)) o5:=Stp.set g 0 _ (fun _=>o5g)
 refine ⟨(h.st.tr (st.mono fun i hi=>by unfold KNd; omega)).tr (s2.mono fun i hi=>by unfold KNd; omega),o5g,?_,(h.out.stp st (by omega)).stp s2 (by omega),h.na,?_,hn,fun x hx=>((h.done x hx).stp st (by omega)).stp s2 (by omega),h.cap⟩
 ·rw [row_set r5 0 _]
  simp [nowRV]
 ·have:=hs.stp s2 (by omega)
  have e:strC (n.words ++ [s])=strC n.words ++ [.string (str s)]:=by simp [strC]
  show Sl _ _ 3 1 A5 (n.words ++ [s]).length c5 (strC (n.words ++ [s]))
  rw [e,List.length_append]
  exact this
theorem NsA.push {n:Nd14} (h:NsA w q wr o g N A c (some n) H) (hq:∀ b,q b ≠ 3) {w3 w4:World} {o3:Ow} {A3:Option Addr} {c3:Nat} (hs:Sl w3 o3 1 4 A3 (N.length + 1) c3 (N.flatMap ndV ++ ndV (n,H))) (st:Stp (fun i=>i=1) wr o w3 o3) (hn:A3=none → c3=0)
  (st4:Stp (fun i=>i=2) w3 o3 w4 o3) (hr:w4.heap[g]?=some (.cells (nowRV none (none,0)) 70 (0,0))) :
  ∃ o4,NsA w q w4 o4 g (N ++ [(n,H)]) A3 c3 none (none,0):=by
 have hg:=row_lt h.row
 have o3g:o3 g=2:=(st.own g hg).trans h.own
 have hst:Stp KNd w q w4 o3:=(h.st.tr (st.mono fun i hi=>by unfold KNd; omega)).tr (st4.mono fun i hi=>by unfold KNd; omega)
 have hwd:=(h.words.stp st (by omega)).stp st4 (by omega)
 refine ⟨fun b=>if o3 b=3 then 0 else o3 b,hst.reown (fun b hb=>?_),by simp [o3g],hr,?_,hn,Sl.nil_ _ _ _ _ _,(fun _=>rfl),(fun x hx=>?_),fun x hx=>?_⟩
 ·have:=hst.own b hb
  simp only [this,hq b,if_false]
 ·have:=(hs.stp st4 (by omega)).reownR (o':=fun b=>if o3 b=3 then 0 else o3 b) (fun b hb=>by simp [hb])
  rw [List.length_append,List.flatMap_append]
  simpa using this
 ·rcases List.mem_append.1 hx with hx | hx
  ·have:=((h.done x hx).stp st (by omega)).stp st4 (by omega)
   exact ⟨this.1,this.2.imp_right fun f a ha=>by simp [f a ha]⟩
  ·rw [List.mem_singleton] at hx
   subst hx
   refine ⟨hwd.rd,?_⟩
   rcases hwd.at_ with h0 | ⟨b,f,hA,ho,_⟩
   ·left
    have h1:=hwd.le
    have h2:=hwd.len
    exact List.eq_nil_of_length_eq_zero (by show (strC n.words).length=0; have e:(strC (nowWR (some n))).length=(strC n.words).length:=rfl; omega)
   ·right
    intro a ha
    rw [hA] at ha
    cases ha
    simp [ho]
 ·rcases List.mem_append.1 hx with hx | hx
  ·exact h.cap x hx
  ·rw [List.mem_singleton] at hx
   subst hx
   exact h.words.le
end
def IsNds (r:Except Nat (List Nd14)) (v:Value) (w:World):Prop :=
 (∃ e,r=.error e∧v=.tuple #[.slice none 0 0,.int .i64 ((e:Nat):Int)]) ∨
  (∃ (N:List (Nd14 × Hd)) (A:Option Addr) (c:Nat),r=.ok (N.map (·.1))∧v=.tuple #[.slice A N.length c,.int .i64 (-1)]∧Rd w A (N.flatMap ndV)∧∀ x ∈ N,Rd w x.2.1 (strC x.1.words)∧x.1.words.length ≤ x.2.2)
theorem tree_dead {l:List UInt8} {e:Nat} (h:nodesF (lexL l).1 none 0=.error e):treeL l=.error e:=by
 unfold treeL
 rw [h]
theorem tree_end {l:List UInt8} {ns:List Nd14} {now:Option Nd14} {d:Nat} (h:nodesF (lexL l).1 none 0=.ok (ns,now,d)):treeL l=if 0 < (lexL l).2 then .error (lexL l).2 else if now.isSome ∨ 0 < d then .error 0 else .ok ns:=by
 unfold treeL
 rw [h]
end Go.Proofs.YtmnohicojefhfaaGreatDoor
end
section
namespace Go.Proofs.YtmnohicojefhfaaGreatDoor
open Go.RowKit
theorem store4 {w:World} {o:Ow} {g:Nat} {x0 x1 x2 x3:Value} {T:TypeId} (h:w.heap[g]?=some (.cells #[x0,x1,x2,x3] T (0,0))) (ho:o g=2) (y0 y1 y2 y3:Value) :
  ((((w.setCell ⟨g,0,none⟩ y0).setCell ⟨g,1,none⟩ y1).setCell ⟨g,2,none⟩ y2).setCell ⟨g,3,none⟩ y3).heap[g]?=some (.cells #[y0,y1,y2,y3] T (0,0))∧Stp (fun i=>i=2) w o ((((w.setCell ⟨g,0,none⟩ y0).setCell ⟨g,1,none⟩ y1).setCell ⟨g,2,none⟩ y2).setCell ⟨g,3,none⟩ y3) o:=by
 refine ⟨?_,(((Stp.set g 0 y0 (fun _=>ho)).tr (Stp.set g 1 y1 (fun _=>ho))).tr (Stp.set g 2 y2 (fun _=>ho))).tr (Stp.set g 3 y3 (fun _=>ho))⟩
 rw [row_set (row_set (row_set (row_set h 0 y0) 1 y1) 2 y2) 3 y3]
 simp
theorem NsA.fin {w0 w wr:World} {q o:Ow} {g c:Nat} {N:List (Nd14 × Hd)} {A:Option Addr} {now:Option Nd14} {H:Hd} (h:NsA w q wr o g N A c now H) (e:Ext w0 w) (hk:∀ b,b < w0.heap.size → ¬ KNd (q b)):Ext w0 wr :=
 ⟨h.st.os.trans e.os,h.st.tape.trans e.tape,h.st.output.trans e.output,Nat.le_trans e.size h.st.size,fun b hb=>(h.st.keep b (Nat.lt_of_lt_of_le hb e.size) (hk b hb)).trans (e.block b hb)⟩
theorem rnodes_c (l:List UInt8) (hl:l.length ≤ 65536) (w:World):Calls Tryz.prog 24 #[.string (str l)] w (Ret (IsNds (treeL l)) w):=by
 have CL:=Lib.hid (fun w=>rlex_c l hl w)
 have htl:=lexL_len l
 have HTD:=Lib.hid (fun e=>@tree_dead l e)
 have HTE:=Lib.hid (fun ns now d=>@tree_end l ns now d)
 have hll:lexT l 1=lexL l:=rfl
 rw [hll] at CL
 obtain ⟨s,hsl⟩:∃ s,s=str l:=⟨_,rfl⟩
 rw [← hsl] at CL ⊢
 obtain ⟨R,hR⟩:∃ r,r=treeL l:=⟨_,rfl⟩
 rw [← hR] at HTD HTE ⊢
 obtain ⟨X,hX⟩:∃ x,x=lexL l:=⟨_,rfl⟩
 rw [← hX] at CL HTD HTE htl
 clear hsl hR hX hll
 obtain ⟨T,bad⟩:=X
 dsimp only at htl HTD HTE
 go_enter Tryz.func24,Tryz.ntmps24
 go_upto_region 4 with (go_at_call 61; refine (CL.out _).mono ?_; rintro e' w1 ⟨v,rfl,⟨TA,tc,rfl,hTR⟩,hx1⟩; have HTR:=Lib.hid hTR; clear hTR)
 obtain ⟨g,hg⟩:∃ g,g=w1.heap.size:=⟨_,rfl⟩
 obtain ⟨W2,hW2⟩:∃ W,W=w1.alloc (.cells #[.slice none 0 0,.int .i64 0,.bool false,.int .i64 0] 70):=⟨_,rfl⟩
 have hx2:Ext w1 W2:=by rw [hW2]; exact (Ext.rfl' _).al _
 have hxw2:=hx1.tr hx2
 obtain ⟨q,hq⟩:∃ q:Ow,q=fun b=>if b=g then 2 else 0:=⟨_,rfl⟩
 have hgw:w.heap.size ≤ g:=by rw [hg]; exact hx1.size
 have HQ3:Hid (∀ b,q b ≠ 3):=Lib.hid (fun b=>by rw [hq]; dsimp only; split <;> omega)
 have HQK:Hid (∀ b,b < w.heap.size → ¬ KNd (q b)):=Lib.hid (fun b hb=>by rw [hq]; unfold KNd; dsimp only; rw [if_neg (by omega)]; omega)
 have HTZ:Hid (RdZ W2 q TA (tksC T)):=Lib.hid (by
  have h1:RdZ w1 q TA (tksC T):=rdz_lt HTR.out (fun b hb=>by rw [hq]; exact if_neg (by omega))
  exact h1.stp (K:=fun _=>False) (Stp.ext hx2) (fun x=>x))
 have HN0:Hid (NsA W2 q W2 q g [] none 0 none (none,0)):=Lib.hid ⟨Stp.rfl',by rw [hq]; exact if_pos rfl,by rw [hW2,hg]; exact heap_alloc_new w1 _,Sl.nil_ _ _ _ _ _,fun _=>rfl,Sl.nil_ _ _ _ _ _,fun _=>rfl,fun x hx=>(by cases hx),fun x hx=>(by cases hx)⟩
 rw [← hW2,← hg]
 have HGL:Hid (g < W2.heap.size):=Lib.hid (row_lt HN0.out.row)
 clear hW2 hg hq HTR hx1 hx2
 go_wp2
 go_loopw [6,8,9] (fun v6 v8 v9 wr=>∃ (i d:Nat) (N:List (Nd14 × Hd)) (A:Option Addr) (c:Nat) (now:Option Nd14) (H:Hd) (o:Ow),v6=.slice A N.length c∧v8=.int .i64 (d:Int)∧v9=.int .i64 (i:Int)∧i ≤ T.length∧d ≤ 3∧N.length ≤ i∧(nowWR now).length ≤ i∧Hid (NdInv T (T.drop i) (N.map (·.1)) now d)∧Hid (NsA W2 q wr o g N A c now H)∧Hid (now ≠ none → nowWR now ≠ [])) (fun _ _ v9 _=>T.length - (intOf v9).toNat)
 case atStart=>exact ⟨0,0,[],none,0,none,(none,0),q,rfl,rfl,rfl,Nat.zero_le _,Nat.zero_le _,Nat.zero_le _,Nat.zero_le _,Lib.hid (NdInv.start T),HN0,Lib.hid (fun h=>absurd rfl h)⟩
 case round =>
  clear HN0
  obtain ⟨i,d,N,A,c,now,H,o,rfl,rfl,rfl,hi,hd3,hNi,hWi,HI,HA,HNE⟩:=hrel
  obtain ⟨W,rfl⟩:∃ W,W=wr:=⟨_,rfl⟩
  have i0:(0:Int) ≤ (i:Int):=by omega
  by_cases hlt:i < T.length
  ·have i1:(i:Int) < (T.length:Int):=by omega
   have hkk:IntKind.i64.wrap ((i:Int) + 1)=((i + 1:Nat):Int):=by rw [IntKind.wrap_i64]; omega
   have hdr:=List.drop_eq_getElem_cons hlt
   obtain ⟨tb,tg,rfl,k0,k1,k2⟩:=rd_tok (HTZ.out.stp HA.out.st (by unfold KNd; omega)).1 (List.getElem?_eq_getElem hlt)
   obtain ⟨t,ht⟩:∃ t,t=T[i]:=⟨_,rfl⟩
   rw [← ht] at hdr k0 k1 k2
   rw [hdr] at HI
   obtain ⟨ts,hts⟩:∃ ts,ts=str t.s:=⟨_,rfl⟩
   have HTS:=Lib.hid hts
   rw [← hts] at k1
   obtain ⟨m,hm⟩:∃ m,m=t.mark:=⟨_,rfl⟩
   rw [← hm] at k0
   have HM:=Lib.hid hm
   clear hdr ht hts hm
   go_upto_region 9 with (fail)
   obtain ⟨b,hb⟩:∃ b,b=W.heap.size:=⟨_,rfl⟩
   obtain ⟨W3,hW3⟩:∃ W3,W3=W.alloc (.cells #[.int .u8 (m.toNat:Int),.string ts,.int .i64 (t.line:Int)] 135):=⟨_,rfl⟩
   have hx3:Ext W W3:=by rw [hW3]; exact (Ext.rfl' _).al _
   have b3:W3.heap[b]?=some (.cells #[.int .u8 (m.toNat:Int),.string ts,.int .i64 (t.line:Int)] 135 (0,0)):=by rw [hW3,hb]; exact heap_alloc_new W _
   rw [← hW3,← hb]
   have HA3:=Lib.hid (HA.out.ext hx3)
   have hgb:g < b:=by rw [hb]; exact row_lt HA.out.row
   clear hW3 hb k0 k1 k2
   have k0:=(row_facts b3 0 _ rfl).1
   have k1:=(row_facts b3 1 _ rfl).1
   have k2:=(row_facts b3 2 _ rfl).1
   have hgb1:¬ g=b:=by omega
   have hgb2:¬ b=g:=by omega
   have HB3:=Lib.hid b3
   clear b3 HA hx3
   by_cases h0:m=0
   ·subst h0
    have HI1:=Lib.hid (HI.out.word HM.out.symm)
    cases now with
    | none =>
     have r3:W3.heap[g]?=some (.cells #[.slice none 0 0,.int .i64 0,.bool false,.int .i64 0] 70 (0,0)):=HA3.out.row
     obtain ⟨n0a,n0b⟩:=(row_facts r3 0 _ rfl)
     obtain ⟨n1a,n1b⟩:=(row_facts r3 1 _ rfl)
     obtain ⟨n2a,n2b⟩:=(row_facts r3 2 _ rfl)
     obtain ⟨n3a,n3b⟩:=(row_facts r3 3 _ rfl)
     have HR4:=Lib.hid (store4 (o:=o) r3 HA3.out.own (.slice none 0 0) (.int .i64 (d:Int)) (.bool false) (.int .i64 (t.line:Int)))
     obtain ⟨n4,hn4⟩:∃ n:Nd14,n=⟨[],d,false,t.line⟩:=⟨_,rfl⟩
     have HI2:Hid (NdInv T (T.drop (i + 1)) (N.map (·.1)) (some { n4 with words:=n4.words ++ [t.s] }) d):=Lib.hid (by rw [hn4]; exact HI1.out)
     have hw4:n4.words.length ≤ 65536:=by rw [hn4]; exact Nat.zero_le _
     have hw4i:n4.words.length ≤ i:=by rw [hn4]; exact Nat.zero_le _
     clear r3
     go_upto_region 15 with (fail)
     obtain ⟨W4,hW4⟩:∃ W4,W4=((((W3.setCell ⟨g,0,none⟩ (.slice none 0 0)).setCell ⟨g,1,none⟩ (.int .i64 (d:Int))).setCell ⟨g,2,none⟩ (.bool false)).setCell ⟨g,3,none⟩ (.int .i64 (t.line:Int))):=⟨_,rfl⟩
     have HR4':Hid (W4.heap[g]?=some (.cells #[.slice none 0 0,.int .i64 (d:Int),.bool false,.int .i64 (t.line:Int)] 70 (0,0))∧Stp (fun i=>i=2) W3 o W4 o):=Lib.hid (by rw [hW4]; exact HR4.out)
     rw [← hW4]
     have HA4:Hid (NsA W2 q W4 o g N A c (some n4) (none,0)):=Lib.hid (HA3.out.turn HR4'.out.2 (by rw [hn4]; exact HR4'.out.1) (by rw [hn4]; exact Sl.nil_ _ _ _ _ _) (fun _=>rfl))
     have k1:W4.cell? ⟨b,1,none⟩=some (.string ts):=by rw [hW4]; go_simp
     obtain ⟨n0a,n0b⟩:=row_facts HR4'.out.1 0 _ rfl
     have hnl:n4.words.length=0:=by rw [hn4]; rfl
     clear hn4 hW4 HR4 k0 k2 n1a n1b n2a n2b n3a n3b HI HI1
     go_wp2_with (first
      | (at_builtin; refine wpL_fresh slt_str14 (.tmp 46) (.tmp 49) rfl rfl (o:=o) 3 rfl rfl (Sl.src Tryz.underlying55 (n:=1) (rd_newS _ _ rfl ts) rfl (by omega) (by simp [Value.oneCell']) _) (by omega) (by simp only [maxLen]; omega) ?_; intro A5 c5 w5 o5 hs5 st5 hn5; have st5':Stp (fun i=>i=3) W4 o w5 o5:=(Stp.ext (by (repeat first | exact Ex0 | assumption | refine Ex1 ?_ | refine Ex2 ?_ | refine Ex3 ?_ | refine Ex4 ?_ | refine Ex5 ?_))).tr (st5.mono fun _ h=>h.elim); obtain ⟨m0a,m0b⟩:=row_facts ((st5'.keep g (row_lt HA4.out.row) (by rw [HA4.out.own]; omega)).trans HR4'.out.1) 0 _ rfl))
     have HA6:=Lib.hid (HA4.out.grown (s:=t.s) (w5:=w5) (o5:=o5) (A5:=A5) (c5:=c5) (by rw [hnl,← HTS.out,List.eq_nil_of_length_eq_zero hnl]; exact hs5) st5' hn5)
     rw [hnl] at HA6
     go_roundw
     case rel=>exact ⟨i + 1,d,N,A,c,_,_,o5,rfl,rfl,by simp,by omega,hd3,by omega,by unfold nowWR; simp <;> omega,HI2,HA6,Lib.hid (fun _=>by unfold nowWR; simp)⟩
     case measure=>simp [intOf]; omega
    | some n=>
     obtain ⟨H1,H2⟩:=H
     have r3:W3.heap[g]?=some (.cells #[.slice H1 n.words.length H2,.int .i64 (n.deep:Int),.bool n.block,.int .i64 (n.line:Int)] 70 (0,0)):=HA3.out.row
     have HR3:=Lib.hid r3
     obtain ⟨n0a,n0b⟩:=(row_facts r3 0 _ rfl)
     have hpos:n.words ≠ []:=HNE.out (by simp)
     have hlen0:0 < n.words.length:=List.length_pos_iff.2 hpos
     have e0:((n.words.length:Int) == 0)=false:=by rw [beq_eq_false_iff_ne]; omega
     have e1:(n.words.length == 0)=false:=by rw [beq_eq_false_iff_ne]; omega
     have hwl:n.words.length ≤ i:=hWi
     clear r3 hpos HI
     go_wp2_with (first
      | (at_builtin; refine wpL_put slt_str14 (.tmp 46) (.tmp 49) rfl rfl rfl rfl (HA3.out.words.ext (by (repeat first | exact Ex0 | assumption | refine Ex1 ?_ | refine Ex2 ?_ | refine Ex3 ?_ | refine Ex4 ?_ | refine Ex5 ?_))) HA3.out.wna (Sl.src Tryz.underlying55 (n:=1) (rd_newS _ _ rfl ts) rfl (by omega) (by simp [Value.oneCell']) _) (by show (n.words.length + 1) * 16 ≤ _; omega) (by show n.words.length + 1 ≤ _; simp only [maxLen]; omega) ?_; intro A5 c5 w5 o5 hs5 st5 hn5; have st5':Stp (fun i=>i=3) W3 o w5 o5:=(Stp.ext (by (repeat first | exact Ex0 | assumption | refine Ex1 ?_ | refine Ex2 ?_ | refine Ex3 ?_ | refine Ex4 ?_ | refine Ex5 ?_))).tr st5; obtain ⟨m0a,m0b⟩:=row_facts ((st5'.keep g (row_lt HA3.out.row) (by rw [HA3.out.own]; omega)).trans HR3.out) 0 _ rfl))
     have HA6:=Lib.hid (HA3.out.grown (s:=t.s) (w5:=w5) (o5:=o5) (A5:=A5) (c5:=c5) (by rw [← HTS.out]; exact hs5) st5' hn5)
     go_roundw
     case rel=>exact ⟨i + 1,d,N,A,c,some { n with words:=n.words ++ [t.s] },_,o5,rfl,rfl,by simp,by omega,hd3,by omega,by unfold nowWR; simp <;> omega,HI1,HA6,Lib.hid (fun _=>by unfold nowWR; simp)⟩
     case measure=>simp [intOf]; omega
   have m0:((m.toNat:Int) == 0)=false:=by rw [beq_eq_false_iff_ne]; intro e; exact h0 (UInt8.toNat_inj.1 (by show m.toNat=0; omega))
   by_cases h125:m=125
   ·subst h125
    cases now with
    | none =>
     have r3:W3.heap[g]?=some (.cells #[.slice none 0 0,.int .i64 0,.bool false,.int .i64 0] 70 (0,0)):=HA3.out.row
     obtain ⟨n0a,n0b⟩:=(row_facts r3 0 _ rfl)
     clear r3
     by_cases hd:d=0
     ·subst hd
      have HR:=Lib.hid (HTD.out _ (HI.out.shut_bad HM.out.symm (.inr rfl)))
      clear HI
      go_upto_region 18 with (fail)
      go_quiet (fail)
      go_wp2
      go_ret2
      exact Ret.mk (.inl ⟨_,HR.out,rfl⟩) ((HA3.out.fin hxw2 HQK.out).tr (by (repeat first | exact Ex0 | assumption | refine Ex1 ?_ | refine Ex2 ?_ | refine Ex3 ?_ | refine Ex4 ?_ | refine Ex5 ?_)))
     ·have HI1:=Lib.hid (HI.out.shut HM.out.symm hd)
      have d0:((d:Int) == 0)=false:=by rw [beq_eq_false_iff_ne]; omega
      have d1:(d == 0)=false:=by rw [beq_eq_false_iff_ne]; exact hd
      have d2:IntKind.i64.wrap ((d:Int) - 1)=((d - 1:Nat):Int):=by rw [IntKind.wrap_i64]; omega
      have d3:(d:Int) - 1=((d - 1:Nat):Int):=by omega
      have HD3:=Lib.hid d3
      clear HI d3
      go_wp2
      go_roundw
      case rel=>exact ⟨i + 1,d - 1,N,A,c,none,H,o,rfl,by first | rfl | rw [HD3.out],by simp,by omega,by omega,by omega,by unfold nowWR; simp,HI1,HA3,Lib.hid (fun h=>absurd rfl h)⟩
      case measure=>simp [intOf]; omega
    | some n =>
     obtain ⟨H1,H2⟩:=H
     have r3:W3.heap[g]?=some (.cells #[.slice H1 n.words.length H2,.int .i64 (n.deep:Int),.bool n.block,.int .i64 (n.line:Int)] 70 (0,0)):=HA3.out.row
     obtain ⟨n0a,n0b⟩:=(row_facts r3 0 _ rfl)
     have hpos:n.words ≠ []:=HNE.out (by simp)
     have hlen0:0 < n.words.length:=List.length_pos_iff.2 hpos
     have e0:(0:Int) < (n.words.length:Int):=by omega
     have HR:=Lib.hid (HTD.out _ (HI.out.shut_bad HM.out.symm (.inl rfl)))
     clear r3 hpos HI
     go_upto_region 18 with (fail)
     go_quiet (fail)
     go_wp2
     go_ret2
     exact Ret.mk (.inl ⟨_,HR.out,rfl⟩) ((HA3.out.fin hxw2 HQK.out).tr (by (repeat first | exact Ex0 | assumption | refine Ex1 ?_ | refine Ex2 ?_ | refine Ex3 ?_ | refine Ex4 ?_ | refine Ex5 ?_)))
   have m125:((m.toNat:Int) == 125)=false:=by rw [beq_eq_false_iff_ne]; intro e; exact h125 (UInt8.toNat_inj.1 (by show m.toNat=125; omega))
   by_cases h123:m=123
   ·subst h123
    cases now with
    | none =>
     have r3:W3.heap[g]?=some (.cells #[.slice none 0 0,.int .i64 0,.bool false,.int .i64 0] 70 (0,0)):=HA3.out.row
     obtain ⟨n0a,n0b⟩:=(row_facts r3 0 _ rfl)
     have HR:=Lib.hid (HTD.out _ (HI.out.open_bad HM.out.symm (.inl rfl)))
     clear r3 HI
     go_upto_region 22 with (fail)
     go_quiet (fail)
     go_wp2
     go_ret2
     exact Ret.mk (.inl ⟨_,HR.out,rfl⟩) ((HA3.out.fin hxw2 HQK.out).tr (by (repeat first | exact Ex0 | assumption | refine Ex1 ?_ | refine Ex2 ?_ | refine Ex3 ?_ | refine Ex4 ?_ | refine Ex5 ?_)))
    | some n =>
     obtain ⟨H1,H2⟩:=H
     have r3:W3.heap[g]?=some (.cells #[.slice H1 n.words.length H2,.int .i64 (n.deep:Int),.bool n.block,.int .i64 (n.line:Int)] 70 (0,0)):=HA3.out.row
     obtain ⟨n0a,n0b⟩:=(row_facts r3 0 _ rfl)
     obtain ⟨n2a,n2b⟩:=(row_facts r3 2 _ rfl)
     have hpos:n.words ≠ []:=HNE.out (by simp)
     have hlen0:0 < n.words.length:=List.length_pos_iff.2 hpos
     have e0:((n.words.length:Int) == 0)=false:=by rw [beq_eq_false_iff_ne]; omega
     have e1:(n.words.length == 0)=false:=by rw [beq_eq_false_iff_ne]; omega
     have hwl:n.words.length ≤ i:=hWi
     by_cases hd:d=3
     ·subst hd
      have HR:=Lib.hid (HTD.out _ (HI.out.open_bad HM.out.symm (.inr rfl)))
      clear HI r3 hpos
      go_upto_region 22 with (fail)
      go_quiet (fail)
      go_wp2
      go_ret2
      exact Ret.mk (.inl ⟨_,HR.out,rfl⟩) ((HA3.out.fin hxw2 HQK.out).tr (by (repeat first | exact Ex0 | assumption | refine Ex1 ?_ | refine Ex2 ?_ | refine Ex3 ?_ | refine Ex4 ?_ | refine Ex5 ?_)))
     ·have HI1:=Lib.hid (HI.out.open_ HM.out.symm hd)
      have d0:((d:Int) == 3)=false:=by rw [beq_eq_false_iff_ne]; omega
      have d1:(d == 3)=false:=by rw [beq_eq_false_iff_ne]; exact hd
      have d2:IntKind.i64.wrap ((d:Int) + 1)=((d + 1:Nat):Int):=by rw [IntKind.wrap_i64]; omega
      have HR4:=Lib.hid (row_set r3 2 (.bool true))
      have HS4:Hid (Stp (fun i=>i=2) W3 o (W3.setCell ⟨g,2,none⟩ (.bool true)) o):=Lib.hid (Stp.set g 2 _ (fun _=>HA3.out.own))
      clear r3 hpos HI
      go_upto_region 25 with (fail)
      obtain ⟨W4,hW4⟩:∃ W4,W4=W3.setCell ⟨g,2,none⟩ (.bool true):=⟨_,rfl⟩
      rw [← hW4] at HR4 HS4 ⊢
      obtain ⟨n4,hn4⟩:∃ n4:Nd14,n4={ n with block:=true }:=⟨_,rfl⟩
      have r4:W4.heap[g]?=some (.cells #[.slice H1 n4.words.length H2,.int .i64 (n4.deep:Int),.bool n4.block,.int .i64 (n4.line:Int)] 70 (0,0)):=by rw [HR4.out,hn4]; simp
      have HA4:Hid (NsA W2 q W4 o g N A c (some n4) (H1,H2)):=Lib.hid (HA3.out.turn HS4.out r4 (by rw [hn4]; exact HA3.out.words.stp HS4.out (by omega)) HA3.out.wna)
      rw [← hn4] at HI1
      clear hn4 HR4 HS4 hW4 n0a n0b n2a n2b k0 k1 k2
      obtain ⟨n0a,n0b⟩:=row_facts r4 0 _ rfl
      obtain ⟨n1a,n1b⟩:=row_facts r4 1 _ rfl
      obtain ⟨n2a,n2b⟩:=row_facts r4 2 _ rfl
      obtain ⟨n3a,n3b⟩:=row_facts r4 3 _ rfl
      have HR4:=Lib.hid r4
      clear r4
      go_upto_region 26 with (first
       | (at_builtin; refine wpL_put slt_nodeR (.tmp 81) (.tmp 83) rfl rfl rfl rfl (HA4.out.out.ext (by (repeat first | exact Ex0 | assumption | refine Ex1 ?_ | refine Ex2 ?_ | refine Ex3 ?_ | refine Ex4 ?_ | refine Ex5 ?_))) HA4.out.na (Sl.src Tryz.underlying61 (n:=1) (rd_newC _ _ rfl [.slice H1 n4.words.length H2,.int .i64 (n4.deep:Int),.bool n4.block,.int .i64 (n4.line:Int)] 70) rfl (by omega) (by simp [Value.oneCell']) _) (by omega) (by simp only [maxLen]; omega) ?_; intro A5 c5 w5 o5 hs5 st5 hn5; have st5':Stp (fun i=>i=1) W4 o w5 o5:=(Stp.ext (by (repeat first | exact Ex0 | assumption | refine Ex1 ?_ | refine Ex2 ?_ | refine Ex3 ?_ | refine Ex4 ?_ | refine Ex5 ?_))).tr st5))
      clear n0a n0b n1a n1b n2a n2b n3a n3b
      have r5:=(st5'.keep g (row_lt HA4.out.row) (by rw [HA4.out.own]; omega)).trans HR4.out
      obtain ⟨n0a,n0b⟩:=row_facts r5 0 _ rfl
      obtain ⟨n1a,n1b⟩:=row_facts r5 1 _ rfl
      obtain ⟨n2a,n2b⟩:=row_facts r5 2 _ rfl
      obtain ⟨n3a,n3b⟩:=row_facts r5 3 _ rfl
      have hst4:=store4 (o:=o5) r5 ((st5'.own g (row_lt HA4.out.row)).trans HA4.out.own) (.slice none 0 0) (.int .i64 0) (.bool false) (.int .i64 0)
      obtain ⟨o6,hA6⟩:=HA4.out.push HQ3.out hs5 st5' hn5 hst4.2 hst4.1
      have HA6:=Lib.hid hA6
      clear hA6 hst4 r5
      go_wp2
      go_roundw
      case rel=>exact ⟨i + 1,d + 1,_,A5,c5,none,(none,0),o6,by simp,by simp,by simp,by omega,by omega,by simp; omega,by unfold nowWR; simp,Lib.hid (by simpa using HI1.out),HA6,Lib.hid (fun h=>absurd rfl h)⟩
      case measure=>simp [intOf]; omega
   have m123:((m.toNat:Int) == 123)=false:=by rw [beq_eq_false_iff_ne]; intro e; exact h123 (UInt8.toNat_inj.1 (by show m.toNat=123; omega))
   cases now with
   | none =>
    have r3:W3.heap[g]?=some (.cells #[.slice none 0 0,.int .i64 0,.bool false,.int .i64 0] 70 (0,0)):=HA3.out.row
    obtain ⟨n0a,n0b⟩:=(row_facts r3 0 _ rfl)
    have HR:=Lib.hid (HTD.out _ (HI.out.semi_bad (by rw [← HM.out]; exact h0) (by rw [← HM.out]; exact h125)))
    clear r3 HI h0 h125 h123
    go_upto_region 11 with (fail)
    go_quiet (fail)
    go_wp2
    go_ret2
    exact Ret.mk (.inl ⟨_,HR.out,rfl⟩) ((HA3.out.fin hxw2 HQK.out).tr (by (repeat first | exact Ex0 | assumption | refine Ex1 ?_ | refine Ex2 ?_ | refine Ex3 ?_ | refine Ex4 ?_ | refine Ex5 ?_)))
   | some n4 =>
    obtain ⟨H1,H2⟩:=H
    have r4:W3.heap[g]?=some (.cells #[.slice H1 n4.words.length H2,.int .i64 (n4.deep:Int),.bool n4.block,.int .i64 (n4.line:Int)] 70 (0,0)):=HA3.out.row
    have hpos:n4.words ≠ []:=HNE.out (by simp)
    have hlen0:0 < n4.words.length:=List.length_pos_iff.2 hpos
    have e0:((n4.words.length:Int) == 0)=false:=by rw [beq_eq_false_iff_ne]; omega
    have e1:(n4.words.length == 0)=false:=by rw [beq_eq_false_iff_ne]; omega
    have hwl:n4.words.length ≤ i:=hWi
    have HI1:=Lib.hid (HI.out.semi (by rw [← HM.out]; exact h0) (by rw [← HM.out]; exact h125) (by rw [← HM.out]; exact h123))
    obtain ⟨n0a,n0b⟩:=(row_facts r4 0 _ rfl)
    clear HI hpos h0 h125 h123
    go_upto_region 25 with (fail)
    obtain ⟨W4,hW4⟩:∃ W4,W4=W3:=⟨_,rfl⟩
    rw [← hW4] at HA3 r4 ⊢
    have HA4:=HA3
    clear hW4 n0a n0b k0 k1 k2 HB3 HA3
    obtain ⟨n0a,n0b⟩:=row_facts r4 0 _ rfl
    obtain ⟨n1a,n1b⟩:=row_facts r4 1 _ rfl
    obtain ⟨n2a,n2b⟩:=row_facts r4 2 _ rfl
    obtain ⟨n3a,n3b⟩:=row_facts r4 3 _ rfl
    have HR4:=Lib.hid r4
    clear r4
    go_upto_region 26 with (first
     | (at_builtin; refine wpL_put slt_nodeR (.tmp 81) (.tmp 83) rfl rfl rfl rfl (HA4.out.out.ext (by (repeat first | exact Ex0 | assumption | refine Ex1 ?_ | refine Ex2 ?_ | refine Ex3 ?_ | refine Ex4 ?_ | refine Ex5 ?_))) HA4.out.na (Sl.src Tryz.underlying61 (n:=1) (rd_newC _ _ rfl [.slice H1 n4.words.length H2,.int .i64 (n4.deep:Int),.bool n4.block,.int .i64 (n4.line:Int)] 70) rfl (by omega) (by simp [Value.oneCell']) _) (by omega) (by simp only [maxLen]; omega) ?_; intro A5 c5 w5 o5 hs5 st5 hn5; have st5':Stp (fun i=>i=1) W4 o w5 o5:=(Stp.ext (by (repeat first | exact Ex0 | assumption | refine Ex1 ?_ | refine Ex2 ?_ | refine Ex3 ?_ | refine Ex4 ?_ | refine Ex5 ?_))).tr st5))
    clear n0a n0b n1a n1b n2a n2b n3a n3b
    have r5:=(st5'.keep g (row_lt HA4.out.row) (by rw [HA4.out.own]; omega)).trans HR4.out
    obtain ⟨n0a,n0b⟩:=row_facts r5 0 _ rfl
    obtain ⟨n1a,n1b⟩:=row_facts r5 1 _ rfl
    obtain ⟨n2a,n2b⟩:=row_facts r5 2 _ rfl
    obtain ⟨n3a,n3b⟩:=row_facts r5 3 _ rfl
    have hst4:=store4 (o:=o5) r5 ((st5'.own g (row_lt HA4.out.row)).trans HA4.out.own) (.slice none 0 0) (.int .i64 0) (.bool false) (.int .i64 0)
    obtain ⟨o6,hA6⟩:=HA4.out.push HQ3.out hs5 st5' hn5 hst4.2 hst4.1
    have HA6:=Lib.hid hA6
    clear hA6 hst4 r5
    go_wp2
    go_roundw
    case rel=>exact ⟨i + 1,d,_,A5,c5,none,(none,0),o6,by simp,by simp,by simp,by omega,by omega,by simp; omega,by unfold nowWR; simp,Lib.hid (by simpa using HI1.out),HA6,Lib.hid (fun h=>absurd rfl h)⟩
    case measure=>simp [intOf]; omega
  ·have i1:¬ (i:Int) < (T.length:Int):=by omega
   rw [List.drop_of_length_le (by omega)] at HI
   have HE:=Lib.hid (HTE.out _ _ _ HI.out.end_)
   clear HI
   by_cases hbad:bad=0
   ·subst hbad
    have hlr:lineR 0=-1:=rfl
    rw [hlr]
    have HE1:Hid (R=if now.isSome ∨ 0 < d then .error 0 else .ok (N.map (·.1))):=Lib.hid (by rw [HE.out,if_neg (by omega)])
    clear HE
    cases now with
    | none =>
     have r3:W.heap[g]?=some (.cells #[.slice none 0 0,.int .i64 0,.bool false,.int .i64 0] 70 (0,0)):=HA.out.row
     obtain ⟨n0a,n0b⟩:=(row_facts r3 0 _ rfl)
     clear r3
     by_cases hd:d=0
     ·subst hd
      have HR:Hid (R=.ok (N.map (·.1))):=Lib.hid (by rw [HE1.out]; simp)
      go_wp2
      go_ret2
      exact Ret.mk (.inr ⟨N,A,c,HR.out,rfl,HA.out.out.rd.ext (by (repeat first | exact Ex0 | assumption | refine Ex1 ?_ | refine Ex2 ?_ | refine Ex3 ?_ | refine Ex4 ?_ | refine Ex5 ?_)),fun x hx=>⟨(HA.out.done x hx).1.ext (by (repeat first | exact Ex0 | assumption | refine Ex1 ?_ | refine Ex2 ?_ | refine Ex3 ?_ | refine Ex4 ?_ | refine Ex5 ?_)),HA.out.cap x hx⟩⟩) ((HA.out.fin hxw2 HQK.out).tr (by (repeat first | exact Ex0 | assumption | refine Ex1 ?_ | refine Ex2 ?_ | refine Ex3 ?_ | refine Ex4 ?_ | refine Ex5 ?_)))
     ·have d0:(0:Int) < (d:Int):=by omega
      have HR:Hid (R=.error 0):=Lib.hid (by rw [HE1.out,if_pos (.inr (by omega))])
      go_wp2
      go_ret2
      exact Ret.mk (.inl ⟨0,HR.out,rfl⟩) ((HA.out.fin hxw2 HQK.out).tr (by (repeat first | exact Ex0 | assumption | refine Ex1 ?_ | refine Ex2 ?_ | refine Ex3 ?_ | refine Ex4 ?_ | refine Ex5 ?_)))
    | some n =>
     obtain ⟨H1,H2⟩:=H
     have r3:W.heap[g]?=some (.cells #[.slice H1 n.words.length H2,.int .i64 (n.deep:Int),.bool n.block,.int .i64 (n.line:Int)] 70 (0,0)):=HA.out.row
     obtain ⟨n0a,n0b⟩:=(row_facts r3 0 _ rfl)
     have hpos:n.words ≠ []:=HNE.out (by simp)
     have hlen0:0 < n.words.length:=List.length_pos_iff.2 hpos
     have e0:(0:Int) < (n.words.length:Int):=by omega
     have HR:Hid (R=.error 0):=Lib.hid (by rw [HE1.out,if_pos (.inl rfl)])
     clear r3 hpos
     go_wp2
     go_ret2
     exact Ret.mk (.inl ⟨0,HR.out,rfl⟩) ((HA.out.fin hxw2 HQK.out).tr (by (repeat first | exact Ex0 | assumption | refine Ex1 ?_ | refine Ex2 ?_ | refine Ex3 ?_ | refine Ex4 ?_ | refine Ex5 ?_)))
   ·have hlr:lineR bad=(bad:Int):=if_neg hbad
    have hb0:(0:Int) ≤ (bad:Int):=by omega
    have HR:Hid (R=.error bad):=Lib.hid (by rw [HE.out,if_pos (by omega)])
    rw [hlr]
    clear HE hbad hlr
    go_wp2
    go_ret2
    exact Ret.mk (.inl ⟨bad,HR.out,rfl⟩) ((HA.out.fin hxw2 HQK.out).tr (by (repeat first | exact Ex0 | assumption | refine Ex1 ?_ | refine Ex2 ?_ | refine Ex3 ?_ | refine Ex4 ?_ | refine Ex5 ?_)))
end Go.Proofs.YtmnohicojefhfaaGreatDoor
end
