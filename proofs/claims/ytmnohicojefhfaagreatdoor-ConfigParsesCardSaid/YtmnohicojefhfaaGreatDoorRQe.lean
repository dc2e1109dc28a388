/-
The reference's reader: frames and blocks. Plain laws.
-/
import Derived.Test.YtmnohicojefhfaaGreatDoorRQd
import Derived.Test.YtmnohicojefhfaaGreatDoorCFi
import Derived.BigRegion
import Derived.Deep.CutBlock
import Derived.Test.YtmnohicojefhfaaGreatDoorCIa
import Derived.Test.YtmnohicojefhfaaGreatDoorREc
import Derived.Test.YtmnohicojefhfaaGreatDoorCFj
import Derived.Test.YtmnohicojefhfaaGreatDoorCIb
import Derived.Test.YtmnohicojefhfaaGreatDoorONa
set_option maxRecDepth 100000
set_option maxHeartbeats 8000000
set_option linter.unusedVariables false
set_option linter.unusedSimpArgs false
section
namespace Go.Proofs.YtmnohicojefhfaaGreatDoor
open Go.RowKit
theorem dk_name (k:Dk):dkOf (nameD k)=some k:=by cases k <;> rfl
theorem nameR_inj {a b:Dk} (h:nameD a=nameD b):a=b:=by
 have h1:=dk_name a
 rw [h,dk_name b] at h1
 cases h1
 rfl
theorem nameD_ne (k:Dk):nameD k ≠ []:=by cases k <;> simp [nameD]
theorem blk_eq (k:Dk) (fr:Fr14):inD k=fr.1 ↔ blkN k=blkR fr:=by
 unfold blkN blkR
 cases h1:inD k with
 | none =>
  cases h2:fr.1 with
  | none=>simp
  | some b=>simp only [reduceCtorEq,false_iff]; exact fun e=>nameD_ne b e.symm
 | some a =>
  cases h2:fr.1 with
  | none=>simp only [reduceCtorEq,false_iff]; exact nameD_ne a
  | some b=>exact ⟨fun e=>by cases e; rfl,fun e=>congrArg some (nameR_inj (show nameD a=nameD b from e))⟩
theorem kinds_ct (l:List Dk) (d:Dk):(kindsR l).contains (nameD d)=l.contains d:=by
 unfold kindsR
 rw [Bool.eq_iff_iff]
 simp only [List.contains_iff_mem,List.mem_map,List.mem_reverse]
 exact ⟨fun ⟨x,hx,e⟩=>nameR_inj e ▸ hx,fun h=>⟨d,h,rfl⟩⟩
theorem kinds_cons (l:List Dk) (d:Dk):kindsR l ++ [nameD d]=kindsR (d :: l):=by simp [kindsR]
theorem cameR_cons (fr:Fr14) (rest:List Fr14):cameR (fr :: rest)=cameR rest ++ [kindsR fr.2]:=by simp [cameR]
theorem insR_cons (fr:Fr14) (rest:List Fr14) (h:rest ≠ []):insR (fr :: rest)=insR rest ++ [blkR fr]:=by
 unfold insR
 rw [List.dropLast_cons_of_ne_nil h]
 simp
theorem insR_len (st:List Fr14):(insR st).length=st.length - 1:=by simp [insR]
theorem frames_at {st:List Fr14} (hw:WfR st) {d:Nat} (hd:d < st.length):∃ fr rest,st.drop (st.length - (d + 1))=fr :: rest∧rest.length=d∧insR (fr :: rest)=(insR st).take d∧cameR (fr :: rest)=(cameR st).take (d + 1)∧WfR (fr :: rest)∧∀ x ∈ fr :: rest,x ∈ st:=by
 have h3:=hw.le
 match st,hw,hd,h3 with
 | [a],hw,hd,_ =>
  have hd:d < 1:=hd
  obtain rfl:d=0:=by omega
  exact ⟨a,[],rfl,rfl,rfl,rfl,hw,fun x hx=>hx⟩
 | [a,b],hw,hd,_ =>
  have hd:d < 2:=hd
  have hb:b.1=none:=by rcases hw with h | h | h | h <;> simp at h <;> simp [h]
  match d,hd with
  | 0,_=>exact ⟨b,[],rfl,rfl,rfl,rfl,.inl (by simp [hb]),fun x hx=>by simp at hx; simp [hx]⟩
  | 1,_=>exact ⟨a,[b],rfl,rfl,rfl,rfl,hw,fun x hx=>hx⟩
 | [a,b,e],hw,hd,_ =>
  have hd:d < 3:=hd
  have hh:a.1=some .location∧b.1=some .server∧e.1=none:=by rcases hw with h | h | h | h <;> simp at h; exact h
  match d,hd with
  | 0,_=>exact ⟨e,[],rfl,rfl,rfl,rfl,.inl (by simp [hh]),fun x hx=>by simp at hx; simp [hx]⟩
  | 1,_=>exact ⟨b,[e],rfl,rfl,rfl,rfl,.inr (.inr (.inl (by simp [hh]))),fun x hx=>by simp at hx; rcases hx with hx | hx <;> simp [hx]⟩
  | 2,_=>exact ⟨a,[b,e],rfl,rfl,rfl,rfl,hw,fun x hx=>hx⟩
theorem blk_at {fr:Fr14} {rest:List Fr14} (hw:WfR (fr :: rest)):(rest=[] → blkR fr=[])∧(0 < rest.length → (insR (fr :: rest))[rest.length - 1]?=some (blkR fr)):=by
 refine ⟨fun h=>?_,fun h=>?_⟩
 ·subst h
  have hf:fr.1=none:=by rcases hw with h | h | h | h <;> simp at h; exact h
  unfold blkR
  rw [hf]
 ·have hne:rest ≠ []:=by intro e; rw [e] at h; cases h
  rw [insR_cons fr rest hne,List.getElem?_append_right (by rw [insR_len]; omega),insR_len]
  simp
theorem wf_turn {fr fr':Fr14} {rest:List Fr14} (h:fr'.1=fr.1) (hw:WfR (fr :: rest)):WfR (fr' :: rest):=by
 unfold WfR at *
 simpa [h] using hw
theorem wf_push {k:Dk} {fr:Fr14} {rest:List Fr14} (hb:blockD k=true) (hi:inD k=fr.1) (hw:WfR (fr :: rest)):WfR ((some k,[]) :: fr :: rest)∧rest.length ≤ 1:=by
 have hrest:(fr :: rest).map (·.1)=fr.1 :: rest.map (·.1):=rfl
 have h2:(fr.1=none∧rest=[]) ∨ (fr.1=some .server∧rest.map (·.1)=[none]) ∨ fr.1=some .upstream ∨ fr.1=some .location:=by
  rcases hw with h | h | h | h <;> rw [hrest] at h <;> injection h with h1 h3
  ·left; exact ⟨h1,by simpa using h3⟩
  ·right; right; left; exact h1
  ·right; left; exact ⟨h1,h3⟩
  ·right; right; right; exact h1
 cases k <;> simp [blockD] at hb <;> simp [inD] at hi <;> rcases h2 with ⟨h,h3⟩ | ⟨h,h3⟩ | h | h <;> rw [h] at hi <;> simp at hi
 ·subst h3; exact ⟨.inr (.inl (by simp [h])),Nat.zero_le _⟩
 ·subst h3; exact ⟨.inr (.inr (.inl (by simp [h]))),Nat.zero_le _⟩
 ·refine ⟨.inr (.inr (.inr (by simp [h,h3]))),?_⟩
  have:=congrArg List.length h3
  simp at this
  omega
theorem stepD_at {st:List Fr14} {c:Cf14} {n:Nd14} {fr:Fr14} {rest:List Fr14} (h:st.drop (st.length - (n.deep + 1))=fr :: rest) :
  stepD (st,c) n=match dkOf (n.words.headD []) with
   | none=>.error n.line
   | some k=>if fitD k n fr then (if (doT k (n.words.drop 1) c).2 then .error n.line else .ok ((if n.block then [(some k,[])] else []) ++ (fr.1,kindD k :: fr.2) :: rest,(doT k (n.words.drop 1) c).1)) else .error n.line:=by
 unfold stepD
 dsimp only
 rw [h]
 dsimp only
 cases dkOf (n.words.headD []) with
 | none=>rfl
 | some k =>
  dsimp only
  rw [doT_eq]
  by_cases hf:fitD k n fr=true
  ·rw [if_pos hf,if_pos hf]
   by_cases hb:(doT k (n.words.drop 1) c).2=true
   ·rw [if_pos hb,if_pos hb]
   ·rw [if_neg hb,if_neg hb]
  ·rw [if_neg hf,if_neg hf]
def NdQ (w:World) (o:Ow) (p:Nat) (r:Except Nat (List Fr14 × Cf14)) (e:Ending) (w':World):Prop:=match r with
 | .error _=>e=.returned (.bool false)∧∃ o',Stp KB w o w' o'
 | .ok s=>e=.returned (.bool true)∧∃ o',Stp KB w o w' o'∧RrAt w' o' p s.2 s.1 false
theorem NdQ.no {w w':World} {o o':Ow} {p:Nat} {r:Except Nat (List Fr14 × Cf14)} {m:Nat} (h:r=.error m) (s:Stp KB w o w' o'):NdQ w o p r (.returned (.bool false)) w':=by rw [h]; exact ⟨rfl,o',s⟩
theorem NdQ.yes {w w':World} {o o':Ow} {p:Nat} {r:Except Nat (List Fr14 × Cf14)} {s:List Fr14 × Cf14} (h:r=.ok s) (st:Stp KB w o w' o') (hr:RrAt w' o' p s.2 s.1 false):NdQ w o p r (.returned (.bool true)) w':=by rw [h]; exact ⟨rfl,o',st,hr⟩
theorem RrA.cut {w:World} {o:Ow} {p:Nat} {st st2:List Fr14} {C:List (Hd × List (List UInt8))} {IA:Option Addr} {ic:Nat} {CA:Option Addr} {cc d:Nat} (h:RrA w o p st C IA ic CA cc) (h1:insR st2=(insR st).take d) (h2:cameR st2=(cameR st).take (d + 1)) (hl:(insR st2).length=d) (hd:d + 1 ≤ C.length):RrA w o p st2 (C.take (d + 1)) IA ic CA cc:=by
 have e1:(C.take (d + 1)).length=d + 1:=by rw [List.length_take]; omega
 refine ⟨?_,h.ina,h.iad,?_,h.cna,fun i x hx=>?_,?_⟩
 ·have:=h.ins.take d (by rw [← hl,h1,List.length_take]; omega)
  rw [Nat.mul_one] at this
  rw [hl,h1]
  simpa [strC,List.map_take] using this
 ·have:=h.came.take (d + 1) hd
  rw [Nat.mul_one] at this
  rw [e1]
  have e2:(C.take (d + 1)).flatMap hdV=(C.flatMap hdV).take (d + 1):=by
   have hm:∀ l:List (Hd × List (List UInt8)),l.flatMap hdV=l.map fun x=>(.slice x.1.1 x.2.length x.1.2:Value):=fun l=>by
    induction l with
    | nil=>rfl
    | cons x l ih=>rw [List.flatMap_cons,ih]; rfl
   rw [hm,hm,List.map_take]
  rw [e2]
  exact this
 ·have hi:=(List.getElem?_eq_some_iff.1 hx).1
  rw [List.getElem?_take_of_lt (by omega)] at hx
  exact h.each i x hx
 ·rw [List.map_take,h.eq,h2]
end Go.Proofs.YtmnohicojefhfaaGreatDoor
end
section
namespace Go.Proofs.YtmnohicojefhfaaGreatDoor
open Go.RowKit
def ndA (n:Nd14) (NA:Option Addr) (nc:Nat):Value:=.agg #[.slice NA n.words.length nc,.int .i64 (n.deep:Int),.bool n.block,.int .i64 (n.line:Int)]
theorem KBC {w w':World} {o o':Ow} (s:Stp KCr w o w' o'):Stp KB w o w' o':=s.mono fun i h=>by unfold KCr at h; unfold KB; omega
theorem KB1 {w w':World} {o o':Ow} (s:Stp (fun i=>i=1) w o w' o'):Stp KB w o w' o':=s.mono fun i h=>by unfold KB; omega
theorem insR_turn {fr fr':Fr14} (h:fr'.1=fr.1) (rest:List Fr14):insR (fr' :: rest)=insR (fr :: rest):=by
 cases rest with
 | nil=>rfl
 | cons x r =>
  rw [insR_cons fr' _ (by simp),insR_cons fr _ (by simp)]
  unfold blkR
  rw [h]
theorem most_eq (k:Dk) (m:Nat) (h:m ≤ 65536):(mostR k < (m:Int) ↔ ¬ m ≤ mostD k):=by
 cases k <;> simp [mostR,mostD] <;> omega
section
variable {w w':World} {o o':Ow} {p ic cc:Nat} {fr:Fr14} {rest:List Fr14} {C0:List (Hd × List (List UInt8))} {x:Hd × List (List UInt8)} {IA CA:Option Addr}
theorem RrA.parts (h:RrA w o p (fr :: rest) (C0 ++ [x]) IA ic CA cc):C0.length=rest.length∧C0.map (·.2)=cameR rest∧x.2=kindsR fr.2∧Sl w o 5 1 CA (C0.length + 1) cc ((C0 ++ [x]).flatMap hdV)∧Sl w o (6 + C0.length) 1 x.1.1 x.2.length x.1.2 (strC x.2)∧(x.1.1=none → x.1.2=0):=by
 have h1:=h.eq
 rw [cameR_cons,List.map_append] at h1
 obtain ⟨h2,h3⟩:=List.append_inj' h1 rfl
 have h4:=h.len
 rw [List.length_append,List.length_singleton,List.length_cons] at h4
 have h5:=h.came
 rw [List.length_append,List.length_singleton] at h5
 have h6:=(list_one h.each).2
 exact ⟨by omega,h2,by simpa using h3,h5,h6.1,h6.2⟩
theorem RrA.more (h:RrA w o p (fr :: rest) (C0 ++ [x]) IA ic CA cc) {k:Dk} {A5:Option Addr} {c5:Nat} (st:Stp (fun i=>i=5 ∨ i=6 + C0.length) w o w' o') (hs:Sl w' o' (6 + C0.length) 1 A5 (x.2.length + 1) c5 (strC (x.2 ++ [nameD (kindD k)]))) (hn:A5=none → c5=0)
  (hc:Sl w' o' 5 1 CA (C0.length + 1) cc ((C0 ++ [((A5,c5),x.2 ++ [nameD (kindD k)])]).flatMap hdV)):RrA w' o' p ((fr.1,kindD k :: fr.2) :: rest) (C0 ++ [((A5,c5),x.2 ++ [nameD (kindD k)])]) IA ic CA cc:=by
 obtain ⟨p1,p2,p3,p4,p5,p6⟩:=h.parts
 have he:=list_one h.each
 refine ⟨?_,h.ina,h.iad,?_,h.cna,list_two (fun i y hy=>?_) ⟨?_,hn⟩,?_⟩
 ·rw [insR_turn (fr:=fr) (fr':=(fr.1,kindD k :: fr.2)) rfl rest]
  exact h.ins.stp st (by omega)
 ·rw [List.length_append,List.length_singleton]; exact hc
 ·have hi:=(List.getElem?_eq_some_iff.1 hy).1
  exact ⟨(he.1 i y hy).1.stp st (by omega),(he.1 i y hy).2⟩
 ·dsimp only
  rw [List.length_append,List.length_singleton]; exact hs
 ·rw [cameR_cons,List.map_append,p2]
  show cameR rest ++ [x.2 ++ [nameD (kindD k)]]=_
  rw [p3,kinds_cons]
theorem RrA.push {st:List Fr14} {C:List (Hd × List (List UInt8))} (h:RrA w o p st C IA ic CA cc) (hne:st ≠ []) {k:Dk} {A6 A7:Option Addr} {c6 c7:Nat} {w6 w7:World} {o6 o7:Ow} (hl:C.length ≤ 2) (st6:Stp (fun i=>i=1 ∨ i=4) w o w6 o6) (h6:Sl w6 o6 4 1 A6 ((insR st).length + 1) c6 (strC (insR st) ++ [.string (str (nameD k))])) (hn6:A6=none → c6=0) (ha6:A6=none ∨ ∃ g f,A6=some ⟨g,f,none⟩)
  (st7:Stp (fun i=>i=1 ∨ i=5) w6 o6 w7 o7) (h7:Sl w7 o7 5 1 A7 (C.length + 1) c7 (C.flatMap hdV ++ [.slice none 0 0])) (hn7:A7=none → c7=0):RrA w7 o7 p ((some k,[]) :: st) (C ++ [((none,0),[])]) A6 c6 A7 c7:=by
 have hi:insR ((some k,[]) :: st)=insR st ++ [nameD k]:=by
  obtain ⟨fr,rest,rfl⟩:∃ fr rest,st=fr :: rest:=by cases st with | nil=>exact absurd rfl hne | cons a r=>exact ⟨a,r,rfl⟩
  rw [insR_cons _ _ (by simp)]
  rfl
 refine ⟨?_,hn6,ha6,?_,hn7,list_two (fun i y hy=>?_) ⟨Sl.nil_ _ _ _ _ _,fun _=>rfl⟩,?_⟩
 ·have:=h6.stp st7 (by omega)
  rw [hi,List.length_append,List.length_singleton]
  simpa [strC] using this
 ·rw [List.length_append,List.length_singleton,List.flatMap_append]
  exact h7
 ·have hi:=(List.getElem?_eq_some_iff.1 hy).1
  have:=h.each i y hy
  exact ⟨(this.1.stp st6 (by omega)).stp st7 (by omega),this.2⟩
 ·rw [cameR_cons,List.map_append,h.eq]
  rfl
end
theorem slt_slR:SlT Tryz.prog 65 55 (.slice none 0 0) 1 24:=⟨Tryz.underlying65,by kernel_rfl,rfl,by omega⟩
theorem Sl.adr1 {w:World} {o:Ow} {k size n c:Nat} {A:Option Addr} {xs:List Value} (h:Sl w o k size A (n + 1) c xs):A=none ∨ ∃ g f,A=some ⟨g,f,none⟩:=by
 obtain ⟨g,f,e,_⟩:=h.cells (by omega)
 exact .inr ⟨g,f,e⟩
theorem take_snocR {α:Type} (l:List α) (d:Nat) (h:d < l.length):∃ C0 x,l.take (d + 1)=C0 ++ [x]∧C0.length=d:=⟨l.take d,l[d],List.take_succ_eq_append_getElem h,by rw [List.length_take]; omega⟩
theorem rnode_c (w:World) (o:Ow) (p:Nat) (c:Cf14) (st:List Fr14) (h:RrAt w o p c st false) (hw:WfR st) (hok:OkR st c) (hM:CfB 1048576 c) (hK:∀ fr ∈ st,fr.2.length ≤ 65535) (n:Nd14) (hd:n.deep < st.length) (hwl:∀ s ∈ n.words,s.length ≤ 65536) (w0:List UInt8) (ws:List (List UInt8)) (hws:n.words=w0 :: ws) (hnl:ws.length ≤ 65536)
  (NA:Option Addr) (nc:Nat) (hr:RdZ w o NA (strC n.words)) (hcap:n.words.length ≤ nc) :
  Calls Tryz.prog 25 #[.pointer (some ⟨p,0,none⟩),ndA n NA nc] w (NdQ w o p (stepD (st,c) n)):=by
 obtain ⟨C,IA,ic,CA,cc,⟨U,UA,uc,S,SA,sc,hR⟩,hA⟩:=h
 obtain ⟨fr,rest,hdr,hrl,hi2,hc2,hw2,hsub⟩:=frames_at hw hd
 have hCl:=hA.len
 have hw3:=hw.le
 have hst:=stepD_at (c:=c) (n:=n) hdr
 have hA2:=hA.cut hi2 hc2 (by rw [insR_len,List.length_cons]; omega) (by omega)
 obtain ⟨d,hdd⟩:∃ d,d=n.deep:=⟨_,rfl⟩
 rw [← hdd] at hA2
 have HCD:Hid (d + 1 ≤ C.length):=Lib.hid (by omega)
 have hil:=insR_len st
 have hcI:=cut_to 1 55 9 Tryz.underlying55 (fun _=>rfl) IA hA.iad (insR st).length ic d (d:Int) rfl (by omega) hA.ins.le
 have hcad:CA=none ∨ ∃ g f,CA=some ⟨g,f,none⟩:=by
  obtain ⟨g,f,e,_⟩:=hA.came.cells (by omega)
  exact .inr ⟨g,f,e⟩
 have hcC:=cut_to 1 65 55 Tryz.underlying65 (fun _=>rfl) CA hcad C.length cc (d + 1) ((d:Int) + 1) (by simp) (by omega) hA.came.le
 have q6:=(row_facts hR.row 6 (.slice IA (insR st).length ic) rfl)
 have q7:=(row_facts hR.row 7 (.slice CA C.length cc) rfl)
 obtain ⟨q6a,q6b⟩:=q6
 obtain ⟨q7a,q7b⟩:=q7
 have hnw:n.words.length=ws.length + 1:=by rw [hws]; rfl
 obtain ⟨bl,hbl⟩:∃ b,b=n.block:=⟨_,rfl⟩
 unfold ndA
 rw [← hdd,← hbl,hnw]
 rw [hnw] at hcap
 have HWS:=Lib.hid hws
 have HBL:=Lib.hid hbl
 have hpl:=hR.lt
 have z0:=fun j u=>new_at w #[.slice NA (ws.length + 1) nc,.int .i64 (d:Int),.bool bl,.int .i64 (n.line:Int)] 70 j u
 obtain ⟨W1,hW1⟩:∃ W,W=w.alloc (.cells #[.slice NA (ws.length + 1) nc,.int .i64 (d:Int),.bool bl,.int .i64 (n.line:Int)] 70):=⟨_,rfl⟩
 have hx1:Ext w W1:=by rw [hW1]; exact (Ext.rfl' _).al _
 obtain ⟨b,hb⟩:∃ b,b=w.heap.size:=⟨_,rfl⟩
 have b1:W1.heap[b]?=some (.cells #[.slice NA (ws.length + 1) nc,.int .i64 (d:Int),.bool bl,.int .i64 (n.line:Int)] 70 (0,0)):=by rw [hW1,hb]; exact heap_alloc_new w _
 obtain ⟨k1,_⟩:=row_facts b1 1 _ rfl
 have hpb:¬ p=b:=by omega
 have hbp:¬ b=p:=by omega
 have q6a:=(hx1.cell (lt_of_cell q6a)).trans q6a
 have q6b:=(World.frozen?_of_block (a:=⟨p,6,none⟩) (hx1.block p hpl)).trans q6b
 have q7a:=(hx1.cell (lt_of_cell q7a)).trans q7a
 have q7b:=(World.frozen?_of_block (a:=⟨p,7,none⟩) (hx1.block p hpl)).trans q7b
 have hdw:IntKind.i64.wrap ((d:Int) + 1)=(d:Int) + 1:=by rw [IntKind.wrap_i64]; omega
 have HB1:=Lib.hid b1
 obtain ⟨o1,ho1⟩:∃ o1:Ow,o1=fun x=>if x < w.heap.size then o x else 0:=⟨_,rfl⟩
 have hs01:Stp (fun _=>False) w o W1 o1:=Stp.ext2 hx1 (fun x hx=>by rw [ho1]; exact if_pos hx)
 have HO1:Hid (o1 b=0):=Lib.hid (by rw [ho1,hb]; exact if_neg (Nat.lt_irrefl _))
 have HS01:Hid (Stp KB w o W1 o1):=Lib.hid (hs01.mono fun _ h=>h.elim)
 have HR1:=Lib.hid (hR.stpC hs01 (fun _ _ x=>x))
 have HA2:=Lib.hid (hA2.stp hw2 hs01 (fun _ _ _ x=>x))
 rw [hws] at hr hwl
 have HST:=Lib.hid hst
 have hdl:d ≤ 2:=by omega
 have HHR:=Lib.hid (hr.stp hs01 (fun x=>x))
 have HDD:=Lib.hid hdd
 have HRL:=Lib.hid hrl
 clear ho1 hs01 hws hbl hnw hst hdr hi2 hc2 hA2 hil hcad hA hx1 hR hdd hCl hw3 hd b1 z0 hr hrl
 go_enter Tryz.func25,Tryz.ntmps25
 go_upto_region 1 with (fail)
 rw [← hW1,← hb]
 clear hW1 hb
 go_region
 go_upto_region 2 with (fail)
 obtain ⟨W2,hW2⟩:∃ W,W=(W1.setCell ⟨p,6,none⟩ (.slice IA d ic)).drew:=⟨_,rfl⟩
 have hw2':=HR1.out.word 6 (.slice IA d ic) (.slice IA d ic,.slice CA C.length cc,.bool false) rfl
 have hxd:Ext (W1.setCell ⟨p,6,none⟩ (.slice IA d ic)) W2:=by rw [hW2]; exact (Ext.rfl' _).dr
 have H2:=Lib.hid (hw2'.1.ext hxd)
 have S2:Hid (Stp (fun i=>i=1) W1 o1 W2 o1):=Lib.hid (hw2'.2.tr (Stp.ext hxd))
 rw [← hW2]
 have HB2:=Lib.hid ((S2.out.keep b (row_lt HB1.out) (by rw [HO1.out]; omega)).trans HB1.out)
 clear hW2 hw2' hxd q6a q6b q7a q7b k1
 obtain ⟨q7a,q7b⟩:=row_facts H2.out.row 7 (.slice CA C.length cc) rfl
 obtain ⟨k1,_⟩:=row_facts HB2.out 1 _ rfl
 go_region
 go_upto_region 3 with (fail)
 obtain ⟨W3,hW3⟩:∃ W,W=(W2.setCell ⟨p,7,none⟩ (.slice CA (d + 1) cc)).drew:=⟨_,rfl⟩
 have hw3':=H2.out.word 7 (.slice CA (d + 1) cc) (.slice IA d ic,.slice CA (d + 1) cc,.bool false) rfl
 have hxd:Ext (W2.setCell ⟨p,7,none⟩ (.slice CA (d + 1) cc)) W3:=by rw [hW3]; exact (Ext.rfl' _).dr
 have H3:=Lib.hid (hw3'.1.ext hxd)
 have S3:Hid (Stp (fun i=>i=1) W1 o1 W3 o1):=Lib.hid (S2.out.tr (hw3'.2.tr (Stp.ext hxd)))
 rw [← hW3]
 have HB3:=Lib.hid ((S3.out.keep b (row_lt HB1.out) (by rw [HO1.out]; omega)).trans HB1.out)
 have HA3:=Lib.hid (HA2.out.stp hw2 S3.out (fun i _ _=>by omega))
 have HR3:=Lib.hid (HHR.out.stp S3.out (by omega))
 have SK3:Hid (Stp KB w o W3 o1):=Lib.hid (HS01.out.tr (KB1 S3.out))
 clear hW3 hw3' hxd q7a q7b k1 HB1 HB2 H2 S2 S3 HR1 HA2 HHR HS01 hcI hcC hdw
 obtain ⟨q6,_⟩:=row_facts H3.out.row 6 (.slice IA d ic) rfl
 obtain ⟨k0,_⟩:=row_facts HB3.out 0 _ rfl
 obtain ⟨k1,_⟩:=row_facts HB3.out 1 _ rfl
 obtain ⟨k2,_⟩:=row_facts HB3.out 2 _ rfl
 obtain ⟨bs,hbs⟩:∃ s,s=str (blkR fr):=⟨_,rfl⟩
 have HBS:=Lib.hid hbs
 obtain ⟨hblk0,hblk1⟩:=blk_at hw2
 go_step
 go_step
 go_step
 go_step
 go_step
 go_step
 go_step
 go_step
 go_cut [5] (fun v5 wx=>v5=.string bs∧Ext W3 wx)
 case first =>
  by_cases hd0:d=0
  ·subst hd0
   have hb0:bs=⟨#[]⟩:=by rw [hbs,hblk0 (List.eq_nil_of_length_eq_zero (by have:=HRL.out; have:=HDD.out; omega))]; rfl
   clear hbs hblk0 hblk1
   subst hb0
   go_wp2
   go_meet
   exact ⟨rfl,by (repeat first | exact Ex0 | assumption | refine Ex1 ?_ | refine Ex2 ?_ | refine Ex3 ?_ | refine Ex4 ?_ | refine Ex5 ?_)⟩
  ·have d0:(0:Int) < (d:Int):=by omega
   have hrd:rest.length=d:=by have:=HRL.out; have:=HDD.out; omega
   obtain ⟨gI,fI,hIA,_,_,hcc,_⟩:=HA3.out.ins.cells (by rw [insR_len,List.length_cons]; omega)
   have hbl:=hblk1 (by omega)
   rw [hrd] at hbl
   have qe:W3.cell? ⟨gI,fI + (d - 1),none⟩=some (.string bs):=hcc (d - 1) _ (by rw [hbs]; simp [strC,hbl])
   have e1:IntKind.i64.wrap ((d:Int) - 1)=((d - 1:Nat):Int):=by rw [IntKind.wrap_i64]; omega
   have e2:((d:Int) - 1).toNat=d - 1:=by omega
   have e3:(0:Int) ≤ (d:Int) - 1:=by omega
   have e4:(d:Int) - 1 < (d:Int):=by omega
   rw [hIA] at q6
   clear hbs hblk0 hblk1 hcc hbl hIA
   go_upto_region 5 with (fail)
   go_quiet (fail)
   go_wp2_with fail
   go_meet
   exact ⟨rfl,by (repeat first | exact Ex0 | assumption | refine Ex1 ?_ | refine Ex2 ?_ | refine Ex3 ?_ | refine Ex4 ?_ | refine Ex5 ?_)⟩
 case rest =>
  obtain ⟨rfl,hx4⟩:=hcut
  obtain ⟨W4,rfl⟩:∃ W,W=wc:=⟨_,rfl⟩
  have H4:=Lib.hid (H3.out.ext hx4)
  have HB4:=Lib.hid ((hx4.block b (row_lt HB3.out)).trans HB3.out)
  have SK4:Hid (Stp KB w o W4 o1):=Lib.hid (SK3.out.tr (Stp.ext hx4))
  obtain ⟨C0,x,hC0,hC0l⟩:=take_snocR C d (by have:=HCD.out; omega)
  have HA4:Hid (RrA W4 o1 p (fr :: rest) (C0 ++ [x]) IA ic CA cc):=Lib.hid (by rw [← hC0]; exact HA3.out.stp (K:=fun _=>False) hw2 (Stp.ext hx4) (fun _ _ _ x=>x))
  have hRz:=HR3.out.stp (K:=fun _=>False) (Stp.ext hx4) (fun x=>x)
  subst hC0l
  obtain ⟨bA,gA,rfl,hak⟩:=arg0 hRz
  have kA:W4.cell? ⟨bA,gA,none⟩=some (.string (str w0)):=hak (fun _=>False) W4 o1 Stp.rfl' (fun x=>x) 0 _ rfl
  obtain ⟨A',hsl,hrd,hblk⟩:=cut_from 1 55 9 Tryz.underlying55 (fun _=>rfl) (strC (w0 :: ws)) (some ⟨bA,gA,none⟩) (ws.length + 1) nc 1 1 rfl W4 hRz.1 (by simp [strC]) (by omega) hcap
  rw [Nat.add_sub_cancel] at hsl
  have HRZ:Hid (RdZ W4 o1 A' (strC ws)):=Lib.hid ⟨by have:=hrd W4 hRz.1; simpa [strC] using this,.inr (fun a' ha=>by obtain ⟨a0,ha0,hab⟩:=hblk a' ha; rw [hab]; rcases hRz.2 with h0 | h0; cases h0; exact h0 a0 ha0)⟩
  obtain ⟨k0,_⟩:=row_facts HB4.out 0 _ rfl
  obtain ⟨k2,_⟩:=row_facts HB4.out 2 _ rfl
  obtain ⟨sv,hsv⟩:∃ s,s=str w0:=⟨_,rfl⟩
  rw [← hsv] at kA
  have HSV:=Lib.hid hsv
  have HQ:Hid (stepD (st,c) n=match dkOf w0 with
   | none=>.error n.line
   | some k=>if fitD k n fr then (if (doT k ws c).2 then .error n.line else .ok ((if bl then [(some k,[])] else []) ++ (fr.1,kindD k :: fr.2) :: rest,(doT k ws c).1)) else .error n.line):=Lib.hid (by
   rw [HST.out,HWS.out,← HBL.out]
   rfl)
  have hrest:rest.length=C0.length:=HA4.out.parts.1.symm
  have HREST:=Lib.hid hrest
  clear hC0 hRz hak hrd hblk hx4 HB3 SK3 HA3 HR3 H3 HST hsv hblk0 hblk1 hbs q6 hrest hcap
  go_upto_region 8 with (fail)
  clear k0 kA hsl
  cases hx:dkOf w0 with
  | none =>
   have CW:=Lib.hid (fun w=>rwhere_no w0 hx w)
   rw [← HSV.out] at CW
   have HE:Hid (stepD (st,c) n=.error n.line):=Lib.hid (by rw [HQ.out,hx])
   clear hx HQ
   go_wp2_with (go_at_call 62; refine (CW.out _).mono ?_; rintro e' W5 ⟨rfl,hx5⟩)
   go_ret
   exact NdQ.no HE.out (SK4.out.tr (Stp.ext hx5))
  | some k =>
   have hk:=dk_some hx
   have CW:=Lib.hid (fun w=>rwhere_c k w)
   have HSK:Hid (sv=str (nameD k)):=Lib.hid (by rw [HSV.out,hk])
   rw [← HSK.out] at CW
   obtain ⟨s1,hs1⟩:∃ s,s=str (blkN k):=⟨_,rfl⟩
   obtain ⟨lo,hlo⟩:∃ l,l=leastD k:=⟨_,rfl⟩
   obtain ⟨mo,hmo⟩:∃ l,l=mostR k:=⟨_,rfl⟩
   obtain ⟨hb,hhb⟩:∃ l,l=blockD k:=⟨_,rfl⟩
   rw [← hs1,← hlo,← hmo,← hhb] at CW
   have HFT:Hid (fitD k n fr=(decide (inD k=fr.1) && decide (lo ≤ ws.length) && decide (ws.length ≤ mostD k) && (hb == bl) && (!(fr.2.contains (kindD k)) || manyD k))):=Lib.hid (by
    unfold fitD
    rw [HWS.out,← HBL.out,← hlo,← hhb]
    rfl)
   have HE:Hid (fitD k n fr=false → stepD (st,c) n=.error n.line):=Lib.hid (fun hf=>by
    rw [HQ.out,hx]
    dsimp only
    rw [hf]
    rfl)
   have HY:Hid (fitD k n fr=true → stepD (st,c) n=if (doT k ws c).2 then .error n.line else .ok ((if bl then [(some k,[])] else []) ++ (fr.1,kindD k :: fr.2) :: rest,(doT k ws c).1)):=Lib.hid (fun hf=>by
    rw [HQ.out,hx]
    dsimp only
    rw [hf]
    rfl)
   have HBE:=Lib.hid (blk_eq k fr)
   have HMO:=Lib.hid (most_eq k ws.length hnl)
   rw [← hmo] at HMO
   have HS1:=Lib.hid hs1
   have HHB:=Lib.hid hhb
   have HLO:=Lib.hid hlo
   clear hx hk hs1 hlo hmo hhb HQ
   go_upto_region 9 with (go_at_call 62; refine (CW.out _).mono ?_; rintro e' W5 ⟨rfl,hx5⟩)
   clear CW
   have H5:=Lib.hid (H4.out.ext hx5)
   have HB5:=Lib.hid ((hx5.block b (row_lt HB4.out)).trans HB4.out)
   have SK5:Hid (Stp KB w o W5 o1):=Lib.hid (SK4.out.tr (Stp.ext hx5))
   have HA5:=Lib.hid (HA4.out.stp (K:=fun _=>False) hw2 (Stp.ext hx5) (fun _ _ _ x=>x))
   have HZ5:=Lib.hid (HRZ.out.stp (K:=fun _=>False) (Stp.ext hx5) (fun x=>x))
   obtain ⟨k2,_⟩:=row_facts HB5.out 2 _ rfl
   clear H4 HB4 SK4 HA4 HRZ hx5
   by_cases c1:inD k=fr.1
   rotate_left
   ·have g1:¬ s1.toList=bs.toList:=by rw [HS1.out,HBS.out,str_tl,str_tl]; exact fun e=>c1 (HBE.out.2 e)
    have g2:(s1.toList == bs.toList)=false:=beq_eq_false_iff_ne.2 g1
    have HER:=Lib.hid (HE.out (by rw [HFT.out,decide_eq_false c1]; simp))
    clear c1
    go_wp2
    go_ret
    exact NdQ.no HER.out (SK5.out.tr (Stp.ext (by (repeat first | exact Ex0 | assumption | refine Ex1 ?_ | refine Ex2 ?_ | refine Ex3 ?_ | refine Ex4 ?_ | refine Ex5 ?_))))
   have hss:s1=bs:=by rw [HS1.out,HBS.out,HBE.out.1 c1]
   have HC1:=Lib.hid c1
   subst hss
   clear c1
   by_cases c2:lo ≤ ws.length
   rotate_left
   ·have g1:(ws.length:Int) < (lo:Int):=by omega
    have HER:=Lib.hid (HE.out (by rw [HFT.out,decide_eq_false c2]; simp))
    clear c2
    go_wp2
    go_ret
    exact NdQ.no HER.out (SK5.out.tr (Stp.ext (by (repeat first | exact Ex0 | assumption | refine Ex1 ?_ | refine Ex2 ?_ | refine Ex3 ?_ | refine Ex4 ?_ | refine Ex5 ?_))))
   have g2:¬ (ws.length:Int) < (lo:Int):=by omega
   by_cases c3:ws.length ≤ mostD k
   rotate_left
   ·have g3:mo < (ws.length:Int):=HMO.out.2 c3
    have HER:=Lib.hid (HE.out (by rw [HFT.out,decide_eq_false c3]; simp))
    clear c3
    go_wp2
    go_ret
    exact NdQ.no HER.out (SK5.out.tr (Stp.ext (by (repeat first | exact Ex0 | assumption | refine Ex1 ?_ | refine Ex2 ?_ | refine Ex3 ?_ | refine Ex4 ?_ | refine Ex5 ?_))))
   have g3:¬ mo < (ws.length:Int):=fun h=>HMO.out.1 h c3
   have HC2:=Lib.hid c2
   have HC3:=Lib.hid c3
   clear c2 c3
   by_cases c4:hb=bl
   rotate_left
   ·have HER:=Lib.hid (HE.out (by rw [HFT.out,show (hb == bl)=false from beq_eq_false_iff_ne.2 c4]; simp))
    cases hb with
    | true =>
     obtain rfl:bl=false:=by cases bl; rfl; exact absurd rfl c4
     clear c4
     go_wp2
     go_ret
     exact NdQ.no HER.out (SK5.out.tr (Stp.ext (by (repeat first | exact Ex0 | assumption | refine Ex1 ?_ | refine Ex2 ?_ | refine Ex3 ?_ | refine Ex4 ?_ | refine Ex5 ?_))))
    | false =>
     obtain rfl:bl=true:=by cases bl; exact absurd rfl c4; rfl
     clear c4
     go_wp2
     go_ret
     exact NdQ.no HER.out (SK5.out.tr (Stp.ext (by (repeat first | exact Ex0 | assumption | refine Ex1 ?_ | refine Ex2 ?_ | refine Ex3 ?_ | refine Ex4 ?_ | refine Ex5 ?_))))
   subst c4
   have hokk:=hok fr (hsub fr (by simp))
   rw [← HC1.out] at hokk
   have HOK:=Lib.hid hokk
   obtain ⟨kd,hkd⟩:∃ l,l=nameD (kindD k):=⟨_,rfl⟩
   have hpt:=HA5.out.parts
   obtain ⟨M,hM'⟩:∃ m,m=(x.2.contains kd && !(manyD k)):=⟨_,rfl⟩
   have CA5:=Lib.hid (ragain_c k W5 o1 p c (.slice IA C0.length ic) false U UA uc S SA sc C0 x CA cc H5.out hpt.2.2.2.1 HA5.out.cna hpt.2.2.2.2.1 hpt.2.2.2.2.2 hdl (by rw [hpt.2.2.1]; have:=hK fr (hsub fr (by simp)); unfold kindsR; simp; omega) sv HSK.out)
   rw [← hkd,← hM'] at CA5
   have HFC:Hid (fitD k n fr=!M):=Lib.hid (by
    rw [HFT.out,decide_eq_true HC1.out,decide_eq_true HC2.out,decide_eq_true HC3.out,hM',hpt.2.2.1,hkd,kinds_ct]
    cases fr.2.contains (kindD k) <;> cases manyD k <;> simp)
   have HKD:=Lib.hid hkd
   have HXK:=Lib.hid hpt.2.2.1
   clear hM' hpt hkd hokk hok
   cases M with
   | true =>
    have HER:=Lib.hid (HE.out (by rw [HFC.out]; rfl))
    cases hb
    all_goals
     go_wp2_with (go_at_call 63; refine CA5.out.mono ?_; rintro e' W6 ⟨rfl,o6,A6,c6,st6,_⟩)
     go_ret
     exact NdQ.no HER.out (SK5.out.tr (st6.mono fun i hi=>by unfold KB; omega))
   | false =>
    have HYR:=Lib.hid (HY.out (by rw [HFC.out]; rfl))
    clear HE HY HFT HFC
    have HM:=Lib.hid hM
    have HWL:=Lib.hid (fun s (hs:s ∈ ws)=>hwl s (by simp [hs]))
    clear hM hwl hK
    cases hb with
    | false =>
     go_upto_region 14 with (go_at_call 63; refine CA5.out.mono ?_; rintro e' W6 ⟨rfl,o6,A6,c6,st6,hs6,hn6,hc6⟩)
     have HA6:=Lib.hid (HA5.out.more st6 (by rw [← HKD.out]; exact hs6) hn6 (by rw [← HKD.out]; exact hc6))
     have SK6:Hid (Stp KB w o W6 o6):=Lib.hid (SK5.out.tr (st6.mono fun i hi=>by unfold KB; omega))
     have HZ6:=Lib.hid (HZ5.out.stp st6 (by omega))
     have hR6:=H5.out.stpC st6 (fun i hi=>by unfold KCr at hi; omega)
     obtain ⟨C6,hC6⟩:∃ C,C=C0 ++ [((A6,c6),x.2 ++ [nameD (kindD k)])]:=⟨_,rfl⟩
     obtain ⟨F6,hF6⟩:∃ F:List Fr14,F=(fr.1,kindD k :: fr.2) :: rest:=⟨_,rfl⟩
     rw [← hC6,← hF6] at HA6
     have HWF:Hid (WfR F6):=Lib.hid (by rw [hF6]; exact wf_turn (fr:=fr) rfl hw2)
     have H6:Hid (Rf0 W6 o6 p c (.slice IA (insR F6).length ic,.slice CA C6.length cc,.bool false) U UA uc S SA sc):=Lib.hid (by
      have e1:(insR F6).length=C0.length:=by rw [insR_len,hF6,List.length_cons,HREST.out]; omega
      have e2:C6.length=C0.length + 1:=by rw [hC6,List.length_append]; rfl
      rw [e1,e2]
      exact hR6)
     have HYS:Hid (stepD (st,c) n=if (doT k ws c).2 then .error n.line else .ok (F6,(doT k ws c).1)):=Lib.hid (by rw [HYR.out,hF6]; rfl)
     clear st6 hs6 hn6 hc6 hR6 hC6 hF6 HA5 SK5 HZ5 H5 HB5 k2 CA5 HYR
     by_cases hloc:fr.1=some .location
     ·have hs1l:s1=⟨#[108,111,99,97,116,105,111,110]⟩:=by rw [HBS.out]; unfold blkR; rw [hloc]; rfl
      have CD:=Lib.hid (do_loc k (HC1.out.trans hloc) _ _ p c _ _ false ⟨_,_,_,_,_,_,H6.out⟩ HM.out HOK.out ws (by rw [← HLO.out]; exact HC2.out) HC3.out HWL.out A' (nc - 1) HZ6.out sv HSK.out)
      clear hloc
      subst hs1l
      obtain ⟨bb,hbb⟩:∃ b,b=(false || (doT k ws c).2):=⟨_,rfl⟩
      rw [← hbb] at CD
      have HBB:=Lib.hid hbb
      clear hbb
      cases bb with
      | true =>
       have HER:Hid (stepD (st,c) n=.error n.line):=Lib.hid (by rw [HYS.out,← (HBB.out.trans (Bool.false_or _))]; rfl)
       go_wp2_with (go_at_call 64; refine (CD).out.mono ?_; rintro e' WB ⟨rfl,oB,stB,U9,UA9,uc9,S9,SA9,sc9,hRB⟩; obtain ⟨q8,_⟩:=row_facts hRB.row 8 (.bool true) rfl; have STB:=Lib.hid stB; clear stB hRB)
       go_ret
       exact NdQ.no HER.out (SK6.out.tr (KBC STB.out))
      | false =>
       have HOKR:Hid (stepD (st,c) n=.ok (F6,(doT k ws c).1)):=Lib.hid (by rw [HYS.out,← (HBB.out.trans (Bool.false_or _))]; rfl)
       go_wp2_with (go_at_call 64; refine (CD).out.mono ?_; rintro e' WB ⟨rfl,oB,stB,U9,UA9,uc9,S9,SA9,sc9,hRB⟩; obtain ⟨q8,_⟩:=row_facts hRB.row 8 (.bool false) rfl; have STB:=Lib.hid stB; have HRB:=Lib.hid hRB; clear stB hRB)
       go_ret
       exact NdQ.yes HOKR.out (SK6.out.tr (KBC STB.out)) ⟨_,_,_,_,_,⟨_,_,_,_,_,_,HRB.out⟩,HA6.out.stp HWF.out STB.out (fun i h1 h2 h=>by unfold KCr at h; omega)⟩
     ·have n1:¬ s1.toList=[108,111,99,97,116,105,111,110]:=by
       rw [HBS.out,str_tl]
       intro e
       unfold blkR at e
       cases hf:fr.1 with
       | none=>rw [hf] at e; cases e
       | some kk=>rw [hf] at e; exact hloc (by rw [hf]; exact congrArg some (nameR_inj (show nameD kk=nameD .location from e)))
      have n2:(s1.toList == [108,111,99,97,116,105,111,110])=false:=beq_eq_false_iff_ne.2 n1
      have CD:=Lib.hid (do_out k (fun e=>hloc (HC1.out.symm.trans e)) _ _ p c _ _ false ⟨_,_,_,_,_,_,H6.out⟩ HM.out HOK.out ws (by rw [← HLO.out]; exact HC2.out) HC3.out HWL.out A' (nc - 1) HZ6.out sv HSK.out)
      clear hloc
      obtain ⟨bb,hbb⟩:∃ b,b=(false || (doT k ws c).2):=⟨_,rfl⟩
      rw [← hbb] at CD
      have HBB:=Lib.hid hbb
      clear hbb
      cases bb with
      | true =>
       have HER:Hid (stepD (st,c) n=.error n.line):=Lib.hid (by rw [HYS.out,← (HBB.out.trans (Bool.false_or _))]; rfl)
       go_wp2_with (go_at_call 65; refine (CD).out.mono ?_; rintro e' WB ⟨rfl,oB,stB,U9,UA9,uc9,S9,SA9,sc9,hRB⟩; obtain ⟨q8,_⟩:=row_facts hRB.row 8 (.bool true) rfl; have STB:=Lib.hid stB; clear stB hRB)
       go_ret
       exact NdQ.no HER.out (SK6.out.tr (KBC STB.out))
      | false =>
       have HOKR:Hid (stepD (st,c) n=.ok (F6,(doT k ws c).1)):=Lib.hid (by rw [HYS.out,← (HBB.out.trans (Bool.false_or _))]; rfl)
       go_wp2_with (go_at_call 65; refine (CD).out.mono ?_; rintro e' WB ⟨rfl,oB,stB,U9,UA9,uc9,S9,SA9,sc9,hRB⟩; obtain ⟨q8,_⟩:=row_facts hRB.row 8 (.bool false) rfl; have STB:=Lib.hid stB; have HRB:=Lib.hid hRB; clear stB hRB)
       go_ret
       exact NdQ.yes HOKR.out (SK6.out.tr (KBC STB.out)) ⟨_,_,_,_,_,⟨_,_,_,_,_,_,HRB.out⟩,HA6.out.stp HWF.out STB.out (fun i h1 h2 h=>by unfold KCr at h; omega)⟩
    | true =>
     go_upto_region 12 with (go_at_call 63; refine CA5.out.mono ?_; rintro e' W6 ⟨rfl,o6,A6,c6,st6,hs6,hn6,hc6⟩)
     have HA6:=Lib.hid (HA5.out.more st6 (by rw [← HKD.out]; exact hs6) hn6 (by rw [← HKD.out]; exact hc6))
     have SK6:Hid (Stp KB w o W6 o6):=Lib.hid (SK5.out.tr (st6.mono fun i hi=>by unfold KB; omega))
     have HZ6:=Lib.hid (HZ5.out.stp st6 (by omega))
     have H6:=Lib.hid (H5.out.stpC st6 (fun i hi=>by unfold KCr at hi; omega))
     obtain ⟨hwp,hrl1⟩:=wf_push (k:=k) (by rw [← HHB.out]) HC1.out hw2
     have HWP:=Lib.hid (wf_turn (fr':=(some k,[])) (fr:=(some k,[])) rfl hwp)
     have hC1l:C0.length ≤ 1:=by have:=HREST.out; omega
     have hIl:(insR ((fr.1,kindD k :: fr.2) :: rest)).length=C0.length:=by rw [insR_len,List.length_cons,HREST.out]; omega
     have hsI:=HA6.out.ins
     have hsC:=HA6.out.came
     rw [hIl] at hsI
     rw [List.length_append,List.length_singleton] at hsC
     have HSI:=Lib.hid hsI
     have HSC:=Lib.hid hsC
     obtain ⟨q6,_⟩:=row_facts H6.out.row 6 (.slice IA C0.length ic) rfl
     clear st6 hs6 hn6 hc6 HA5 SK5 HZ5 H5 HB5 k2 CA5 hsI hsC hIl hrl1 hwp
     go_upto_region 13 with (first
      | (at_builtin; refine wpL_put slt_str14 (.tmp 96) (.tmp 98) rfl rfl rfl rfl (HSI.out.ext (by (repeat first | exact Ex0 | assumption | refine Ex1 ?_ | refine Ex2 ?_ | refine Ex3 ?_ | refine Ex4 ?_ | refine Ex5 ?_))) HA6.out.ina (Sl.src Tryz.underlying55 (n:=1) (rd_newS _ _ rfl sv) rfl (by omega) (by simp [Value.oneCell']) _) (by omega) (by simp only [maxLen]; omega) ?_; intro A7 c7 w7 o7 hs7 st7 hn7; have st7':Stp (fun i=>i=4) W6 o6 w7 o7:=(Stp.ext (by (repeat first | exact Ex0 | assumption | refine Ex1 ?_ | refine Ex2 ?_ | refine Ex3 ?_ | refine Ex4 ?_ | refine Ex5 ?_))).tr st7; have hR7:=H6.out.stpC st7' (fun i hi=>by unfold KCr at hi; omega); obtain ⟨q6c,q6d⟩:=row_facts hR7.row 6 (.slice IA C0.length ic) rfl))
     obtain ⟨W8,hW8⟩:∃ W,W=w7.setCell ⟨p,6,none⟩ (.slice A7 (C0.length + 1) c7):=⟨_,rfl⟩
     have h8:=hR7.word 6 (.slice A7 (C0.length + 1) c7) (.slice A7 (C0.length + 1) c7,.slice CA (C0.length + 1) cc,.bool false) rfl
     rw [← hW8] at h8 ⊢
     have H8:=Lib.hid h8.1
     have ST8:Hid (Stp (fun i=>i=1 ∨ i=4) W6 o6 W8 o7):=Lib.hid ((st7'.mono fun i hi=>.inr hi).tr (h8.2.mono fun i hi=>.inl hi))
     have HS7:=Lib.hid (hs7.stp h8.2 (by omega))
     have HN7:=Lib.hid hn7
     have HSC8:=Lib.hid (HSC.out.stp ST8.out (by omega))
     obtain ⟨q7,_⟩:=row_facts H8.out.row 7 (.slice CA (C0.length + 1) cc) rfl
     clear hW8 h8 hs7 st7 st7' hn7 hR7 q6c q6d q6
     go_upto_region 14 with (first
      | (at_builtin; refine wpL_put slt_slR (.tmp 106) (.tmp 107) rfl rfl rfl rfl (HSC8.out.ext (by (repeat first | exact Ex0 | assumption | refine Ex1 ?_ | refine Ex2 ?_ | refine Ex3 ?_ | refine Ex4 ?_ | refine Ex5 ?_))) HA6.out.cna (Sl.src Tryz.underlying65 (n:=1) (rd_newV _ _ rfl #[.slice none 0 0] 55) rfl (by omega) (by simp [Value.oneCell']) _) (by omega) (by simp only [maxLen]; omega) ?_; intro A9 c9 w9 o9 hs9 st9 hn9; have st9':Stp (fun i=>i=5) W8 o7 w9 o9:=(Stp.ext (by (repeat first | exact Ex0 | assumption | refine Ex1 ?_ | refine Ex2 ?_ | refine Ex3 ?_ | refine Ex4 ?_ | refine Ex5 ?_))).tr st9; have hR9:=H8.out.stpC st9' (fun i hi=>by unfold KCr at hi; omega); obtain ⟨q7c,q7d⟩:=row_facts hR9.row 7 (.slice CA (C0.length + 1) cc) rfl))
     obtain ⟨WA,hWA⟩:∃ W,W=w9.setCell ⟨p,7,none⟩ (.slice A9 (C0.length + 1 + 1) c9):=⟨_,rfl⟩
     have hA:=hR9.word 7 (.slice A9 (C0.length + 1 + 1) c9) (.slice A7 (C0.length + 1) c7,.slice A9 (C0.length + 1 + 1) c9,.bool false) rfl
     rw [← hWA] at hA ⊢
     have STA:Hid (Stp (fun i=>i=1 ∨ i=5) W8 o7 WA o9):=Lib.hid ((st9'.mono fun i hi=>.inr hi).tr (hA.2.mono fun i hi=>.inl hi))
     have HS9:=Lib.hid (hs9.stp hA.2 (by omega))
     have HN9:=Lib.hid hn9
     have hRA:=hA.1
     obtain ⟨C6,hC6⟩:∃ C:List (Hd × List (List UInt8)),C=(C0 ++ [((A6,c6),x.2 ++ [nameD (kindD k)])]) ++ [((none,0),[])]:=⟨_,rfl⟩
     obtain ⟨F6,hF6⟩:∃ F:List Fr14,F=(some k,[]) :: (fr.1,kindD k :: fr.2) :: rest:=⟨_,rfl⟩
     have hil:(insR ((fr.1,kindD k :: fr.2) :: rest)).length=C0.length:=by rw [insR_len,List.length_cons,HREST.out]; omega
     have hA6:=HA6.out.push (k:=k) (by simp) (by rw [List.length_append,List.length_singleton]; omega) ST8.out (by rw [hil,← HSK.out]; exact HS7.out) HN7.out HS7.out.adr1 STA.out (by rw [List.length_append,List.length_singleton]; exact HS9.out) HN9.out
     rw [← hC6,← hF6] at hA6
     have HWF:Hid (WfR F6):=Lib.hid (by rw [hF6]; have:=HWP.out; unfold WfR at *; simpa using this)
     have SK9:Hid (Stp KB w o WA o9):=Lib.hid ((SK6.out.tr (ST8.out.mono fun i hi=>by unfold KB; omega)).tr (STA.out.mono fun i hi=>by unfold KB; omega))
     have HZ9:=Lib.hid ((HZ6.out.stp ST8.out (by omega)).stp STA.out (by omega))
     have H9:Hid (Rf0 WA o9 p c (.slice A7 (insR F6).length c7,.slice A9 C6.length c9,.bool false) U UA uc S SA sc):=Lib.hid (by
      have e1:(insR F6).length=C0.length + 1:=by rw [insR_len,hF6,List.length_cons,List.length_cons,HREST.out]; omega
      have e2:C6.length=C0.length + 1 + 1:=by rw [hC6,List.length_append,List.length_append]; rfl
      rw [e1,e2]
      exact hRA)
     have HYS:Hid (stepD (st,c) n=if (doT k ws c).2 then .error n.line else .ok (F6,(doT k ws c).1)):=Lib.hid (by rw [HYR.out,hF6]; rfl)
     clear HA6 SK6 HZ6 H6
     have HA6:=Lib.hid hA6
     have SK6:=SK9
     have HZ6:=HZ9
     have H6:=H9
     clear hWA hA hs9 st9 st9' hn9 hR9 q7c q7d q7 hRA hC6 hF6 hil hA6 HYR HSI HSC HSC8 HS7 HS9 HN7 HN9 H8 ST8 STA HWP SK9 HZ9 H9
     by_cases hloc:fr.1=some .location
     ·have hs1l:s1=⟨#[108,111,99,97,116,105,111,110]⟩:=by rw [HBS.out]; unfold blkR; rw [hloc]; rfl
      have CD:=Lib.hid (do_loc k (HC1.out.trans hloc) _ _ p c _ _ false ⟨_,_,_,_,_,_,H6.out⟩ HM.out HOK.out ws (by rw [← HLO.out]; exact HC2.out) HC3.out HWL.out A' (nc - 1) HZ6.out sv HSK.out)
      clear hloc
      subst hs1l
      obtain ⟨bb,hbb⟩:∃ b,b=(false || (doT k ws c).2):=⟨_,rfl⟩
      rw [← hbb] at CD
      have HBB:=Lib.hid hbb
      clear hbb
      cases bb with
      | true =>
       have HER:Hid (stepD (st,c) n=.error n.line):=Lib.hid (by rw [HYS.out,← (HBB.out.trans (Bool.false_or _))]; rfl)
       go_wp2_with (go_at_call 64; refine (CD).out.mono ?_; rintro e' WB ⟨rfl,oB,stB,U9,UA9,uc9,S9,SA9,sc9,hRB⟩; obtain ⟨q8,_⟩:=row_facts hRB.row 8 (.bool true) rfl; have STB:=Lib.hid stB; clear stB hRB)
       go_ret
       exact NdQ.no HER.out (SK6.out.tr (KBC STB.out))
      | false =>
       have HOKR:Hid (stepD (st,c) n=.ok (F6,(doT k ws c).1)):=Lib.hid (by rw [HYS.out,← (HBB.out.trans (Bool.false_or _))]; rfl)
       go_wp2_with (go_at_call 64; refine (CD).out.mono ?_; rintro e' WB ⟨rfl,oB,stB,U9,UA9,uc9,S9,SA9,sc9,hRB⟩; obtain ⟨q8,_⟩:=row_facts hRB.row 8 (.bool false) rfl; have STB:=Lib.hid stB; have HRB:=Lib.hid hRB; clear stB hRB)
       go_ret
       exact NdQ.yes HOKR.out (SK6.out.tr (KBC STB.out)) ⟨_,_,_,_,_,⟨_,_,_,_,_,_,HRB.out⟩,HA6.out.stp HWF.out STB.out (fun i h1 h2 h=>by unfold KCr at h; omega)⟩
     ·have n1:¬ s1.toList=[108,111,99,97,116,105,111,110]:=by
       rw [HBS.out,str_tl]
       intro e
       unfold blkR at e
       cases hf:fr.1 with
       | none=>rw [hf] at e; cases e
       | some kk=>rw [hf] at e; exact hloc (by rw [hf]; exact congrArg some (nameR_inj (show nameD kk=nameD .location from e)))
      have n2:(s1.toList == [108,111,99,97,116,105,111,110])=false:=beq_eq_false_iff_ne.2 n1
      have CD:=Lib.hid (do_out k (fun e=>hloc (HC1.out.symm.trans e)) _ _ p c _ _ false ⟨_,_,_,_,_,_,H6.out⟩ HM.out HOK.out ws (by rw [← HLO.out]; exact HC2.out) HC3.out HWL.out A' (nc - 1) HZ6.out sv HSK.out)
      clear hloc
      obtain ⟨bb,hbb⟩:∃ b,b=(false || (doT k ws c).2):=⟨_,rfl⟩
      rw [← hbb] at CD
      have HBB:=Lib.hid hbb
      clear hbb
      cases bb with
      | true =>
       have HER:Hid (stepD (st,c) n=.error n.line):=Lib.hid (by rw [HYS.out,← (HBB.out.trans (Bool.false_or _))]; rfl)
       go_wp2_with (go_at_call 65; refine (CD).out.mono ?_; rintro e' WB ⟨rfl,oB,stB,U9,UA9,uc9,S9,SA9,sc9,hRB⟩; obtain ⟨q8,_⟩:=row_facts hRB.row 8 (.bool true) rfl; have STB:=Lib.hid stB; clear stB hRB)
       go_ret
       exact NdQ.no HER.out (SK6.out.tr (KBC STB.out))
      | false =>
       have HOKR:Hid (stepD (st,c) n=.ok (F6,(doT k ws c).1)):=Lib.hid (by rw [HYS.out,← (HBB.out.trans (Bool.false_or _))]; rfl)
       go_wp2_with (go_at_call 65; refine (CD).out.mono ?_; rintro e' WB ⟨rfl,oB,stB,U9,UA9,uc9,S9,SA9,sc9,hRB⟩; obtain ⟨q8,_⟩:=row_facts hRB.row 8 (.bool false) rfl; have STB:=Lib.hid stB; have HRB:=Lib.hid hRB; clear stB hRB)
       go_ret
       exact NdQ.yes HOKR.out (SK6.out.tr (KBC STB.out)) ⟨_,_,_,_,_,⟨_,_,_,_,_,_,HRB.out⟩,HA6.out.stp HWF.out STB.out (fun i h1 h2 h=>by unfold KCr at h; omega)⟩
end Go.Proofs.YtmnohicojefhfaaGreatDoor
end
section
namespace Go.Proofs.YtmnohicojefhfaaGreatDoor
open Go.RowKit
def DeepOk:Nat → List Nd14 → Prop
 | _,[]=>True
 | D,n :: ns=>n.deep ≤ D∧DeepOk (if n.block then n.deep + 1 else n.deep) ns
theorem DeepOk.mono {D E:Nat} (h:D ≤ E):∀ {ns:List Nd14},DeepOk D ns → DeepOk E ns
 | [],_=>trivial
 | _ :: _,hn=>⟨Nat.le_trans hn.1 h,hn.2⟩
theorem nodes_deep:∀ (ts:List Tk14) (now:Option Nd14) (d:Nat) (r:List Nd14 × Option Nd14 × Nat),nodesF ts now d=.ok r → (∀ n,now=some n → n.deep=d∧n.block=false∧n.words ≠ []) → DeepOk d r.1∧∀ n ∈ r.1,n.words ≠ []:=by
 intro ts
 induction ts with
 | nil =>
  intro now d r h _
  simp only [nodesF,Except.ok.injEq] at h
  subst h
  exact ⟨trivial,fun n hn=>by cases hn⟩
 | cons t ts ih =>
  intro now d r h hnow
  unfold nodesF at h
  split at h
  ·refine ih _ _ _ h (fun n hn=>?_)
   cases now with
   | none=>simp only [Option.some.injEq] at hn; subst hn; exact ⟨rfl,rfl,by simp⟩
   | some n' =>
    have:=hnow n' rfl
    simp only [Option.some.injEq] at hn; subst hn
    exact ⟨this.1,this.2.1,by simp⟩
  ·split at h
   ·split at h
    ·cases h
    ·rename_i hno
     have:=ih _ _ _ h (fun n hn=>by cases hn)
     exact ⟨this.1.mono (by omega),this.2⟩
   ·cases now with
    | none=>cases h
    | some n' =>
     obtain ⟨q1,q2,q3⟩:=hnow n' rfl
     dsimp only at h
     split at h
     ·split at h
      ·cases h
      ·cases hr:nodesF ts none (d + 1) with
       | error e=>rw [hr] at h; cases h
       | ok r' =>
        rw [hr] at h
        simp only [Except.map,Except.ok.injEq] at h
        subst h
        have:=ih _ _ _ hr (fun n hn=>by cases hn)
        refine ⟨⟨by show n'.deep ≤ d; omega,by rw [if_pos rfl]; show DeepOk (n'.deep + 1) r'.1; rw [q1]; exact this.1⟩,fun n hn=>?_⟩
        rcases List.mem_cons.1 hn with hn | hn
        ·subst hn; exact q3
        ·exact this.2 n hn
     ·cases hr:nodesF ts none d with
      | error e=>rw [hr] at h; cases h
      | ok r' =>
       rw [hr] at h
       simp only [Except.map,Except.ok.injEq] at h
       subst h
       have:=ih _ _ _ hr (fun n hn=>by cases hn)
       refine ⟨⟨by omega,by rw [if_neg (by rw [q2]; decide),q1]; exact this.1⟩,fun n hn=>?_⟩
       rcases List.mem_cons.1 hn with hn | hn
       ·subst hn; exact q3
       ·exact this.2 n hn
theorem tree_deep {l:List UInt8} {ns:List Nd14} (h:treeL l=.ok ns):DeepOk 0 ns∧∀ n ∈ ns,n.words ≠ []:=by
 unfold treeL at h
 cases hn:nodesF (lexL l).1 none 0 with
 | error e=>rw [hn] at h; cases h
 | ok r =>
  rw [hn] at h
  obtain ⟨r1,r2,r3⟩:=r
  dsimp only at h
  split at h
  ·cases h
  ·split at h
   ·cases h
   ·cases h
    exact nodes_deep _ _ _ _ hn (fun n hn=>by cases hn)
theorem len_wsum:∀ {ns:List Nd14},(∀ n ∈ ns,n.words ≠ []) → ns.length ≤ wsum ns:=by
 intro ns
 induction ns with
 | nil=>intro _; exact Nat.le_refl _
 | cons n ns ih =>
  intro h
  have h1:=List.length_pos_iff.2 (h n (by simp))
  have h2:=ih fun m hm=>h m (by simp [hm])
  unfold wsum at *
  simp only [List.map_cons,List.sum_cons,List.length_cons]
  omega
theorem wsum_take (ns:List Nd14) (i:Nat) (h:i < ns.length):wsum (ns.take (i + 1))=wsum (ns.take i) + ns[i].words.length:=by
 unfold wsum
 rw [List.take_succ_eq_append_getElem h,List.map_append,List.sum_append]
 simp
theorem wsum_le (ns:List Nd14) (i:Nat):wsum (ns.take i) ≤ wsum ns:=by
 conv=>rhs; rw [← List.take_append_drop i ns]
 unfold wsum
 rw [List.map_append,List.sum_append]
 omega
theorem step_inv {st st':List Fr14} {c c':Cf14} {n:Nd14} (hw:WfR st) (hok:OkR st c) (hd:n.deep < st.length) (h:stepD (st,c) n=.ok (st',c')) {M K:Nat} (hM:CfB M c) (hT:CfT c) (hn:∀ s ∈ n.words,s.length ≤ 65536) (hne:n.words ≠ []) (hK:∀ fr ∈ st,fr.2.length ≤ K) :
  WfR st'∧OkR st' c'∧st'.length=n.deep + 1 + (if n.block then 1 else 0)∧CfB (M + n.words.length) c'∧CfT c'∧∀ fr ∈ st',fr.2.length ≤ K + 1:=by
 obtain ⟨fr,rest,hdr,hrl,_,_,hw2,hsub⟩:=frames_at hw hd
 unfold stepD at h
 dsimp only at h
 rw [hdr] at h
 dsimp only at h
 cases hx:dkOf (n.words.headD []) with
 | none=>rw [hx] at h; cases h
 | some k =>
  rw [hx] at h
  dsimp only at h
  split at h
  ·rename_i hfit
   cases hdo:doD k (n.words.drop 1) c with
   | none=>rw [hdo] at h; cases h
   | some c1 =>
    rw [hdo] at h
    simp only [Except.ok.injEq,Prod.mk.injEq] at h
    obtain ⟨e1,e2⟩:=h
    subst e2
    unfold fitD at hfit
    simp only [Bool.and_eq_true,decide_eq_true_eq] at hfit
    obtain ⟨⟨⟨⟨f1,f2⟩,f3⟩,f4⟩,f5⟩:=hfit
    have hbk:blockD k=n.block:=by simpa using f4
    have hokf:=doD_ok hdo (by rw [f1]; exact hok fr (hsub fr (by simp)))
    have hfr:∀ x ∈ (fr.1,kindD k :: fr.2) :: rest,OkB x.1 c1:=by
     intro x hx
     rcases List.mem_cons.1 hx with hx | hx
     ·subst hx; rw [← f1]; exact hokf.1
     ·have hx0:=hok x (hsub x (by simp [hx]))
      have hk2:x.1=none ∨ x.1=some .server:=by
       have e:(fr :: rest).map (·.1)=fr.1 :: rest.map (·.1):=rfl
       have hxm:x.1 ∈ rest.map (·.1):=List.mem_map_of_mem hx
       rcases hw2 with h | h | h | h <;> rw [e] at h <;> injection h with _ h3 <;> rw [h3] at hxm <;> simp at hxm
       ·exact .inl hxm
       ·exact .inl hxm
       ·rcases hxm with h | h
        ·exact .inr h
        ·exact .inl h
      rcases hk2 with h | h
      ·rw [h]; trivial
      ·rw [h] at hx0 ⊢; exact doD_srvs hdo hx0
    have hwt:=wf_turn (fr':=(fr.1,kindD k :: fr.2)) (fr:=fr) rfl hw2
    have hB:=doD_b hdo hM
    have hwl:(n.words.drop 1).length + 1=n.words.length:=by
     have:=List.length_pos_iff.2 hne
     rw [List.length_drop]; omega
    rw [hwl] at hB
    have hTT:=doD_t hdo (fun s hs=>hn s (List.mem_of_mem_drop hs)) hT
    have hKK:∀ x ∈ (fr.1,kindD k :: fr.2) :: rest,x.2.length ≤ K + 1:=by
     intro x hx
     rcases List.mem_cons.1 hx with hx | hx
     ·subst hx
      have:=hK fr (hsub fr (by simp))
      simp; omega
     ·have:=hK x (hsub x (by simp [hx])); omega
    cases hb:n.block with
    | false =>
     rw [hb] at e1
     have e1:(fr.1,kindD k :: fr.2) :: rest=st':=by simpa using e1
     subst e1
     exact ⟨hwt,hfr,by simp [hrl],hB,hTT,hKK⟩
    | true =>
     rw [hb] at e1
     have e1:(some k,[]) :: (fr.1,kindD k :: fr.2) :: rest=st':=by simpa using e1
     subst e1
     refine ⟨(wf_push (k:=k) (by rw [hbk,hb]) (show inD k=((fr.1,kindD k :: fr.2):Fr14).1 from f1) hwt).1,fun x hx=>?_,by simp [hrl],hB,hTT,fun x hx=>?_⟩
     ·rcases List.mem_cons.1 hx with hx | hx
      ·subst hx; exact hokf.2 (by rw [hbk,hb])
      ·exact hfr x hx
     ·rcases List.mem_cons.1 hx with hx | hx
      ·subst hx; exact Nat.zero_le _
      ·exact hKK x hx
  ·cases h
theorem Rf0.rd {w:World} {o:Ow} {p uc sc:Nat} {c:Cf14} {X:Xt} {U:List (Up14 × Hd)} {S:List (Sr14 × Hd × Hd)} {UA SA:Option Addr} (h:Rf0 w o p c X U UA uc S SA sc):CfR w c U UA S SA:=by
 refine ⟨h.hU,h.hS,h.ups.rd,h.srvs.rd,fun x hx=>?_,fun x hx=>?_,fun x hx=>?_⟩
 ·obtain ⟨i,hi⟩:=List.getElem?_of_mem hx; exact (h.peers i x hi).1.rd
 ·obtain ⟨i,hi⟩:=List.getElem?_of_mem hx; exact (h.names i x hi).1.rd
 ·obtain ⟨i,hi⟩:=List.getElem?_of_mem hx; exact (h.locs i x hi).1.rd
end Go.Proofs.YtmnohicojefhfaaGreatDoor
end
section
namespace Go.Proofs.YtmnohicojefhfaaGreatDoor
open Go.RowKit
theorem rparse_tree {l:List UInt8} (hl:l.length ≤ 65536) {n:Nat} (h:treeL l=.error n):parseC l=(cfZ,n,60):=by
 unfold parseC
 rw [if_neg (by omega),h]
theorem rparse_ok {l:List UInt8} (hl:l.length ≤ 65536) {ns:List Nd14} (h:treeL l=.ok ns):parseC l=match runD ([(none,[])],cf0) ns with
  | .error e=>(cfZ,e,60)
  | .ok st=>if goodC st.2 then (st.2,0,0) else (cfZ,0,60):=by
 unfold parseC
 rw [if_neg (by omega),h]
 rfl
def RdInv (ns:List Nd14) (st:List Fr14) (c:Cf14) (i:Nat):Prop:=runD ([(none,[])],cf0) ns=runD (st,c) (ns.drop i)∧WfR st∧OkR st c∧CfB (wsum (ns.take i)) c∧CfT c∧(∀ fr ∈ st,fr.2.length ≤ i)∧DeepOk (st.length - 1) (ns.drop i)
theorem RdInv.start {ns:List Nd14} (h:DeepOk 0 ns):RdInv ns [(none,[])] cf0 0 :=
 ⟨rfl,.inl rfl,fun fr hf=>by rw [List.mem_singleton] at hf; subst hf; trivial,cf0_b,cf0_t,fun fr hf=>by rw [List.mem_singleton] at hf; subst hf; exact Nat.le_refl _,h⟩
theorem RdInv.next {ns:List Nd14} {st st':List Fr14} {c c':Cf14} {i:Nat} (h:RdInv ns st c i) (hi:i < ns.length) (hs:stepD (st,c) ns[i]=.ok (st',c')) (hn:∀ s ∈ ns[i].words,s.length ≤ 65536) (hne:ns[i].words ≠ []):RdInv ns st' c' (i + 1):=by
 obtain ⟨h1,h2,h3,h4,h5,h6,h7⟩:=h
 rw [List.drop_eq_getElem_cons hi] at h1 h7
 have hpos:0 < st.length:=by
  have e:st.length=(st.map (·.1)).length:=by simp
  rcases h2 with h | h | h | h <;> rw [e,h] <;> decide
 obtain ⟨q1,q2,q3,q4,q5,q6⟩:=step_inv h2 h3 (by have:=h7.1; omega) hs h4 h5 hn hne h6
 refine ⟨?_,q1,q2,by rw [wsum_take ns i hi]; exact q4,q5,q6,?_⟩
 ·rw [h1]
  conv=>lhs; unfold runD
  rw [hs]
 ·have:=h7.2
  rw [q3]
  cases hb:ns[i].block with
  | false=>rw [hb] at this; simpa using this
  | true=>rw [hb] at this; simpa using this
theorem RdInv.dead {ns:List Nd14} {st:List Fr14} {c:Cf14} {i m:Nat} (h:RdInv ns st c i) (hi:i < ns.length) (hs:stepD (st,c) ns[i]=.error m):runD ([(none,[])],cf0) ns=.error m:=by
 rw [h.1,List.drop_eq_getElem_cons hi]
 unfold runD
 rw [hs]
theorem RdInv.end_ {ns:List Nd14} {st:List Fr14} {c:Cf14} {i:Nat} (h:RdInv ns st c i) (hi:¬ i < ns.length):runD ([(none,[])],cf0) ns=.ok (st,c):=by
 rw [h.1,List.drop_of_length_le (by omega)]
 rfl
theorem RdInv.deep {ns:List Nd14} {st:List Fr14} {c:Cf14} {i:Nat} (h:RdInv ns st c i) (hi:i < ns.length):ns[i].deep < st.length:=by
 have h7:=h.2.2.2.2.2.2
 rw [List.drop_eq_getElem_cons hi] at h7
 have:=h7.1
 have hpos:0 < st.length:=by
  have e:st.length=(st.map (·.1)).length:=by simp
  rcases h.2.1 with h | h | h | h <;> rw [e,h] <;> decide
 omega
theorem step_line {st:List Fr14} {c:Cf14} {n:Nd14} {m:Nat} (h:stepD (st,c) n=.error m):m=n.line:=by
 unfold stepD at h
 split at h
 ·cases h; rfl
 ·split at h
  ·cases h; rfl
  ·split at h
   ·split at h
    ·cases h; rfl
    ·cases h
   ·cases h; rfl
theorem rr_start (w:World) (gc p:Nat) (hg:w.heap[gc]?=some (.cells #[.slice none 0 0] 55 (0,0))) (hp:w.heap[p]?=some (.cells #[.int .i64 75,.int .i64 65536,.int .i64 0,.int .i64 1000,.slice none 0 0,.slice none 0 0,.slice none 0 0,.slice (some ⟨gc,0,none⟩) 1 1,.bool false] 67 (0,0))) (hne:gc ≠ p) :
  RrAt w (fun b=>if b=p then 1 else if b=gc then 5 else 0) p cf0 [(none,[])] false:=by
 refine ⟨[((none,0),[])],none,0,some ⟨gc,0,none⟩,1,⟨[],none,0,[],none,0,⟨if_pos rfl,hp,rfl,rfl,Sl.nil_ _ _ _ _ _,fun _=>rfl,Sl.nil_ _ _ _ _ _,fun _=>rfl,fun i x hx=>(by cases hx),fun i x hx=>(by cases hx),fun i x hx=>(by cases hx)⟩⟩,⟨Sl.nil_ _ _ _ _ _,fun _=>rfl,.inl rfl,⟨rfl,Nat.le_refl _,by simp [maxLen],.inr ⟨gc,0,rfl,?_,row_lt hg,fun j u hu=>?_,fun j hj=>?_⟩⟩,fun h=>(by cases h),fun i x hx=>?_,rfl⟩⟩
 ·rw [if_neg hne,if_pos rfl]
 ·cases j with
  | zero=>rw [Nat.zero_add]; have:=(row_facts hg 0 _ rfl).1; simpa [hdV] using hu ▸ this
  | succ j=>simp [hdV] at hu
 ·obtain rfl:j=0:=by omega
  have:=row_facts hg 0 _ rfl
  rw [Nat.zero_add]
  exact ⟨by rw [this.1]; rfl,this.2⟩
 ·have hi:=(List.getElem?_eq_some_iff.1 hx).1
  have hi0:i=0:=by simpa using hi
  subst hi0
  simp at hx
  subst hx
  exact ⟨Sl.nil_ _ _ _ _ _,fun _=>rfl⟩
theorem rParse_big (l:List UInt8) (hl:65536 < l.length) (hs:l.length ≤ 140737488355328) (w:World):Calls Tryz.prog 10 #[.string (str l)] w (Ret (IsPa (parseC l)) w):=by
 have HP:=Lib.hid (show parseC l=(cfZ,0,6) from if_pos hl)
 obtain ⟨s,hsl⟩:∃ s,s=str l:=⟨_,rfl⟩
 have hsz:s.size=l.length:=by rw [hsl,str_size]
 have d1:decide ((65536:Int) < (s.size:Int))=true:=decide_eq_true (by omega)
 have d2:(65536:Int) < (s.size:Int):=by omega
 rw [← hsl]
 clear hsl hsz
 go_enter Tryz.func10,Tryz.ntmps10
 go_wp2
 exact bodyPost_ret (v:=.tuple #[.agg zCf,.int .i64 0,.int .i64 6]) (by simp [results,Tryz.results10,go_sem,zCf]) rfl (Ret.mk (IsPa.bad _ 0 6 HP.out) (by (repeat first | exact Ex0 | assumption | refine Ex1 ?_ | refine Ex2 ?_ | refine Ex3 ?_ | refine Ex4 ?_ | refine Ex5 ?_)))
theorem store6 {w:World} {r:Nat} {x0 x1 x2 x3 x4 x5:Value} {T:TypeId} (h:w.heap[r]?=some (.cells #[x0,x1,x2,x3,x4,x5] T (0,0))) (y0 y1 y2 y3 y4 y5:Value) :
  ((((((w.setCell ⟨r,0,none⟩ y0).setCell ⟨r,1,none⟩ y1).setCell ⟨r,2,none⟩ y2).setCell ⟨r,3,none⟩ y3).setCell ⟨r,4,none⟩ y4).setCell ⟨r,5,none⟩ y5).heap[r]?=some (.cells #[y0,y1,y2,y3,y4,y5] T (0,0)):=by
 rw [row_set (row_set (row_set (row_set (row_set (row_set h 0 y0) 1 y1) 2 y2) 3 y3) 4 y4) 5 y5]
 simp
theorem ext6 {w0 w:World} {r:Nat} (h:Ext w0 w) (hr:w0.heap.size ≤ r) (y0 y1 y2 y3 y4 y5:Value):Ext w0 ((((((w.setCell ⟨r,0,none⟩ y0).setCell ⟨r,1,none⟩ y1).setCell ⟨r,2,none⟩ y2).setCell ⟨r,3,none⟩ y3).setCell ⟨r,4,none⟩ y4).setCell ⟨r,5,none⟩ y5) :=
 (((((h.st hr y0).st hr y1).st hr y2).st hr y3).st hr y4).st hr y5
theorem stp6 {w:World} {o:Ow} {r k:Nat} (hr:o r=k) (y0 y1 y2 y3 y4 y5:Value):Stp (fun i=>i=k) w o ((((((w.setCell ⟨r,0,none⟩ y0).setCell ⟨r,1,none⟩ y1).setCell ⟨r,2,none⟩ y2).setCell ⟨r,3,none⟩ y3).setCell ⟨r,4,none⟩ y4).setCell ⟨r,5,none⟩ y5) o :=
 (((((Stp.set r 0 y0 (fun _=>hr)).tr (Stp.set r 1 y1 (fun _=>hr))).tr (Stp.set r 2 y2 (fun _=>hr))).tr (Stp.set r 3 y3 (fun _=>hr))).tr (Stp.set r 4 y4 (fun _=>hr))).tr (Stp.set r 5 y5 (fun _=>hr))
theorem rParse_c (l:List UInt8) (hl:l.length ≤ 65536) (w:World):Calls Tryz.prog 10 #[.string (str l)] w (Ret (IsPa (parseC l)) w):=by
 have CN:=Lib.hid (fun w=>rnodes_c l hl w)
 have HPT:=Lib.hid (fun n=>@rparse_tree l hl n)
 have HPO:=Lib.hid (fun ns=>@rparse_ok l hl ns)
 have HTW:=Lib.hid (fun ns=>@tree_w l ns)
 have HTD:=Lib.hid (fun ns=>@tree_deep l ns)
 obtain ⟨s,hsl⟩:∃ s,s=str l:=⟨_,rfl⟩
 have hsz:s.size=l.length:=by rw [hsl,str_size]
 have d1:decide ((65536:Int) < (s.size:Int))=false:=decide_eq_false (by omega)
 have d2:¬ (65536:Int) < (s.size:Int):=by omega
 rw [← hsl] at CN ⊢
 obtain ⟨R,hR⟩:∃ r,r=parseC l:=⟨_,rfl⟩
 rw [← hR] at HPT HPO ⊢
 obtain ⟨TT,hTT⟩:∃ r,r=treeL l:=⟨_,rfl⟩
 rw [← hTT] at HPT HPO HTW HTD CN
 clear hsl hsz hR hTT
 go_enter Tryz.func10,Tryz.ntmps10
 go_upto_region 3 with (fail)
 obtain ⟨W1,hW1⟩:∃ W,W=w.alloc (.cells #[.int .i64 0,.int .i64 0,.int .i64 0,.int .i64 0,.slice none 0 0,.slice none 0 0] 32):=⟨_,rfl⟩
 have hx1:Ext w W1:=by rw [hW1]; exact (Ext.rfl' _).al _
 obtain ⟨r0,hr0⟩:∃ b,b=w.heap.size:=⟨_,rfl⟩
 have r1:W1.heap[r0]?=some (.cells #[.int .i64 0,.int .i64 0,.int .i64 0,.int .i64 0,.slice none 0 0,.slice none 0 0] 32 (0,0)):=by rw [hW1,hr0]; exact heap_alloc_new w _
 have hr0l:w.heap.size ≤ r0:=by omega
 rw [← hW1,← hr0]
 have HROW1:=Lib.hid r1
 clear hW1 hr0 r1
 go_upto_region 4 with (go_at_call 24; refine (CN.out _).mono ?_; rintro e' w2 ⟨v,rfl,hN,hx2⟩; rcases hN with ⟨e,hTe,rfl⟩ | ⟨N,NA,nc,hTo,rfl,hNr,hNw⟩)
 ·have HRE:Hid (R=(cfZ,e,60)):=Lib.hid (HPT.out e hTe)
  have r2:=(hx2.block r0 (row_lt HROW1.out)).trans HROW1.out
  have e0:(0:Int) ≤ (e:Int):=by omega
  have hxw:=hx1.tr hx2
  clear hTe
  obtain ⟨z0a,z0b⟩:=row_facts r2 0 _ rfl
  obtain ⟨z1a,z1b⟩:=row_facts r2 1 _ rfl
  obtain ⟨z2a,z2b⟩:=row_facts r2 2 _ rfl
  obtain ⟨z3a,z3b⟩:=row_facts r2 3 _ rfl
  obtain ⟨z4a,z4b⟩:=row_facts r2 4 _ rfl
  obtain ⟨z5a,z5b⟩:=row_facts r2 5 _ rfl
  go_wp2
  have r9:=store6 r2 (.int .i64 0) (.int .i64 0) (.int .i64 0) (.int .i64 0) (.slice none 0 0) (.slice none 0 0)
  have hx9:=ext6 hxw hr0l (.int .i64 0) (.int .i64 0) (.int .i64 0) (.int .i64 0) (.slice none 0 0) (.slice none 0 0)
  obtain ⟨W9,hW9⟩:∃ W,W=((((((w2).setCell ⟨r0,0,none⟩ (.int .i64 0)).setCell ⟨r0,1,none⟩ (.int .i64 0)).setCell ⟨r0,2,none⟩ (.int .i64 0)).setCell ⟨r0,3,none⟩ (.int .i64 0)).setCell ⟨r0,4,none⟩ (.slice none 0 0)).setCell ⟨r0,5,none⟩ (.slice none 0 0):=⟨_,rfl⟩
  rw [← hW9] at r9 hx9 ⊢
  clear hW9 z0a z0b z1a z1b z2a z2b z3a z3b z4a z4b z5a z5b
  have g0:=(row_facts r9 0 _ rfl).1
  have g1:=(row_facts r9 1 _ rfl).1
  have g2:=(row_facts r9 2 _ rfl).1
  have g3:=(row_facts r9 3 _ rfl).1
  have g4:=(row_facts r9 4 _ rfl).1
  have g5:=(row_facts r9 5 _ rfl).1
  exact bodyPost_ret (v:=.tuple #[.agg zCf,.int .i64 ((e:Nat):Int),.int .i64 60]) (by simp [results,Tryz.results10,go_sem,g0,g1,g2,g3,g4,g5,zCf]) rfl (Ret.mk (IsPa.bad _ e 60 (HRE).out) hx9)
 ·have HRO:=Lib.hid (HPO.out _ hTo)
  have htw:=HTW.out _ hTo
  have htd:=HTD.out _ hTo
  have hxw:=hx1.tr hx2
  go_upto_region 7 with (fail)
  obtain ⟨gc,hgc⟩:∃ b,b=w2.heap.size:=⟨_,rfl⟩
  obtain ⟨W4,hW4⟩:∃ W,W=w2.alloc (.cells #[.slice none 0 0] 55):=⟨_,rfl⟩
  have hx4:Ext w2 W4:=by rw [hW4]; exact (Ext.rfl' _).al _
  have b4:W4.heap[gc]?=some (.cells #[.slice none 0 0] 55 (0,0)):=by rw [hW4,hgc]; exact heap_alloc_new w2 _
  have hz4:W4.heap.size=gc + 1:=by rw [hW4,hgc]; simp
  rw [← hW4]
  try rw [← hgc]
  obtain ⟨p,hp⟩:∃ b,b=gc + 1:=⟨_,rfl⟩
  obtain ⟨W5,hW5⟩:∃ W,W=W4.alloc (.cells #[.int .i64 75,.int .i64 65536,.int .i64 0,.int .i64 1000,.slice none 0 0,.slice none 0 0,.slice none 0 0,.slice (some ⟨gc,0,none⟩) 1 1,.bool false] 67):=⟨_,rfl⟩
  have hx5:Ext W4 W5:=by rw [hW5]; exact (Ext.rfl' _).al _
  have b5:W5.heap[p]?=some (.cells #[.int .i64 75,.int .i64 65536,.int .i64 0,.int .i64 1000,.slice none 0 0,.slice none 0 0,.slice none 0 0,.slice (some ⟨gc,0,none⟩) 1 1,.bool false] 67 (0,0)):=by rw [hW5,hp,← hz4]; exact heap_alloc_new W4 _
  rw [← hW5,← hp]
  obtain ⟨o5,ho5⟩:∃ o5:Ow,o5=fun b=>if b=p then 1 else if b=gc then 5 else 0:=⟨_,rfl⟩
  have hrr:=rr_start W5 gc p ((hx5.block gc (row_lt b4)).trans b4) b5 (by omega)
  rw [← ho5] at hrr
  have HRR:=Lib.hid hrr
  have h2z:∀ b,b < w2.heap.size → o5 b=0:=fun b hb=>by rw [ho5]; dsimp only; rw [if_neg (by omega),if_neg (by omega)]
  have hx25:Ext w2 W5:=hx4.tr hx5
  have HNZ:Hid (RdZ W5 o5 NA (N.flatMap ndV)):=Lib.hid ((rdz_lt hNr h2z).stp (K:=fun _=>False) (Stp.ext hx25) (fun x=>x))
  have HWZ:Hid (∀ x ∈ N,RdZ W5 o5 x.2.1 (strC x.1.words)∧x.1.words.length ≤ x.2.2):=Lib.hid (fun x hx=>⟨(rdz_lt (hNw x hx).1 h2z).stp (K:=fun _=>False) (Stp.ext hx25) (fun x=>x),(hNw x hx).2⟩)
  have hrl0:r0 < w2.heap.size:=Nat.lt_of_lt_of_le (row_lt HROW1.out) hx2.size
  have HROW5:=Lib.hid ((hx25.block r0 hrl0).trans ((hx2.block r0 (row_lt HROW1.out)).trans HROW1.out))
  have HO0:Hid (o5 r0=0):=Lib.hid (h2z r0 hrl0)
  have HXW5:=Lib.hid (hxw.tr hx25)
  have HKW:Hid (∀ b,b < w.heap.size → ¬ KB (o5 b)):=Lib.hid (fun b hb=>by rw [h2z b (by have:=hxw.size; omega)]; unfold KB; omega)
  obtain ⟨ns,hns⟩:∃ ns,ns=N.map (·.1):=⟨_,rfl⟩
  rw [← hns] at HRO htw htd
  have hNl:N.length=ns.length:=by rw [hns,List.length_map]
  have hlw:=len_wsum htd.2
  have hNb:N.length ≤ 65536:=by have:=htw.1; omega
  have HNS:=Lib.hid hns
  have HTWW:=Lib.hid htw
  have HTDD:=Lib.hid htd
  have HI0:=Lib.hid (RdInv.start htd.1)
  have HST0:Hid (Stp KB W5 o5 W5 o5):=Lib.hid Stp.rfl'
  clear hW4 hW5 hgc hp hrr h2z hx25 hNr hNw hrl0 hTo hns htw htd hlw hx1 hx2 hx4 hx5 b4 b5 hz4 hxw HROW1 HTW HTD HPO HPT CN ho5
  have HNL:=Lib.hid hNl
  clear hNl
  go_wp2
  go_loopw [8] (fun v8 wr=>∃ (i:Nat) (st:List Fr14) (c:Cf14) (o:Ow),v8=.int .i64 (i:Int)∧i ≤ N.length∧Hid (RdInv ns st c i)∧Hid (RrAt wr o p c st false)∧Hid (Stp KB W5 o5 wr o)) (fun v8 _=>N.length - (intOf v8).toNat)
  case atStart=>exact ⟨0,_,_,_,rfl,Nat.zero_le _,HI0,HRR,HST0⟩
  case round =>
   clear HI0 HRR HST0
   obtain ⟨i,st,c,o,rfl,hi,HI,HR,HS⟩:=hrel
   obtain ⟨W,rfl⟩:∃ W,W=wr:=⟨_,rfl⟩
   have HROW:Hid (W.heap[r0]?=some (.cells #[.int .i64 0,.int .i64 0,.int .i64 0,.int .i64 0,.slice none 0 0,.slice none 0 0] 32 (0,0))):=Lib.hid ((HS.out.keep r0 (row_lt HROW5.out) (by rw [HO0.out]; unfold KB; omega)).trans HROW5.out)
   have HOR:Hid (o r0=0):=Lib.hid ((HS.out.own r0 (row_lt HROW5.out)).trans HO0.out)
   have HXW:Hid (Ext w W):=Lib.hid (ext_stp HXW5.out HS.out HKW.out)
   by_cases hlt:i < N.length
   ·obtain ⟨nb,ng,rfl,_,hc⟩:=(HNZ.out.stp HS.out (by unfold KB; omega)).1.row (sz:=4) ndV_len (by omega) hlt
    have HNC:=Lib.hid (fun w' o' (s:Stp KB W5 o5 w' o')=>(HNZ.out.stp s (by unfold KB; omega)).1.row (sz:=4) ndV_len (by omega) hlt)
    have i0:(0:Int) ≤ (i:Int):=by omega
    have i1:(i:Int) < (N.length:Int):=by omega
    have hkk:IntKind.i64.wrap ((i:Int) + 1)=((i + 1:Nat):Int):=by rw [IntKind.wrap_i64]; omega
    have hin:i < ns.length:=by rw [← HNL.out]; exact hlt
    have hni:ns[i]=N[i].1:=by simp only [HNS.out,List.getElem_map]
    have hwz:=HWZ.out N[i] (List.getElem_mem hlt)
    have hmem:ns[i] ∈ ns:=List.getElem_mem hin
    have hne:=HTDD.out.2 _ hmem
    have hwl:=HTWW.out.2 _ hmem
    have hws:=wsum_mem hmem
    have hdp:=HI.out.deep hin
    have hnx:=fun st' c' (hs:stepD (st,c) ns[i]=.ok (st',c'))=>HI.out.next hin hs (fun s hs=>by have:=hwl s hs; omega) hne
    have hdd:=fun m (hs:stepD (st,c) ns[i]=.error m)=>HI.out.dead hin hs
    rw [hni] at hne hwl hws hdp hnx hdd
    have hww:=HTWW.out.1
    obtain ⟨y,hy⟩:∃ y,y=N[i]:=⟨_,rfl⟩
    rw [← hy] at hc hwz hne hwl hws hdp hnx hdd HNC
    have m0:W.cell? ⟨nb,ng + i * 4,none⟩=some (.slice y.2.1 y.1.words.length y.2.2):=hc 0 _ rfl
    have m1:W.cell? ⟨nb,ng + i * 4 + 1,none⟩=some (.int .i64 (y.1.deep:Int)):=hc 1 _ rfl
    have m2:W.cell? ⟨nb,ng + i * 4 + 2,none⟩=some (.bool y.1.block):=hc 2 _ rfl
    have m3:W.cell? ⟨nb,ng + i * 4 + 3,none⟩=some (.int .i64 (y.1.line:Int)):=hc 3 _ rfl
    obtain ⟨w0,ws,hw0⟩:∃ w0 ws,y.1.words=w0 :: ws:=by
     cases h:y.1.words with
     | nil=>exact absurd h hne
     | cons a b=>exact ⟨a,b,rfl⟩
    obtain ⟨q1,q2,q3,q4,q5,q6,q7⟩:=HI.out
    have hwsl:ws.length ≤ 65536:=by rw [hw0,List.length_cons] at hws; omega
    have CND:=Lib.hid (rnode_c W o p c st HR.out q2 q3 (q4.mono (by have:=wsum_le ns i; omega)) (fun fr hf=>by have:=q6 fr hf; omega) y.1 hdp (fun s hs=>by have:=hwl s hs; omega) w0 ws hw0 hwsl y.2.1 y.2.2 (hwz.1.stp HS.out (by unfold KB; omega)) hwz.2)
    unfold ndA at CND
    obtain ⟨Q,hQ⟩:∃ Q,Q=stepD (st,c) y.1:=⟨_,rfl⟩
    rw [← hQ] at CND hnx hdd
    have HNX:=Lib.hid hnx
    have HDDD:=Lib.hid hdd
    have HQQ:=Lib.hid hQ
    clear hwsl hc hy hw0 q1 q2 q3 q4 q5 q6 q7 hwz hne hwl hws hdp hnx hdd hQ hni hmem hww hin
    cases Q with
    | error m =>
     have hm:=step_line HQQ.out.symm
     have HRE:Hid (R=(cfZ,y.1.line,60)):=Lib.hid (by rw [HRO.out,HDDD.out m rfl,hm])
     clear hm HRO
     go_upto_region 11 with (go_at_call 25; refine CND.out.mono ?_; rintro e' W6 ⟨rfl,o6,st6⟩; have ST6:=Lib.hid st6; clear st6)
     clear m0 m1 m2 m3
     have r6:=(ST6.out.keep r0 (row_lt HROW.out) (by rw [HOR.out]; unfold KB; omega)).trans HROW.out
     have hx6:Ext w W6:=ext_stp HXW5.out (HS.out.tr ST6.out) HKW.out
     obtain ⟨nb2,ng2,e2,_,hc2⟩:=HNC.out W6 o6 (HS.out.tr ST6.out)
     cases e2
     have m3:W6.cell? ⟨nb,ng + i * 4 + 3,none⟩=some (.int .i64 (y.1.line:Int)):=hc2 3 _ rfl
     have hnb:nb ≠ r0:=ne_row r6 (hc2 2 _ rfl) (fun j=>by rcases j with _ | _ | _ | _ | _ | _ | j <;> simp)
     have hnb1:¬ nb=r0:=hnb
     have hnb2:¬ r0=nb:=fun e=>hnb e.symm
     clear hc2 hnb
     obtain ⟨z0a,z0b⟩:=row_facts r6 0 _ rfl
     obtain ⟨z1a,z1b⟩:=row_facts r6 1 _ rfl
     obtain ⟨z2a,z2b⟩:=row_facts r6 2 _ rfl
     obtain ⟨z3a,z3b⟩:=row_facts r6 3 _ rfl
     obtain ⟨z4a,z4b⟩:=row_facts r6 4 _ rfl
     obtain ⟨z5a,z5b⟩:=row_facts r6 5 _ rfl
     go_region
     go_wp2
     obtain ⟨W7,hW7⟩:∃ W7,W7=((((((W6.setCell ⟨r0,0,none⟩ (.int .i64 0)).setCell ⟨r0,1,none⟩ (.int .i64 0)).setCell ⟨r0,2,none⟩ (.int .i64 0)).setCell ⟨r0,3,none⟩ (.int .i64 0)).setCell ⟨r0,4,none⟩ (.slice none 0 0)).setCell ⟨r0,5,none⟩ (.slice none 0 0)):=⟨_,rfl⟩
     have r9:=store6 r6 (.int .i64 0) (.int .i64 0) (.int .i64 0) (.int .i64 0) (.slice none 0 0) (.slice none 0 0)
     have hx9:=ext6 hx6 hr0l (.int .i64 0) (.int .i64 0) (.int .i64 0) (.int .i64 0) (.slice none 0 0) (.slice none 0 0)
     rw [← hW7] at r9 hx9 ⊢
     clear hW7 z0a z0b z1a z1b z2a z2b z3a z3b z4a z4b z5a z5b
     have g0:=(row_facts r9 0 _ rfl).1
     have g1:=(row_facts r9 1 _ rfl).1
     have g2:=(row_facts r9 2 _ rfl).1
     have g3:=(row_facts r9 3 _ rfl).1
     have g4:=(row_facts r9 4 _ rfl).1
     have g5:=(row_facts r9 5 _ rfl).1
     exact bodyPost_ret (v:=.tuple #[.agg zCf,.int .i64 (y.1.line:Int),.int .i64 60]) (by simp [results,Tryz.results10,go_sem,g0,g1,g2,g3,g4,g5,zCf]) rfl (Ret.mk (IsPa.bad _ _ 60 HRE.out) (by (repeat first | exact Ex0 | assumption | refine Ex1 ?_ | refine Ex2 ?_ | refine Ex3 ?_ | refine Ex4 ?_ | refine Ex5 ?_)))
    | ok s2 =>
     obtain ⟨st',c'⟩:=s2
     go_wp2_with (go_at_call 25; refine CND.out.mono ?_; rintro e' W6 ⟨rfl,o6,st6,hr6⟩; have ST6:=Lib.hid st6; have HR6:=Lib.hid hr6; clear st6 hr6)
     go_roundw
     case rel=>exact ⟨i + 1,st',c',o6,by simp,by omega,Lib.hid (HNX.out st' c' rfl),HR6,Lib.hid (HS.out.tr ST6.out)⟩
     case measure=>simp [intOf]; omega
   ·have i1:¬ (i:Int) < (N.length:Int):=by omega
    have HRF:=Lib.hid (HI.out.end_ (by rw [← HNL.out]; exact hlt))
    have HRG:Hid (R=if goodC c then (c,0,0) else (cfZ,0,60)):=Lib.hid (by rw [HRO.out,HRF.out])
    have HCB:Hid (CfB 65536 c):=Lib.hid (HI.out.2.2.2.1.mono (by have:=wsum_le ns i; have:=HTWW.out.1; omega))
    have HCT:=Lib.hid HI.out.2.2.2.2.1
    clear HRF HRO HI
    obtain ⟨C,IA,ic,CA,cc,⟨U,UA,uc,S,SA,sc,hR⟩,hA⟩:=HR.out
    have CG:=Lib.hid (fun w' (hx:Ext W w')=>rgood_c c U UA uc S SA sc w' (hR.rd.ext hx) (CfS.of HCB.out HCT.out))
    have HRW:=Lib.hid hR
    obtain ⟨G,hG⟩:∃ g,g=goodC c:=⟨_,rfl⟩
    rw [← hG] at CG HRG
    unfold cfV at CG
    obtain ⟨p0,_⟩:=row_facts hR.row 0 (.int .i64 c.keep) rfl
    obtain ⟨p1,_⟩:=row_facts hR.row 1 (.int .i64 c.body) rfl
    obtain ⟨p2,_⟩:=row_facts hR.row 2 (.int .i64 c.store) rfl
    obtain ⟨p3,_⟩:=row_facts hR.row 3 (.int .i64 c.conns) rfl
    obtain ⟨p4,_⟩:=row_facts hR.row 4 (.slice UA c.ups.length uc) rfl
    obtain ⟨p5,_⟩:=row_facts hR.row 5 (.slice SA c.srvs.length sc) rfl
    clear hG hR hA HR
    cases G with
    | false =>
     have HRE:Hid (R=(cfZ,0,60)):=Lib.hid (by rw [HRG.out]; rfl)
     go_upto_region 13 with (go_at_call 26; refine (CG.out _ (by (repeat first | exact Ex0 | assumption | refine Ex1 ?_ | refine Ex2 ?_ | refine Ex3 ?_ | refine Ex4 ?_ | refine Ex5 ?_))).mono ?_; rintro e' W6 ⟨rfl,hx6⟩)
     clear p0 p1 p2 p3 p4 p5
     have r6:=(hx6.block r0 (row_lt HROW.out)).trans HROW.out
     have hxw6:=HXW.out.tr hx6
     obtain ⟨z0a,z0b⟩:=row_facts r6 0 _ rfl
     obtain ⟨z1a,z1b⟩:=row_facts r6 1 _ rfl
     obtain ⟨z2a,z2b⟩:=row_facts r6 2 _ rfl
     obtain ⟨z3a,z3b⟩:=row_facts r6 3 _ rfl
     obtain ⟨z4a,z4b⟩:=row_facts r6 4 _ rfl
     obtain ⟨z5a,z5b⟩:=row_facts r6 5 _ rfl
     go_wp2
     have r9:=store6 r6 (.int .i64 0) (.int .i64 0) (.int .i64 0) (.int .i64 0) (.slice none 0 0) (.slice none 0 0)
     have hx9:=ext6 hxw6 hr0l (.int .i64 0) (.int .i64 0) (.int .i64 0) (.int .i64 0) (.slice none 0 0) (.slice none 0 0)
     obtain ⟨W9,hW9⟩:∃ W,W=((((((W6).setCell ⟨r0,0,none⟩ (.int .i64 0)).setCell ⟨r0,1,none⟩ (.int .i64 0)).setCell ⟨r0,2,none⟩ (.int .i64 0)).setCell ⟨r0,3,none⟩ (.int .i64 0)).setCell ⟨r0,4,none⟩ (.slice none 0 0)).setCell ⟨r0,5,none⟩ (.slice none 0 0):=⟨_,rfl⟩
     rw [← hW9] at r9 hx9 ⊢
     clear hW9 z0a z0b z1a z1b z2a z2b z3a z3b z4a z4b z5a z5b
     have g0:=(row_facts r9 0 _ rfl).1
     have g1:=(row_facts r9 1 _ rfl).1
     have g2:=(row_facts r9 2 _ rfl).1
     have g3:=(row_facts r9 3 _ rfl).1
     have g4:=(row_facts r9 4 _ rfl).1
     have g5:=(row_facts r9 5 _ rfl).1
     exact bodyPost_ret (v:=.tuple #[.agg zCf,.int .i64 ((0:Nat):Int),.int .i64 60]) (by simp [results,Tryz.results10,go_sem,g0,g1,g2,g3,g4,g5,zCf]) rfl (Ret.mk (IsPa.bad _ 0 60 (HRE).out) hx9)
    | true =>
     have HRE:Hid (R=(c,0,0)):=Lib.hid (by rw [HRG.out]; rfl)
     go_upto_region 14 with (go_at_call 26; refine (CG.out _ (by (repeat first | exact Ex0 | assumption | refine Ex1 ?_ | refine Ex2 ?_ | refine Ex3 ?_ | refine Ex4 ?_ | refine Ex5 ?_))).mono ?_; rintro e' W6 ⟨rfl,hx6⟩)
     have r6:=(hx6.block r0 (row_lt HROW.out)).trans HROW.out
     have hxw6:=HXW.out.tr hx6
     have p0:=(hx6.cell (lt_of_cell p0)).trans p0
     have p1:=(hx6.cell (lt_of_cell p1)).trans p1
     have p2:=(hx6.cell (lt_of_cell p2)).trans p2
     have p3:=(hx6.cell (lt_of_cell p3)).trans p3
     have p4:=(hx6.cell (lt_of_cell p4)).trans p4
     have p5:=(hx6.cell (lt_of_cell p5)).trans p5
     obtain ⟨z0a,z0b⟩:=row_facts r6 0 _ rfl
     obtain ⟨z1a,z1b⟩:=row_facts r6 1 _ rfl
     obtain ⟨z2a,z2b⟩:=row_facts r6 2 _ rfl
     obtain ⟨z3a,z3b⟩:=row_facts r6 3 _ rfl
     obtain ⟨z4a,z4b⟩:=row_facts r6 4 _ rfl
     obtain ⟨z5a,z5b⟩:=row_facts r6 5 _ rfl
     go_wp2
     have r9:=store6 r6 (.int .i64 c.keep) (.int .i64 c.body) (.int .i64 c.store) (.int .i64 c.conns) (.slice UA c.ups.length uc) (.slice SA c.srvs.length sc)
     have hx9:=ext6 hxw6 hr0l (.int .i64 c.keep) (.int .i64 c.body) (.int .i64 c.store) (.int .i64 c.conns) (.slice UA c.ups.length uc) (.slice SA c.srvs.length sc)
     have s9:=stp6 (w:=W6) (o:=o) HOR.out (.int .i64 c.keep) (.int .i64 c.body) (.int .i64 c.store) (.int .i64 c.conns) (.slice UA c.ups.length uc) (.slice SA c.srvs.length sc)
     obtain ⟨W9,hW9⟩:∃ W,W=((((((W6.setCell ⟨r0,0,none⟩ (.int .i64 c.keep)).setCell ⟨r0,1,none⟩ (.int .i64 c.body)).setCell ⟨r0,2,none⟩ (.int .i64 c.store)).setCell ⟨r0,3,none⟩ (.int .i64 c.conns)).setCell ⟨r0,4,none⟩ (.slice UA c.ups.length uc)).setCell ⟨r0,5,none⟩ (.slice SA c.srvs.length sc)):=⟨_,rfl⟩
     rw [← hW9] at r9 hx9 s9 ⊢
     have HR9:=Lib.hid ((HRW.out.ext hx6).stpC s9 (fun i hi=>by unfold KCr at hi; omega)).rd
     clear hW9 z0a z0b z1a z1b z2a z2b z3a z3b z4a z4b z5a z5b p0 p1 p2 p3 p4 p5 s9
     have g0:=(row_facts r9 0 _ rfl).1
     have g1:=(row_facts r9 1 _ rfl).1
     have g2:=(row_facts r9 2 _ rfl).1
     have g3:=(row_facts r9 3 _ rfl).1
     have g4:=(row_facts r9 4 _ rfl).1
     have g5:=(row_facts r9 5 _ rfl).1
     exact bodyPost_ret (v:=.tuple #[cfV c UA uc SA sc,.int .i64 0,.int .i64 0]) (by simp [results,Tryz.results10,go_sem,g0,g1,g2,g3,g4,g5,cfV]) rfl (Ret.mk (by rw [HRE.out]; exact ⟨_,rfl,⟨U,UA,uc,S,SA,sc,rfl,HR9.out⟩,HCB.out,HCT.out⟩) hx9)
end Go.Proofs.YtmnohicojefhfaaGreatDoor
end
section
namespace Go.Proofs.YtmnohicojefhfaaGreatDoor
open Go.RowKit
theorem ows_ofB {c:Cf14} (h:CfB 65536 c):OwS c:=⟨by have:=h.ups; omega,by have:=h.srvs; omega,fun u hu=>by have:=h.peers u hu; omega,fun s hs=>by have:=h.names s hs; omega,fun s hs=>by have:=h.locs s hs; omega⟩
theorem cParse_e (l:List UInt8) (hs:l.length ≤ 140737488355328) (w:World) (hE:ErrR w):Calls Tryz.prog 9 #[.string (str l)] w (Ret (IsPa (parseC l)) w):=by
 by_cases h:l.length ≤ 65536
 ·exact cParse_c l h w hE
 ·exact cParse_big l (by omega) hs w
theorem rParse_e (l:List UInt8) (hs:l.length ≤ 140737488355328) (w:World):Calls Tryz.prog 10 #[.string (str l)] w (Ret (IsPa (parseC l)) w):=by
 by_cases h:l.length ≤ 65536
 ·exact rParse_c l h w
 ·exact rParse_big l (by omega) hs w
theorem ConfigParses_w (l:List UInt8) (hs:l.length ≤ 140737488355328) (w:World) (hE:ErrR w):Calls Tryz.prog 3 #[.string (str l)] w (Gives (.bool true) w):=by
 have CK:=Lib.hid (fun w' (hx:Ext w w')=>knows14_c w' (hE.ext hx))
 have CP:=Lib.hid (cParse_e l hs w hE)
 have CR:=Lib.hid (fun w'=>rParse_e l hs w')
 obtain ⟨s,hsl⟩:∃ s,s=str l:=⟨_,rfl⟩
 rw [← hsl] at CP CR ⊢
 obtain ⟨R,hR⟩:∃ r,r=parseC l:=⟨_,rfl⟩
 rw [← hR] at CP CR
 clear hsl hR hE hs
 obtain ⟨c,n,e⟩:=R
 go_enter Tryz.func3,Tryz.ntmps3
 go_upto_region 2 with (go_at_call 9; refine CP.out.mono ?_; rintro e' w1 ⟨v,rfl,⟨cv,rfl,⟨U1,UA1,uc1,S1,SA1,sc1,rfl,hR1⟩,hB,hT⟩,hx1⟩; have HR1:=Lib.hid hR1; have HB:Hid (CfB 65536 c):=Lib.hid hB; clear hR1 hB hT; dsimp only [cfV])
 have a0:=fun j u=>new_at w1 #[.int .i64 c.keep,.int .i64 c.body,.int .i64 c.store,.int .i64 c.conns,.slice UA1 c.ups.length uc1,.slice SA1 c.srvs.length sc1] 25 j u
 obtain ⟨W2,hW2⟩:∃ W,W=w1.alloc (.cells #[.int .i64 c.keep,.int .i64 c.body,.int .i64 c.store,.int .i64 c.conns,.slice UA1 c.ups.length uc1,.slice SA1 c.srvs.length sc1] 25):=⟨_,rfl⟩
 have hx2:Ext w1 W2:=by rw [hW2]; exact (Ext.rfl' _).al _
 have hxw2:Ext w W2:=hx1.tr hx2
 obtain ⟨g1,hg1⟩:∃ g,g=w1.heap.size:=⟨_,rfl⟩
 rw [← hW2,← hg1] at a0 ⊢
 clear hW2 hg1
 have A0:=Lib.hid (fun wx (hx:Ext W2 wx) j u h=>(hx.cell (lt_of_cell (a0 j u h))).trans (a0 j u h))
 have HR2:=Lib.hid (HR1.out.ext hx2)
 clear a0 hx1 hx2
 go_upto_region 3 with (go_at_call 10; refine (CR.out _).mono ?_; rintro e' w3 ⟨v,rfl,⟨cv,rfl,⟨U3,UA3,uc3,S3,SA3,sc3,rfl,hR3⟩,_,_⟩,hx3⟩; have HR3:=Lib.hid hR3; clear hR3; dsimp only [cfV])
 have b0:=fun j u=>new_at w3 #[.int .i64 c.keep,.int .i64 c.body,.int .i64 c.store,.int .i64 c.conns,.slice UA3 c.ups.length uc3,.slice SA3 c.srvs.length sc3] 32 j u
 obtain ⟨W4,hW4⟩:∃ W,W=w3.alloc (.cells #[.int .i64 c.keep,.int .i64 c.body,.int .i64 c.store,.int .i64 c.conns,.slice UA3 c.ups.length uc3,.slice SA3 c.srvs.length sc3] 32):=⟨_,rfl⟩
 have hx4:Ext w3 W4:=by rw [hW4]; exact (Ext.rfl' _).al _
 have hx24:Ext W2 W4:=hx3.tr hx4
 have hxw4:Ext w W4:=hxw2.tr hx24
 obtain ⟨g3,hg3⟩:∃ g,g=w3.heap.size:=⟨_,rfl⟩
 rw [← hW4,← hg3] at b0 ⊢
 clear hW4 hg3
 have B0:=Lib.hid (fun wx (hx:Ext W4 wx) j u h=>(hx.cell (lt_of_cell (b0 j u h))).trans (b0 j u h))
 have HR4:=Lib.hid (HR3.out.ext hx4)
 have HR24:=Lib.hid (HR2.out.ext hx24)
 have CO:=Lib.hid (fun w' (hx:Ext W4 w')=>cOwn_c c U3 UA3 uc3 S3 SA3 sc3 w' (HR4.out.ext hx) (ows_ofB HB.out))
 have CS:=Lib.hid (fun U2 UA2 uc2 S2 SA2 sc2 w' (hx:Ext W4 w') (h2:CfR w' c U2 UA2 S2 SA2)=>cSame_c c U1 U2 UA1 UA2 uc1 uc2 S1 S2 SA1 SA2 sc1 sc2 w' (HR24.out.ext hx) h2 (by have:=HB.out.ups; omega) (by have:=HB.out.srvs; omega) (fun u hu=>by have:=HB.out.peers u hu; omega) (fun u hu=>by have:=HB.out.names u hu; omega) (fun u hu=>by have:=HB.out.locs u hu; omega))
 unfold cfV at CO CS
 have hks:Hid (∀ w',Ext W4 w' → (w'.cell? ⟨g1,0,none⟩=some (.int .i64 c.keep)∧w'.cell? ⟨g1,1,none⟩=some (.int .i64 c.body)∧w'.cell? ⟨g1,2,none⟩=some (.int .i64 c.store)∧w'.cell? ⟨g1,3,none⟩=some (.int .i64 c.conns)∧w'.cell? ⟨g1,4,none⟩=some (.slice UA1 c.ups.length uc1)∧w'.cell? ⟨g1,5,none⟩=some (.slice SA1 c.srvs.length sc1) ∧
   w'.cell? ⟨g3,0,none⟩=some (.int .i64 c.keep)∧w'.cell? ⟨g3,1,none⟩=some (.int .i64 c.body)∧w'.cell? ⟨g3,2,none⟩=some (.int .i64 c.store)∧w'.cell? ⟨g3,3,none⟩=some (.int .i64 c.conns)∧w'.cell? ⟨g3,4,none⟩=some (.slice UA3 c.ups.length uc3)∧w'.cell? ⟨g3,5,none⟩=some (.slice SA3 c.srvs.length sc3))):=Lib.hid (fun w' e =>
  ⟨A0.out _ (hx24.tr e) 0 _ rfl,A0.out _ (hx24.tr e) 1 _ rfl,A0.out _ (hx24.tr e) 2 _ rfl,A0.out _ (hx24.tr e) 3 _ rfl,A0.out _ (hx24.tr e) 4 _ rfl,A0.out _ (hx24.tr e) 5 _ rfl,B0.out _ e 0 _ rfl,B0.out _ e 1 _ rfl,B0.out _ e 2 _ rfl,B0.out _ e 3 _ rfl,B0.out _ e 4 _ rfl,B0.out _ e 5 _ rfl⟩)
 clear b0 hx3 hx4 hx24 hxw2
 go_region_held3 (fun w'=>w'.cell? ⟨g1,0,none⟩=some (.int .i64 c.keep)∧w'.cell? ⟨g1,1,none⟩=some (.int .i64 c.body)∧w'.cell? ⟨g1,2,none⟩=some (.int .i64 c.store)∧w'.cell? ⟨g1,3,none⟩=some (.int .i64 c.conns)∧w'.cell? ⟨g1,4,none⟩=some (.slice UA1 c.ups.length uc1)∧w'.cell? ⟨g1,5,none⟩=some (.slice SA1 c.srvs.length sc1) ∧
   w'.cell? ⟨g3,0,none⟩=some (.int .i64 c.keep)∧w'.cell? ⟨g3,1,none⟩=some (.int .i64 c.body)∧w'.cell? ⟨g3,2,none⟩=some (.int .i64 c.store)∧w'.cell? ⟨g3,3,none⟩=some (.int .i64 c.conns)∧w'.cell? ⟨g3,4,none⟩=some (.slice UA3 c.ups.length uc3)∧w'.cell? ⟨g3,5,none⟩=some (.slice SA3 c.srvs.length sc3)) (exact hks.out _ (by (repeat first | exact Ex0 | assumption | refine Ex1 ?_ | refine Ex2 ?_ | refine Ex3 ?_ | refine Ex4 ?_ | refine Ex5 ?_))) (first
  | (go_at_call 13; refine (num14_c _ _).mono ?_; rintro e' w7 ⟨rfl,rfl⟩)
  | (go_at_call 12; refine (CO.out _ (by (repeat first | exact Ex0 | assumption | refine Ex1 ?_ | refine Ex2 ?_ | refine Ex3 ?_ | refine Ex4 ?_ | refine Ex5 ?_))).mono ?_; rintro e' w8 ⟨v,rfl,⟨U5,UA5,uc5,S5,SA5,sc5,rfl,hR5⟩,hx8⟩; have HR5:=Lib.hid hR5; clear hR5; dsimp only [cfV])
  | (go_at_call 11; refine (CS.out U5 UA5 uc5 S5 SA5 sc5 _ (by (repeat first | exact Ex0 | assumption | refine Ex1 ?_ | refine Ex2 ?_ | refine Ex3 ?_ | refine Ex4 ?_ | refine Ex5 ?_)) (HR5.out.ext (by (repeat first | exact Ex0 | assumption | refine Ex1 ?_ | refine Ex2 ?_ | refine Ex3 ?_ | refine Ex4 ?_ | refine Ex5 ?_)))).mono ?_; rintro e' w9 ⟨rfl,hx9⟩)
  | (go_at_call 14; refine (CK.out _ (hxw4.tr (by (repeat first | exact Ex0 | assumption | refine Ex1 ?_ | refine Ex2 ?_ | refine Ex3 ?_ | refine Ex4 ?_ | refine Ex5 ?_)))).mono ?_; rintro e' wc ⟨rfl,hxc⟩))
 go_wp2
 go_ret
 exact ⟨rfl,hxw4.tr (by (repeat first | exact Ex0 | assumption | refine Ex1 ?_ | refine Ex2 ?_ | refine Ex3 ?_ | refine Ex4 ?_ | refine Ex5 ?_))⟩
end Go.Proofs.YtmnohicojefhfaaGreatDoor
end
