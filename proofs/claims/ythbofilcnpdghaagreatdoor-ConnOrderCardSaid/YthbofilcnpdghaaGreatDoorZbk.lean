/-
The program's Parse: neither absolute nor a path; all ways in one.
-/
import Derived.Test.YthbofilcnpdghaaGreatDoorUpa2
import Derived.Test.YthbofilcnpdghaaGreatDoorUpa3
import Derived.Test.YthbofilcnpdghaaGreatDoorUpa5
import Derived.Test.YthbofilcnpdghaaGreatDoorZbe
import Derived.Test.YthbofilcnpdghaaGreatDoorZaw
import Derived.Test.YthbofilcnpdghaaGreatDoorZbf
set_option maxRecDepth 100000
set_option maxHeartbeats 8000000
set_option linter.unusedVariables false
set_option linter.unusedSimpArgs false
section
namespace Go.Proofs.YthbofilcnpdghaaGreatDoor
open Go.RowKit
theorem uParse_bad1 (m l:List UInt8) (hm:¬ m=conL) (ho:¬(m=optL∧l=[42])) (h1:l≠[]) (h2:l.length≤8192) (hh:¬(7≤l.length∧lowL (l.take 7)=httpU)) (h47:¬ l.head?=some 47) (w:World) :
  Calls Tryz.prog 59 #[.string (str m),.string (str l)] w (Gives (tgtV badT) w):=by
 have d1:decide ((8192:Int)<(l.length:Int))=false:=by rw [decide_eq_false_iff_not];omega
 have e1:l.isEmpty=false:=by rw [List.isEmpty_eq_false_iff];exact h1
 have e2:(str l).toList.isEmpty=false:=by rw [Lib.toList_data];exact e1
 have hl0:0<l.length:=List.length_pos_iff.2 h1
 have hb:((l[0].toNat:Int) != 47)=true:=by
  rw [List.head?_eq_getElem?,List.getElem?_eq_getElem hl0] at h47
  rw [bne_iff_ne];intro h;exact h47 (by rw [show l[0]=47 from UInt8.toNat_inj.1 (by show l[0].toNat=47;omega)])
 have m1:=strN hm
 have m2:(m == conL)=false:=by rw [beq_eq_false_iff_ne];exact hm
 have C:=fun w=>Equal_c (l.take 7) httpU (by unfold maxLen;rw [List.length_take];omega) (by decide) w
 rw [show str httpU=⟨#[104,116,116,112,58,47,47]⟩ from rfl] at C
 unfold conL at hm m1 m2
 clear h47
 by_cases c1:m=optL
 ·have l1:¬ l=[42]:=fun h=>ho ⟨c1,h⟩
  have l2:=strN l1
  have l3:(l == [42])=false:=by rw [beq_eq_false_iff_ne];exact l1
  subst c1
  rw [show str optL=⟨#[79,80,84,73,79,78,83]⟩ from rfl]
  clear m1 m2 hm ho
  by_cases c7:7≤l.length
  ·have d7:decide ((7:Int)≤(l.length:Int))=true:=by rw [decide_eq_true_eq];omega
   have n7:(7:Int)≤(l.length:Int):=by omega
   have h7:(lowL (l.take 7) == lowL httpU)=false:=by
    rw [beq_eq_false_iff_ne];intro h;exact hh ⟨c7,h.trans (by decide)⟩
   rw [h7] at C
   have C:=Hy C
   clear hh h7
   go_enter Tryz.func59,Tryz.ntmps59
   go_wp2_with (go_at_call 62;refine (C.out _).mono ?_;rintro e w1 ⟨rfl,hx0⟩;have hq:Ext (((w.alloc (.cells #[.int .i64 0,.string ⟨#[]⟩,.int .i64 0,.string ⟨#[]⟩,.string ⟨#[]⟩,.bool false] 107)).alloc (.cells #[.int .i64 0,.string ⟨#[]⟩,.int .i64 0,.string ⟨#[]⟩,.string ⟨#[]⟩,.bool false] 107)).alloc (.cells #[.int .i64 1,.string ⟨#[]⟩,.int .i64 (-1),.string ⟨#[]⟩,.string ⟨#[]⟩,.bool false] 107)) w1:=Xq;have HB:=Hy ((hq.block w.heap.size (by first | (simp;done) | (simp;omega))).trans (three w _ _ _).1);have HN:=Hy ((hq.block (w.heap.size+1) (by first | (simp;done) | (simp;omega))).trans (three_m w _ _ _));have HT:=Hy ((hq.block (w.heap.size+1+1) (by simp)).trans (three w _ _ _).2);have hw1:Ext w w1:=Xq;clear hq;obtain ⟨⟨r0,r1,r2,r3,r4,r5⟩,f0,f1,f2,f3,f4,f5⟩:=six HB.out (Ext.rfl' _);obtain ⟨⟨n0,n1,n2,n3,n4,n5⟩,m0,m1,m2,m3,m4,m5⟩:=six HN.out (Ext.rfl' _);obtain ⟨⟨t0,t1,t2,t3,t4,t5⟩,g0,g1,g2,g3,g4,g5⟩:=six HT.out (Ext.rfl' _))
   clear r0 r1 r2 r3 r4 r5 f0 f1 f2 f3 f4 f5 n0 n1 n2 n3 n4 n5 m0 m1 m2 m3 m4 m5 t0 t1 t2 t3 t4 t5 g0 g1 g2 g3 g4 g5
   have hx9:Ext w _:=ext6 hw1 (.int .i64 0) (.string (str [])) (.int .i64 0) (.string (str [])) (.string (str [])) (.bool false)
   have hp9:=put6 HB.out (.int .i64 0) (.string (str [])) (.int .i64 0) (.string (str [])) (.string (str [])) (.bool false)
   obtain ⟨W9,hW9⟩:∃ W9,W9=((((((w1.setCell ⟨w.heap.size,0,none⟩ (.int .i64 0)).setCell ⟨w.heap.size,1,none⟩ (.string (str []))).setCell ⟨w.heap.size,2,none⟩ (.int .i64 0)).setCell ⟨w.heap.size,3,none⟩ (.string (str []))).setCell ⟨w.heap.size,4,none⟩ (.string (str []))).setCell ⟨w.heap.size,5,none⟩ (.bool false)):=⟨_,rfl⟩
   rw [← hW9] at hx9 hp9
   try simp only [show str ([]:List UInt8)=⟨#[]⟩ from rfl,show str ([47]:List UInt8)=⟨#[47]⟩ from rfl] at hW9
   rw [← hW9]
   clear hW9
   obtain ⟨⟨r0,r1,r2,r3,r4,r5⟩,_⟩:=six hp9 (Ext.rfl' _)
   exact bodyPost_ret (v:=tgtV ((0,[],0,[],[],false),40)) (by simp [results,Tryz.results59,go_sem,tgtV,r0,r1,r2,r3,r4,r5]) rfl ⟨by first | rfl | exact ret_val (by rw [HV.out];try rfl),hx9⟩
  ·have d7:decide ((7:Int)≤(l.length:Int))=false:=by rw [decide_eq_false_iff_not];omega
   clear hh C
   go_enter Tryz.func59,Tryz.ntmps59
   go_wp2
   obtain ⟨⟨r0,r1,r2,r3,r4,r5⟩,_⟩:=six (three w (.cells #[.int .i64 0,.string ⟨#[]⟩,.int .i64 0,.string ⟨#[]⟩,.string ⟨#[]⟩,.bool false] 107) (.cells #[.int .i64 0,.string ⟨#[]⟩,.int .i64 0,.string ⟨#[]⟩,.string ⟨#[]⟩,.bool false] 107) (.cells #[.int .i64 1,.string ⟨#[]⟩,.int .i64 (-1),.string ⟨#[]⟩,.string ⟨#[]⟩,.bool false] 107)).1 (Ext.rfl' _)
   exact bodyPost_ret (v:=tgtV badT) (by simp [results,Tryz.results59,go_sem,tgtV,badT,str] at r0 r1 r2 r3 r4 r5 ⊢) rfl ⟨rfl,Xq⟩
 ·have o1:=strN c1
  have o2:(m == optL)=false:=by rw [beq_eq_false_iff_ne];exact c1
  unfold optL at c1 o1 o2
  clear ho
  by_cases c7:7≤l.length
  ·have d7:decide ((7:Int)≤(l.length:Int))=true:=by rw [decide_eq_true_eq];omega
   have n7:(7:Int)≤(l.length:Int):=by omega
   have h7:(lowL (l.take 7) == lowL httpU)=false:=by
    rw [beq_eq_false_iff_ne];intro h;exact hh ⟨c7,h.trans (by decide)⟩
   rw [h7] at C
   have C:=Hy C
   clear hh h7
   go_enter Tryz.func59,Tryz.ntmps59
   go_wp2_with (go_at_call 62;refine (C.out _).mono ?_;rintro e w1 ⟨rfl,hx0⟩;have hq:Ext (((w.alloc (.cells #[.int .i64 0,.string ⟨#[]⟩,.int .i64 0,.string ⟨#[]⟩,.string ⟨#[]⟩,.bool false] 107)).alloc (.cells #[.int .i64 0,.string ⟨#[]⟩,.int .i64 0,.string ⟨#[]⟩,.string ⟨#[]⟩,.bool false] 107)).alloc (.cells #[.int .i64 1,.string ⟨#[]⟩,.int .i64 (-1),.string ⟨#[]⟩,.string ⟨#[]⟩,.bool false] 107)) w1:=Xq;have HB:=Hy ((hq.block w.heap.size (by first | (simp;done) | (simp;omega))).trans (three w _ _ _).1);have HN:=Hy ((hq.block (w.heap.size+1) (by first | (simp;done) | (simp;omega))).trans (three_m w _ _ _));have HT:=Hy ((hq.block (w.heap.size+1+1) (by simp)).trans (three w _ _ _).2);have hw1:Ext w w1:=Xq;clear hq;obtain ⟨⟨r0,r1,r2,r3,r4,r5⟩,f0,f1,f2,f3,f4,f5⟩:=six HB.out (Ext.rfl' _);obtain ⟨⟨n0,n1,n2,n3,n4,n5⟩,m0,m1,m2,m3,m4,m5⟩:=six HN.out (Ext.rfl' _);obtain ⟨⟨t0,t1,t2,t3,t4,t5⟩,g0,g1,g2,g3,g4,g5⟩:=six HT.out (Ext.rfl' _))
   clear r0 r1 r2 r3 r4 r5 f0 f1 f2 f3 f4 f5 n0 n1 n2 n3 n4 n5 m0 m1 m2 m3 m4 m5 t0 t1 t2 t3 t4 t5 g0 g1 g2 g3 g4 g5
   have hx9:Ext w _:=ext6 hw1 (.int .i64 0) (.string (str [])) (.int .i64 0) (.string (str [])) (.string (str [])) (.bool false)
   have hp9:=put6 HB.out (.int .i64 0) (.string (str [])) (.int .i64 0) (.string (str [])) (.string (str [])) (.bool false)
   obtain ⟨W9,hW9⟩:∃ W9,W9=((((((w1.setCell ⟨w.heap.size,0,none⟩ (.int .i64 0)).setCell ⟨w.heap.size,1,none⟩ (.string (str []))).setCell ⟨w.heap.size,2,none⟩ (.int .i64 0)).setCell ⟨w.heap.size,3,none⟩ (.string (str []))).setCell ⟨w.heap.size,4,none⟩ (.string (str []))).setCell ⟨w.heap.size,5,none⟩ (.bool false)):=⟨_,rfl⟩
   rw [← hW9] at hx9 hp9
   try simp only [show str ([]:List UInt8)=⟨#[]⟩ from rfl,show str ([47]:List UInt8)=⟨#[47]⟩ from rfl] at hW9
   rw [← hW9]
   clear hW9
   obtain ⟨⟨r0,r1,r2,r3,r4,r5⟩,_⟩:=six hp9 (Ext.rfl' _)
   exact bodyPost_ret (v:=tgtV ((0,[],0,[],[],false),40)) (by simp [results,Tryz.results59,go_sem,tgtV,r0,r1,r2,r3,r4,r5]) rfl ⟨by first | rfl | exact ret_val (by rw [HV.out];try rfl),hx9⟩
  ·have d7:decide ((7:Int)≤(l.length:Int))=false:=by rw [decide_eq_false_iff_not];omega
   clear hh C
   go_enter Tryz.func59,Tryz.ntmps59
   go_wp2
   obtain ⟨⟨r0,r1,r2,r3,r4,r5⟩,_⟩:=six (three w (.cells #[.int .i64 0,.string ⟨#[]⟩,.int .i64 0,.string ⟨#[]⟩,.string ⟨#[]⟩,.bool false] 107) (.cells #[.int .i64 0,.string ⟨#[]⟩,.int .i64 0,.string ⟨#[]⟩,.string ⟨#[]⟩,.bool false] 107) (.cells #[.int .i64 1,.string ⟨#[]⟩,.int .i64 (-1),.string ⟨#[]⟩,.string ⟨#[]⟩,.bool false] 107)).1 (Ext.rfl' _)
   exact bodyPost_ret (v:=tgtV badT) (by simp [results,Tryz.results59,go_sem,tgtV,badT,str] at r0 r1 r2 r3 r4 r5 ⊢) rfl ⟨rfl,Xq⟩
theorem uParse_abs (m l:List UInt8) (hm:¬ m=conL) (hmo:¬(m=optL∧l=[42])) (h1:l≠[]) (h2:l.length≤8192) (h7:7≤l.length) (hH:lowL (l.take 7)=httpU) (w:World) (hE:ErrR w) :
  Calls Tryz.prog 59 #[.string (str m),.string (str l)] w (Gives (tgtV (if (hostL ((l.drop 7).take (authL (l.drop 7)))).2.2=0 then finT 2 (hostL ((l.drop 7).take (authL (l.drop 7)))).1 (hostL ((l.drop 7).take (authL (l.drop 7)))).2.1 ((l.drop 7).drop (authL (l.drop 7))) else badT)) w):=by
 by_cases c1:m=optL
 ·by_cases ck:authL (l.drop 7)<(l.drop 7).length
  ·exact uParse_abs1 m l hm hmo h1 h2 h7 hH w hE c1 ck
  ·exact uParse_abs2 m l hm hmo h1 h2 h7 hH w hE c1 ck
 ·by_cases ck:authL (l.drop 7)<(l.drop 7).length
  ·exact uParse_abs3 m l hm hmo h1 h2 h7 hH w hE c1 ck
  ·exact uParse_abs4 m l hm hmo h1 h2 h7 hH w hE c1 ck
theorem uParse_c (m l:List UInt8) (w:World) (hE:ErrR w) :
  Calls Tryz.prog 59 #[.string (str m),.string (str l)] w (Gives (tgtV (tgtL m l)) w):=by
 unfold tgtL
 rw [show ([67,79,78,78,69,67,84]:List UInt8)=conL from rfl,show ([79,80,84,73,79,78,83]:List UInt8)=optL from rfl]
 by_cases a1:8192<l.length
 ·rw [if_pos (.inl a1)];exact uParse_long m l a1 w
 by_cases a2:l=[]
 ·rw [if_pos (.inr a2)];subst a2;exact uParse_nil m w
 rw [if_neg (by rintro (h | h);exact a1 h;exact a2 h)]
 by_cases a3:m=conL
 ·rw [if_pos a3];subst a3;exact uParse_con l a2 (by omega) w hE
 rw [if_neg a3]
 by_cases a4:m=optL∧l=[42]
 ·rw [if_pos a4];obtain ⟨rfl,rfl⟩:=a4;exact uParse_opt w
 rw [if_neg a4]
 by_cases a5:7≤l.length∧lowL (l.take 7)=httpU
 ·rw [if_pos a5];exact uParse_abs m l a3 a4 a2 (by omega) a5.1 a5.2 w hE
 rw [if_neg a5]
 by_cases a6:l.head?=some 47
 ·rw [if_pos a6];exact uParse_path m l a3 a4 a2 (by omega) a5 a6 w
 rw [if_neg a6]
 exact uParse_bad1 m l a3 a4 a2 (by omega) a5 a6 w
theorem Fl8.fit {fs:List Fld} (h:Fl8 fs):FitF fs:=fit_of (fun x hx=>by have:=h.1;have:=h.2 x hx;omega)
def HeadW (k c:Nat) (w:World) (o:Ow) (s:Cst) (nx:FuncId) (r:Rq24) (v:Value) (wx:World):Prop:=∃ p A ca o' a,v=.pointer (some ⟨p,0,none⟩)∧CnX wx o' k c s a∧Sto (KH k) w o wx o'∧a.nx=nx∧wx.heap[p]?=some (.cells #[.string (str r.1),.string (str r.2.1),.int .i64 r.2.2.1,.slice A r.2.2.2.length ca] 36 (0,0))∧Ro wx o' A (fc r.2.2.2)∧¬ p=c
theorem CnX.off {w:World} {o:Ow} {k c:Nat} {s:Cst} {a:Cad} (h:CnX w o k c { s with inBody:=true } a) (hi:s.inBody=false):CnX w o k c s a :=
 ⟨h.own,h.row,h.p.hp,h.p.rd,h.p.r,(fun e=>by rw [hi] at e;cases e),h.p.evs,h.p.ez,h.p.row,h.p.lz,h.p.out,h.p.oz⟩
theorem CnX.rdNew {w w9:World} {o o9:Ow} {k c P:Nat} {s:Cst} {a:Cad} (hk:0<k) (hk8:k<80) (h:CnX w o k c s a) (st:Stp (fun _=>False) w o w9 o9) (r:Rst) (hf:FsAt w9 o9 (k+9) P r) :
  CnX (w9.setCell ⟨c,8,none⟩ (.pointer (some ⟨P,0,none⟩))) o9 k c { s with rd:=some r } { a with R:=some ⟨P,0,none⟩ }∧Sto (KH k) w o (w9.setCell ⟨c,8,none⟩ (.pointer (some ⟨P,0,none⟩))) o9:=by
 have h9:=h.sto st.sto (fun x=>x) (fun _ _ x=>x) (fun _ _ x=>x)
 have t:Sto (fun i=>i=k) w9 o9 (w9.setCell ⟨c,8,none⟩ (.pointer (some ⟨P,0,none⟩))) o9:=Sto.set c 8 _ (fun _=>h9.own)
 have hp:=h9.p.cell hk h9.own 8 (.pointer (some ⟨P,0,none⟩))
 refine ⟨⟨h9.own,h9.row.set 8 _ rfl,hp.hp,⟨P,rfl,hf.sto t (by omega) (by omega) (by omega) (by omega)⟩,hp.r,hp.got,hp.evs,hp.ez,hp.row,hp.lz,hp.out,hp.oz⟩,(st.sto.mono fun _ h=>h.elim).tr (t.mono fun i hi=>by unfold KH KC;omega)⟩
theorem setK {k c:Nat} {w W:World} {o:Ow} (h:Sto (fun i=>i=k) w o W o) (hoc:o c=k) (i:Nat) (u:Value):Sto (fun i=>i=k) w o (W.setCell ⟨c,i,none⟩ u) o:=h.tr (Sto.set c i u (fun _=>hoc))
def W7 (w3:World) (c P:Nat) (r:Rq24) (A1:Option Addr) (c1:Nat):World:=(((((((w3.setCell ⟨c,10,none⟩ (.string (str r.1))).setCell ⟨c,11,none⟩ (.string (str r.2.1))).setCell ⟨c,12,none⟩ (.int .i64 r.2.2.1)).setCell ⟨c,13,none⟩ (.slice A1 r.2.2.2.length c1)).setCell ⟨c,14,none⟩ (.slice none 0 0)).setCell ⟨c,7,none⟩ (.pointer (some ⟨P,0,none⟩))).setCell ⟨c,9,none⟩ (.int .i64 0))
theorem W7.facts {k c P:Nat} {w3:World} {o3:Ow} {s:Cst} {a:Cad} (hoc:o3 c=k) (h:Crow w3 c s a) (r:Rq24) (A1:Option Addr) (c1:Nat) :
  Crow (W7 w3 c P r A1 c1) c { s with r:=r,got:=[],hp:=newP false,line:=0,inBody:=true } { a with H:=P,A:=A1,ca:=c1,B:=none,nb:=0,cb:=0 }∧Sto (fun i=>i=k) w3 o3 (W7 w3 c P r A1 c1) o3:=by
 obtain ⟨r1,r2,r3,r4⟩:=r
 unfold W7
 constructor
 ·have h1:=h.set 10 (.string (str r1)) (s':={ s with r:=(r1,s.r.2) }) (a':=a) rfl
  have h2:=h1.set 11 (.string (str r2)) (s':={ s with r:=(r1,r2,s.r.2.2) }) (a':=a) rfl
  have h3:=h2.set 12 (.int .i64 r3) (s':={ s with r:=(r1,r2,r3,s.r.2.2.2) }) (a':=a) rfl
  have h4:=h3.set 13 (.slice A1 r4.length c1) (s':={ s with r:=(r1,r2,r3,r4) }) (a':={ a with A:=A1,ca:=c1 }) rfl
  have h5:=h4.set 14 (.slice none 0 0) (s':={ s with r:=(r1,r2,r3,r4),got:=[] }) (a':={ a with A:=A1,ca:=c1,B:=none,nb:=0,cb:=0 }) rfl
  have h6:=h5.set 7 (.pointer (some ⟨P,0,none⟩)) (s':={ s with r:=(r1,r2,r3,r4),got:=[],hp:=newP false }) (a':={ a with H:=P,A:=A1,ca:=c1,B:=none,nb:=0,cb:=0 }) rfl
  exact h6.set 9 (.int .i64 0) (s':={ s with r:=(r1,r2,r3,r4),got:=[],hp:=newP false,line:=0,inBody:=true }) (a':={ a with H:=P,A:=A1,ca:=c1,B:=none,nb:=0,cb:=0 }) rfl
 ·exact setK (setK (setK (setK (setK (setK (setK Sto.rfl' hoc 10 _) hoc 11 _) hoc 12 _) hoc 13 _) hoc 14 _) hoc 7 _) hoc 9 _
theorem HeadW.mk {k c:Nat} (hk:0<k) (hk8:k<80) {w:World} {o:Ow} {s:Cst} {nx:FuncId} {r:Rq24} {W2 w3:World} {o2 o3:Ow} {a:Cad} {V P:Nat} {A1:Option Addr} {c1:Nat} (h:CnX W2 o2 k c s a) (hn:a.nx=nx) (st:Sto (KH k) w o W2 o2)
  (hrow:W2.heap[V]?=some (.cells #[.string (str r.1),.string (str r.2.1),.int .i64 r.2.2.1,.slice A1 r.2.2.2.length c1] 36 (0,0))) (hA:Ro W2 o2 A1 (fc r.2.2.2)) (hV:¬ V=c) (hVk:¬ o2 V=k) (st3:Stp (fun _=>False) W2 o2 w3 o3) (hp:PsAt w3 o3 (k+5) P (newP false)) :
  HeadW k c w o { s with r:=r,got:=[],hp:=newP false,line:=0,inBody:=true } nx r (.pointer (some ⟨V,0,none⟩)) (W7 w3 c P r A1 c1):=by
 have h3:=h.sto st3.sto (fun x=>x) (fun _ _ x=>x) (fun _ _ x=>x)
 obtain ⟨f1,f2⟩:=W7.facts (P:=P) h3.own h3.row r A1 c1
 have t3:Sto (fun i=>i=k) W2 o2 (W7 w3 c P r A1 c1) o3:=(st3.sto.mono fun _ h=>h.elim).tr f2
 have hp2:=h.p.sto t3 (by omega) (fun i h1 _=>by omega) (fun a _=>by unfold KA;omega)
 have hA3:=hA.sto t3 (by omega)
 exact ⟨V,A1,c1,o3,_,rfl,⟨h3.own,f1,hp.sto f2 (by omega) (by omega) (by omega),hp2.rd,hA3,(fun _=>⟨rfl,Sl.nil_ _ _ _ _ _,fun _=>rfl⟩),hp2.evs,hp2.ez,hp2.row,hp2.lz,hp2.out,hp2.oz⟩,st.tr (t3.mono fun i hi=>by unfold KH KC;omega),hn,(t3.keep V (row_lt hrow) hVk).trans hrow,hA3,hV⟩
def LenW (W:World) (kd nn re:Int) (v5 v6:Value) (wx:World):Prop:=∃ q,v5=.pointer (some ⟨q,0,none⟩)∧v6=.int .i64 re∧wx.heap[q]?=some (.cells #[.int .i64 kd,.int .i64 nn] 78 (0,0))∧W.heap.size≤q∧Ext W wx
def OutW (k c:Nat) (w:World) (o:Ow) (s:Cst) (nx:FuncId) (q:Nat) (kd nn:Int) (wx:World):Prop:=wx.heap[q]?=some (.cells #[.int .i64 kd,.int .i64 nn] 78 (0,0))∧∃ o' a,CnX wx o' k c s a∧Sto (KH k) w o wx o'∧a.nx=nx
def NewR (k c:Nat) (w:World) (o:Ow) (s:Cst) (nx:FuncId) (wx:World):Prop:=∃ P o' a,w.heap.size≤P∧CnX wx o' k c s a∧Sto (KH k) w o wx o'∧a.nx=nx∧a.R=some ⟨P,0,none⟩
def WOk (q:Rq24):Prop:=(tgtL q.1 q.2.1).2=0∧(0<q.2.2.1→hostedC q=true)
def WLen (q:Rq24):Prop:=(reqV q.2.2.1 q.2.2.2).2.2=0
def WBad (mo:Nat) (q:Rq24):Prop:=((decide (valsH q.2.2.2 expN≠[]) && decide (0<q.2.2.1))=true∧lowL ((valsH q.2.2.2 expN).headD [])≠lowL contW)∨((reqV q.2.2.1 q.2.2.2).1=1∧(mo:Int)<(reqV q.2.2.1 q.2.2.2).2.1)
def WApp (l:List Th24) (q:Rq24):Prop:=(decide (valsH q.2.2.2 expN≠[]) && decide (0<q.2.2.1))=true∧l=[]∧(0<(reqV q.2.2.1 q.2.2.2).2.1∨(reqV q.2.2.1 q.2.2.2).1=2)
theorem nWhole_1 (w0:World) (hL:Lb w0) (k c:Nat) (hk:0<k) (hk8:k<80) (s:Cst) (hi:s.inBody=false) (hf:Rq8 (askP s.hp)) (hfl:s.hp.fields.length≤100) (hmo:s.most≤1048576) (hout:s.out.length≤100000) (hc1:¬ WOk (askP s.hp)) (w:World) (o:Ow) (hO:Old w0 w o) (h:CnAt w o k c s) :
  Calls Tryz.prog 41 #[.pointer (some ⟨c,0,none⟩)] w (EndsC (KH k) k w o c (fun R=>∃ P,R=some ⟨P,0,none⟩∧w.heap.size≤P) (wholeC s)):=by
 obtain ⟨a,hx,hnx⟩:=h
 have HX:=Hy hx
 have HNX:=Hy hnx
 have HF:=Hy hf
 have HO:=Hy hO
 have CA:=Hy (hAskN_c (k+5) a.H s.hp (by omega) w o hx.p.hp)
 have c7:=hx.row.c7
 obtain ⟨r,hr⟩:∃ r,r=askP s.hp:=⟨_,rfl⟩
 rw [← hr] at CA HF
 rw [← hr] at hc1;have HC1:=Hy hc1
 have HR:=Hy hr
 clear hx hnx hf hr hO hfl hc1
 go_enter Tryz.func41,Tryz.ntmps41
 go_upto_region 1 with (first
  | (go_at_call 58;refine (CA.out).mono ?_;rintro e w1 ⟨v,rfl,⟨A1,c1,rfl,hr1,hb1⟩,hx1⟩))
 obtain ⟨W2,hW2⟩:∃ W,W=w1.alloc (.cells #[.string (str r.1),.string (str r.2.1),.int .i64 r.2.2.1,.slice A1 r.2.2.2.length c1] 36):=⟨_,rfl⟩
 rw [← hW2]
 obtain ⟨V,hV⟩:∃ V,V=w1.heap.size:=⟨_,rfl⟩
 rw [← hV]
 have x2:Ext w W2:=by rw [hW2];exact hx1.al _
 have row2:W2.heap[V]?=some (.cells #[.string (str r.1),.string (str r.2.1),.int .i64 r.2.2.1,.slice A1 r.2.2.2.length c1] 36 (0,0)):=by rw [hW2,hV];exact heap_alloc_new w1 _
 have hwV:w.heap.size≤V:=by rw [hV];exact hx1.size
 have hA:Ro W2 (oz w o) A1 (fc r.2.2.2):=by
  obtain ⟨A',c',hv,hro⟩:=NewS.ro (w:=w) (n:=r.2.2.2.length) (v:=.slice A1 r.2.2.2.length c1) (w':=W2) (o':=oz w o) ⟨A1,c1,rfl,by rw [hW2];exact hr1.ext ((Ext.rfl' w1).al _),by rcases hb1 with h | h;exact .inl (by rw [h];rfl);exact .inr h⟩ (fun b hb=>oz_new w o hb)
  cases hv
  exact hro
 have HX2:=Hy (HX.out.oz x2)
 have STO2:=Hy (show Sto (KH k) w o W2 (oz w o) from oz_sto x2)
 have HA:=Hy hA
 have hVk:¬ oz w o V=k:=by rw [oz_new w o hwV];omega
 have hcV:¬ V=c:=fun e=>by have h1:=row_lt HX.out.row;omega
 have hks:=Hy (fun w' (e:Ext W2 w')=>(show (w'.cell? ⟨V,0,none⟩=some (.string (str r.1))∧w'.cell? ⟨V,1,none⟩=some (.string (str r.2.1))∧w'.cell? ⟨V,2,none⟩=some (.int .i64 r.2.2.1)∧w'.cell? ⟨V,3,none⟩=some (.slice A1 r.2.2.2.length c1))∧Crow w' c s a from by
  have hx:=(e.block V (row_lt row2)).trans row2
  exact ⟨⟨(row_facts hx 0 _ rfl).1,(row_facts hx 1 _ rfl).1,(row_facts hx 2 _ rfl).1,(row_facts hx 3 _ rfl).1⟩,HX2.out.row.ext e⟩))
 have ROW2:=Hy row2
 obtain ⟨⟨b0,b1,b2,b3⟩,_⟩:=hks.out W2 (Ext.rfl' _)
 clear hW2 hV row2 hA hr1 hb1 hx1 x2 c7 CA
 go_cut [] (fun wx=>HeadW k c w o { s with r:=r,got:=[],hp:=newP false,line:=0,inBody:=true } (nxC false) r (.pointer (some ⟨V,0,none⟩)) wx)
 case first =>
  go_region_with (first
   | (go_at_call 22;refine (hNewParser_c (k+5) false _ (oz w o)).mono ?_;rintro e w3 ⟨v,o3,rfl,⟨P,rfl,hp3,hPl⟩,st3⟩;obtain ⟨⟨e0,e1,e2,e3⟩,hrow3⟩:=hks.out w3 (by have:=st3.noExt;(exact Xq));have i10:=hrow3.at_ 10 _ rfl;have i11:=hrow3.at_ 11 _ rfl;have i12:=hrow3.at_ 12 _ rfl;have i13:=hrow3.at_ 13 _ rfl;have i14:=hrow3.at_ 14 _ rfl;have i7:=hrow3.at_ 7 _ rfl;have i9:=hrow3.at_ 9 _ rfl;have j10:=i10.1;have j11:=i11.1;have j12:=i12.1;have j13:=i13.1;have j14:=i14.1;have j7:=i7.1;have j9:=i9.1;have l10:=i10.2;have l11:=i11.2;have l12:=i12.2;have l13:=i13.2;have l14:=i14.2;have l7:=i7.2;have l9:=i9.2;clear i10 i11 i12 i13 i14 i7 i9))
  all_goals (clear e0 e1 e2 e3 j10 j11 j12 j13 j14 j7 j9 l10 l11 l12 l13 l14 l7 l9 b0 b1 b2 b3;go_wp2_with fail;go_meet)
  all_goals first
   | exact HeadW.mk hk hk8 HX2.out (by rw [HNX.out,hi]) STO2.out ROW2.out HA.out hcV hVk st3 hp3
   | exact HeadW.mk hk hk8 HX2.out (by rw [HNX.out,hi]) STO2.out ROW2.out HA.out hcV hVk ((Stp.ext ((Ext.rfl' _).dr)).tr st3) hp3
 case rest =>
  clear HX2 STO2 HA hks ROW2 b0 b1 b2 b3 hVk hcV hwV HX HNX
  obtain ⟨p,A,ca,o3,a3,hv,hX3,st3,hn3,row3,hA3,hpc⟩:=hcut
  cases hv
  obtain ⟨W,rfl⟩:∃ W,W=wc:=⟨_,rfl⟩
  obtain ⟨m,t,mi,fs⟩:=r
  dsimp only at row3 hA3
  have hOW:=Hy (HO.out.sto st3 (kh0 hk))
  obtain ⟨s1,hs1⟩:∃ s1:Cst,s1={ s with r:=(m,t,mi,fs),got:=[],hp:=newP false,line:=0 }:=⟨_,rfl⟩
  have hX3:CnX W o3 k c { s1 with inBody:=true } a3:=by rw [hs1];exact hX3
  have HFIN:=Hy (fun (w':World) (e:Ext W w')=>(show ∃ o' R,CnAtR w' o' k c s1 R∧Sto (KH k) w o w' o'∧((some 0:Option Int)=none→∃ P,R=some (⟨P,0,none⟩:Addr)∧w.heap.size≤P) from ⟨o3,a3.R,⟨a3,(hX3.ext e).off (by rw [hs1];exact hi),by rw [hn3,hs1,hi]⟩,st3.tr (Sto.ext e),fun h=>by cases h⟩))
  have hks:=Hy (fun w' (e:Ext W w')=>(show (w'.cell? ⟨V,0,none⟩=some (.string (str m))∧w'.cell? ⟨V,1,none⟩=some (.string (str t))∧w'.cell? ⟨V,2,none⟩=some (.int .i64 mi)∧w'.cell? ⟨V,3,none⟩=some (.slice A fs.length ca)) from by
   have hx:=(e.block V (row_lt row3)).trans row3
   exact ⟨(row_facts hx 0 _ rfl).1,(row_facts hx 1 _ rfl).1,(row_facts hx 2 _ rfl).1,(row_facts hx 3 _ rfl).1⟩))
  obtain ⟨h8m,h8t,h8f⟩:=HF.out
  dsimp only at h8m h8t h8f
  have CP:=Hy (fun (w':World) (hE:ErrR w')=>uParse_c m t w' hE)
  have CH:=Hy (fun (w':World) (e:Ext W w') (hE:ErrR w')=>nHosted_c (m,t,mi,fs) h8f A ca w' hE (hA3.rd.ext e))
  have CQ:=Hy (fun (w':World) (e:Ext W w') (hE:ErrR w')=>fRequest_any fs h8f.fit A fs.length ca rfl (str m) (str t) mi w' hE (hA3.rd.ext e))
  have CE:=fun (w':World) (e:Ext W w')=>hFirst_c fs expN A fs.length ca rfl (by have:=h8f.1;omega) (by decide) (fun q hq=>by have:=(h8f.2 q hq).1;simp only [maxLen];omega) w' (hA3.rd.ext e)
  rw [show str expN=⟨#[69,120,112,101,99,116]⟩ from rfl] at CE
  have CE:=Hy CE
  have hEl:=(h8f.vals expN).2
  have HQ:=Hy (show wholeC s=(if (tgtL m t).2≠0∨(0<mi∧hostedC (m,t,mi,fs)=false) then (s1,some 400) else if (reqV mi fs).2.2=6 then (s1,some 413) else if (reqV mi fs).2.2=46 then (s1,some 501) else if (reqV mi fs).2.2≠0 then (s1,some 400) else
   if (decide (valsH fs expN≠[]) && decide (0<mi))=true∧lowL ((valsH fs expN).headD [])≠lowL contW then (s1,some 417) else if (reqV mi fs).1=1∧(s1.most:Int)<(reqV mi fs).2.1 then (s1,some 413) else
   ({ s1 with out:=if (decide (valsH fs expN≠[]) && decide (0<mi))=true∧s1.row=[]∧(0<(reqV mi fs).2.1∨(reqV mi fs).1=2) then s1.out++(rsW 100 []).1 else s1.out,rd:=some (newF (reqV mi fs).1.toNat (reqV mi fs).2.1.toNat s1.most),inBody:=true },none)) from by rw [hs1];unfold wholeC;rw [← HR.out])
  have hc1:=HC1.out;unfold WOk at hc1;dsimp only at hc1
  have hrq:=@reqV_ok mi fs
  obtain ⟨⟨tg,te⟩,hte⟩:∃ q,q=tgtL m t:=⟨_,rfl⟩
  obtain ⟨hb,hhb⟩:∃ q,q=hostedC (m,t,mi,fs):=⟨_,rfl⟩
  obtain ⟨⟨kd,nn,re⟩,hrv⟩:∃ q,q=reqV mi fs:=⟨_,rfl⟩
  obtain ⟨es,hes⟩:∃ q,q=valsH fs expN:=⟨_,rfl⟩
  rw [← hte] at CP HQ hc1
  rw [← hhb] at CH HQ hc1
  rw [← hrv] at CQ HQ hrq
  rw [← hes] at CE HQ hEl
  dsimp only at HQ hrq hc1
  have HEL:=Hy hEl
  obtain ⟨tf,th,tp,tq,tr,ts⟩:=tg
  have CP:=Hy (fun w' hE=>(show Calls Tryz.prog 59 #[.string (str m),.string (str t)] w' (Gives (.tuple #[.agg #[.int .i64 tf,.string (str th),.int .i64 tp,.string (str tq),.string (str tr),.bool ts],.int .i64 te]) w') from CP.out w' hE))
  have HX3:=Hy hX3
  have ST3:=Hy st3
  have HN3:=Hy hn3
  have HRQ:=Hy hrq
  obtain ⟨b0,b1,b2,b3⟩:=hks.out W (Ext.rfl' _)
  clear hX3 st3 hn3 row3 hA3 hte hhb hrv hes hrq hEl h8m h8t h8f HF HR
  clear HC1
  have HC1:=Hy hc1
  clear hc1
  by_cases h0:te=0
  ·subst h0
   by_cases h1:0<mi
   ·cases hb with
    | true=>exact absurd ⟨rfl,fun _=>rfl⟩ HC1.out
    | false =>
     have HQ2:=Hy (show wholeC s=(s1,some 400) from by rw [HQ.out,if_pos (.inr ⟨h1,rfl⟩)])
     clear HQ HC1
     go_wp2_with (first
      | (go_at_call 59;refine (CP.out _ (hL.er.ext (hOW.out.ext.tr Xq))).mono ?_;rintro e w4 ⟨rfl,hx4⟩;have k0:=fun x=>(hks.out (w4.alloc x) (Ext.al hx4 x)).1;have k1:=fun x=>(hks.out (w4.alloc x) (Ext.al hx4 x)).2.1;have k2:=fun x=>(hks.out (w4.alloc x) (Ext.al hx4 x)).2.2.1;have k3:=fun x=>(hks.out (w4.alloc x) (Ext.al hx4 x)).2.2.2)
      | (go_at_call 60;refine (CH.out _ Xq (hL.er.ext (hOW.out.ext.tr Xq))).mono ?_;rintro e w5 ⟨rfl,hx5⟩)
      | (go_at_call 40;refine (nRefuse_c _ _).mono ?_;rintro e w9 ⟨rfl,rfl⟩))
     simp only [bodyPost]
     rw [HQ2.out]
     exact ⟨trivial,rfl,(fun (hx:Ext W _)=>(HFIN.out _ hx).elim fun oF h1=>h1.elim fun rF h2=>⟨oF,rF,h2.1,h2.2.1,fun h=>by cases h⟩) Xq⟩
   ·exact absurd ⟨rfl,fun h=>absurd h h1⟩ HC1.out
  ·have d0:(te != 0)=true:=by rw [bne_iff_ne];exact h0
   have HQ2:=Hy (show wholeC s=(s1,some 400) from by rw [HQ.out,if_pos (.inl h0)])
   clear HQ h0 HC1
   go_wp2_with (first
    | (go_at_call 59;refine (CP.out _ (hL.er.ext (hOW.out.ext.tr Xq))).mono ?_;rintro e w4 ⟨rfl,hx4⟩;have k0:=fun x=>(hks.out (w4.alloc x) (Ext.al hx4 x)).1;have k1:=fun x=>(hks.out (w4.alloc x) (Ext.al hx4 x)).2.1;have k2:=fun x=>(hks.out (w4.alloc x) (Ext.al hx4 x)).2.2.1;have k3:=fun x=>(hks.out (w4.alloc x) (Ext.al hx4 x)).2.2.2)
    | (go_at_call 60;refine (CH.out _ Xq (hL.er.ext (hOW.out.ext.tr Xq))).mono ?_;rintro e w5 ⟨rfl,hx5⟩)
    | (go_at_call 40;refine (nRefuse_c _ _).mono ?_;rintro e w9 ⟨rfl,rfl⟩))
   simp only [bodyPost]
   rw [HQ2.out]
   exact ⟨trivial,rfl,(fun (hx:Ext W _)=>(HFIN.out _ hx).elim fun oF h1=>h1.elim fun rF h2=>⟨oF,rF,h2.1,h2.2.1,fun h=>by cases h⟩) Xq⟩
theorem nWhole_2 (w0:World) (hL:Lb w0) (k c:Nat) (hk:0<k) (hk8:k<80) (s:Cst) (hi:s.inBody=false) (hf:Rq8 (askP s.hp)) (hfl:s.hp.fields.length≤100) (hmo:s.most≤1048576) (hout:s.out.length≤100000) (hc1:WOk (askP s.hp)) (hc2:¬ WLen (askP s.hp)) (w:World) (o:Ow) (hO:Old w0 w o) (h:CnAt w o k c s) :
  Calls Tryz.prog 41 #[.pointer (some ⟨c,0,none⟩)] w (EndsC (KH k) k w o c (fun R=>∃ P,R=some ⟨P,0,none⟩∧w.heap.size≤P) (wholeC s)):=by
 obtain ⟨a,hx,hnx⟩:=h
 have HX:=Hy hx
 have HNX:=Hy hnx
 have HF:=Hy hf
 have HO:=Hy hO
 have CA:=Hy (hAskN_c (k+5) a.H s.hp (by omega) w o hx.p.hp)
 have c7:=hx.row.c7
 obtain ⟨r,hr⟩:∃ r,r=askP s.hp:=⟨_,rfl⟩
 rw [← hr] at CA HF
 rw [← hr] at hc1 hc2;have HC1:=Hy hc1;have HC2:=Hy hc2
 have HR:=Hy hr
 clear hx hnx hf hr hO hfl hc1 hc2
 go_enter Tryz.func41,Tryz.ntmps41
 go_upto_region 1 with (first
  | (go_at_call 58;refine (CA.out).mono ?_;rintro e w1 ⟨v,rfl,⟨A1,c1,rfl,hr1,hb1⟩,hx1⟩))
 obtain ⟨W2,hW2⟩:∃ W,W=w1.alloc (.cells #[.string (str r.1),.string (str r.2.1),.int .i64 r.2.2.1,.slice A1 r.2.2.2.length c1] 36):=⟨_,rfl⟩
 rw [← hW2]
 obtain ⟨V,hV⟩:∃ V,V=w1.heap.size:=⟨_,rfl⟩
 rw [← hV]
 have x2:Ext w W2:=by rw [hW2];exact hx1.al _
 have row2:W2.heap[V]?=some (.cells #[.string (str r.1),.string (str r.2.1),.int .i64 r.2.2.1,.slice A1 r.2.2.2.length c1] 36 (0,0)):=by rw [hW2,hV];exact heap_alloc_new w1 _
 have hwV:w.heap.size≤V:=by rw [hV];exact hx1.size
 have hA:Ro W2 (oz w o) A1 (fc r.2.2.2):=by
  obtain ⟨A',c',hv,hro⟩:=NewS.ro (w:=w) (n:=r.2.2.2.length) (v:=.slice A1 r.2.2.2.length c1) (w':=W2) (o':=oz w o) ⟨A1,c1,rfl,by rw [hW2];exact hr1.ext ((Ext.rfl' w1).al _),by rcases hb1 with h | h;exact .inl (by rw [h];rfl);exact .inr h⟩ (fun b hb=>oz_new w o hb)
  cases hv
  exact hro
 have HX2:=Hy (HX.out.oz x2)
 have STO2:=Hy (show Sto (KH k) w o W2 (oz w o) from oz_sto x2)
 have HA:=Hy hA
 have hVk:¬ oz w o V=k:=by rw [oz_new w o hwV];omega
 have hcV:¬ V=c:=fun e=>by have h1:=row_lt HX.out.row;omega
 have hks:=Hy (fun w' (e:Ext W2 w')=>(show (w'.cell? ⟨V,0,none⟩=some (.string (str r.1))∧w'.cell? ⟨V,1,none⟩=some (.string (str r.2.1))∧w'.cell? ⟨V,2,none⟩=some (.int .i64 r.2.2.1)∧w'.cell? ⟨V,3,none⟩=some (.slice A1 r.2.2.2.length c1))∧Crow w' c s a from by
  have hx:=(e.block V (row_lt row2)).trans row2
  exact ⟨⟨(row_facts hx 0 _ rfl).1,(row_facts hx 1 _ rfl).1,(row_facts hx 2 _ rfl).1,(row_facts hx 3 _ rfl).1⟩,HX2.out.row.ext e⟩))
 have ROW2:=Hy row2
 obtain ⟨⟨b0,b1,b2,b3⟩,_⟩:=hks.out W2 (Ext.rfl' _)
 clear hW2 hV row2 hA hr1 hb1 hx1 x2 c7 CA
 go_cut [] (fun wx=>HeadW k c w o { s with r:=r,got:=[],hp:=newP false,line:=0,inBody:=true } (nxC false) r (.pointer (some ⟨V,0,none⟩)) wx)
 case first =>
  go_region_with (first
   | (go_at_call 22;refine (hNewParser_c (k+5) false _ (oz w o)).mono ?_;rintro e w3 ⟨v,o3,rfl,⟨P,rfl,hp3,hPl⟩,st3⟩;obtain ⟨⟨e0,e1,e2,e3⟩,hrow3⟩:=hks.out w3 (by have:=st3.noExt;(exact Xq));have i10:=hrow3.at_ 10 _ rfl;have i11:=hrow3.at_ 11 _ rfl;have i12:=hrow3.at_ 12 _ rfl;have i13:=hrow3.at_ 13 _ rfl;have i14:=hrow3.at_ 14 _ rfl;have i7:=hrow3.at_ 7 _ rfl;have i9:=hrow3.at_ 9 _ rfl;have j10:=i10.1;have j11:=i11.1;have j12:=i12.1;have j13:=i13.1;have j14:=i14.1;have j7:=i7.1;have j9:=i9.1;have l10:=i10.2;have l11:=i11.2;have l12:=i12.2;have l13:=i13.2;have l14:=i14.2;have l7:=i7.2;have l9:=i9.2;clear i10 i11 i12 i13 i14 i7 i9))
  all_goals (clear e0 e1 e2 e3 j10 j11 j12 j13 j14 j7 j9 l10 l11 l12 l13 l14 l7 l9 b0 b1 b2 b3;go_wp2_with fail;go_meet)
  all_goals first
   | exact HeadW.mk hk hk8 HX2.out (by rw [HNX.out,hi]) STO2.out ROW2.out HA.out hcV hVk st3 hp3
   | exact HeadW.mk hk hk8 HX2.out (by rw [HNX.out,hi]) STO2.out ROW2.out HA.out hcV hVk ((Stp.ext ((Ext.rfl' _).dr)).tr st3) hp3
 case rest =>
  clear HX2 STO2 HA hks ROW2 b0 b1 b2 b3 hVk hcV hwV HX HNX
  obtain ⟨p,A,ca,o3,a3,hv,hX3,st3,hn3,row3,hA3,hpc⟩:=hcut
  cases hv
  obtain ⟨W,rfl⟩:∃ W,W=wc:=⟨_,rfl⟩
  obtain ⟨m,t,mi,fs⟩:=r
  dsimp only at row3 hA3
  have hOW:=Hy (HO.out.sto st3 (kh0 hk))
  obtain ⟨s1,hs1⟩:∃ s1:Cst,s1={ s with r:=(m,t,mi,fs),got:=[],hp:=newP false,line:=0 }:=⟨_,rfl⟩
  have hX3:CnX W o3 k c { s1 with inBody:=true } a3:=by rw [hs1];exact hX3
  have HFIN:=Hy (fun (w':World) (e:Ext W w')=>(show ∃ o' R,CnAtR w' o' k c s1 R∧Sto (KH k) w o w' o'∧((some 0:Option Int)=none→∃ P,R=some (⟨P,0,none⟩:Addr)∧w.heap.size≤P) from ⟨o3,a3.R,⟨a3,(hX3.ext e).off (by rw [hs1];exact hi),by rw [hn3,hs1,hi]⟩,st3.tr (Sto.ext e),fun h=>by cases h⟩))
  have hks:=Hy (fun w' (e:Ext W w')=>(show (w'.cell? ⟨V,0,none⟩=some (.string (str m))∧w'.cell? ⟨V,1,none⟩=some (.string (str t))∧w'.cell? ⟨V,2,none⟩=some (.int .i64 mi)∧w'.cell? ⟨V,3,none⟩=some (.slice A fs.length ca)) from by
   have hx:=(e.block V (row_lt row3)).trans row3
   exact ⟨(row_facts hx 0 _ rfl).1,(row_facts hx 1 _ rfl).1,(row_facts hx 2 _ rfl).1,(row_facts hx 3 _ rfl).1⟩))
  obtain ⟨h8m,h8t,h8f⟩:=HF.out
  dsimp only at h8m h8t h8f
  have CP:=Hy (fun (w':World) (hE:ErrR w')=>uParse_c m t w' hE)
  have CH:=Hy (fun (w':World) (e:Ext W w') (hE:ErrR w')=>nHosted_c (m,t,mi,fs) h8f A ca w' hE (hA3.rd.ext e))
  have CQ:=Hy (fun (w':World) (e:Ext W w') (hE:ErrR w')=>fRequest_any fs h8f.fit A fs.length ca rfl (str m) (str t) mi w' hE (hA3.rd.ext e))
  have CE:=fun (w':World) (e:Ext W w')=>hFirst_c fs expN A fs.length ca rfl (by have:=h8f.1;omega) (by decide) (fun q hq=>by have:=(h8f.2 q hq).1;simp only [maxLen];omega) w' (hA3.rd.ext e)
  rw [show str expN=⟨#[69,120,112,101,99,116]⟩ from rfl] at CE
  have CE:=Hy CE
  have hEl:=(h8f.vals expN).2
  have HQ:=Hy (show wholeC s=(if (tgtL m t).2≠0∨(0<mi∧hostedC (m,t,mi,fs)=false) then (s1,some 400) else if (reqV mi fs).2.2=6 then (s1,some 413) else if (reqV mi fs).2.2=46 then (s1,some 501) else if (reqV mi fs).2.2≠0 then (s1,some 400) else
   if (decide (valsH fs expN≠[]) && decide (0<mi))=true∧lowL ((valsH fs expN).headD [])≠lowL contW then (s1,some 417) else if (reqV mi fs).1=1∧(s1.most:Int)<(reqV mi fs).2.1 then (s1,some 413) else
   ({ s1 with out:=if (decide (valsH fs expN≠[]) && decide (0<mi))=true∧s1.row=[]∧(0<(reqV mi fs).2.1∨(reqV mi fs).1=2) then s1.out++(rsW 100 []).1 else s1.out,rd:=some (newF (reqV mi fs).1.toNat (reqV mi fs).2.1.toNat s1.most),inBody:=true },none)) from by rw [hs1];unfold wholeC;rw [← HR.out])
  have hc1:=HC1.out;unfold WOk at hc1;dsimp only at hc1
  have hc2:=HC2.out;unfold WLen at hc2;dsimp only at hc2
  have hrq:=@reqV_ok mi fs
  obtain ⟨⟨tg,te⟩,hte⟩:∃ q,q=tgtL m t:=⟨_,rfl⟩
  obtain ⟨hb,hhb⟩:∃ q,q=hostedC (m,t,mi,fs):=⟨_,rfl⟩
  obtain ⟨⟨kd,nn,re⟩,hrv⟩:∃ q,q=reqV mi fs:=⟨_,rfl⟩
  obtain ⟨es,hes⟩:∃ q,q=valsH fs expN:=⟨_,rfl⟩
  rw [← hte] at CP HQ hc1
  rw [← hhb] at CH HQ hc1
  rw [← hrv] at CQ HQ hrq hc2
  rw [← hes] at CE HQ hEl
  dsimp only at HQ hrq hc1 hc2
  have HEL:=Hy hEl
  obtain ⟨tf,th,tp,tq,tr,ts⟩:=tg
  have CP:=Hy (fun w' hE=>(show Calls Tryz.prog 59 #[.string (str m),.string (str t)] w' (Gives (.tuple #[.agg #[.int .i64 tf,.string (str th),.int .i64 tp,.string (str tq),.string (str tr),.bool ts],.int .i64 te]) w') from CP.out w' hE))
  have HX3:=Hy hX3
  have ST3:=Hy st3
  have HN3:=Hy hn3
  have HRQ:=Hy hrq
  obtain ⟨b0,b1,b2,b3⟩:=hks.out W (Ext.rfl' _)
  clear hX3 st3 hn3 row3 hA3 hte hhb hrv hes hrq hEl h8m h8t h8f HF HR
  clear HC1 HC2
  have HC1:=Hy hc1;have HC2:=Hy hc2
  clear hc1 hc2
  obtain ⟨hte0,hmh⟩:=HC1.out
  subst hte0
  go_step
  go_step
  go_cut [] (fun wx=>Ext W wx)
  case first =>
   by_cases h1:0<mi
   ·have hb1:=hmh h1
    subst hb1
    clear HQ HC1 HC2 hmh
    go_wp2_with (first
     | (go_at_call 59;refine (CP.out _ (hL.er.ext (hOW.out.ext.tr Xq))).mono ?_;rintro e w4 ⟨rfl,hx4⟩;have k0:=fun x=>(hks.out (w4.alloc x) (Ext.al hx4 x)).1;have k1:=fun x=>(hks.out (w4.alloc x) (Ext.al hx4 x)).2.1;have k2:=fun x=>(hks.out (w4.alloc x) (Ext.al hx4 x)).2.2.1;have k3:=fun x=>(hks.out (w4.alloc x) (Ext.al hx4 x)).2.2.2)
     | (go_at_call 60;refine (CH.out _ Xq (hL.er.ext (hOW.out.ext.tr Xq))).mono ?_;rintro e w5 ⟨rfl,hx5⟩)
     | (go_at_call 40;refine (nRefuse_c _ _).mono ?_;rintro e w9 ⟨rfl,rfl⟩))
    go_meet
    exact Xq
   ·clear HQ HC1 HC2 hmh
    go_wp2_with (first
     | (go_at_call 59;refine (CP.out _ (hL.er.ext (hOW.out.ext.tr Xq))).mono ?_;rintro e w4 ⟨rfl,hx4⟩;have k0:=fun x=>(hks.out (w4.alloc x) (Ext.al hx4 x)).1;have k1:=fun x=>(hks.out (w4.alloc x) (Ext.al hx4 x)).2.1;have k2:=fun x=>(hks.out (w4.alloc x) (Ext.al hx4 x)).2.2.1;have k3:=fun x=>(hks.out (w4.alloc x) (Ext.al hx4 x)).2.2.2)
     | (go_at_call 60;refine (CH.out _ Xq (hL.er.ext (hOW.out.ext.tr Xq))).mono ?_;rintro e w5 ⟨rfl,hx5⟩)
     | (go_at_call 40;refine (nRefuse_c _ _).mono ?_;rintro e w9 ⟨rfl,rfl⟩))
    go_meet
    exact Xq
  case rest =>
   have hxw:=hcut
   obtain ⟨W5,rfl⟩:∃ W5,W5=wc:=⟨_,rfl⟩
   have HQ2:=Hy (show wholeC s=(if re=6 then (s1,some 413) else if re=46 then (s1,some 501) else if re≠0 then (s1,some 400) else
    if (decide (es≠[]) && decide (0<mi))=true∧lowL (es.headD [])≠lowL contW then (s1,some 417) else if kd=1∧(s1.most:Int)<nn then (s1,some 413) else
    ({ s1 with out:=if (decide (es≠[]) && decide (0<mi))=true∧s1.row=[]∧(0<nn∨kd=2) then s1.out++(rsW 100 []).1 else s1.out,rd:=some (newF kd.toNat nn.toNat s1.most),inBody:=true },none)) from by
    rw [HQ.out,if_neg]
    rintro (h | ⟨h1,h2⟩)
    ·exact h rfl
    ·rw [hmh h1] at h2;cases h2)
   clear HQ hmh HC1 CP CH b0 b1 b2 b3
   obtain ⟨b0,b1,b2,b3⟩:=hks.out W5 hxw
   go_step
   go_step
   go_cut [5,6] (fun v5 v6 wx=>LenW W kd nn re v5 v6 wx)
   case first=>
    go_wp2_with (first
     | (go_at_call 49;refine (CQ.out _ Xq (hL.er.ext (hOW.out.ext.tr Xq))).mono ?_;rintro e w6 ⟨rfl,hx6⟩))
    go_meet
    exact ⟨_,rfl,rfl,heap_alloc_new w6 _,(hxw.tr hx6).size,Xq⟩
   case rest =>
    obtain ⟨q,rfl,rfl,rowq,hqW,hx6⟩:=hcut
    obtain ⟨W6,rfl⟩:∃ W6,W6=wc:=⟨_,rfl⟩
    clear hxw b0 b1 b2 b3 CQ
    have hkq:=Hy (fun w' (e:Ext W6 w')=>(show w'.heap[q]?=some (.cells #[.int .i64 kd,.int .i64 nn] 78 (0,0)) from (e.block q (row_lt rowq)).trans rowq))
    have HX6:=Hy hx6
    clear rowq
    have h0:=HC2.out
    have k0:(re == 0)=false:=by rw [beq_eq_false_iff_ne];exact h0
    by_cases h6:re=6
    ·subst h6
     have HQ2:=Hy (show wholeC s=(s1,some 413) from by rw [HQ2.out];rfl)
     go_wp2_with (go_at_call 40;refine (nRefuse_c _ _).mono ?_;rintro e w9 ⟨rfl,rfl⟩)
     simp only [bodyPost]
     rw [HQ2.out]
     exact ⟨trivial,rfl,(fun (hx:Ext W _)=>(HFIN.out _ hx).elim fun oF h1=>h1.elim fun rF h2=>⟨oF,rF,h2.1,h2.2.1,fun h=>by cases h⟩) Xq⟩
    ·have k6:(re == 6)=false:=by rw [beq_eq_false_iff_ne];exact h6
     by_cases h46:re=46
     ·subst h46
      have HQ2:=Hy (show wholeC s=(s1,some 501) from by rw [HQ2.out];rfl)
      go_wp2_with (go_at_call 40;refine (nRefuse_c _ _).mono ?_;rintro e w9 ⟨rfl,rfl⟩)
      simp only [bodyPost]
      rw [HQ2.out]
      exact ⟨trivial,rfl,(fun (hx:Ext W _)=>(HFIN.out _ hx).elim fun oF h1=>h1.elim fun rF h2=>⟨oF,rF,h2.1,h2.2.1,fun h=>by cases h⟩) Xq⟩
     ·have k46:(re == 46)=false:=by rw [beq_eq_false_iff_ne];exact h46
      have HQ2:=Hy (show wholeC s=(s1,some 400) from by rw [HQ2.out,if_neg h6,if_neg h46,if_pos h0])
      clear h0 h6 h46
      go_wp2_with (go_at_call 40;refine (nRefuse_c _ _).mono ?_;rintro e w9 ⟨rfl,rfl⟩)
      simp only [bodyPost]
      rw [HQ2.out]
      exact ⟨trivial,rfl,(fun (hx:Ext W _)=>(HFIN.out _ hx).elim fun oF h1=>h1.elim fun rF h2=>⟨oF,rF,h2.1,h2.2.1,fun h=>by cases h⟩) Xq⟩
end Go.Proofs.YthbofilcnpdghaaGreatDoor
end
