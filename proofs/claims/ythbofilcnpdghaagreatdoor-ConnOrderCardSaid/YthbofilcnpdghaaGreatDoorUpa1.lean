/-
The program's Parse: no target, CONNECT, OPTIONS *.
-/
import Derived.Test.YthbofilcnpdghaaGreatDoorZbf
set_option maxRecDepth 100000
set_option maxHeartbeats 8000000
set_option linter.unusedVariables false
set_option linter.unusedSimpArgs false
namespace Go.Proofs.YthbofilcnpdghaaGreatDoor
open Go.RowKit
theorem two_p (w:World) (o1 o2:Obj):((w.alloc o1).alloc o2).heap[w.heap.size]?=some o1:=(two w o1 o2).1
theorem three_m (w:World) (o1 o2 o3:Obj):(((w.alloc o1).alloc o2).alloc o3).heap[w.heap.size+1]?=some o2:=by
 rw [Below.heap_alloc _ _ _ (by simp)];exact (two w o1 o2).2
theorem uParse_long (m l:List UInt8) (h:8192<l.length) (w:World) :
  Calls Tryz.prog 59 #[.string (str m),.string (str l)] w (Gives (tgtV badT) w):=by
 have d1:decide ((8192:Int)<(l.length:Int))=true:=by rw [decide_eq_true_eq];omega
 clear h
 go_enter Tryz.func59,Tryz.ntmps59
 go_wp2
 obtain ⟨w1,hW1⟩:∃ w1,w1=(w.alloc (.cells #[.int .i64 0,.string ⟨#[]⟩,.int .i64 0,.string ⟨#[]⟩,.string ⟨#[]⟩,.bool false] 107)).alloc (.cells #[.int .i64 0,.string ⟨#[]⟩,.int .i64 0,.string ⟨#[]⟩,.string ⟨#[]⟩,.bool false] 107):=⟨_,rfl⟩
 rw [← hW1]
 have HB:=Hy (show w1.heap[w.heap.size]?=some (.cells #[.int .i64 0,.string ⟨#[]⟩,.int .i64 0,.string ⟨#[]⟩,.string ⟨#[]⟩,.bool false] 107 (0,0)) by rw [hW1];exact two_p w _ _)
 have hw1:Ext w w1:=by rw [hW1];(exact Xq)
 clear hW1
 obtain ⟨⟨r0,r1,r2,r3,r4,r5⟩,_⟩:=six HB.out (Ext.rfl' _)
 exact bodyPost_ret (v:=tgtV badT) (by simp [results,Tryz.results59,go_sem,tgtV,badT,str,r0,r1,r2,r3,r4,r5]) rfl ⟨rfl,hw1⟩
theorem uParse_nil (m:List UInt8) (w:World) :
  Calls Tryz.prog 59 #[.string (str m),.string (str [])] w (Gives (tgtV badT) w):=by
 rw [show str ([]:List UInt8)=⟨#[]⟩ from rfl]
 go_enter Tryz.func59,Tryz.ntmps59
 go_wp2
 obtain ⟨w1,hW1⟩:∃ w1,w1=(w.alloc (.cells #[.int .i64 0,.string ⟨#[]⟩,.int .i64 0,.string ⟨#[]⟩,.string ⟨#[]⟩,.bool false] 107)).alloc (.cells #[.int .i64 0,.string ⟨#[]⟩,.int .i64 0,.string ⟨#[]⟩,.string ⟨#[]⟩,.bool false] 107):=⟨_,rfl⟩
 rw [← hW1]
 have HB:=Hy (show w1.heap[w.heap.size]?=some (.cells #[.int .i64 0,.string ⟨#[]⟩,.int .i64 0,.string ⟨#[]⟩,.string ⟨#[]⟩,.bool false] 107 (0,0)) by rw [hW1];exact two_p w _ _)
 have hw1:Ext w w1:=by rw [hW1];(exact Xq)
 clear hW1
 obtain ⟨⟨r0,r1,r2,r3,r4,r5⟩,_⟩:=six HB.out (Ext.rfl' _)
 exact bodyPost_ret (v:=tgtV badT) (by simp [results,Tryz.results59,go_sem,tgtV,badT,str,r0,r1,r2,r3,r4,r5]) rfl ⟨rfl,hw1⟩
theorem uParse_con (l:List UInt8) (h1:l≠[]) (h2:l.length≤8192) (w:World) (hE:ErrR w) :
  Calls Tryz.prog 59 #[.string (str conL),.string (str l)] w (Gives (tgtV (if (hostL l).2.2=0∧0≤(hostL l).2.1 then ((3,(hostL l).1,(hostL l).2.1,[],[],false),0) else badT)) w):=by
 have d1:decide ((8192:Int)<(l.length:Int))=false:=by rw [decide_eq_false_iff_not];omega
 have e1:l.isEmpty=false:=by rw [List.isEmpty_eq_false_iff];exact h1
 have e2:(str l).toList.isEmpty=false:=by rw [Lib.toList_data];exact e1
 have C:=fun w hE=>uHost_c l (by omega) w hE
 unfold hostV at C
 obtain ⟨H,hH⟩:∃ H,H=(hostL l).1:=⟨_,rfl⟩
 obtain ⟨p,hp⟩:∃ p,p=(hostL l).2.1:=⟨_,rfl⟩
 obtain ⟨e,he⟩:∃ e,e=(hostL l).2.2:=⟨_,rfl⟩
 rw [← hH,← hp,← he] at C ⊢
 have C:=Hy C
 have HE:=Hy hE
 rw [show str conL=⟨#[67,79,78,78,69,67,84]⟩ from rfl]
 clear hH hp he h2 hE
 by_cases c1:e=0
 ·subst c1
  by_cases c2:0≤p
  ·have d2:decide (p<0)=false:=by rw [decide_eq_false_iff_not];omega
   rw [if_pos ⟨rfl,c2⟩]
   go_enter Tryz.func59,Tryz.ntmps59
   go_wp2_with (go_at_call 85;refine (C.out _ (HE.out.ext Xq)).mono ?_;rintro e w1 ⟨rfl,hx1⟩;have hq:Ext (((w.alloc (.cells #[.int .i64 0,.string ⟨#[]⟩,.int .i64 0,.string ⟨#[]⟩,.string ⟨#[]⟩,.bool false] 107)).alloc (.cells #[.int .i64 0,.string ⟨#[]⟩,.int .i64 0,.string ⟨#[]⟩,.string ⟨#[]⟩,.bool false] 107)).alloc (.cells #[.int .i64 1,.string ⟨#[]⟩,.int .i64 (-1),.string ⟨#[]⟩,.string ⟨#[]⟩,.bool false] 107)) w1:=Xq;have HB:=Hy ((hq.block w.heap.size (by first | (simp;done) | (simp;omega))).trans (three w _ _ _).1);have HN:=Hy ((hq.block (w.heap.size+1) (by first | (simp;done) | (simp;omega))).trans (three_m w _ _ _));have HT:=Hy ((hq.block (w.heap.size+1+1) (by simp)).trans (three w _ _ _).2);have hw1:Ext w w1:=Xq;clear hq;obtain ⟨⟨r0,r1,r2,r3,r4,r5⟩,f0,f1,f2,f3,f4,f5⟩:=six HB.out (Ext.rfl' _);obtain ⟨⟨n0,n1,n2,n3,n4,n5⟩,m0,m1,m2,m3,m4,m5⟩:=six HN.out (Ext.rfl' _);obtain ⟨⟨t0,t1,t2,t3,t4,t5⟩,g0,g1,g2,g3,g4,g5⟩:=six HT.out (Ext.rfl' _))
   clear r0 r1 r2 r3 r4 r5 f0 f1 f2 f3 f4 f5 n0 n1 n2 n3 n4 n5 m0 m1 m2 m3 m4 m5 t0 t1 t2 t3 t4 t5 g0 g1 g2 g3 g4 g5
   have hx9:Ext w _:=ext6 hw1 (.int .i64 3) (.string (str H)) (.int .i64 p) (.string (str [])) (.string (str [])) (.bool false)
   have hp9:=put6 HB.out (.int .i64 3) (.string (str H)) (.int .i64 p) (.string (str [])) (.string (str [])) (.bool false)
   obtain ⟨W9,hW9⟩:∃ W9,W9=((((((w1.setCell ⟨w.heap.size,0,none⟩ (.int .i64 3)).setCell ⟨w.heap.size,1,none⟩ (.string (str H))).setCell ⟨w.heap.size,2,none⟩ (.int .i64 p)).setCell ⟨w.heap.size,3,none⟩ (.string (str []))).setCell ⟨w.heap.size,4,none⟩ (.string (str []))).setCell ⟨w.heap.size,5,none⟩ (.bool false)):=⟨_,rfl⟩
   rw [← hW9] at hx9 hp9
   try simp only [show str ([]:List UInt8)=⟨#[]⟩ from rfl,show str ([47]:List UInt8)=⟨#[47]⟩ from rfl] at hW9
   rw [← hW9]
   clear hW9
   obtain ⟨⟨r0,r1,r2,r3,r4,r5⟩,_⟩:=six hp9 (Ext.rfl' _)
   exact bodyPost_ret (v:=tgtV ((3,H,p,[],[],false),0)) (by simp [results,Tryz.results59,go_sem,tgtV,r0,r1,r2,r3,r4,r5]) rfl ⟨by first | rfl | exact ret_val (by rw [HV.out];try rfl),hx9⟩
  ·have d2:decide (p<0)=true:=by rw [decide_eq_true_eq];omega
   rw [if_neg (fun h=>c2 h.2)]
   go_enter Tryz.func59,Tryz.ntmps59
   go_wp2_with (go_at_call 85;refine (C.out _ (HE.out.ext Xq)).mono ?_;rintro e w1 ⟨rfl,hx1⟩;have hq:Ext (((w.alloc (.cells #[.int .i64 0,.string ⟨#[]⟩,.int .i64 0,.string ⟨#[]⟩,.string ⟨#[]⟩,.bool false] 107)).alloc (.cells #[.int .i64 0,.string ⟨#[]⟩,.int .i64 0,.string ⟨#[]⟩,.string ⟨#[]⟩,.bool false] 107)).alloc (.cells #[.int .i64 1,.string ⟨#[]⟩,.int .i64 (-1),.string ⟨#[]⟩,.string ⟨#[]⟩,.bool false] 107)) w1:=Xq;have HB:=Hy ((hq.block w.heap.size (by first | (simp;done) | (simp;omega))).trans (three w _ _ _).1);have HN:=Hy ((hq.block (w.heap.size+1) (by first | (simp;done) | (simp;omega))).trans (three_m w _ _ _));have HT:=Hy ((hq.block (w.heap.size+1+1) (by simp)).trans (three w _ _ _).2);have hw1:Ext w w1:=Xq;clear hq;obtain ⟨⟨r0,r1,r2,r3,r4,r5⟩,f0,f1,f2,f3,f4,f5⟩:=six HB.out (Ext.rfl' _);obtain ⟨⟨n0,n1,n2,n3,n4,n5⟩,m0,m1,m2,m3,m4,m5⟩:=six HN.out (Ext.rfl' _);obtain ⟨⟨t0,t1,t2,t3,t4,t5⟩,g0,g1,g2,g3,g4,g5⟩:=six HT.out (Ext.rfl' _))
   clear r0 r1 r2 r3 r4 r5 f0 f1 f2 f3 f4 f5 n0 n1 n2 n3 n4 n5 m0 m1 m2 m3 m4 m5 t0 t1 t2 t3 t4 t5 g0 g1 g2 g3 g4 g5
   have hx9:Ext w _:=ext6 hw1 (.int .i64 0) (.string (str [])) (.int .i64 0) (.string (str [])) (.string (str [])) (.bool false)
   have hp9:=put6 HB.out (.int .i64 0) (.string (str [])) (.int .i64 0) (.string (str [])) (.string (str [])) (.bool false)
   obtain ⟨W9,hW9⟩:∃ W9,W9=((((((w1.setCell ⟨w.heap.size,0,none⟩ (.int .i64 0)).setCell ⟨w.heap.size,1,none⟩ (.string (str []))).setCell ⟨w.heap.size,2,none⟩ (.int .i64 0)).setCell ⟨w.heap.size,3,none⟩ (.string (str []))).setCell ⟨w.heap.size,4,none⟩ (.string (str []))).setCell ⟨w.heap.size,5,none⟩ (.bool false)):=⟨_,rfl⟩
   rw [← hW9] at hx9 hp9
   try simp only [show str ([]:List UInt8)=⟨#[]⟩ from rfl,show str ([47]:List UInt8)=⟨#[47]⟩ from rfl] at hW9
   rw [← hW9]
   clear hW9
   obtain ⟨⟨r0,r1,r2,r3,r4,r5⟩,_⟩:=six hp9 (Ext.rfl' _)
   exact bodyPost_ret (v:=tgtV ((0,[],0,[],[],false),40)) (by simp [results,Tryz.results59,go_sem,tgtV,r0,r1,r2,r3,r4,r5]) rfl ⟨by first | rfl | exact ret_val (by rw [HV.out];try rfl),hx9⟩
 ·have d2:(e != 0)=true:=by rw [bne_iff_ne];exact c1
  rw [if_neg (fun h=>c1 h.1)]
  clear c1
  go_enter Tryz.func59,Tryz.ntmps59
  go_wp2_with (go_at_call 85;refine (C.out _ (HE.out.ext Xq)).mono ?_;rintro e w1 ⟨rfl,hx1⟩;have hq:Ext (((w.alloc (.cells #[.int .i64 0,.string ⟨#[]⟩,.int .i64 0,.string ⟨#[]⟩,.string ⟨#[]⟩,.bool false] 107)).alloc (.cells #[.int .i64 0,.string ⟨#[]⟩,.int .i64 0,.string ⟨#[]⟩,.string ⟨#[]⟩,.bool false] 107)).alloc (.cells #[.int .i64 1,.string ⟨#[]⟩,.int .i64 (-1),.string ⟨#[]⟩,.string ⟨#[]⟩,.bool false] 107)) w1:=Xq;have HB:=Hy ((hq.block w.heap.size (by first | (simp;done) | (simp;omega))).trans (three w _ _ _).1);have HN:=Hy ((hq.block (w.heap.size+1) (by first | (simp;done) | (simp;omega))).trans (three_m w _ _ _));have HT:=Hy ((hq.block (w.heap.size+1+1) (by simp)).trans (three w _ _ _).2);have hw1:Ext w w1:=Xq;clear hq;obtain ⟨⟨r0,r1,r2,r3,r4,r5⟩,f0,f1,f2,f3,f4,f5⟩:=six HB.out (Ext.rfl' _);obtain ⟨⟨n0,n1,n2,n3,n4,n5⟩,m0,m1,m2,m3,m4,m5⟩:=six HN.out (Ext.rfl' _);obtain ⟨⟨t0,t1,t2,t3,t4,t5⟩,g0,g1,g2,g3,g4,g5⟩:=six HT.out (Ext.rfl' _))
  clear r0 r1 r2 r3 r4 r5 f0 f1 f2 f3 f4 f5 n0 n1 n2 n3 n4 n5 m0 m1 m2 m3 m4 m5 t0 t1 t2 t3 t4 t5 g0 g1 g2 g3 g4 g5
  have hx9:Ext w _:=ext6 hw1 (.int .i64 0) (.string (str [])) (.int .i64 0) (.string (str [])) (.string (str [])) (.bool false)
  have hp9:=put6 HB.out (.int .i64 0) (.string (str [])) (.int .i64 0) (.string (str [])) (.string (str [])) (.bool false)
  obtain ⟨W9,hW9⟩:∃ W9,W9=((((((w1.setCell ⟨w.heap.size,0,none⟩ (.int .i64 0)).setCell ⟨w.heap.size,1,none⟩ (.string (str []))).setCell ⟨w.heap.size,2,none⟩ (.int .i64 0)).setCell ⟨w.heap.size,3,none⟩ (.string (str []))).setCell ⟨w.heap.size,4,none⟩ (.string (str []))).setCell ⟨w.heap.size,5,none⟩ (.bool false)):=⟨_,rfl⟩
  rw [← hW9] at hx9 hp9
  try simp only [show str ([]:List UInt8)=⟨#[]⟩ from rfl,show str ([47]:List UInt8)=⟨#[47]⟩ from rfl] at hW9
  rw [← hW9]
  clear hW9
  obtain ⟨⟨r0,r1,r2,r3,r4,r5⟩,_⟩:=six hp9 (Ext.rfl' _)
  exact bodyPost_ret (v:=tgtV ((0,[],0,[],[],false),40)) (by simp [results,Tryz.results59,go_sem,tgtV,r0,r1,r2,r3,r4,r5]) rfl ⟨by first | rfl | exact ret_val (by rw [HV.out];try rfl),hx9⟩
theorem uParse_opt (w:World) :
  Calls Tryz.prog 59 #[.string (str optL),.string (str [42])] w (Gives (tgtV ((4,[],-1,[],[],false),0)) w):=by
 rw [show str optL=⟨#[79,80,84,73,79,78,83]⟩ from rfl,show str ([42]:List UInt8)=⟨#[42]⟩ from rfl]
 go_enter Tryz.func59,Tryz.ntmps59
 go_wp2
 obtain ⟨⟨r0,r1,r2,r3,r4,r5⟩,_⟩:=six (three w (.cells #[.int .i64 4,.string ⟨#[]⟩,.int .i64 (-1),.string ⟨#[]⟩,.string ⟨#[]⟩,.bool false] 107) (.cells #[.int .i64 0,.string ⟨#[]⟩,.int .i64 0,.string ⟨#[]⟩,.string ⟨#[]⟩,.bool false] 107) (.cells #[.int .i64 4,.string ⟨#[]⟩,.int .i64 (-1),.string ⟨#[]⟩,.string ⟨#[]⟩,.bool false] 107)).1 (Ext.rfl' _)
 exact bodyPost_ret (v:=tgtV ((4,[],-1,[],[],false),0)) (by simp [results,Tryz.results59,go_sem,tgtV,str] at r0 r1 r2 r3 r4 r5 ⊢) rfl ⟨rfl,Xq⟩
end Go.Proofs.YthbofilcnpdghaaGreatDoor
