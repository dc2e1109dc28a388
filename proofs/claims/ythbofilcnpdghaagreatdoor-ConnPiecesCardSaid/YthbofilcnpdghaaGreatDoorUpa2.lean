/-
The program's Parse: a path.
-/
import Derived.Test.YthbofilcnpdghaaGreatDoorUpa1
set_option maxRecDepth 100000
set_option maxHeartbeats 8000000
set_option linter.unusedVariables false
set_option linter.unusedSimpArgs false
namespace Go.Proofs.YthbofilcnpdghaaGreatDoor
open Go.RowKit
theorem uParse_path (m l:List UInt8) (hm:¬ m=conL) (ho:¬(m=optL∧l=[42])) (h1:l≠[]) (h2:l.length≤8192) (hh:¬(7≤l.length∧lowL (l.take 7)=httpU)) (h47:l.head?=some 47) (w:World) :
  Calls Tryz.prog 59 #[.string (str m),.string (str l)] w (Gives (tgtV (finT 1 [] (-1) l)) w):=by
 have d1:decide ((8192:Int)<(l.length:Int))=false:=by rw [decide_eq_false_iff_not];omega
 have e1:l.isEmpty=false:=by rw [List.isEmpty_eq_false_iff];exact h1
 have e2:(str l).toList.isEmpty=false:=by rw [Lib.toList_data];exact e1
 have hl0:0<l.length:=List.length_pos_iff.2 h1
 have hb:((l[0].toNat:Int) != 47)=false:=by
  rw [List.head?_eq_getElem?,List.getElem?_eq_getElem hl0] at h47
  rw [Option.some.inj h47];rfl
 have m1:=strN hm
 have m2:(m == conL)=false:=by rw [beq_eq_false_iff_ne];exact hm
 have C:=fun w=>Equal_c (l.take 7) httpU (by unfold maxLen;rw [List.length_take];omega) (by decide) w
 rw [show str httpU=⟨#[104,116,116,112,58,47,47]⟩ from rfl] at C
 have D:=fun w=>Cut63_c l (by unfold maxLen;omega) w
 obtain ⟨R,hR⟩:∃ R,R=finT 1 [] (-1) l:=⟨_,rfl⟩
 rw [← hR]
 have hlp:=(cut_len l).1
 have hlq:=(cut_len l).2
 have hRR:=hR
 unfold finT at hRR
 rw [local_cut] at hRR
 clear hR
 obtain ⟨p,hp⟩:∃ p,p=(cutL l).1:=⟨_,rfl⟩
 obtain ⟨q,hq⟩:∃ q,q=(cutL l).2.1:=⟨_,rfl⟩
 obtain ⟨a,ha⟩:∃ a,a=(cutL l).2.2:=⟨_,rfl⟩
 rw [show cutL l=(p,q,a) by rw [hp,hq,ha]] at hRR
 rw [← hp,← hq,← ha] at D
 rw [← hp] at hlp
 rw [← hq] at hlq
 have hlp:p.length≤140737488355328:=by omega
 have hlq:q.length≤140737488355328:=by omega
 dsimp only at hRR
 have D:=Hy D
 have HRR:=Hy hRR
 unfold conL at hm m1 m2
 clear hp hq ha h47 hRR
 by_cases c1:m=optL
 ·have l1:¬ l=[42]:=fun h=>ho ⟨c1,h⟩
  have l2:=strN l1
  have l3:(l == [42])=false:=by rw [beq_eq_false_iff_ne];exact l1
  subst c1
  rw [show str optL=⟨#[79,80,84,73,79,78,83]⟩ from rfl]
  clear m1 m2 hm ho
  by_cases c7:7≤l.length
  ·have d7:decide ((7:Int)≤(l.length:Int))=true:=by rw [decide_eq_true_eq];omega
   have n7:(7:Int)≤(l.length:Int):=by omega
   have h7:(lowL (l.take 7) == lowL httpU)=false:=by
    rw [beq_eq_false_iff_ne];intro h;exact hh ⟨c7,h.trans (by decide)⟩
   rw [h7] at C
   have C:=Hy C
   clear hh h7
   go_enter Tryz.func59,Tryz.ntmps59
   go_wp2_with (first
    | (go_at_call 62;refine (C.out _).mono ?_;rintro e w0 ⟨rfl,hx0⟩;have hq:Ext (((w.alloc (.cells #[.int .i64 0,.string ⟨#[]⟩,.int .i64 0,.string ⟨#[]⟩,.string ⟨#[]⟩,.bool false] 107)).alloc (.cells #[.int .i64 0,.string ⟨#[]⟩,.int .i64 0,.string ⟨#[]⟩,.string ⟨#[]⟩,.bool false] 107)).alloc (.cells #[.int .i64 1,.string ⟨#[]⟩,.int .i64 (-1),.string ⟨#[]⟩,.string ⟨#[]⟩,.bool false] 107)) w0:=Xq;have HB:=Hy ((hq.block w.heap.size (by first | (simp;done) | (simp;omega))).trans (three w _ _ _).1);have HN:=Hy ((hq.block (w.heap.size+1) (by first | (simp;done) | (simp;omega))).trans (three_m w _ _ _));have HT:=Hy ((hq.block (w.heap.size+1+1) (by simp)).trans (three w _ _ _).2);have hw1:Ext w w0:=Xq;clear hq;obtain ⟨⟨r0,r1,r2,r3,r4,r5⟩,f0,f1,f2,f3,f4,f5⟩:=six HB.out (Ext.rfl' _);obtain ⟨⟨n0,n1,n2,n3,n4,n5⟩,m0,m1,m2,m3,m4,m5⟩:=six HN.out (Ext.rfl' _);obtain ⟨⟨t0,t1,t2,t3,t4,t5⟩,g0,g1,g2,g3,g4,g5⟩:=six HT.out (Ext.rfl' _))
    | (go_at_call 78;refine (D.out _).mono ?_;rintro e w2 ⟨rfl,hx2⟩;(try clear r0 r1 r2 r3 r4 r5 f0 f1 f2 f3 f4 f5 n0 n1 n2 n3 n4 n5 m0 m1 m2 m3 m4 m5 t0 t1 t2 t3 t4 t5 g0 g1 g2 g3 g4 g5);(try clear HB HN HT hw1);have hq:Ext (((w.alloc (.cells #[.int .i64 0,.string ⟨#[]⟩,.int .i64 0,.string ⟨#[]⟩,.string ⟨#[]⟩,.bool false] 107)).alloc (.cells #[.int .i64 0,.string ⟨#[]⟩,.int .i64 0,.string ⟨#[]⟩,.string ⟨#[]⟩,.bool false] 107)).alloc (.cells #[.int .i64 1,.string ⟨#[]⟩,.int .i64 (-1),.string ⟨#[]⟩,.string ⟨#[]⟩,.bool false] 107)) w2:=Xq;have HB:=Hy ((hq.block w.heap.size (by first | (simp;done) | (simp;omega))).trans (three w _ _ _).1);have HN:=Hy ((hq.block (w.heap.size+1) (by first | (simp;done) | (simp;omega))).trans (three_m w _ _ _));have HT:=Hy ((hq.block (w.heap.size+1+1) (by simp)).trans (three w _ _ _).2);have hw1:Ext w w2:=Xq;clear hq;obtain ⟨⟨r0,r1,r2,r3,r4,r5⟩,f0,f1,f2,f3,f4,f5⟩:=six HB.out (Ext.rfl' _);obtain ⟨⟨n0,n1,n2,n3,n4,n5⟩,m0,m1,m2,m3,m4,m5⟩:=six HN.out (Ext.rfl' _);obtain ⟨⟨t0,t1,t2,t3,t4,t5⟩,g0,g1,g2,g3,g4,g5⟩:=six HT.out (Ext.rfl' _)))
   obtain ⟨W5,hW5⟩:∃ W5,W5=((w2.setCell ⟨w.heap.size+1+1,3,none⟩ (.string (str p))).setCell ⟨w.heap.size+1+1,4,none⟩ (.string (str q))).setCell ⟨w.heap.size+1+1,5,none⟩ (.bool a):=⟨_,rfl⟩
   rw [← hW5]
   have hnR:w.heap.size≠w.heap.size+1+1:=by omega
   have hnN:w.heap.size+1≠w.heap.size+1+1:=by omega
   have hge:w.heap.size≤w.heap.size+1+1:=by omega
   have HT5:=Hy (show W5.heap[w.heap.size+1+1]?=some (.cells #[.int .i64 1,.string ⟨#[]⟩,.int .i64 (-1),.string (str p),.string (str q),.bool a] 107 (0,0)) by rw [hW5];simp [World.setCell,Array.getElem?_modify,HT.out])
   have HR5:=Hy ((show W5.heap[w.heap.size]?=w2.heap[w.heap.size]? by rw [hW5,Below.heap_setCell _ _ _ _ hnR,Below.heap_setCell _ _ _ _ hnR,Below.heap_setCell _ _ _ _ hnR]).trans HB.out)
   have HN5:=Hy ((show W5.heap[w.heap.size+1]?=w2.heap[w.heap.size+1]? by rw [hW5,Below.heap_setCell _ _ _ _ hnN,Below.heap_setCell _ _ _ _ hnN,Below.heap_setCell _ _ _ _ hnN]).trans HN.out)
   have hx5:Ext w W5:=by rw [hW5];exact ((hw1.st hge _).st hge _).st hge _
   clear hW5 hw1 HT HB HN
   clear r0 r1 r2 r3 r4 r5 f0 f1 f2 f3 f4 f5 n0 n1 n2 n3 n4 n5 m0 m1 m2 m3 m4 m5 t0 t1 t2 t3 t4 t5 g0 g1 g2 g3 g4 g5
   try clear C
   try clear IA
   try clear CH
   try clear D
   try clear HE
   try clear d1
   try clear d7
   try clear n7
   try clear e1
   try clear e2
   try clear hdr
   try clear hr8
   try clear i1
   try clear i2
   try clear hki
   try clear m1
   try clear m2
   try clear o1
   try clear o2
   try clear l1
   try clear l2
   try clear l3
   try clear c1
   try clear h1
   try clear h2
   try clear h7
   try clear hm
   try clear ho
   try clear hmo
   try clear ck
   try clear hb
   try clear hl0
   try clear c7
   have hlT:w.heap.size+1+1<W5.heap.size:=(Array.getElem?_eq_some_iff.1 HT5.out).1
   have hlN:w.heap.size+1<W5.heap.size:=by omega
   have hlR:w.heap.size<W5.heap.size:=by omega
   have hks:=Hy (fun w' (x:Ext W5 w')=>(show w'.cell? ⟨w.heap.size+1+1,3,none⟩=some (.string (str p))∧w'.cell? ⟨w.heap.size+1+1,4,none⟩=some (.string (str q)) from ⟨(six HT5.out x).1.2.2.2.1,(six HT5.out x).1.2.2.2.2.1⟩))
   have hRR:=HRR.out
   clear HRR
   obtain ⟨vp,hvp⟩:∃ v,v=p.all (mayB false):=⟨_,rfl⟩
   obtain ⟨vq,hvq⟩:∃ v,v=q.all (mayB true):=⟨_,rfl⟩
   rw [← hvp,← hvq] at hRR
   rw [show mayB false=mayB (mq ⟨#[]⟩) from rfl] at hvp
   rw [show mayB true=mayB (mq ⟨#[63]⟩) from rfl] at hvq
   have HP:=Hy hvp.symm
   have HQ:=Hy hvq.symm
   clear hvp hvq
   cases vp
   ·have HV:=Hy (show R=badT by rw [hRR];simp)
    clear hRR
    have kA:W5.cell? ⟨w.heap.size+1+1,3,none⟩=some (.string (str p)):=(hks.out W5 (Ext.rfl' _)).1
    have kB:∀ n,(W5.drewN n).cell? ⟨w.heap.size+1+1,3,none⟩=some (.string (str p)):=fun n=>(hks.out _ Xq).1
    have kC:∀ n,((W5.drewN n).alloc (.cells #[.string ⟨#[]⟩] 9)).cell? ⟨w.heap.size+1+1,3,none⟩=some (.string (str p)):=fun n=>(hks.out _ Xq).1
    first
     | (go_region_with (first
     | (go_at_call 88;refine (upath_c _ _).mono ?_;rintro e w5 ⟨rfl,rfl⟩)
     | (go_at_call 87;refine (all_px _ _ _ _ hlp (by first | exact new_at _ _ _ 0 _ rfl | exact new_at_g (by simp) _ _ 0 _ rfl) (.inl rfl)).mono ?_;rintro e w6 ⟨rfl,rfl⟩;rw [HP.out])))
     | fail
    all_goals (
     obtain ⟨w1,hW8⟩:∃ w1,w1=W5.alloc (.cells #[.string ⟨#[]⟩] 9):=⟨_,rfl⟩
     first | rw [← hW8] | skip
     have hx8:Ext W5 w1:=by rw [hW8];(exact Xq)
     clear hW8
     have HN:=Hy ((hx8.block (w.heap.size+1) hlN).trans HN5.out)
     have HB:=Hy ((hx8.block w.heap.size hlR).trans HR5.out)
     have hw1:Ext w w1:=hx5.tr hx8
     obtain ⟨⟨r0,r1,r2,r3,r4,r5⟩,f0,f1,f2,f3,f4,f5⟩:=six HB.out (Ext.rfl' _);obtain ⟨⟨n0,n1,n2,n3,n4,n5⟩,m0,m1,m2,m3,m4,m5⟩:=six HN.out (Ext.rfl' _)
     clear hks hlT hlR hlN
     go_wp2
     clear r0 r1 r2 r3 r4 r5 f0 f1 f2 f3 f4 f5 n0 n1 n2 n3 n4 n5 m0 m1 m2 m3 m4 m5
     have hx9:Ext w _:=ext6 hw1 (.int .i64 0) (.string (str [])) (.int .i64 0) (.string (str [])) (.string (str [])) (.bool false)
     have hp9:=put6 HB.out (.int .i64 0) (.string (str [])) (.int .i64 0) (.string (str [])) (.string (str [])) (.bool false)
     obtain ⟨W9,hW9⟩:∃ W9,W9=((((((w1.setCell ⟨w.heap.size,0,none⟩ (.int .i64 0)).setCell ⟨w.heap.size,1,none⟩ (.string (str []))).setCell ⟨w.heap.size,2,none⟩ (.int .i64 0)).setCell ⟨w.heap.size,3,none⟩ (.string (str []))).setCell ⟨w.heap.size,4,none⟩ (.string (str []))).setCell ⟨w.heap.size,5,none⟩ (.bool false)):=⟨_,rfl⟩
     rw [← hW9] at hx9 hp9
     try simp only [show str ([]:List UInt8)=⟨#[]⟩ from rfl,show str ([47]:List UInt8)=⟨#[47]⟩ from rfl] at hW9
     rw [← hW9]
     clear hW9
     obtain ⟨⟨r0,r1,r2,r3,r4,r5⟩,_⟩:=six hp9 (Ext.rfl' _)
     exact bodyPost_ret (v:=tgtV ((0,[],0,[],[],false),40)) (by simp [results,Tryz.results59,go_sem,tgtV,r0,r1,r2,r3,r4,r5]) rfl ⟨by first | rfl | exact ret_val (by rw [HV.out];try rfl),by first | exact hx9 | ((exact Xq))⟩
     )
   ·cases vq
    ·have HV:=Hy (show R=badT by rw [hRR];simp)
     clear hRR
     go_region_held3 (fun w'=>w'.cell? ⟨w.heap.size+1+1,3,none⟩=some (.string (str p))∧w'.cell? ⟨w.heap.size+1+1,4,none⟩=some (.string (str q))) (exact hks.out _ Xq) (first
      | (go_at_call 88;refine (upath_c _ _).mono ?_;rintro e w5 ⟨rfl,rfl⟩)
      | (go_at_call 87;refine (all_px _ _ _ _ (by first | exact hlp | exact hlq) (by first | exact new_at _ _ _ 0 _ rfl | exact new_at_g (by simp) _ _ 0 _ rfl) (by first | exact .inl rfl | exact .inr rfl)).mono ?_;rintro e w6 ⟨rfl,rfl⟩;first | rw [HP.out] | rw [HQ.out]))
     all_goals (
      obtain ⟨w1,hW8⟩:∃ w1,w1=(W5.alloc (.cells #[.string ⟨#[]⟩] 9)).alloc (.cells #[.string ⟨#[63]⟩] 9):=⟨_,rfl⟩
      first | rw [← hW8] | skip
      have hx8:Ext W5 w1:=by rw [hW8];(exact Xq)
      clear hW8
      have HN:=Hy ((hx8.block (w.heap.size+1) hlN).trans HN5.out)
      have HB:=Hy ((hx8.block w.heap.size hlR).trans HR5.out)
      have hw1:Ext w w1:=hx5.tr hx8
      obtain ⟨⟨r0,r1,r2,r3,r4,r5⟩,f0,f1,f2,f3,f4,f5⟩:=six HB.out (Ext.rfl' _);obtain ⟨⟨n0,n1,n2,n3,n4,n5⟩,m0,m1,m2,m3,m4,m5⟩:=six HN.out (Ext.rfl' _)
      clear hks hlT hlR hlN
      go_wp2
      clear r0 r1 r2 r3 r4 r5 f0 f1 f2 f3 f4 f5 n0 n1 n2 n3 n4 n5 m0 m1 m2 m3 m4 m5
      have hx9:Ext w _:=ext6 hw1 (.int .i64 0) (.string (str [])) (.int .i64 0) (.string (str [])) (.string (str [])) (.bool false)
      have hp9:=put6 HB.out (.int .i64 0) (.string (str [])) (.int .i64 0) (.string (str [])) (.string (str [])) (.bool false)
      obtain ⟨W9,hW9⟩:∃ W9,W9=((((((w1.setCell ⟨w.heap.size,0,none⟩ (.int .i64 0)).setCell ⟨w.heap.size,1,none⟩ (.string (str []))).setCell ⟨w.heap.size,2,none⟩ (.int .i64 0)).setCell ⟨w.heap.size,3,none⟩ (.string (str []))).setCell ⟨w.heap.size,4,none⟩ (.string (str []))).setCell ⟨w.heap.size,5,none⟩ (.bool false)):=⟨_,rfl⟩
      rw [← hW9] at hx9 hp9
      try simp only [show str ([]:List UInt8)=⟨#[]⟩ from rfl,show str ([47]:List UInt8)=⟨#[47]⟩ from rfl] at hW9
      rw [← hW9]
      clear hW9
      obtain ⟨⟨r0,r1,r2,r3,r4,r5⟩,_⟩:=six hp9 (Ext.rfl' _)
      exact bodyPost_ret (v:=tgtV ((0,[],0,[],[],false),40)) (by simp [results,Tryz.results59,go_sem,tgtV,r0,r1,r2,r3,r4,r5]) rfl ⟨by first | rfl | exact ret_val (by rw [HV.out];try rfl),by first | exact hx9 | ((exact Xq))⟩
      )
    ·rw [if_pos ⟨rfl,rfl⟩] at hRR
     dsimp only at hRR
     by_cases pn:p=[]
     ·rw [if_pos pn] at hRR
      have p2:p.isEmpty=true:=by rw [pn];rfl
      have p3:(str p).toList.isEmpty=true:=by rw [Lib.toList_data];exact p2
      have HV:=Hy hRR
      clear hRR pn
      go_region_held3 (fun w'=>w'.cell? ⟨w.heap.size+1+1,3,none⟩=some (.string (str p))∧w'.cell? ⟨w.heap.size+1+1,4,none⟩=some (.string (str q))) (exact hks.out _ Xq) (first
       | (go_at_call 88;refine (upath_c _ _).mono ?_;rintro e w5 ⟨rfl,rfl⟩)
       | (go_at_call 87;refine (all_px _ _ _ _ (by first | exact hlp | exact hlq) (by first | exact new_at _ _ _ 0 _ rfl | exact new_at_g (by simp) _ _ 0 _ rfl) (by first | exact .inl rfl | exact .inr rfl)).mono ?_;rintro e w6 ⟨rfl,rfl⟩;first | rw [HP.out] | rw [HQ.out]))
      all_goals (
       obtain ⟨W8,hW8⟩:∃ W8,W8=(W5.alloc (.cells #[.string ⟨#[]⟩] 9)).alloc (.cells #[.string ⟨#[63]⟩] 9):=⟨_,rfl⟩
       first | rw [← hW8] | skip
       have hx8:Ext W5 W8:=by rw [hW8];(exact Xq)
       clear hW8
       have HR8:=Hy ((hx8.block w.heap.size hlR).trans HR5.out)
       have hT8:=(hx8.block (w.heap.size+1+1) hlT).trans HT5.out
       have hxW8:Ext w W8:=hx5.tr hx8
       obtain ⟨⟨t0,t1,t2,t3,t4,t5⟩,g0,g1,g2,g3,g4,g5⟩:=six hT8 (Ext.rfl' _)
       obtain ⟨⟨r0,r1,r2,r3,r4,r5⟩,f0,f1,f2,f3,f4,f5⟩:=six HR8.out (Ext.rfl' _)
       clear hks hlT hlR hlN hT8
       go_wp2
       clear t0 t1 t2 t3 t4 t5 g0 g1 g2 g3 g4 g5 r0 r1 r2 r3 r4 r5 f0 f1 f2 f3 f4 f5
       obtain ⟨w1,hW1⟩:∃ w1,w1=W8.setCell ⟨w.heap.size+1+1,3,none⟩ (.string ⟨#[47]⟩):=⟨_,rfl⟩
       rw [← hW1]
       have HB:=Hy ((show w1.heap[w.heap.size]?=W8.heap[w.heap.size]? by rw [hW1,Below.heap_setCell _ _ _ _ hnR]).trans HR8.out)
       have hw1:Ext w w1:=by rw [hW1];exact hxW8.st hge _
       clear hW1
       have hx9:Ext w _:=ext6 hw1 (.int .i64 1) (.string (str [])) (.int .i64 (-1)) (.string (str [47])) (.string (str q)) (.bool a)
       have hp9:=put6 HB.out (.int .i64 1) (.string (str [])) (.int .i64 (-1)) (.string (str [47])) (.string (str q)) (.bool a)
       obtain ⟨W9,hW9⟩:∃ W9,W9=((((((w1.setCell ⟨w.heap.size,0,none⟩ (.int .i64 1)).setCell ⟨w.heap.size,1,none⟩ (.string (str []))).setCell ⟨w.heap.size,2,none⟩ (.int .i64 (-1))).setCell ⟨w.heap.size,3,none⟩ (.string (str [47]))).setCell ⟨w.heap.size,4,none⟩ (.string (str q))).setCell ⟨w.heap.size,5,none⟩ (.bool a)):=⟨_,rfl⟩
       rw [← hW9] at hx9 hp9
       try simp only [show str ([]:List UInt8)=⟨#[]⟩ from rfl,show str ([47]:List UInt8)=⟨#[47]⟩ from rfl] at hW9
       rw [← hW9]
       clear hW9
       obtain ⟨⟨r0,r1,r2,r3,r4,r5⟩,_⟩:=six hp9 (Ext.rfl' _)
       exact bodyPost_ret (v:=tgtV ((1,[],(-1),[47],q,a),0)) (by simp [results,Tryz.results59,go_sem,tgtV,r0,r1,r2,r3,r4,r5]) rfl ⟨by first | rfl | exact ret_val (by rw [HV.out];try rfl),by first | exact hx9 | ((exact Xq))⟩
       )
     ·rw [if_neg pn] at hRR
      have HV:=Hy hRR
      have p2:p.isEmpty=false:=by rw [List.isEmpty_eq_false_iff];exact pn
      have p3:(str p).toList.isEmpty=false:=by rw [Lib.toList_data];exact p2
      clear hRR pn
      go_region_held3 (fun w'=>w'.cell? ⟨w.heap.size+1+1,3,none⟩=some (.string (str p))∧w'.cell? ⟨w.heap.size+1+1,4,none⟩=some (.string (str q))) (exact hks.out _ Xq) (first
       | (go_at_call 88;refine (upath_c _ _).mono ?_;rintro e w5 ⟨rfl,rfl⟩)
       | (go_at_call 87;refine (all_px _ _ _ _ (by first | exact hlp | exact hlq) (by first | exact new_at _ _ _ 0 _ rfl | exact new_at_g (by simp) _ _ 0 _ rfl) (by first | exact .inl rfl | exact .inr rfl)).mono ?_;rintro e w6 ⟨rfl,rfl⟩;first | rw [HP.out] | rw [HQ.out]))
      all_goals (
       obtain ⟨W8,hW8⟩:∃ W8,W8=(W5.alloc (.cells #[.string ⟨#[]⟩] 9)).alloc (.cells #[.string ⟨#[63]⟩] 9):=⟨_,rfl⟩
       first | rw [← hW8] | skip
       have hx8:Ext W5 W8:=by rw [hW8];(exact Xq)
       clear hW8
       have HR8:=Hy ((hx8.block w.heap.size hlR).trans HR5.out)
       have hT8:=(hx8.block (w.heap.size+1+1) hlT).trans HT5.out
       have hxW8:Ext w W8:=hx5.tr hx8
       obtain ⟨⟨t0,t1,t2,t3,t4,t5⟩,g0,g1,g2,g3,g4,g5⟩:=six hT8 (Ext.rfl' _)
       obtain ⟨⟨r0,r1,r2,r3,r4,r5⟩,f0,f1,f2,f3,f4,f5⟩:=six HR8.out (Ext.rfl' _)
       clear hks hlT hlR hlN hT8
       go_wp2
       clear t0 t1 t2 t3 t4 t5 g0 g1 g2 g3 g4 g5 r0 r1 r2 r3 r4 r5 f0 f1 f2 f3 f4 f5
       have HB:=HR8
       have hw1:=hxW8
       obtain ⟨w1,hW1⟩:∃ w1,w1=W8:=⟨_,rfl⟩
       rw [← hW1] at HB hw1 ⊢
       clear hW1
       have hx9:Ext w _:=ext6 hw1 (.int .i64 1) (.string (str [])) (.int .i64 (-1)) (.string (str p)) (.string (str q)) (.bool a)
       have hp9:=put6 HB.out (.int .i64 1) (.string (str [])) (.int .i64 (-1)) (.string (str p)) (.string (str q)) (.bool a)
       obtain ⟨W9,hW9⟩:∃ W9,W9=((((((w1.setCell ⟨w.heap.size,0,none⟩ (.int .i64 1)).setCell ⟨w.heap.size,1,none⟩ (.string (str []))).setCell ⟨w.heap.size,2,none⟩ (.int .i64 (-1))).setCell ⟨w.heap.size,3,none⟩ (.string (str p))).setCell ⟨w.heap.size,4,none⟩ (.string (str q))).setCell ⟨w.heap.size,5,none⟩ (.bool a)):=⟨_,rfl⟩
       rw [← hW9] at hx9 hp9
       try simp only [show str ([]:List UInt8)=⟨#[]⟩ from rfl,show str ([47]:List UInt8)=⟨#[47]⟩ from rfl] at hW9
       rw [← hW9]
       clear hW9
       obtain ⟨⟨r0,r1,r2,r3,r4,r5⟩,_⟩:=six hp9 (Ext.rfl' _)
       exact bodyPost_ret (v:=tgtV ((1,[],(-1),p,q,a),0)) (by simp [results,Tryz.results59,go_sem,tgtV,r0,r1,r2,r3,r4,r5]) rfl ⟨by first | rfl | exact ret_val (by rw [HV.out];try rfl),by first | exact hx9 | ((exact Xq))⟩
       )
  ·have d7:decide ((7:Int)≤(l.length:Int))=false:=by rw [decide_eq_false_iff_not];omega
   have C:=Hy C
   clear hh
   go_enter Tryz.func59,Tryz.ntmps59
   go_wp2_with (first
    | (go_at_call 62;refine (C.out _).mono ?_;rintro e w0 ⟨rfl,hx0⟩;have hq:Ext (((w.alloc (.cells #[.int .i64 0,.string ⟨#[]⟩,.int .i64 0,.string ⟨#[]⟩,.string ⟨#[]⟩,.bool false] 107)).alloc (.cells #[.int .i64 0,.string ⟨#[]⟩,.int .i64 0,.string ⟨#[]⟩,.string ⟨#[]⟩,.bool false] 107)).alloc (.cells #[.int .i64 1,.string ⟨#[]⟩,.int .i64 (-1),.string ⟨#[]⟩,.string ⟨#[]⟩,.bool false] 107)) w0:=Xq;have HB:=Hy ((hq.block w.heap.size (by first | (simp;done) | (simp;omega))).trans (three w _ _ _).1);have HN:=Hy ((hq.block (w.heap.size+1) (by first | (simp;done) | (simp;omega))).trans (three_m w _ _ _));have HT:=Hy ((hq.block (w.heap.size+1+1) (by simp)).trans (three w _ _ _).2);have hw1:Ext w w0:=Xq;clear hq;obtain ⟨⟨r0,r1,r2,r3,r4,r5⟩,f0,f1,f2,f3,f4,f5⟩:=six HB.out (Ext.rfl' _);obtain ⟨⟨n0,n1,n2,n3,n4,n5⟩,m0,m1,m2,m3,m4,m5⟩:=six HN.out (Ext.rfl' _);obtain ⟨⟨t0,t1,t2,t3,t4,t5⟩,g0,g1,g2,g3,g4,g5⟩:=six HT.out (Ext.rfl' _))
    | (go_at_call 78;refine (D.out _).mono ?_;rintro e w2 ⟨rfl,hx2⟩;(try clear r0 r1 r2 r3 r4 r5 f0 f1 f2 f3 f4 f5 n0 n1 n2 n3 n4 n5 m0 m1 m2 m3 m4 m5 t0 t1 t2 t3 t4 t5 g0 g1 g2 g3 g4 g5);(try clear HB HN HT hw1);have hq:Ext (((w.alloc (.cells #[.int .i64 0,.string ⟨#[]⟩,.int .i64 0,.string ⟨#[]⟩,.string ⟨#[]⟩,.bool false] 107)).alloc (.cells #[.int .i64 0,.string ⟨#[]⟩,.int .i64 0,.string ⟨#[]⟩,.string ⟨#[]⟩,.bool false] 107)).alloc (.cells #[.int .i64 1,.string ⟨#[]⟩,.int .i64 (-1),.string ⟨#[]⟩,.string ⟨#[]⟩,.bool false] 107)) w2:=Xq;have HB:=Hy ((hq.block w.heap.size (by first | (simp;done) | (simp;omega))).trans (three w _ _ _).1);have HN:=Hy ((hq.block (w.heap.size+1) (by first | (simp;done) | (simp;omega))).trans (three_m w _ _ _));have HT:=Hy ((hq.block (w.heap.size+1+1) (by simp)).trans (three w _ _ _).2);have hw1:Ext w w2:=Xq;clear hq;obtain ⟨⟨r0,r1,r2,r3,r4,r5⟩,f0,f1,f2,f3,f4,f5⟩:=six HB.out (Ext.rfl' _);obtain ⟨⟨n0,n1,n2,n3,n4,n5⟩,m0,m1,m2,m3,m4,m5⟩:=six HN.out (Ext.rfl' _);obtain ⟨⟨t0,t1,t2,t3,t4,t5⟩,g0,g1,g2,g3,g4,g5⟩:=six HT.out (Ext.rfl' _)))
   obtain ⟨W5,hW5⟩:∃ W5,W5=((w2.setCell ⟨w.heap.size+1+1,3,none⟩ (.string (str p))).setCell ⟨w.heap.size+1+1,4,none⟩ (.string (str q))).setCell ⟨w.heap.size+1+1,5,none⟩ (.bool a):=⟨_,rfl⟩
   rw [← hW5]
   have hnR:w.heap.size≠w.heap.size+1+1:=by omega
   have hnN:w.heap.size+1≠w.heap.size+1+1:=by omega
   have hge:w.heap.size≤w.heap.size+1+1:=by omega
   have HT5:=Hy (show W5.heap[w.heap.size+1+1]?=some (.cells #[.int .i64 1,.string ⟨#[]⟩,.int .i64 (-1),.string (str p),.string (str q),.bool a] 107 (0,0)) by rw [hW5];simp [World.setCell,Array.getElem?_modify,HT.out])
   have HR5:=Hy ((show W5.heap[w.heap.size]?=w2.heap[w.heap.size]? by rw [hW5,Below.heap_setCell _ _ _ _ hnR,Below.heap_setCell _ _ _ _ hnR,Below.heap_setCell _ _ _ _ hnR]).trans HB.out)
   have HN5:=Hy ((show W5.heap[w.heap.size+1]?=w2.heap[w.heap.size+1]? by rw [hW5,Below.heap_setCell _ _ _ _ hnN,Below.heap_setCell _ _ _ _ hnN,Below.heap_setCell _ _ _ _ hnN]).trans HN.out)
   have hx5:Ext w W5:=by rw [hW5];exact ((hw1.st hge _).st hge _).st hge _
   clear hW5 hw1 HT HB HN
   clear r0 r1 r2 r3 r4 r5 f0 f1 f2 f3 f4 f5 n0 n1 n2 n3 n4 n5 m0 m1 m2 m3 m4 m5 t0 t1 t2 t3 t4 t5 g0 g1 g2 g3 g4 g5
   try clear C
   try clear IA
   try clear CH
   try clear D
   try clear HE
   try clear d1
   try clear d7
   try clear n7
   try clear e1
   try clear e2
   try clear hdr
   try clear hr8
   try clear i1
   try clear i2
   try clear hki
   try clear m1
   try clear m2
   try clear o1
   try clear o2
   try clear l1
   try clear l2
   try clear l3
   try clear c1
   try clear h1
   try clear h2
   try clear h7
   try clear hm
   try clear ho
   try clear hmo
   try clear ck
   try clear hb
   try clear hl0
   try clear c7
   have hlT:w.heap.size+1+1<W5.heap.size:=(Array.getElem?_eq_some_iff.1 HT5.out).1
   have hlN:w.heap.size+1<W5.heap.size:=by omega
   have hlR:w.heap.size<W5.heap.size:=by omega
   have hks:=Hy (fun w' (x:Ext W5 w')=>(show w'.cell? ⟨w.heap.size+1+1,3,none⟩=some (.string (str p))∧w'.cell? ⟨w.heap.size+1+1,4,none⟩=some (.string (str q)) from ⟨(six HT5.out x).1.2.2.2.1,(six HT5.out x).1.2.2.2.2.1⟩))
   have hRR:=HRR.out
   clear HRR
   obtain ⟨vp,hvp⟩:∃ v,v=p.all (mayB false):=⟨_,rfl⟩
   obtain ⟨vq,hvq⟩:∃ v,v=q.all (mayB true):=⟨_,rfl⟩
   rw [← hvp,← hvq] at hRR
   rw [show mayB false=mayB (mq ⟨#[]⟩) from rfl] at hvp
   rw [show mayB true=mayB (mq ⟨#[63]⟩) from rfl] at hvq
   have HP:=Hy hvp.symm
   have HQ:=Hy hvq.symm
   clear hvp hvq
   cases vp
   ·have HV:=Hy (show R=badT by rw [hRR];simp)
    clear hRR
    have kA:W5.cell? ⟨w.heap.size+1+1,3,none⟩=some (.string (str p)):=(hks.out W5 (Ext.rfl' _)).1
    have kB:∀ n,(W5.drewN n).cell? ⟨w.heap.size+1+1,3,none⟩=some (.string (str p)):=fun n=>(hks.out _ Xq).1
    have kC:∀ n,((W5.drewN n).alloc (.cells #[.string ⟨#[]⟩] 9)).cell? ⟨w.heap.size+1+1,3,none⟩=some (.string (str p)):=fun n=>(hks.out _ Xq).1
    first
     | (go_region_with (first
     | (go_at_call 88;refine (upath_c _ _).mono ?_;rintro e w5 ⟨rfl,rfl⟩)
     | (go_at_call 87;refine (all_px _ _ _ _ hlp (by first | exact new_at _ _ _ 0 _ rfl | exact new_at_g (by simp) _ _ 0 _ rfl) (.inl rfl)).mono ?_;rintro e w6 ⟨rfl,rfl⟩;rw [HP.out])))
     | fail
    all_goals (
     obtain ⟨w1,hW8⟩:∃ w1,w1=W5.alloc (.cells #[.string ⟨#[]⟩] 9):=⟨_,rfl⟩
     first | rw [← hW8] | skip
     have hx8:Ext W5 w1:=by rw [hW8];(exact Xq)
     clear hW8
     have HN:=Hy ((hx8.block (w.heap.size+1) hlN).trans HN5.out)
     have HB:=Hy ((hx8.block w.heap.size hlR).trans HR5.out)
     have hw1:Ext w w1:=hx5.tr hx8
     obtain ⟨⟨r0,r1,r2,r3,r4,r5⟩,f0,f1,f2,f3,f4,f5⟩:=six HB.out (Ext.rfl' _);obtain ⟨⟨n0,n1,n2,n3,n4,n5⟩,m0,m1,m2,m3,m4,m5⟩:=six HN.out (Ext.rfl' _)
     clear hks hlT hlR hlN
     go_wp2
     clear r0 r1 r2 r3 r4 r5 f0 f1 f2 f3 f4 f5 n0 n1 n2 n3 n4 n5 m0 m1 m2 m3 m4 m5
     have hx9:Ext w _:=ext6 hw1 (.int .i64 0) (.string (str [])) (.int .i64 0) (.string (str [])) (.string (str [])) (.bool false)
     have hp9:=put6 HB.out (.int .i64 0) (.string (str [])) (.int .i64 0) (.string (str [])) (.string (str [])) (.bool false)
     obtain ⟨W9,hW9⟩:∃ W9,W9=((((((w1.setCell ⟨w.heap.size,0,none⟩ (.int .i64 0)).setCell ⟨w.heap.size,1,none⟩ (.string (str []))).setCell ⟨w.heap.size,2,none⟩ (.int .i64 0)).setCell ⟨w.heap.size,3,none⟩ (.string (str []))).setCell ⟨w.heap.size,4,none⟩ (.string (str []))).setCell ⟨w.heap.size,5,none⟩ (.bool false)):=⟨_,rfl⟩
     rw [← hW9] at hx9 hp9
     try simp only [show str ([]:List UInt8)=⟨#[]⟩ from rfl,show str ([47]:List UInt8)=⟨#[47]⟩ from rfl] at hW9
     rw [← hW9]
     clear hW9
     obtain ⟨⟨r0,r1,r2,r3,r4,r5⟩,_⟩:=six hp9 (Ext.rfl' _)
     exact bodyPost_ret (v:=tgtV ((0,[],0,[],[],false),40)) (by simp [results,Tryz.results59,go_sem,tgtV,r0,r1,r2,r3,r4,r5]) rfl ⟨by first | rfl | exact ret_val (by rw [HV.out];try rfl),by first | exact hx9 | ((exact Xq))⟩
     )
   ·cases vq
    ·have HV:=Hy (show R=badT by rw [hRR];simp)
     clear hRR
     go_region_held3 (fun w'=>w'.cell? ⟨w.heap.size+1+1,3,none⟩=some (.string (str p))∧w'.cell? ⟨w.heap.size+1+1,4,none⟩=some (.string (str q))) (exact hks.out _ Xq) (first
      | (go_at_call 88;refine (upath_c _ _).mono ?_;rintro e w5 ⟨rfl,rfl⟩)
      | (go_at_call 87;refine (all_px _ _ _ _ (by first | exact hlp | exact hlq) (by first | exact new_at _ _ _ 0 _ rfl | exact new_at_g (by simp) _ _ 0 _ rfl) (by first | exact .inl rfl | exact .inr rfl)).mono ?_;rintro e w6 ⟨rfl,rfl⟩;first | rw [HP.out] | rw [HQ.out]))
     all_goals (
      obtain ⟨w1,hW8⟩:∃ w1,w1=(W5.alloc (.cells #[.string ⟨#[]⟩] 9)).alloc (.cells #[.string ⟨#[63]⟩] 9):=⟨_,rfl⟩
      first | rw [← hW8] | skip
      have hx8:Ext W5 w1:=by rw [hW8];(exact Xq)
      clear hW8
      have HN:=Hy ((hx8.block (w.heap.size+1) hlN).trans HN5.out)
      have HB:=Hy ((hx8.block w.heap.size hlR).trans HR5.out)
      have hw1:Ext w w1:=hx5.tr hx8
      obtain ⟨⟨r0,r1,r2,r3,r4,r5⟩,f0,f1,f2,f3,f4,f5⟩:=six HB.out (Ext.rfl' _);obtain ⟨⟨n0,n1,n2,n3,n4,n5⟩,m0,m1,m2,m3,m4,m5⟩:=six HN.out (Ext.rfl' _)
      clear hks hlT hlR hlN
      go_wp2
      clear r0 r1 r2 r3 r4 r5 f0 f1 f2 f3 f4 f5 n0 n1 n2 n3 n4 n5 m0 m1 m2 m3 m4 m5
      have hx9:Ext w _:=ext6 hw1 (.int .i64 0) (.string (str [])) (.int .i64 0) (.string (str [])) (.string (str [])) (.bool false)
      have hp9:=put6 HB.out (.int .i64 0) (.string (str [])) (.int .i64 0) (.string (str [])) (.string (str [])) (.bool false)
      obtain ⟨W9,hW9⟩:∃ W9,W9=((((((w1.setCell ⟨w.heap.size,0,none⟩ (.int .i64 0)).setCell ⟨w.heap.size,1,none⟩ (.string (str []))).setCell ⟨w.heap.size,2,none⟩ (.int .i64 0)).setCell ⟨w.heap.size,3,none⟩ (.string (str []))).setCell ⟨w.heap.size,4,none⟩ (.string (str []))).setCell ⟨w.heap.size,5,none⟩ (.bool false)):=⟨_,rfl⟩
      rw [← hW9] at hx9 hp9
      try simp only [show str ([]:List UInt8)=⟨#[]⟩ from rfl,show str ([47]:List UInt8)=⟨#[47]⟩ from rfl] at hW9
      rw [← hW9]
      clear hW9
      obtain ⟨⟨r0,r1,r2,r3,r4,r5⟩,_⟩:=six hp9 (Ext.rfl' _)
      exact bodyPost_ret (v:=tgtV ((0,[],0,[],[],false),40)) (by simp [results,Tryz.results59,go_sem,tgtV,r0,r1,r2,r3,r4,r5]) rfl ⟨by first | rfl | exact ret_val (by rw [HV.out];try rfl),by first | exact hx9 | ((exact Xq))⟩
      )
    ·rw [if_pos ⟨rfl,rfl⟩] at hRR
     dsimp only at hRR
     by_cases pn:p=[]
     ·rw [if_pos pn] at hRR
      have p2:p.isEmpty=true:=by rw [pn];rfl
      have p3:(str p).toList.isEmpty=true:=by rw [Lib.toList_data];exact p2
      have HV:=Hy hRR
      clear hRR pn
      go_region_held3 (fun w'=>w'.cell? ⟨w.heap.size+1+1,3,none⟩=some (.string (str p))∧w'.cell? ⟨w.heap.size+1+1,4,none⟩=some (.string (str q))) (exact hks.out _ Xq) (first
       | (go_at_call 88;refine (upath_c _ _).mono ?_;rintro e w5 ⟨rfl,rfl⟩)
       | (go_at_call 87;refine (all_px _ _ _ _ (by first | exact hlp | exact hlq) (by first | exact new_at _ _ _ 0 _ rfl | exact new_at_g (by simp) _ _ 0 _ rfl) (by first | exact .inl rfl | exact .inr rfl)).mono ?_;rintro e w6 ⟨rfl,rfl⟩;first | rw [HP.out] | rw [HQ.out]))
      all_goals (
       obtain ⟨W8,hW8⟩:∃ W8,W8=(W5.alloc (.cells #[.string ⟨#[]⟩] 9)).alloc (.cells #[.string ⟨#[63]⟩] 9):=⟨_,rfl⟩
       first | rw [← hW8] | skip
       have hx8:Ext W5 W8:=by rw [hW8];(exact Xq)
       clear hW8
       have HR8:=Hy ((hx8.block w.heap.size hlR).trans HR5.out)
       have hT8:=(hx8.block (w.heap.size+1+1) hlT).trans HT5.out
       have hxW8:Ext w W8:=hx5.tr hx8
       obtain ⟨⟨t0,t1,t2,t3,t4,t5⟩,g0,g1,g2,g3,g4,g5⟩:=six hT8 (Ext.rfl' _)
       obtain ⟨⟨r0,r1,r2,r3,r4,r5⟩,f0,f1,f2,f3,f4,f5⟩:=six HR8.out (Ext.rfl' _)
       clear hks hlT hlR hlN hT8
       go_wp2
       clear t0 t1 t2 t3 t4 t5 g0 g1 g2 g3 g4 g5 r0 r1 r2 r3 r4 r5 f0 f1 f2 f3 f4 f5
       obtain ⟨w1,hW1⟩:∃ w1,w1=W8.setCell ⟨w.heap.size+1+1,3,none⟩ (.string ⟨#[47]⟩):=⟨_,rfl⟩
       rw [← hW1]
       have HB:=Hy ((show w1.heap[w.heap.size]?=W8.heap[w.heap.size]? by rw [hW1,Below.heap_setCell _ _ _ _ hnR]).trans HR8.out)
       have hw1:Ext w w1:=by rw [hW1];exact hxW8.st hge _
       clear hW1
       have hx9:Ext w _:=ext6 hw1 (.int .i64 1) (.string (str [])) (.int .i64 (-1)) (.string (str [47])) (.string (str q)) (.bool a)
       have hp9:=put6 HB.out (.int .i64 1) (.string (str [])) (.int .i64 (-1)) (.string (str [47])) (.string (str q)) (.bool a)
       obtain ⟨W9,hW9⟩:∃ W9,W9=((((((w1.setCell ⟨w.heap.size,0,none⟩ (.int .i64 1)).setCell ⟨w.heap.size,1,none⟩ (.string (str []))).setCell ⟨w.heap.size,2,none⟩ (.int .i64 (-1))).setCell ⟨w.heap.size,3,none⟩ (.string (str [47]))).setCell ⟨w.heap.size,4,none⟩ (.string (str q))).setCell ⟨w.heap.size,5,none⟩ (.bool a)):=⟨_,rfl⟩
       rw [← hW9] at hx9 hp9
       try simp only [show str ([]:List UInt8)=⟨#[]⟩ from rfl,show str ([47]:List UInt8)=⟨#[47]⟩ from rfl] at hW9
       rw [← hW9]
       clear hW9
       obtain ⟨⟨r0,r1,r2,r3,r4,r5⟩,_⟩:=six hp9 (Ext.rfl' _)
       exact bodyPost_ret (v:=tgtV ((1,[],(-1),[47],q,a),0)) (by simp [results,Tryz.results59,go_sem,tgtV,r0,r1,r2,r3,r4,r5]) rfl ⟨by first | rfl | exact ret_val (by rw [HV.out];try rfl),by first | exact hx9 | ((exact Xq))⟩
       )
     ·rw [if_neg pn] at hRR
      have HV:=Hy hRR
      have p2:p.isEmpty=false:=by rw [List.isEmpty_eq_false_iff];exact pn
      have p3:(str p).toList.isEmpty=false:=by rw [Lib.toList_data];exact p2
      clear hRR pn
      go_region_held3 (fun w'=>w'.cell? ⟨w.heap.size+1+1,3,none⟩=some (.string (str p))∧w'.cell? ⟨w.heap.size+1+1,4,none⟩=some (.string (str q))) (exact hks.out _ Xq) (first
       | (go_at_call 88;refine (upath_c _ _).mono ?_;rintro e w5 ⟨rfl,rfl⟩)
       | (go_at_call 87;refine (all_px _ _ _ _ (by first | exact hlp | exact hlq) (by first | exact new_at _ _ _ 0 _ rfl | exact new_at_g (by simp) _ _ 0 _ rfl) (by first | exact .inl rfl | exact .inr rfl)).mono ?_;rintro e w6 ⟨rfl,rfl⟩;first | rw [HP.out] | rw [HQ.out]))
      all_goals (
       obtain ⟨W8,hW8⟩:∃ W8,W8=(W5.alloc (.cells #[.string ⟨#[]⟩] 9)).alloc (.cells #[.string ⟨#[63]⟩] 9):=⟨_,rfl⟩
       first | rw [← hW8] | skip
       have hx8:Ext W5 W8:=by rw [hW8];(exact Xq)
       clear hW8
       have HR8:=Hy ((hx8.block w.heap.size hlR).trans HR5.out)
       have hT8:=(hx8.block (w.heap.size+1+1) hlT).trans HT5.out
       have hxW8:Ext w W8:=hx5.tr hx8
       obtain ⟨⟨t0,t1,t2,t3,t4,t5⟩,g0,g1,g2,g3,g4,g5⟩:=six hT8 (Ext.rfl' _)
       obtain ⟨⟨r0,r1,r2,r3,r4,r5⟩,f0,f1,f2,f3,f4,f5⟩:=six HR8.out (Ext.rfl' _)
       clear hks hlT hlR hlN hT8
       go_wp2
       clear t0 t1 t2 t3 t4 t5 g0 g1 g2 g3 g4 g5 r0 r1 r2 r3 r4 r5 f0 f1 f2 f3 f4 f5
       have HB:=HR8
       have hw1:=hxW8
       obtain ⟨w1,hW1⟩:∃ w1,w1=W8:=⟨_,rfl⟩
       rw [← hW1] at HB hw1 ⊢
       clear hW1
       have hx9:Ext w _:=ext6 hw1 (.int .i64 1) (.string (str [])) (.int .i64 (-1)) (.string (str p)) (.string (str q)) (.bool a)
       have hp9:=put6 HB.out (.int .i64 1) (.string (str [])) (.int .i64 (-1)) (.string (str p)) (.string (str q)) (.bool a)
       obtain ⟨W9,hW9⟩:∃ W9,W9=((((((w1.setCell ⟨w.heap.size,0,none⟩ (.int .i64 1)).setCell ⟨w.heap.size,1,none⟩ (.string (str []))).setCell ⟨w.heap.size,2,none⟩ (.int .i64 (-1))).setCell ⟨w.heap.size,3,none⟩ (.string (str p))).setCell ⟨w.heap.size,4,none⟩ (.string (str q))).setCell ⟨w.heap.size,5,none⟩ (.bool a)):=⟨_,rfl⟩
       rw [← hW9] at hx9 hp9
       try simp only [show str ([]:List UInt8)=⟨#[]⟩ from rfl,show str ([47]:List UInt8)=⟨#[47]⟩ from rfl] at hW9
       rw [← hW9]
       clear hW9
       obtain ⟨⟨r0,r1,r2,r3,r4,r5⟩,_⟩:=six hp9 (Ext.rfl' _)
       exact bodyPost_ret (v:=tgtV ((1,[],(-1),p,q,a),0)) (by simp [results,Tryz.results59,go_sem,tgtV,r0,r1,r2,r3,r4,r5]) rfl ⟨by first | rfl | exact ret_val (by rw [HV.out];try rfl),by first | exact hx9 | ((exact Xq))⟩
       )
 ·have o1:=strN c1
  have o2:(m == optL)=false:=by rw [beq_eq_false_iff_ne];exact c1
  unfold optL at c1 o1 o2
  clear ho
  by_cases c7:7≤l.length
  ·have d7:decide ((7:Int)≤(l.length:Int))=true:=by rw [decide_eq_true_eq];omega
   have n7:(7:Int)≤(l.length:Int):=by omega
   have h7:(lowL (l.take 7) == lowL httpU)=false:=by
    rw [beq_eq_false_iff_ne];intro h;exact hh ⟨c7,h.trans (by decide)⟩
   rw [h7] at C
   have C:=Hy C
   clear hh h7
   go_enter Tryz.func59,Tryz.ntmps59
   go_wp2_with (first
    | (go_at_call 62;refine (C.out _).mono ?_;rintro e w0 ⟨rfl,hx0⟩;have hq:Ext (((w.alloc (.cells #[.int .i64 0,.string ⟨#[]⟩,.int .i64 0,.string ⟨#[]⟩,.string ⟨#[]⟩,.bool false] 107)).alloc (.cells #[.int .i64 0,.string ⟨#[]⟩,.int .i64 0,.string ⟨#[]⟩,.string ⟨#[]⟩,.bool false] 107)).alloc (.cells #[.int .i64 1,.string ⟨#[]⟩,.int .i64 (-1),.string ⟨#[]⟩,.string ⟨#[]⟩,.bool false] 107)) w0:=Xq;have HB:=Hy ((hq.block w.heap.size (by first | (simp;done) | (simp;omega))).trans (three w _ _ _).1);have HN:=Hy ((hq.block (w.heap.size+1) (by first | (simp;done) | (simp;omega))).trans (three_m w _ _ _));have HT:=Hy ((hq.block (w.heap.size+1+1) (by simp)).trans (three w _ _ _).2);have hw1:Ext w w0:=Xq;clear hq;obtain ⟨⟨r0,r1,r2,r3,r4,r5⟩,f0,f1,f2,f3,f4,f5⟩:=six HB.out (Ext.rfl' _);obtain ⟨⟨n0,n1,n2,n3,n4,n5⟩,m0,m1,m2,m3,m4,m5⟩:=six HN.out (Ext.rfl' _);obtain ⟨⟨t0,t1,t2,t3,t4,t5⟩,g0,g1,g2,g3,g4,g5⟩:=six HT.out (Ext.rfl' _))
    | (go_at_call 78;refine (D.out _).mono ?_;rintro e w2 ⟨rfl,hx2⟩;(try clear r0 r1 r2 r3 r4 r5 f0 f1 f2 f3 f4 f5 n0 n1 n2 n3 n4 n5 m0 m1 m2 m3 m4 m5 t0 t1 t2 t3 t4 t5 g0 g1 g2 g3 g4 g5);(try clear HB HN HT hw1);have hq:Ext (((w.alloc (.cells #[.int .i64 0,.string ⟨#[]⟩,.int .i64 0,.string ⟨#[]⟩,.string ⟨#[]⟩,.bool false] 107)).alloc (.cells #[.int .i64 0,.string ⟨#[]⟩,.int .i64 0,.string ⟨#[]⟩,.string ⟨#[]⟩,.bool false] 107)).alloc (.cells #[.int .i64 1,.string ⟨#[]⟩,.int .i64 (-1),.string ⟨#[]⟩,.string ⟨#[]⟩,.bool false] 107)) w2:=Xq;have HB:=Hy ((hq.block w.heap.size (by first | (simp;done) | (simp;omega))).trans (three w _ _ _).1);have HN:=Hy ((hq.block (w.heap.size+1) (by first | (simp;done) | (simp;omega))).trans (three_m w _ _ _));have HT:=Hy ((hq.block (w.heap.size+1+1) (by simp)).trans (three w _ _ _).2);have hw1:Ext w w2:=Xq;clear hq;obtain ⟨⟨r0,r1,r2,r3,r4,r5⟩,f0,f1,f2,f3,f4,f5⟩:=six HB.out (Ext.rfl' _);obtain ⟨⟨n0,n1,n2,n3,n4,n5⟩,m0,m1,m2,m3,m4,m5⟩:=six HN.out (Ext.rfl' _);obtain ⟨⟨t0,t1,t2,t3,t4,t5⟩,g0,g1,g2,g3,g4,g5⟩:=six HT.out (Ext.rfl' _)))
   obtain ⟨W5,hW5⟩:∃ W5,W5=((w2.setCell ⟨w.heap.size+1+1,3,none⟩ (.string (str p))).setCell ⟨w.heap.size+1+1,4,none⟩ (.string (str q))).setCell ⟨w.heap.size+1+1,5,none⟩ (.bool a):=⟨_,rfl⟩
   rw [← hW5]
   have hnR:w.heap.size≠w.heap.size+1+1:=by omega
   have hnN:w.heap.size+1≠w.heap.size+1+1:=by omega
   have hge:w.heap.size≤w.heap.size+1+1:=by omega
   have HT5:=Hy (show W5.heap[w.heap.size+1+1]?=some (.cells #[.int .i64 1,.string ⟨#[]⟩,.int .i64 (-1),.string (str p),.string (str q),.bool a] 107 (0,0)) by rw [hW5];simp [World.setCell,Array.getElem?_modify,HT.out])
   have HR5:=Hy ((show W5.heap[w.heap.size]?=w2.heap[w.heap.size]? by rw [hW5,Below.heap_setCell _ _ _ _ hnR,Below.heap_setCell _ _ _ _ hnR,Below.heap_setCell _ _ _ _ hnR]).trans HB.out)
   have HN5:=Hy ((show W5.heap[w.heap.size+1]?=w2.heap[w.heap.size+1]? by rw [hW5,Below.heap_setCell _ _ _ _ hnN,Below.heap_setCell _ _ _ _ hnN,Below.heap_setCell _ _ _ _ hnN]).trans HN.out)
   have hx5:Ext w W5:=by rw [hW5];exact ((hw1.st hge _).st hge _).st hge _
   clear hW5 hw1 HT HB HN
   clear r0 r1 r2 r3 r4 r5 f0 f1 f2 f3 f4 f5 n0 n1 n2 n3 n4 n5 m0 m1 m2 m3 m4 m5 t0 t1 t2 t3 t4 t5 g0 g1 g2 g3 g4 g5
   try clear C
   try clear IA
   try clear CH
   try clear D
   try clear HE
   try clear d1
   try clear d7
   try clear n7
   try clear e1
   try clear e2
   try clear hdr
   try clear hr8
   try clear i1
   try clear i2
   try clear hki
   try clear m1
   try clear m2
   try clear o1
   try clear o2
   try clear l1
   try clear l2
   try clear l3
   try clear c1
   try clear h1
   try clear h2
   try clear h7
   try clear hm
   try clear ho
   try clear hmo
   try clear ck
   try clear hb
   try clear hl0
   try clear c7
   have hlT:w.heap.size+1+1<W5.heap.size:=(Array.getElem?_eq_some_iff.1 HT5.out).1
   have hlN:w.heap.size+1<W5.heap.size:=by omega
   have hlR:w.heap.size<W5.heap.size:=by omega
   have hks:=Hy (fun w' (x:Ext W5 w')=>(show w'.cell? ⟨w.heap.size+1+1,3,none⟩=some (.string (str p))∧w'.cell? ⟨w.heap.size+1+1,4,none⟩=some (.string (str q)) from ⟨(six HT5.out x).1.2.2.2.1,(six HT5.out x).1.2.2.2.2.1⟩))
   have hRR:=HRR.out
   clear HRR
   obtain ⟨vp,hvp⟩:∃ v,v=p.all (mayB false):=⟨_,rfl⟩
   obtain ⟨vq,hvq⟩:∃ v,v=q.all (mayB true):=⟨_,rfl⟩
   rw [← hvp,← hvq] at hRR
   rw [show mayB false=mayB (mq ⟨#[]⟩) from rfl] at hvp
   rw [show mayB true=mayB (mq ⟨#[63]⟩) from rfl] at hvq
   have HP:=Hy hvp.symm
   have HQ:=Hy hvq.symm
   clear hvp hvq
   cases vp
   ·have HV:=Hy (show R=badT by rw [hRR];simp)
    clear hRR
    have kA:W5.cell? ⟨w.heap.size+1+1,3,none⟩=some (.string (str p)):=(hks.out W5 (Ext.rfl' _)).1
    have kB:∀ n,(W5.drewN n).cell? ⟨w.heap.size+1+1,3,none⟩=some (.string (str p)):=fun n=>(hks.out _ Xq).1
    have kC:∀ n,((W5.drewN n).alloc (.cells #[.string ⟨#[]⟩] 9)).cell? ⟨w.heap.size+1+1,3,none⟩=some (.string (str p)):=fun n=>(hks.out _ Xq).1
    first
     | (go_region_with (first
     | (go_at_call 88;refine (upath_c _ _).mono ?_;rintro e w5 ⟨rfl,rfl⟩)
     | (go_at_call 87;refine (all_px _ _ _ _ hlp (by first | exact new_at _ _ _ 0 _ rfl | exact new_at_g (by simp) _ _ 0 _ rfl) (.inl rfl)).mono ?_;rintro e w6 ⟨rfl,rfl⟩;rw [HP.out])))
     | fail
    all_goals (
     obtain ⟨w1,hW8⟩:∃ w1,w1=W5.alloc (.cells #[.string ⟨#[]⟩] 9):=⟨_,rfl⟩
     first | rw [← hW8] | skip
     have hx8:Ext W5 w1:=by rw [hW8];(exact Xq)
     clear hW8
     have HN:=Hy ((hx8.block (w.heap.size+1) hlN).trans HN5.out)
     have HB:=Hy ((hx8.block w.heap.size hlR).trans HR5.out)
     have hw1:Ext w w1:=hx5.tr hx8
     obtain ⟨⟨r0,r1,r2,r3,r4,r5⟩,f0,f1,f2,f3,f4,f5⟩:=six HB.out (Ext.rfl' _);obtain ⟨⟨n0,n1,n2,n3,n4,n5⟩,m0,m1,m2,m3,m4,m5⟩:=six HN.out (Ext.rfl' _)
     clear hks hlT hlR hlN
     go_wp2
     clear r0 r1 r2 r3 r4 r5 f0 f1 f2 f3 f4 f5 n0 n1 n2 n3 n4 n5 m0 m1 m2 m3 m4 m5
     have hx9:Ext w _:=ext6 hw1 (.int .i64 0) (.string (str [])) (.int .i64 0) (.string (str [])) (.string (str [])) (.bool false)
     have hp9:=put6 HB.out (.int .i64 0) (.string (str [])) (.int .i64 0) (.string (str [])) (.string (str [])) (.bool false)
     obtain ⟨W9,hW9⟩:∃ W9,W9=((((((w1.setCell ⟨w.heap.size,0,none⟩ (.int .i64 0)).setCell ⟨w.heap.size,1,none⟩ (.string (str []))).setCell ⟨w.heap.size,2,none⟩ (.int .i64 0)).setCell ⟨w.heap.size,3,none⟩ (.string (str []))).setCell ⟨w.heap.size,4,none⟩ (.string (str []))).setCell ⟨w.heap.size,5,none⟩ (.bool false)):=⟨_,rfl⟩
     rw [← hW9] at hx9 hp9
     try simp only [show str ([]:List UInt8)=⟨#[]⟩ from rfl,show str ([47]:List UInt8)=⟨#[47]⟩ from rfl] at hW9
     rw [← hW9]
     clear hW9
     obtain ⟨⟨r0,r1,r2,r3,r4,r5⟩,_⟩:=six hp9 (Ext.rfl' _)
     exact bodyPost_ret (v:=tgtV ((0,[],0,[],[],false),40)) (by simp [results,Tryz.results59,go_sem,tgtV,r0,r1,r2,r3,r4,r5]) rfl ⟨by first | rfl | exact ret_val (by rw [HV.out];try rfl),by first | exact hx9 | ((exact Xq))⟩
     )
   ·cases vq
    ·have HV:=Hy (show R=badT by rw [hRR];simp)
     clear hRR
     go_region_held3 (fun w'=>w'.cell? ⟨w.heap.size+1+1,3,none⟩=some (.string (str p))∧w'.cell? ⟨w.heap.size+1+1,4,none⟩=some (.string (str q))) (exact hks.out _ Xq) (first
      | (go_at_call 88;refine (upath_c _ _).mono ?_;rintro e w5 ⟨rfl,rfl⟩)
      | (go_at_call 87;refine (all_px _ _ _ _ (by first | exact hlp | exact hlq) (by first | exact new_at _ _ _ 0 _ rfl | exact new_at_g (by simp) _ _ 0 _ rfl) (by first | exact .inl rfl | exact .inr rfl)).mono ?_;rintro e w6 ⟨rfl,rfl⟩;first | rw [HP.out] | rw [HQ.out]))
     all_goals (
      obtain ⟨w1,hW8⟩:∃ w1,w1=(W5.alloc (.cells #[.string ⟨#[]⟩] 9)).alloc (.cells #[.string ⟨#[63]⟩] 9):=⟨_,rfl⟩
      first | rw [← hW8] | skip
      have hx8:Ext W5 w1:=by rw [hW8];(exact Xq)
      clear hW8
      have HN:=Hy ((hx8.block (w.heap.size+1) hlN).trans HN5.out)
      have HB:=Hy ((hx8.block w.heap.size hlR).trans HR5.out)
      have hw1:Ext w w1:=hx5.tr hx8
      obtain ⟨⟨r0,r1,r2,r3,r4,r5⟩,f0,f1,f2,f3,f4,f5⟩:=six HB.out (Ext.rfl' _);obtain ⟨⟨n0,n1,n2,n3,n4,n5⟩,m0,m1,m2,m3,m4,m5⟩:=six HN.out (Ext.rfl' _)
      clear hks hlT hlR hlN
      go_wp2
      clear r0 r1 r2 r3 r4 r5 f0 f1 f2 f3 f4 f5 n0 n1 n2 n3 n4 n5 m0 m1 m2 m3 m4 m5
      have hx9:Ext w _:=ext6 hw1 (.int .i64 0) (.string (str [])) (.int .i64 0) (.string (str [])) (.string (str [])) (.bool false)
      have hp9:=put6 HB.out (.int .i64 0) (.string (str [])) (.int .i64 0) (.string (str [])) (.string (str [])) (.bool false)
      obtain ⟨W9,hW9⟩:∃ W9,W9=((((((w1.setCell ⟨w.heap.size,0,none⟩ (.int .i64 0)).setCell ⟨w.heap.size,1,none⟩ (.string (str []))).setCell ⟨w.heap.size,2,none⟩ (.int .i64 0)).setCell ⟨w.heap.size,3,none⟩ (.string (str []))).setCell ⟨w.heap.size,4,none⟩ (.string (str []))).setCell ⟨w.heap.size,5,none⟩ (.bool false)):=⟨_,rfl⟩
      rw [← hW9] at hx9 hp9
      try simp only [show str ([]:List UInt8)=⟨#[]⟩ from rfl,show str ([47]:List UInt8)=⟨#[47]⟩ from rfl] at hW9
      rw [← hW9]
      clear hW9
      obtain ⟨⟨r0,r1,r2,r3,r4,r5⟩,_⟩:=six hp9 (Ext.rfl' _)
      exact bodyPost_ret (v:=tgtV ((0,[],0,[],[],false),40)) (by simp [results,Tryz.results59,go_sem,tgtV,r0,r1,r2,r3,r4,r5]) rfl ⟨by first | rfl | exact ret_val (by rw [HV.out];try rfl),by first | exact hx9 | ((exact Xq))⟩
      )
    ·rw [if_pos ⟨rfl,rfl⟩] at hRR
     dsimp only at hRR
     by_cases pn:p=[]
     ·rw [if_pos pn] at hRR
      have p2:p.isEmpty=true:=by rw [pn];rfl
      have p3:(str p).toList.isEmpty=true:=by rw [Lib.toList_data];exact p2
      have HV:=Hy hRR
      clear hRR pn
      go_region_held3 (fun w'=>w'.cell? ⟨w.heap.size+1+1,3,none⟩=some (.string (str p))∧w'.cell? ⟨w.heap.size+1+1,4,none⟩=some (.string (str q))) (exact hks.out _ Xq) (first
       | (go_at_call 88;refine (upath_c _ _).mono ?_;rintro e w5 ⟨rfl,rfl⟩)
       | (go_at_call 87;refine (all_px _ _ _ _ (by first | exact hlp | exact hlq) (by first | exact new_at _ _ _ 0 _ rfl | exact new_at_g (by simp) _ _ 0 _ rfl) (by first | exact .inl rfl | exact .inr rfl)).mono ?_;rintro e w6 ⟨rfl,rfl⟩;first | rw [HP.out] | rw [HQ.out]))
      all_goals (
       obtain ⟨W8,hW8⟩:∃ W8,W8=(W5.alloc (.cells #[.string ⟨#[]⟩] 9)).alloc (.cells #[.string ⟨#[63]⟩] 9):=⟨_,rfl⟩
       first | rw [← hW8] | skip
       have hx8:Ext W5 W8:=by rw [hW8];(exact Xq)
       clear hW8
       have HR8:=Hy ((hx8.block w.heap.size hlR).trans HR5.out)
       have hT8:=(hx8.block (w.heap.size+1+1) hlT).trans HT5.out
       have hxW8:Ext w W8:=hx5.tr hx8
       obtain ⟨⟨t0,t1,t2,t3,t4,t5⟩,g0,g1,g2,g3,g4,g5⟩:=six hT8 (Ext.rfl' _)
       obtain ⟨⟨r0,r1,r2,r3,r4,r5⟩,f0,f1,f2,f3,f4,f5⟩:=six HR8.out (Ext.rfl' _)
       clear hks hlT hlR hlN hT8
       go_wp2
       clear t0 t1 t2 t3 t4 t5 g0 g1 g2 g3 g4 g5 r0 r1 r2 r3 r4 r5 f0 f1 f2 f3 f4 f5
       obtain ⟨w1,hW1⟩:∃ w1,w1=W8.setCell ⟨w.heap.size+1+1,3,none⟩ (.string ⟨#[47]⟩):=⟨_,rfl⟩
       rw [← hW1]
       have HB:=Hy ((show w1.heap[w.heap.size]?=W8.heap[w.heap.size]? by rw [hW1,Below.heap_setCell _ _ _ _ hnR]).trans HR8.out)
       have hw1:Ext w w1:=by rw [hW1];exact hxW8.st hge _
       clear hW1
       have hx9:Ext w _:=ext6 hw1 (.int .i64 1) (.string (str [])) (.int .i64 (-1)) (.string (str [47])) (.string (str q)) (.bool a)
       have hp9:=put6 HB.out (.int .i64 1) (.string (str [])) (.int .i64 (-1)) (.string (str [47])) (.string (str q)) (.bool a)
       obtain ⟨W9,hW9⟩:∃ W9,W9=((((((w1.setCell ⟨w.heap.size,0,none⟩ (.int .i64 1)).setCell ⟨w.heap.size,1,none⟩ (.string (str []))).setCell ⟨w.heap.size,2,none⟩ (.int .i64 (-1))).setCell ⟨w.heap.size,3,none⟩ (.string (str [47]))).setCell ⟨w.heap.size,4,none⟩ (.string (str q))).setCell ⟨w.heap.size,5,none⟩ (.bool a)):=⟨_,rfl⟩
       rw [← hW9] at hx9 hp9
       try simp only [show str ([]:List UInt8)=⟨#[]⟩ from rfl,show str ([47]:List UInt8)=⟨#[47]⟩ from rfl] at hW9
       rw [← hW9]
       clear hW9
       obtain ⟨⟨r0,r1,r2,r3,r4,r5⟩,_⟩:=six hp9 (Ext.rfl' _)
       exact bodyPost_ret (v:=tgtV ((1,[],(-1),[47],q,a),0)) (by simp [results,Tryz.results59,go_sem,tgtV,r0,r1,r2,r3,r4,r5]) rfl ⟨by first | rfl | exact ret_val (by rw [HV.out];try rfl),by first | exact hx9 | ((exact Xq))⟩
       )
     ·rw [if_neg pn] at hRR
      have HV:=Hy hRR
      have p2:p.isEmpty=false:=by rw [List.isEmpty_eq_false_iff];exact pn
      have p3:(str p).toList.isEmpty=false:=by rw [Lib.toList_data];exact p2
      clear hRR pn
      go_region_held3 (fun w'=>w'.cell? ⟨w.heap.size+1+1,3,none⟩=some (.string (str p))∧w'.cell? ⟨w.heap.size+1+1,4,none⟩=some (.string (str q))) (exact hks.out _ Xq) (first
       | (go_at_call 88;refine (upath_c _ _).mono ?_;rintro e w5 ⟨rfl,rfl⟩)
       | (go_at_call 87;refine (all_px _ _ _ _ (by first | exact hlp | exact hlq) (by first | exact new_at _ _ _ 0 _ rfl | exact new_at_g (by simp) _ _ 0 _ rfl) (by first | exact .inl rfl | exact .inr rfl)).mono ?_;rintro e w6 ⟨rfl,rfl⟩;first | rw [HP.out] | rw [HQ.out]))
      all_goals (
       obtain ⟨W8,hW8⟩:∃ W8,W8=(W5.alloc (.cells #[.string ⟨#[]⟩] 9)).alloc (.cells #[.string ⟨#[63]⟩] 9):=⟨_,rfl⟩
       first | rw [← hW8] | skip
       have hx8:Ext W5 W8:=by rw [hW8];(exact Xq)
       clear hW8
       have HR8:=Hy ((hx8.block w.heap.size hlR).trans HR5.out)
       have hT8:=(hx8.block (w.heap.size+1+1) hlT).trans HT5.out
       have hxW8:Ext w W8:=hx5.tr hx8
       obtain ⟨⟨t0,t1,t2,t3,t4,t5⟩,g0,g1,g2,g3,g4,g5⟩:=six hT8 (Ext.rfl' _)
       obtain ⟨⟨r0,r1,r2,r3,r4,r5⟩,f0,f1,f2,f3,f4,f5⟩:=six HR8.out (Ext.rfl' _)
       clear hks hlT hlR hlN hT8
       go_wp2
       clear t0 t1 t2 t3 t4 t5 g0 g1 g2 g3 g4 g5 r0 r1 r2 r3 r4 r5 f0 f1 f2 f3 f4 f5
       have HB:=HR8
       have hw1:=hxW8
       obtain ⟨w1,hW1⟩:∃ w1,w1=W8:=⟨_,rfl⟩
       rw [← hW1] at HB hw1 ⊢
       clear hW1
       have hx9:Ext w _:=ext6 hw1 (.int .i64 1) (.string (str [])) (.int .i64 (-1)) (.string (str p)) (.string (str q)) (.bool a)
       have hp9:=put6 HB.out (.int .i64 1) (.string (str [])) (.int .i64 (-1)) (.string (str p)) (.string (str q)) (.bool a)
       obtain ⟨W9,hW9⟩:∃ W9,W9=((((((w1.setCell ⟨w.heap.size,0,none⟩ (.int .i64 1)).setCell ⟨w.heap.size,1,none⟩ (.string (str []))).setCell ⟨w.heap.size,2,none⟩ (.int .i64 (-1))).setCell ⟨w.heap.size,3,none⟩ (.string (str p))).setCell ⟨w.heap.size,4,none⟩ (.string (str q))).setCell ⟨w.heap.size,5,none⟩ (.bool a)):=⟨_,rfl⟩
       rw [← hW9] at hx9 hp9
       try simp only [show str ([]:List UInt8)=⟨#[]⟩ from rfl,show str ([47]:List UInt8)=⟨#[47]⟩ from rfl] at hW9
       rw [← hW9]
       clear hW9
       obtain ⟨⟨r0,r1,r2,r3,r4,r5⟩,_⟩:=six hp9 (Ext.rfl' _)
       exact bodyPost_ret (v:=tgtV ((1,[],(-1),p,q,a),0)) (by simp [results,Tryz.results59,go_sem,tgtV,r0,r1,r2,r3,r4,r5]) rfl ⟨by first | rfl | exact ret_val (by rw [HV.out];try rfl),by first | exact hx9 | ((exact Xq))⟩
       )
  ·have d7:decide ((7:Int)≤(l.length:Int))=false:=by rw [decide_eq_false_iff_not];omega
   have C:=Hy C
   clear hh
   go_enter Tryz.func59,Tryz.ntmps59
   go_wp2_with (first
    | (go_at_call 62;refine (C.out _).mono ?_;rintro e w0 ⟨rfl,hx0⟩;have hq:Ext (((w.alloc (.cells #[.int .i64 0,.string ⟨#[]⟩,.int .i64 0,.string ⟨#[]⟩,.string ⟨#[]⟩,.bool false] 107)).alloc (.cells #[.int .i64 0,.string ⟨#[]⟩,.int .i64 0,.string ⟨#[]⟩,.string ⟨#[]⟩,.bool false] 107)).alloc (.cells #[.int .i64 1,.string ⟨#[]⟩,.int .i64 (-1),.string ⟨#[]⟩,.string ⟨#[]⟩,.bool false] 107)) w0:=Xq;have HB:=Hy ((hq.block w.heap.size (by first | (simp;done) | (simp;omega))).trans (three w _ _ _).1);have HN:=Hy ((hq.block (w.heap.size+1) (by first | (simp;done) | (simp;omega))).trans (three_m w _ _ _));have HT:=Hy ((hq.block (w.heap.size+1+1) (by simp)).trans (three w _ _ _).2);have hw1:Ext w w0:=Xq;clear hq;obtain ⟨⟨r0,r1,r2,r3,r4,r5⟩,f0,f1,f2,f3,f4,f5⟩:=six HB.out (Ext.rfl' _);obtain ⟨⟨n0,n1,n2,n3,n4,n5⟩,m0,m1,m2,m3,m4,m5⟩:=six HN.out (Ext.rfl' _);obtain ⟨⟨t0,t1,t2,t3,t4,t5⟩,g0,g1,g2,g3,g4,g5⟩:=six HT.out (Ext.rfl' _))
    | (go_at_call 78;refine (D.out _).mono ?_;rintro e w2 ⟨rfl,hx2⟩;(try clear r0 r1 r2 r3 r4 r5 f0 f1 f2 f3 f4 f5 n0 n1 n2 n3 n4 n5 m0 m1 m2 m3 m4 m5 t0 t1 t2 t3 t4 t5 g0 g1 g2 g3 g4 g5);(try clear HB HN HT hw1);have hq:Ext (((w.alloc (.cells #[.int .i64 0,.string ⟨#[]⟩,.int .i64 0,.string ⟨#[]⟩,.string ⟨#[]⟩,.bool false] 107)).alloc (.cells #[.int .i64 0,.string ⟨#[]⟩,.int .i64 0,.string ⟨#[]⟩,.string ⟨#[]⟩,.bool false] 107)).alloc (.cells #[.int .i64 1,.string ⟨#[]⟩,.int .i64 (-1),.string ⟨#[]⟩,.string ⟨#[]⟩,.bool false] 107)) w2:=Xq;have HB:=Hy ((hq.block w.heap.size (by first | (simp;done) | (simp;omega))).trans (three w _ _ _).1);have HN:=Hy ((hq.block (w.heap.size+1) (by first | (simp;done) | (simp;omega))).trans (three_m w _ _ _));have HT:=Hy ((hq.block (w.heap.size+1+1) (by simp)).trans (three w _ _ _).2);have hw1:Ext w w2:=Xq;clear hq;obtain ⟨⟨r0,r1,r2,r3,r4,r5⟩,f0,f1,f2,f3,f4,f5⟩:=six HB.out (Ext.rfl' _);obtain ⟨⟨n0,n1,n2,n3,n4,n5⟩,m0,m1,m2,m3,m4,m5⟩:=six HN.out (Ext.rfl' _);obtain ⟨⟨t0,t1,t2,t3,t4,t5⟩,g0,g1,g2,g3,g4,g5⟩:=six HT.out (Ext.rfl' _)))
   obtain ⟨W5,hW5⟩:∃ W5,W5=((w2.setCell ⟨w.heap.size+1+1,3,none⟩ (.string (str p))).setCell ⟨w.heap.size+1+1,4,none⟩ (.string (str q))).setCell ⟨w.heap.size+1+1,5,none⟩ (.bool a):=⟨_,rfl⟩
   rw [← hW5]
   have hnR:w.heap.size≠w.heap.size+1+1:=by omega
   have hnN:w.heap.size+1≠w.heap.size+1+1:=by omega
   have hge:w.heap.size≤w.heap.size+1+1:=by omega
   have HT5:=Hy (show W5.heap[w.heap.size+1+1]?=some (.cells #[.int .i64 1,.string ⟨#[]⟩,.int .i64 (-1),.string (str p),.string (str q),.bool a] 107 (0,0)) by rw [hW5];simp [World.setCell,Array.getElem?_modify,HT.out])
   have HR5:=Hy ((show W5.heap[w.heap.size]?=w2.heap[w.heap.size]? by rw [hW5,Below.heap_setCell _ _ _ _ hnR,Below.heap_setCell _ _ _ _ hnR,Below.heap_setCell _ _ _ _ hnR]).trans HB.out)
   have HN5:=Hy ((show W5.heap[w.heap.size+1]?=w2.heap[w.heap.size+1]? by rw [hW5,Below.heap_setCell _ _ _ _ hnN,Below.heap_setCell _ _ _ _ hnN,Below.heap_setCell _ _ _ _ hnN]).trans HN.out)
   have hx5:Ext w W5:=by rw [hW5];exact ((hw1.st hge _).st hge _).st hge _
   clear hW5 hw1 HT HB HN
   clear r0 r1 r2 r3 r4 r5 f0 f1 f2 f3 f4 f5 n0 n1 n2 n3 n4 n5 m0 m1 m2 m3 m4 m5 t0 t1 t2 t3 t4 t5 g0 g1 g2 g3 g4 g5
   try clear C
   try clear IA
   try clear CH
   try clear D
   try clear HE
   try clear d1
   try clear d7
   try clear n7
   try clear e1
   try clear e2
   try clear hdr
   try clear hr8
   try clear i1
   try clear i2
   try clear hki
   try clear m1
   try clear m2
   try clear o1
   try clear o2
   try clear l1
   try clear l2
   try clear l3
   try clear c1
   try clear h1
   try clear h2
   try clear h7
   try clear hm
   try clear ho
   try clear hmo
   try clear ck
   try clear hb
   try clear hl0
   try clear c7
   have hlT:w.heap.size+1+1<W5.heap.size:=(Array.getElem?_eq_some_iff.1 HT5.out).1
   have hlN:w.heap.size+1<W5.heap.size:=by omega
   have hlR:w.heap.size<W5.heap.size:=by omega
   have hks:=Hy (fun w' (x:Ext W5 w')=>(show w'.cell? ⟨w.heap.size+1+1,3,none⟩=some (.string (str p))∧w'.cell? ⟨w.heap.size+1+1,4,none⟩=some (.string (str q)) from ⟨(six HT5.out x).1.2.2.2.1,(six HT5.out x).1.2.2.2.2.1⟩))
   have hRR:=HRR.out
   clear HRR
   obtain ⟨vp,hvp⟩:∃ v,v=p.all (mayB false):=⟨_,rfl⟩
   obtain ⟨vq,hvq⟩:∃ v,v=q.all (mayB true):=⟨_,rfl⟩
   rw [← hvp,← hvq] at hRR
   rw [show mayB false=mayB (mq ⟨#[]⟩) from rfl] at hvp
   rw [show mayB true=mayB (mq ⟨#[63]⟩) from rfl] at hvq
   have HP:=Hy hvp.symm
   have HQ:=Hy hvq.symm
   clear hvp hvq
   cases vp
   ·have HV:=Hy (show R=badT by rw [hRR];simp)
    clear hRR
    have kA:W5.cell? ⟨w.heap.size+1+1,3,none⟩=some (.string (str p)):=(hks.out W5 (Ext.rfl' _)).1
    have kB:∀ n,(W5.drewN n).cell? ⟨w.heap.size+1+1,3,none⟩=some (.string (str p)):=fun n=>(hks.out _ Xq).1
    have kC:∀ n,((W5.drewN n).alloc (.cells #[.string ⟨#[]⟩] 9)).cell? ⟨w.heap.size+1+1,3,none⟩=some (.string (str p)):=fun n=>(hks.out _ Xq).1
    first
     | (go_region_with (first
     | (go_at_call 88;refine (upath_c _ _).mono ?_;rintro e w5 ⟨rfl,rfl⟩)
     | (go_at_call 87;refine (all_px _ _ _ _ hlp (by first | exact new_at _ _ _ 0 _ rfl | exact new_at_g (by simp) _ _ 0 _ rfl) (.inl rfl)).mono ?_;rintro e w6 ⟨rfl,rfl⟩;rw [HP.out])))
     | fail
    all_goals (
     obtain ⟨w1,hW8⟩:∃ w1,w1=W5.alloc (.cells #[.string ⟨#[]⟩] 9):=⟨_,rfl⟩
     first | rw [← hW8] | skip
     have hx8:Ext W5 w1:=by rw [hW8];(exact Xq)
     clear hW8
     have HN:=Hy ((hx8.block (w.heap.size+1) hlN).trans HN5.out)
     have HB:=Hy ((hx8.block w.heap.size hlR).trans HR5.out)
     have hw1:Ext w w1:=hx5.tr hx8
     obtain ⟨⟨r0,r1,r2,r3,r4,r5⟩,f0,f1,f2,f3,f4,f5⟩:=six HB.out (Ext.rfl' _);obtain ⟨⟨n0,n1,n2,n3,n4,n5⟩,m0,m1,m2,m3,m4,m5⟩:=six HN.out (Ext.rfl' _)
     clear hks hlT hlR hlN
     go_wp2
     clear r0 r1 r2 r3 r4 r5 f0 f1 f2 f3 f4 f5 n0 n1 n2 n3 n4 n5 m0 m1 m2 m3 m4 m5
     have hx9:Ext w _:=ext6 hw1 (.int .i64 0) (.string (str [])) (.int .i64 0) (.string (str [])) (.string (str [])) (.bool false)
     have hp9:=put6 HB.out (.int .i64 0) (.string (str [])) (.int .i64 0) (.string (str [])) (.string (str [])) (.bool false)
     obtain ⟨W9,hW9⟩:∃ W9,W9=((((((w1.setCell ⟨w.heap.size,0,none⟩ (.int .i64 0)).setCell ⟨w.heap.size,1,none⟩ (.string (str []))).setCell ⟨w.heap.size,2,none⟩ (.int .i64 0)).setCell ⟨w.heap.size,3,none⟩ (.string (str []))).setCell ⟨w.heap.size,4,none⟩ (.string (str []))).setCell ⟨w.heap.size,5,none⟩ (.bool false)):=⟨_,rfl⟩
     rw [← hW9] at hx9 hp9
     try simp only [show str ([]:List UInt8)=⟨#[]⟩ from rfl,show str ([47]:List UInt8)=⟨#[47]⟩ from rfl] at hW9
     rw [← hW9]
     clear hW9
     obtain ⟨⟨r0,r1,r2,r3,r4,r5⟩,_⟩:=six hp9 (Ext.rfl' _)
     exact bodyPost_ret (v:=tgtV ((0,[],0,[],[],false),40)) (by simp [results,Tryz.results59,go_sem,tgtV,r0,r1,r2,r3,r4,r5]) rfl ⟨by first | rfl | exact ret_val (by rw [HV.out];try rfl),by first | exact hx9 | ((exact Xq))⟩
     )
   ·cases vq
    ·have HV:=Hy (show R=badT by rw [hRR];simp)
     clear hRR
     go_region_held3 (fun w'=>w'.cell? ⟨w.heap.size+1+1,3,none⟩=some (.string (str p))∧w'.cell? ⟨w.heap.size+1+1,4,none⟩=some (.string (str q))) (exact hks.out _ Xq) (first
      | (go_at_call 88;refine (upath_c _ _).mono ?_;rintro e w5 ⟨rfl,rfl⟩)
      | (go_at_call 87;refine (all_px _ _ _ _ (by first | exact hlp | exact hlq) (by first | exact new_at _ _ _ 0 _ rfl | exact new_at_g (by simp) _ _ 0 _ rfl) (by first | exact .inl rfl | exact .inr rfl)).mono ?_;rintro e w6 ⟨rfl,rfl⟩;first | rw [HP.out] | rw [HQ.out]))
     all_goals (
      obtain ⟨w1,hW8⟩:∃ w1,w1=(W5.alloc (.cells #[.string ⟨#[]⟩] 9)).alloc (.cells #[.string ⟨#[63]⟩] 9):=⟨_,rfl⟩
      first | rw [← hW8] | skip
      have hx8:Ext W5 w1:=by rw [hW8];(exact Xq)
      clear hW8
      have HN:=Hy ((hx8.block (w.heap.size+1) hlN).trans HN5.out)
      have HB:=Hy ((hx8.block w.heap.size hlR).trans HR5.out)
      have hw1:Ext w w1:=hx5.tr hx8
      obtain ⟨⟨r0,r1,r2,r3,r4,r5⟩,f0,f1,f2,f3,f4,f5⟩:=six HB.out (Ext.rfl' _);obtain ⟨⟨n0,n1,n2,n3,n4,n5⟩,m0,m1,m2,m3,m4,m5⟩:=six HN.out (Ext.rfl' _)
      clear hks hlT hlR hlN
      go_wp2
      clear r0 r1 r2 r3 r4 r5 f0 f1 f2 f3 f4 f5 n0 n1 n2 n3 n4 n5 m0 m1 m2 m3 m4 m5
      have hx9:Ext w _:=ext6 hw1 (.int .i64 0) (.string (str [])) (.int .i64 0) (.string (str [])) (.string (str [])) (.bool false)
      have hp9:=put6 HB.out (.int .i64 0) (.string (str [])) (.int .i64 0) (.string (str [])) (.string (str [])) (.bool false)
      obtain ⟨W9,hW9⟩:∃ W9,W9=((((((w1.setCell ⟨w.heap.size,0,none⟩ (.int .i64 0)).setCell ⟨w.heap.size,1,none⟩ (.string (str []))).setCell ⟨w.heap.size,2,none⟩ (.int .i64 0)).setCell ⟨w.heap.size,3,none⟩ (.string (str []))).setCell ⟨w.heap.size,4,none⟩ (.string (str []))).setCell ⟨w.heap.size,5,none⟩ (.bool false)):=⟨_,rfl⟩
      rw [← hW9] at hx9 hp9
      try simp only [show str ([]:List UInt8)=⟨#[]⟩ from rfl,show str ([47]:List UInt8)=⟨#[47]⟩ from rfl] at hW9
      rw [← hW9]
      clear hW9
      obtain ⟨⟨r0,r1,r2,r3,r4,r5⟩,_⟩:=six hp9 (Ext.rfl' _)
      exact bodyPost_ret (v:=tgtV ((0,[],0,[],[],false),40)) (by simp [results,Tryz.results59,go_sem,tgtV,r0,r1,r2,r3,r4,r5]) rfl ⟨by first | rfl | exact ret_val (by rw [HV.out];try rfl),by first | exact hx9 | ((exact Xq))⟩
      )
    ·rw [if_pos ⟨rfl,rfl⟩] at hRR
     dsimp only at hRR
     by_cases pn:p=[]
     ·rw [if_pos pn] at hRR
      have p2:p.isEmpty=true:=by rw [pn];rfl
      have p3:(str p).toList.isEmpty=true:=by rw [Lib.toList_data];exact p2
      have HV:=Hy hRR
      clear hRR pn
      go_region_held3 (fun w'=>w'.cell? ⟨w.heap.size+1+1,3,none⟩=some (.string (str p))∧w'.cell? ⟨w.heap.size+1+1,4,none⟩=some (.string (str q))) (exact hks.out _ Xq) (first
       | (go_at_call 88;refine (upath_c _ _).mono ?_;rintro e w5 ⟨rfl,rfl⟩)
       | (go_at_call 87;refine (all_px _ _ _ _ (by first | exact hlp | exact hlq) (by first | exact new_at _ _ _ 0 _ rfl | exact new_at_g (by simp) _ _ 0 _ rfl) (by first | exact .inl rfl | exact .inr rfl)).mono ?_;rintro e w6 ⟨rfl,rfl⟩;first | rw [HP.out] | rw [HQ.out]))
      all_goals (
       obtain ⟨W8,hW8⟩:∃ W8,W8=(W5.alloc (.cells #[.string ⟨#[]⟩] 9)).alloc (.cells #[.string ⟨#[63]⟩] 9):=⟨_,rfl⟩
       first | rw [← hW8] | skip
       have hx8:Ext W5 W8:=by rw [hW8];(exact Xq)
       clear hW8
       have HR8:=Hy ((hx8.block w.heap.size hlR).trans HR5.out)
       have hT8:=(hx8.block (w.heap.size+1+1) hlT).trans HT5.out
       have hxW8:Ext w W8:=hx5.tr hx8
       obtain ⟨⟨t0,t1,t2,t3,t4,t5⟩,g0,g1,g2,g3,g4,g5⟩:=six hT8 (Ext.rfl' _)
       obtain ⟨⟨r0,r1,r2,r3,r4,r5⟩,f0,f1,f2,f3,f4,f5⟩:=six HR8.out (Ext.rfl' _)
       clear hks hlT hlR hlN hT8
       go_wp2
       clear t0 t1 t2 t3 t4 t5 g0 g1 g2 g3 g4 g5 r0 r1 r2 r3 r4 r5 f0 f1 f2 f3 f4 f5
       obtain ⟨w1,hW1⟩:∃ w1,w1=W8.setCell ⟨w.heap.size+1+1,3,none⟩ (.string ⟨#[47]⟩):=⟨_,rfl⟩
       rw [← hW1]
       have HB:=Hy ((show w1.heap[w.heap.size]?=W8.heap[w.heap.size]? by rw [hW1,Below.heap_setCell _ _ _ _ hnR]).trans HR8.out)
       have hw1:Ext w w1:=by rw [hW1];exact hxW8.st hge _
       clear hW1
       have hx9:Ext w _:=ext6 hw1 (.int .i64 1) (.string (str [])) (.int .i64 (-1)) (.string (str [47])) (.string (str q)) (.bool a)
       have hp9:=put6 HB.out (.int .i64 1) (.string (str [])) (.int .i64 (-1)) (.string (str [47])) (.string (str q)) (.bool a)
       obtain ⟨W9,hW9⟩:∃ W9,W9=((((((w1.setCell ⟨w.heap.size,0,none⟩ (.int .i64 1)).setCell ⟨w.heap.size,1,none⟩ (.string (str []))).setCell ⟨w.heap.size,2,none⟩ (.int .i64 (-1))).setCell ⟨w.heap.size,3,none⟩ (.string (str [47]))).setCell ⟨w.heap.size,4,none⟩ (.string (str q))).setCell ⟨w.heap.size,5,none⟩ (.bool a)):=⟨_,rfl⟩
       rw [← hW9] at hx9 hp9
       try simp only [show str ([]:List UInt8)=⟨#[]⟩ from rfl,show str ([47]:List UInt8)=⟨#[47]⟩ from rfl] at hW9
       rw [← hW9]
       clear hW9
       obtain ⟨⟨r0,r1,r2,r3,r4,r5⟩,_⟩:=six hp9 (Ext.rfl' _)
       exact bodyPost_ret (v:=tgtV ((1,[],(-1),[47],q,a),0)) (by simp [results,Tryz.results59,go_sem,tgtV,r0,r1,r2,r3,r4,r5]) rfl ⟨by first | rfl | exact ret_val (by rw [HV.out];try rfl),by first | exact hx9 | ((exact Xq))⟩
       )
     ·rw [if_neg pn] at hRR
      have HV:=Hy hRR
      have p2:p.isEmpty=false:=by rw [List.isEmpty_eq_false_iff];exact pn
      have p3:(str p).toList.isEmpty=false:=by rw [Lib.toList_data];exact p2
      clear hRR pn
      go_region_held3 (fun w'=>w'.cell? ⟨w.heap.size+1+1,3,none⟩=some (.string (str p))∧w'.cell? ⟨w.heap.size+1+1,4,none⟩=some (.string (str q))) (exact hks.out _ Xq) (first
       | (go_at_call 88;refine (upath_c _ _).mono ?_;rintro e w5 ⟨rfl,rfl⟩)
       | (go_at_call 87;refine (all_px _ _ _ _ (by first | exact hlp | exact hlq) (by first | exact new_at _ _ _ 0 _ rfl | exact new_at_g (by simp) _ _ 0 _ rfl) (by first | exact .inl rfl | exact .inr rfl)).mono ?_;rintro e w6 ⟨rfl,rfl⟩;first | rw [HP.out] | rw [HQ.out]))
      all_goals (
       obtain ⟨W8,hW8⟩:∃ W8,W8=(W5.alloc (.cells #[.string ⟨#[]⟩] 9)).alloc (.cells #[.string ⟨#[63]⟩] 9):=⟨_,rfl⟩
       first | rw [← hW8] | skip
       have hx8:Ext W5 W8:=by rw [hW8];(exact Xq)
       clear hW8
       have HR8:=Hy ((hx8.block w.heap.size hlR).trans HR5.out)
       have hT8:=(hx8.block (w.heap.size+1+1) hlT).trans HT5.out
       have hxW8:Ext w W8:=hx5.tr hx8
       obtain ⟨⟨t0,t1,t2,t3,t4,t5⟩,g0,g1,g2,g3,g4,g5⟩:=six hT8 (Ext.rfl' _)
       obtain ⟨⟨r0,r1,r2,r3,r4,r5⟩,f0,f1,f2,f3,f4,f5⟩:=six HR8.out (Ext.rfl' _)
       clear hks hlT hlR hlN hT8
       go_wp2
       clear t0 t1 t2 t3 t4 t5 g0 g1 g2 g3 g4 g5 r0 r1 r2 r3 r4 r5 f0 f1 f2 f3 f4 f5
       have HB:=HR8
       have hw1:=hxW8
       obtain ⟨w1,hW1⟩:∃ w1,w1=W8:=⟨_,rfl⟩
       rw [← hW1] at HB hw1 ⊢
       clear hW1
       have hx9:Ext w _:=ext6 hw1 (.int .i64 1) (.string (str [])) (.int .i64 (-1)) (.string (str p)) (.string (str q)) (.bool a)
       have hp9:=put6 HB.out (.int .i64 1) (.string (str [])) (.int .i64 (-1)) (.string (str p)) (.string (str q)) (.bool a)
       obtain ⟨W9,hW9⟩:∃ W9,W9=((((((w1.setCell ⟨w.heap.size,0,none⟩ (.int .i64 1)).setCell ⟨w.heap.size,1,none⟩ (.string (str []))).setCell ⟨w.heap.size,2,none⟩ (.int .i64 (-1))).setCell ⟨w.heap.size,3,none⟩ (.string (str p))).setCell ⟨w.heap.size,4,none⟩ (.string (str q))).setCell ⟨w.heap.size,5,none⟩ (.bool a)):=⟨_,rfl⟩
       rw [← hW9] at hx9 hp9
       try simp only [show str ([]:List UInt8)=⟨#[]⟩ from rfl,show str ([47]:List UInt8)=⟨#[47]⟩ from rfl] at hW9
       rw [← hW9]
       clear hW9
       obtain ⟨⟨r0,r1,r2,r3,r4,r5⟩,_⟩:=six hp9 (Ext.rfl' _)
       exact bodyPost_ret (v:=tgtV ((1,[],(-1),p,q,a),0)) (by simp [results,Tryz.results59,go_sem,tgtV,r0,r1,r2,r3,r4,r5]) rfl ⟨by first | rfl | exact ret_val (by rw [HV.out];try rfl),by first | exact hx9 | ((exact Xq))⟩
       )
end Go.Proofs.YthbofilcnpdghaaGreatDoor
