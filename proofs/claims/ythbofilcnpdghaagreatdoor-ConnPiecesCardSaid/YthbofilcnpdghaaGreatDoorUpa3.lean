/-
The program's Parse: an absolute target.
-/
import Derived.Test.YthbofilcnpdghaaGreatDoorUpa1
set_option maxRecDepth 100000
set_option maxHeartbeats 8000000
set_option linter.unusedVariables false
set_option linter.unusedSimpArgs false
namespace Go.Proofs.YthbofilcnpdghaaGreatDoor
open Go.RowKit
theorem uParse_abs1 (m l:List UInt8) (hm:¬ m=conL) (hmo:¬(m=optL∧l=[42])) (h1:l≠[]) (h2:l.length≤8192) (h7:7≤l.length) (hH:lowL (l.take 7)=httpU) (w:World) (hE:ErrR w) (c1:m=optL) (ck0:authL (l.drop 7)<(l.drop 7).length) :
  Calls Tryz.prog 59 #[.string (str m),.string (str l)] w (Gives (tgtV (if (hostL ((l.drop 7).take (authL (l.drop 7)))).2.2=0 then finT 2 (hostL ((l.drop 7).take (authL (l.drop 7)))).1 (hostL ((l.drop 7).take (authL (l.drop 7)))).2.1 ((l.drop 7).drop (authL (l.drop 7))) else badT)) w):=by
 obtain ⟨R,hR⟩:∃ R,R=(if (hostL ((l.drop 7).take (authL (l.drop 7)))).2.2=0 then finT 2 (hostL ((l.drop 7).take (authL (l.drop 7)))).1 (hostL ((l.drop 7).take (authL (l.drop 7)))).2.1 ((l.drop 7).drop (authL (l.drop 7))) else badT):=⟨_,rfl⟩
 rw [← hR]
 have d1:decide ((8192:Int)<(l.length:Int))=false:=by rw [decide_eq_false_iff_not];omega
 have e1:l.isEmpty=false:=by rw [List.isEmpty_eq_false_iff];exact h1
 have e2:(str l).toList.isEmpty=false:=by rw [Lib.toList_data];exact e1
 have m1:=strN hm
 have m2:(m == conL)=false:=by rw [beq_eq_false_iff_ne];exact hm
 have C:=fun w=>Equal_c (l.take 7) httpU (by unfold maxLen;rw [List.length_take];omega) (by decide) w
 rw [show (lowL (l.take 7) == lowL httpU)=true by rw [hH];decide,show str httpU=⟨#[104,116,116,112,58,47,47]⟩ from rfl] at C
 have C:=Hy C
 have d7:decide ((7:Int)≤(l.length:Int))=true:=by rw [decide_eq_true_eq];omega
 have n7:(7:Int)≤(l.length:Int):=by omega
 obtain ⟨r,hr⟩:∃ r,r=l.drop 7:=⟨_,rfl⟩
 rw [← hr] at hR
 have ck:=ck0
 rw [← hr] at ck
 clear ck0
 have hr8:r.length≤8192:=by rw [hr,List.length_drop];omega
 have hdr:l.drop 7=r:=hr.symm
 have hRk:=hR
 have HE:=Hy hE
 unfold conL at hm m1 m2
 clear hH hR hr hE
 have l1:¬ l=[42]:=fun h=>hmo ⟨c1,h⟩
 have l2:=strN l1
 have l3:(l == [42])=false:=by rw [beq_eq_false_iff_ne];exact l1
 subst c1
 rw [show str optL=⟨#[79,80,84,73,79,78,83]⟩ from rfl]
 clear m1 m2 hm hmo
 have IA:=Hy (fun w=>by have h:=IndexAny_c r hr8 w;rw [ia_auth,if_pos ck] at h;exact h)
 obtain ⟨k,hk⟩:∃ k,k=authL r:=⟨_,rfl⟩
 rw [← hk] at IA hRk ck
 clear hk
 have i1:(0:Int)≤(k:Int):=by omega
 have i2:(k:Int)≤(r.length:Int):=by omega
 have CH:=fun w hE=>uHost_c (r.take k) (by rw [List.length_take];omega) w hE
 have D:=fun w=>Cut63_c (r.drop k) (by unfold maxLen;rw [List.length_drop];omega) w
 unfold hostV at CH
 obtain ⟨H,hH⟩:∃ H,H=(hostL (r.take k)).1:=⟨_,rfl⟩
 obtain ⟨port,hp⟩:∃ p,p=(hostL (r.take k)).2.1:=⟨_,rfl⟩
 obtain ⟨e,he⟩:∃ e,e=(hostL (r.take k)).2.2:=⟨_,rfl⟩
 rw [← hH,← hp,← he] at CH hRk
 have CH:=Hy CH
 clear hH hp he
 have hnR:w.heap.size≠w.heap.size+1+1:=by omega
 have hnN:w.heap.size+1≠w.heap.size+1+1:=by omega
 have hge:w.heap.size≤w.heap.size+1+1:=by omega
 by_cases c1:e=0
 ·subst c1
  rw [if_pos rfl] at hRk
  have hlp:=(cut_len (r.drop k)).1
  have hlq:=(cut_len (r.drop k)).2
  rw [List.length_drop] at hlp hlq
  have hRR:=hRk
  unfold finT at hRR
  rw [local_cut] at hRR
  clear hRk
  obtain ⟨p,hp⟩:∃ p,p=(cutL (r.drop k)).1:=⟨_,rfl⟩
  obtain ⟨q,hq⟩:∃ q,q=(cutL (r.drop k)).2.1:=⟨_,rfl⟩
  obtain ⟨a,ha⟩:∃ a,a=(cutL (r.drop k)).2.2:=⟨_,rfl⟩
  rw [show cutL (r.drop k)=(p,q,a) by rw [hp,hq,ha]] at hRR
  rw [← hp,← hq,← ha] at D
  rw [← hp] at hlp
  rw [← hq] at hlq
  have hlp:p.length≤140737488355328:=by omega
  have hlq:q.length≤140737488355328:=by omega
  dsimp only at hRR
  have D:=Hy D
  have HRR:=Hy hRR
  clear hp hq ha hRR
  go_enter Tryz.func59,Tryz.ntmps59
  go_wp2_with (first
   | (go_at_call 62;refine (C.out _).mono ?_;rintro e wa ⟨rfl,hx1⟩)
   | (go_at_call 86;refine (IA.out _).mono ?_;rintro e wb ⟨rfl,hx2⟩))
  go_at_call 85
  refine (CH.out _ (HE.out.ext Xq)).mono ?_
  rintro e w3 ⟨rfl,hx3⟩
  have hq:Ext (((w.alloc (.cells #[.int .i64 0,.string ⟨#[]⟩,.int .i64 0,.string ⟨#[]⟩,.string ⟨#[]⟩,.bool false] 107)).alloc (.cells #[.int .i64 0,.string ⟨#[]⟩,.int .i64 0,.string ⟨#[]⟩,.string ⟨#[]⟩,.bool false] 107)).alloc (.cells #[.int .i64 1,.string ⟨#[]⟩,.int .i64 (-1),.string ⟨#[]⟩,.string ⟨#[]⟩,.bool false] 107)) w3:=Xq;have HB:=Hy ((hq.block w.heap.size (by first | (simp;done) | (simp;omega))).trans (three w _ _ _).1);have HN:=Hy ((hq.block (w.heap.size+1) (by first | (simp;done) | (simp;omega))).trans (three_m w _ _ _));have HT:=Hy ((hq.block (w.heap.size+1+1) (by simp)).trans (three w _ _ _).2);have hw1:Ext w w3:=Xq;clear hq;obtain ⟨⟨r0,r1,r2,r3,r4,r5⟩,f0,f1,f2,f3,f4,f5⟩:=six HB.out (Ext.rfl' _);obtain ⟨⟨n0,n1,n2,n3,n4,n5⟩,m0,m1,m2,m3,m4,m5⟩:=six HN.out (Ext.rfl' _);obtain ⟨⟨t0,t1,t2,t3,t4,t5⟩,g0,g1,g2,g3,g4,g5⟩:=six HT.out (Ext.rfl' _)
  have hw3:=hw1
  clear hw1
  go_wp2
  go_region
  obtain ⟨Wx,hWx⟩:∃ Wx,Wx=(((w3.setCell ⟨w.heap.size+1+1,1,none⟩ (.string (str H))).setCell ⟨w.heap.size+1+1,2,none⟩ (.int .i64 port)).setCell ⟨w.heap.size+1+1,0,none⟩ (.int .i64 2)).drew:=⟨_,rfl⟩
  rw [← hWx]
  have HTx:=Hy (show Wx.heap[w.heap.size+1+1]?=some (.cells #[.int .i64 2,.string (str H),.int .i64 port,.string ⟨#[]⟩,.string ⟨#[]⟩,.bool false] 107 (0,0)) by
   rw [hWx]
   show (((w3.setCell ⟨w.heap.size+1+1,1,none⟩ (.string (str H))).setCell ⟨w.heap.size+1+1,2,none⟩ (.int .i64 port)).setCell ⟨w.heap.size+1+1,0,none⟩ (.int .i64 2)).heap[w.heap.size+1+1]?=_
   simp [World.setCell,Array.getElem?_modify,HT.out])
  have HBx:=Hy (show Wx.heap[w.heap.size]?=some (.cells #[.int .i64 0,.string ⟨#[]⟩,.int .i64 0,.string ⟨#[]⟩,.string ⟨#[]⟩,.bool false] 107 (0,0)) by
   rw [hWx];exact (Below.heap_setCell _ _ _ _ hnR).trans ((Below.heap_setCell _ _ _ _ hnR).trans ((Below.heap_setCell _ _ _ _ hnR).trans HB.out)))
  have HNx:=Hy (show Wx.heap[w.heap.size+1]?=some (.cells #[.int .i64 0,.string ⟨#[]⟩,.int .i64 0,.string ⟨#[]⟩,.string ⟨#[]⟩,.bool false] 107 (0,0)) by
   rw [hWx];exact (Below.heap_setCell _ _ _ _ hnN).trans ((Below.heap_setCell _ _ _ _ hnN).trans ((Below.heap_setCell _ _ _ _ hnN).trans HN.out)))
  have hwx:Ext w Wx:=by rw [hWx];exact (((hw3.st hge _).st hge _).st hge _).dr
  clear hWx
  clear r0 r1 r2 r3 r4 r5 f0 f1 f2 f3 f4 f5 n0 n1 n2 n3 n4 n5 m0 m1 m2 m3 m4 m5 t0 t1 t2 t3 t4 t5 g0 g1 g2 g3 g4 g5
  obtain ⟨⟨t0,t1,t2,t3,t4,t5⟩,g0,g1,g2,g3,g4,g5⟩:=six HTx.out (Ext.rfl' _)
  go_wp2_with (go_at_call 78;refine (D.out _).mono ?_;rintro e w4 ⟨rfl,hx4⟩;have HT4:=Hy ((hx4.block (w.heap.size+1+1) (Array.getElem?_eq_some_iff.1 HTx.out).1).trans HTx.out);have HB4:=Hy ((hx4.block w.heap.size (Array.getElem?_eq_some_iff.1 HBx.out).1).trans HBx.out);have HN4:=Hy ((hx4.block (w.heap.size+1) (Array.getElem?_eq_some_iff.1 HNx.out).1).trans HNx.out);have hw4:Ext w w4:=Ext.tr hwx hx4;clear hx4 t0 t1 t2 t3 t4 t5 g0 g1 g2 g3 g4 g5;obtain ⟨⟨t0,t1,t2,t3,t4,t5⟩,g0,g1,g2,g3,g4,g5⟩:=six HT4.out (Ext.rfl' _))
  obtain ⟨W5,hW5⟩:∃ W5,W5=((w4.setCell ⟨w.heap.size+1+1,3,none⟩ (.string (str p))).setCell ⟨w.heap.size+1+1,4,none⟩ (.string (str q))).setCell ⟨w.heap.size+1+1,5,none⟩ (.bool a):=⟨_,rfl⟩
  rw [← hW5]
  have HT5:=Hy (show W5.heap[w.heap.size+1+1]?=some (.cells #[.int .i64 2,.string (str H),.int .i64 port,.string (str p),.string (str q),.bool a] 107 (0,0)) by rw [hW5];simp [World.setCell,Array.getElem?_modify,HT4.out])
  have HR5:=Hy ((show W5.heap[w.heap.size]?=w4.heap[w.heap.size]? by rw [hW5,Below.heap_setCell _ _ _ _ hnR,Below.heap_setCell _ _ _ _ hnR,Below.heap_setCell _ _ _ _ hnR]).trans HB4.out)
  have HN5:=Hy ((show W5.heap[w.heap.size+1]?=w4.heap[w.heap.size+1]? by rw [hW5,Below.heap_setCell _ _ _ _ hnN,Below.heap_setCell _ _ _ _ hnN,Below.heap_setCell _ _ _ _ hnN]).trans HN4.out)
  have hx5:Ext w W5:=by rw [hW5];exact ((hw4.st hge _).st hge _).st hge _
  clear hW5 hw4 hw3 hwx HTx HBx HNx HT4 HB4 HN4 HT HB HN t0 t1 t2 t3 t4 t5 g0 g1 g2 g3 g4 g5 hx1 hx2 hx3
  try clear C
  try clear IA
  try clear CH
  try clear D
  try clear HE
  try clear d1
  try clear d7
  try clear n7
  try clear e1
  try clear e2
  try clear hdr
  try clear hr8
  try clear i1
  try clear i2
  try clear hki
  try clear m1
  try clear m2
  try clear o1
  try clear o2
  try clear l1
  try clear l2
  try clear l3
  try clear c1
  try clear h1
  try clear h2
  try clear h7
  try clear hm
  try clear ho
  try clear hmo
  try clear ck
  try clear hb
  try clear hl0
  try clear c7
  have hlT:w.heap.size+1+1<W5.heap.size:=(Array.getElem?_eq_some_iff.1 HT5.out).1
  have hlN:w.heap.size+1<W5.heap.size:=by omega
  have hlR:w.heap.size<W5.heap.size:=by omega
  have hks:=Hy (fun w' (x:Ext W5 w')=>(show w'.cell? ⟨w.heap.size+1+1,3,none⟩=some (.string (str p))∧w'.cell? ⟨w.heap.size+1+1,4,none⟩=some (.string (str q)) from ⟨(six HT5.out x).1.2.2.2.1,(six HT5.out x).1.2.2.2.2.1⟩))
  have hRR:=HRR.out
  clear HRR
  obtain ⟨vp,hvp⟩:∃ v,v=p.all (mayB false):=⟨_,rfl⟩
  obtain ⟨vq,hvq⟩:∃ v,v=q.all (mayB true):=⟨_,rfl⟩
  rw [← hvp,← hvq] at hRR
  rw [show mayB false=mayB (mq ⟨#[]⟩) from rfl] at hvp
  rw [show mayB true=mayB (mq ⟨#[63]⟩) from rfl] at hvq
  have HP:=Hy hvp.symm
  have HQ:=Hy hvq.symm
  clear hvp hvq
  cases vp
  ·have HV:=Hy (show R=badT by rw [hRR];simp)
   clear hRR
   have kA:W5.cell? ⟨w.heap.size+1+1,3,none⟩=some (.string (str p)):=(hks.out W5 (Ext.rfl' _)).1
   have kB:∀ n,(W5.drewN n).cell? ⟨w.heap.size+1+1,3,none⟩=some (.string (str p)):=fun n=>(hks.out _ Xq).1
   have kC:∀ n,((W5.drewN n).alloc (.cells #[.string ⟨#[]⟩] 9)).cell? ⟨w.heap.size+1+1,3,none⟩=some (.string (str p)):=fun n=>(hks.out _ Xq).1
   first
    | (go_region_with (first
    | (go_at_call 88;refine (upath_c _ _).mono ?_;rintro e w5 ⟨rfl,rfl⟩)
    | (go_at_call 87;refine (all_px _ _ _ _ hlp (by first | exact new_at _ _ _ 0 _ rfl | exact new_at_g (by simp) _ _ 0 _ rfl) (.inl rfl)).mono ?_;rintro e w6 ⟨rfl,rfl⟩;rw [HP.out])))
    | fail
   all_goals (
    obtain ⟨w1,hW8⟩:∃ w1,w1=W5.alloc (.cells #[.string ⟨#[]⟩] 9):=⟨_,rfl⟩
    first | rw [← hW8] | skip
    have hx8:Ext W5 w1:=by rw [hW8];(exact Xq)
    clear hW8
    have HN:=Hy ((hx8.block (w.heap.size+1) hlN).trans HN5.out)
    have HB:=Hy ((hx8.block w.heap.size hlR).trans HR5.out)
    have hw1:Ext w w1:=hx5.tr hx8
    obtain ⟨⟨r0,r1,r2,r3,r4,r5⟩,f0,f1,f2,f3,f4,f5⟩:=six HB.out (Ext.rfl' _);obtain ⟨⟨n0,n1,n2,n3,n4,n5⟩,m0,m1,m2,m3,m4,m5⟩:=six HN.out (Ext.rfl' _)
    clear hks hlT hlR hlN
    go_wp2
    clear r0 r1 r2 r3 r4 r5 f0 f1 f2 f3 f4 f5 n0 n1 n2 n3 n4 n5 m0 m1 m2 m3 m4 m5
    have hx9:Ext w _:=ext6 hw1 (.int .i64 0) (.string (str [])) (.int .i64 0) (.string (str [])) (.string (str [])) (.bool false)
    have hp9:=put6 HB.out (.int .i64 0) (.string (str [])) (.int .i64 0) (.string (str [])) (.string (str [])) (.bool false)
    obtain ⟨W9,hW9⟩:∃ W9,W9=((((((w1.setCell ⟨w.heap.size,0,none⟩ (.int .i64 0)).setCell ⟨w.heap.size,1,none⟩ (.string (str []))).setCell ⟨w.heap.size,2,none⟩ (.int .i64 0)).setCell ⟨w.heap.size,3,none⟩ (.string (str []))).setCell ⟨w.heap.size,4,none⟩ (.string (str []))).setCell ⟨w.heap.size,5,none⟩ (.bool false)):=⟨_,rfl⟩
    rw [← hW9] at hx9 hp9
    try simp only [show str ([]:List UInt8)=⟨#[]⟩ from rfl,show str ([47]:List UInt8)=⟨#[47]⟩ from rfl] at hW9
    rw [← hW9]
    clear hW9
    obtain ⟨⟨r0,r1,r2,r3,r4,r5⟩,_⟩:=six hp9 (Ext.rfl' _)
    exact bodyPost_ret (v:=tgtV ((0,[],0,[],[],false),40)) (by simp [results,Tryz.results59,go_sem,tgtV,r0,r1,r2,r3,r4,r5]) rfl ⟨by first | rfl | exact ret_val (by rw [HV.out];try rfl),by first | exact hx9 | ((exact Xq))⟩
    )
  ·cases vq
   ·have HV:=Hy (show R=badT by rw [hRR];simp)
    clear hRR
    go_region_held3 (fun w'=>w'.cell? ⟨w.heap.size+1+1,3,none⟩=some (.string (str p))∧w'.cell? ⟨w.heap.size+1+1,4,none⟩=some (.string (str q))) (exact hks.out _ Xq) (first
     | (go_at_call 88;refine (upath_c _ _).mono ?_;rintro e w5 ⟨rfl,rfl⟩)
     | (go_at_call 87;refine (all_px _ _ _ _ (by first | exact hlp | exact hlq) (by first | exact new_at _ _ _ 0 _ rfl | exact new_at_g (by simp) _ _ 0 _ rfl) (by first | exact .inl rfl | exact .inr rfl)).mono ?_;rintro e w6 ⟨rfl,rfl⟩;first | rw [HP.out] | rw [HQ.out]))
    all_goals (
     obtain ⟨w1,hW8⟩:∃ w1,w1=(W5.alloc (.cells #[.string ⟨#[]⟩] 9)).alloc (.cells #[.string ⟨#[63]⟩] 9):=⟨_,rfl⟩
     first | rw [← hW8] | skip
     have hx8:Ext W5 w1:=by rw [hW8];(exact Xq)
     clear hW8
     have HN:=Hy ((hx8.block (w.heap.size+1) hlN).trans HN5.out)
     have HB:=Hy ((hx8.block w.heap.size hlR).trans HR5.out)
     have hw1:Ext w w1:=hx5.tr hx8
     obtain ⟨⟨r0,r1,r2,r3,r4,r5⟩,f0,f1,f2,f3,f4,f5⟩:=six HB.out (Ext.rfl' _);obtain ⟨⟨n0,n1,n2,n3,n4,n5⟩,m0,m1,m2,m3,m4,m5⟩:=six HN.out (Ext.rfl' _)
     clear hks hlT hlR hlN
     go_wp2
     clear r0 r1 r2 r3 r4 r5 f0 f1 f2 f3 f4 f5 n0 n1 n2 n3 n4 n5 m0 m1 m2 m3 m4 m5
     have hx9:Ext w _:=ext6 hw1 (.int .i64 0) (.string (str [])) (.int .i64 0) (.string (str [])) (.string (str [])) (.bool false)
     have hp9:=put6 HB.out (.int .i64 0) (.string (str [])) (.int .i64 0) (.string (str [])) (.string (str [])) (.bool false)
     obtain ⟨W9,hW9⟩:∃ W9,W9=((((((w1.setCell ⟨w.heap.size,0,none⟩ (.int .i64 0)).setCell ⟨w.heap.size,1,none⟩ (.string (str []))).setCell ⟨w.heap.size,2,none⟩ (.int .i64 0)).setCell ⟨w.heap.size,3,none⟩ (.string (str []))).setCell ⟨w.heap.size,4,none⟩ (.string (str []))).setCell ⟨w.heap.size,5,none⟩ (.bool false)):=⟨_,rfl⟩
     rw [← hW9] at hx9 hp9
     try simp only [show str ([]:List UInt8)=⟨#[]⟩ from rfl,show str ([47]:List UInt8)=⟨#[47]⟩ from rfl] at hW9
     rw [← hW9]
     clear hW9
     obtain ⟨⟨r0,r1,r2,r3,r4,r5⟩,_⟩:=six hp9 (Ext.rfl' _)
     exact bodyPost_ret (v:=tgtV ((0,[],0,[],[],false),40)) (by simp [results,Tryz.results59,go_sem,tgtV,r0,r1,r2,r3,r4,r5]) rfl ⟨by first | rfl | exact ret_val (by rw [HV.out];try rfl),by first | exact hx9 | ((exact Xq))⟩
     )
   ·rw [if_pos ⟨rfl,rfl⟩] at hRR
    dsimp only at hRR
    by_cases pn:p=[]
    ·rw [if_pos pn] at hRR
     have p2:p.isEmpty=true:=by rw [pn];rfl
     have p3:(str p).toList.isEmpty=true:=by rw [Lib.toList_data];exact p2
     have HV:=Hy hRR
     clear hRR pn
     go_region_held3 (fun w'=>w'.cell? ⟨w.heap.size+1+1,3,none⟩=some (.string (str p))∧w'.cell? ⟨w.heap.size+1+1,4,none⟩=some (.string (str q))) (exact hks.out _ Xq) (first
      | (go_at_call 88;refine (upath_c _ _).mono ?_;rintro e w5 ⟨rfl,rfl⟩)
      | (go_at_call 87;refine (all_px _ _ _ _ (by first | exact hlp | exact hlq) (by first | exact new_at _ _ _ 0 _ rfl | exact new_at_g (by simp) _ _ 0 _ rfl) (by first | exact .inl rfl | exact .inr rfl)).mono ?_;rintro e w6 ⟨rfl,rfl⟩;first | rw [HP.out] | rw [HQ.out]))
     all_goals (
      obtain ⟨W8,hW8⟩:∃ W8,W8=(W5.alloc (.cells #[.string ⟨#[]⟩] 9)).alloc (.cells #[.string ⟨#[63]⟩] 9):=⟨_,rfl⟩
      first | rw [← hW8] | skip
      have hx8:Ext W5 W8:=by rw [hW8];(exact Xq)
      clear hW8
      have HR8:=Hy ((hx8.block w.heap.size hlR).trans HR5.out)
      have hT8:=(hx8.block (w.heap.size+1+1) hlT).trans HT5.out
      have hxW8:Ext w W8:=hx5.tr hx8
      obtain ⟨⟨t0,t1,t2,t3,t4,t5⟩,g0,g1,g2,g3,g4,g5⟩:=six hT8 (Ext.rfl' _)
      obtain ⟨⟨r0,r1,r2,r3,r4,r5⟩,f0,f1,f2,f3,f4,f5⟩:=six HR8.out (Ext.rfl' _)
      clear hks hlT hlR hlN hT8
      go_wp2
      clear t0 t1 t2 t3 t4 t5 g0 g1 g2 g3 g4 g5 r0 r1 r2 r3 r4 r5 f0 f1 f2 f3 f4 f5
      obtain ⟨w1,hW1⟩:∃ w1,w1=W8.setCell ⟨w.heap.size+1+1,3,none⟩ (.string ⟨#[47]⟩):=⟨_,rfl⟩
      rw [← hW1]
      have HB:=Hy ((show w1.heap[w.heap.size]?=W8.heap[w.heap.size]? by rw [hW1,Below.heap_setCell _ _ _ _ hnR]).trans HR8.out)
      have hw1:Ext w w1:=by rw [hW1];exact hxW8.st hge _
      clear hW1
      have hx9:Ext w _:=ext6 hw1 (.int .i64 2) (.string (str H)) (.int .i64 port) (.string (str [47])) (.string (str q)) (.bool a)
      have hp9:=put6 HB.out (.int .i64 2) (.string (str H)) (.int .i64 port) (.string (str [47])) (.string (str q)) (.bool a)
      obtain ⟨W9,hW9⟩:∃ W9,W9=((((((w1.setCell ⟨w.heap.size,0,none⟩ (.int .i64 2)).setCell ⟨w.heap.size,1,none⟩ (.string (str H))).setCell ⟨w.heap.size,2,none⟩ (.int .i64 port)).setCell ⟨w.heap.size,3,none⟩ (.string (str [47]))).setCell ⟨w.heap.size,4,none⟩ (.string (str q))).setCell ⟨w.heap.size,5,none⟩ (.bool a)):=⟨_,rfl⟩
      rw [← hW9] at hx9 hp9
      try simp only [show str ([]:List UInt8)=⟨#[]⟩ from rfl,show str ([47]:List UInt8)=⟨#[47]⟩ from rfl] at hW9
      rw [← hW9]
      clear hW9
      obtain ⟨⟨r0,r1,r2,r3,r4,r5⟩,_⟩:=six hp9 (Ext.rfl' _)
      exact bodyPost_ret (v:=tgtV ((2,H,port,[47],q,a),0)) (by simp [results,Tryz.results59,go_sem,tgtV,r0,r1,r2,r3,r4,r5]) rfl ⟨by first | rfl | exact ret_val (by rw [HV.out];try rfl),by first | exact hx9 | ((exact Xq))⟩
      )
    ·rw [if_neg pn] at hRR
     have HV:=Hy hRR
     have p2:p.isEmpty=false:=by rw [List.isEmpty_eq_false_iff];exact pn
     have p3:(str p).toList.isEmpty=false:=by rw [Lib.toList_data];exact p2
     clear hRR pn
     go_region_held3 (fun w'=>w'.cell? ⟨w.heap.size+1+1,3,none⟩=some (.string (str p))∧w'.cell? ⟨w.heap.size+1+1,4,none⟩=some (.string (str q))) (exact hks.out _ Xq) (first
      | (go_at_call 88;refine (upath_c _ _).mono ?_;rintro e w5 ⟨rfl,rfl⟩)
      | (go_at_call 87;refine (all_px _ _ _ _ (by first | exact hlp | exact hlq) (by first | exact new_at _ _ _ 0 _ rfl | exact new_at_g (by simp) _ _ 0 _ rfl) (by first | exact .inl rfl | exact .inr rfl)).mono ?_;rintro e w6 ⟨rfl,rfl⟩;first | rw [HP.out] | rw [HQ.out]))
     all_goals (
      obtain ⟨W8,hW8⟩:∃ W8,W8=(W5.alloc (.cells #[.string ⟨#[]⟩] 9)).alloc (.cells #[.string ⟨#[63]⟩] 9):=⟨_,rfl⟩
      first | rw [← hW8] | skip
      have hx8:Ext W5 W8:=by rw [hW8];(exact Xq)
      clear hW8
      have HR8:=Hy ((hx8.block w.heap.size hlR).trans HR5.out)
      have hT8:=(hx8.block (w.heap.size+1+1) hlT).trans HT5.out
      have hxW8:Ext w W8:=hx5.tr hx8
      obtain ⟨⟨t0,t1,t2,t3,t4,t5⟩,g0,g1,g2,g3,g4,g5⟩:=six hT8 (Ext.rfl' _)
      obtain ⟨⟨r0,r1,r2,r3,r4,r5⟩,f0,f1,f2,f3,f4,f5⟩:=six HR8.out (Ext.rfl' _)
      clear hks hlT hlR hlN hT8
      go_wp2
      clear t0 t1 t2 t3 t4 t5 g0 g1 g2 g3 g4 g5 r0 r1 r2 r3 r4 r5 f0 f1 f2 f3 f4 f5
      have HB:=HR8
      have hw1:=hxW8
      obtain ⟨w1,hW1⟩:∃ w1,w1=W8:=⟨_,rfl⟩
      rw [← hW1] at HB hw1 ⊢
      clear hW1
      have hx9:Ext w _:=ext6 hw1 (.int .i64 2) (.string (str H)) (.int .i64 port) (.string (str p)) (.string (str q)) (.bool a)
      have hp9:=put6 HB.out (.int .i64 2) (.string (str H)) (.int .i64 port) (.string (str p)) (.string (str q)) (.bool a)
      obtain ⟨W9,hW9⟩:∃ W9,W9=((((((w1.setCell ⟨w.heap.size,0,none⟩ (.int .i64 2)).setCell ⟨w.heap.size,1,none⟩ (.string (str H))).setCell ⟨w.heap.size,2,none⟩ (.int .i64 port)).setCell ⟨w.heap.size,3,none⟩ (.string (str p))).setCell ⟨w.heap.size,4,none⟩ (.string (str q))).setCell ⟨w.heap.size,5,none⟩ (.bool a)):=⟨_,rfl⟩
      rw [← hW9] at hx9 hp9
      try simp only [show str ([]:List UInt8)=⟨#[]⟩ from rfl,show str ([47]:List UInt8)=⟨#[47]⟩ from rfl] at hW9
      rw [← hW9]
      clear hW9
      obtain ⟨⟨r0,r1,r2,r3,r4,r5⟩,_⟩:=six hp9 (Ext.rfl' _)
      exact bodyPost_ret (v:=tgtV ((2,H,port,p,q,a),0)) (by simp [results,Tryz.results59,go_sem,tgtV,r0,r1,r2,r3,r4,r5]) rfl ⟨by first | rfl | exact ret_val (by rw [HV.out];try rfl),by first | exact hx9 | ((exact Xq))⟩
      )
 ·have d2:(e != 0)=true:=by rw [bne_iff_ne];exact c1
  rw [if_neg c1] at hRk
  have HV:=Hy hRk
  clear hRk c1 D
  go_enter Tryz.func59,Tryz.ntmps59
  go_wp2_with (first
   | (go_at_call 62;refine (C.out _).mono ?_;rintro e wa ⟨rfl,hx1⟩)
   | (go_at_call 86;refine (IA.out _).mono ?_;rintro e wb ⟨rfl,hx2⟩))
  go_at_call 85
  refine (CH.out _ (HE.out.ext Xq)).mono ?_
  rintro e w3 ⟨rfl,hx3⟩
  have hq:Ext (((w.alloc (.cells #[.int .i64 0,.string ⟨#[]⟩,.int .i64 0,.string ⟨#[]⟩,.string ⟨#[]⟩,.bool false] 107)).alloc (.cells #[.int .i64 0,.string ⟨#[]⟩,.int .i64 0,.string ⟨#[]⟩,.string ⟨#[]⟩,.bool false] 107)).alloc (.cells #[.int .i64 1,.string ⟨#[]⟩,.int .i64 (-1),.string ⟨#[]⟩,.string ⟨#[]⟩,.bool false] 107)) w3:=Xq;have HB:=Hy ((hq.block w.heap.size (by first | (simp;done) | (simp;omega))).trans (three w _ _ _).1);have HN:=Hy ((hq.block (w.heap.size+1) (by first | (simp;done) | (simp;omega))).trans (three_m w _ _ _));have HT:=Hy ((hq.block (w.heap.size+1+1) (by simp)).trans (three w _ _ _).2);have hw1:Ext w w3:=Xq;clear hq;obtain ⟨⟨r0,r1,r2,r3,r4,r5⟩,f0,f1,f2,f3,f4,f5⟩:=six HB.out (Ext.rfl' _);obtain ⟨⟨n0,n1,n2,n3,n4,n5⟩,m0,m1,m2,m3,m4,m5⟩:=six HN.out (Ext.rfl' _);obtain ⟨⟨t0,t1,t2,t3,t4,t5⟩,g0,g1,g2,g3,g4,g5⟩:=six HT.out (Ext.rfl' _)
  have hw3:=hw1
  clear hw1
  go_wp2
  obtain ⟨w1,hW1⟩:∃ w1,w1=((w3.setCell ⟨w.heap.size+1+1,1,none⟩ (.string (str H))).setCell ⟨w.heap.size+1+1,2,none⟩ (.int .i64 port)):=⟨_,rfl⟩
  rw [← hW1]
  have HB1:=Hy ((show w1.heap[w.heap.size]?=w3.heap[w.heap.size]? by rw [hW1,Below.heap_setCell _ _ _ _ hnR,Below.heap_setCell _ _ _ _ hnR]).trans HB.out)
  have hw1:Ext w w1:=by rw [hW1];exact (hw3.st hge _).st hge _
  clear hW1 HB
  have HB:=HB1
  clear HB1
  clear r0 r1 r2 r3 r4 r5 f0 f1 f2 f3 f4 f5 n0 n1 n2 n3 n4 n5 m0 m1 m2 m3 m4 m5 t0 t1 t2 t3 t4 t5 g0 g1 g2 g3 g4 g5
  have hx9:Ext w _:=ext6 hw1 (.int .i64 0) (.string (str [])) (.int .i64 0) (.string (str [])) (.string (str [])) (.bool false)
  have hp9:=put6 HB.out (.int .i64 0) (.string (str [])) (.int .i64 0) (.string (str [])) (.string (str [])) (.bool false)
  obtain ⟨W9,hW9⟩:∃ W9,W9=((((((w1.setCell ⟨w.heap.size,0,none⟩ (.int .i64 0)).setCell ⟨w.heap.size,1,none⟩ (.string (str []))).setCell ⟨w.heap.size,2,none⟩ (.int .i64 0)).setCell ⟨w.heap.size,3,none⟩ (.string (str []))).setCell ⟨w.heap.size,4,none⟩ (.string (str []))).setCell ⟨w.heap.size,5,none⟩ (.bool false)):=⟨_,rfl⟩
  rw [← hW9] at hx9 hp9
  try simp only [show str ([]:List UInt8)=⟨#[]⟩ from rfl,show str ([47]:List UInt8)=⟨#[47]⟩ from rfl] at hW9
  rw [← hW9]
  clear hW9
  obtain ⟨⟨r0,r1,r2,r3,r4,r5⟩,_⟩:=six hp9 (Ext.rfl' _)
  exact bodyPost_ret (v:=tgtV ((0,[],0,[],[],false),40)) (by simp [results,Tryz.results59,go_sem,tgtV,r0,r1,r2,r3,r4,r5]) rfl ⟨by first | rfl | exact ret_val (by rw [HV.out];try rfl),by first | exact hx9 | ((exact Xq))⟩
theorem uParse_abs2 (m l:List UInt8) (hm:¬ m=conL) (hmo:¬(m=optL∧l=[42])) (h1:l≠[]) (h2:l.length≤8192) (h7:7≤l.length) (hH:lowL (l.take 7)=httpU) (w:World) (hE:ErrR w) (c1:m=optL) (ck0:¬ authL (l.drop 7)<(l.drop 7).length) :
  Calls Tryz.prog 59 #[.string (str m),.string (str l)] w (Gives (tgtV (if (hostL ((l.drop 7).take (authL (l.drop 7)))).2.2=0 then finT 2 (hostL ((l.drop 7).take (authL (l.drop 7)))).1 (hostL ((l.drop 7).take (authL (l.drop 7)))).2.1 ((l.drop 7).drop (authL (l.drop 7))) else badT)) w):=by
 obtain ⟨R,hR⟩:∃ R,R=(if (hostL ((l.drop 7).take (authL (l.drop 7)))).2.2=0 then finT 2 (hostL ((l.drop 7).take (authL (l.drop 7)))).1 (hostL ((l.drop 7).take (authL (l.drop 7)))).2.1 ((l.drop 7).drop (authL (l.drop 7))) else badT):=⟨_,rfl⟩
 rw [← hR]
 have d1:decide ((8192:Int)<(l.length:Int))=false:=by rw [decide_eq_false_iff_not];omega
 have e1:l.isEmpty=false:=by rw [List.isEmpty_eq_false_iff];exact h1
 have e2:(str l).toList.isEmpty=false:=by rw [Lib.toList_data];exact e1
 have m1:=strN hm
 have m2:(m == conL)=false:=by rw [beq_eq_false_iff_ne];exact hm
 have C:=fun w=>Equal_c (l.take 7) httpU (by unfold maxLen;rw [List.length_take];omega) (by decide) w
 rw [show (lowL (l.take 7) == lowL httpU)=true by rw [hH];decide,show str httpU=⟨#[104,116,116,112,58,47,47]⟩ from rfl] at C
 have C:=Hy C
 have d7:decide ((7:Int)≤(l.length:Int))=true:=by rw [decide_eq_true_eq];omega
 have n7:(7:Int)≤(l.length:Int):=by omega
 obtain ⟨r,hr⟩:∃ r,r=l.drop 7:=⟨_,rfl⟩
 rw [← hr] at hR
 have ck:=ck0
 rw [← hr] at ck
 clear ck0
 have hr8:r.length≤8192:=by rw [hr,List.length_drop];omega
 have hdr:l.drop 7=r:=hr.symm
 have hRk:=hR
 have HE:=Hy hE
 unfold conL at hm m1 m2
 clear hH hR hr hE
 have l1:¬ l=[42]:=fun h=>hmo ⟨c1,h⟩
 have l2:=strN l1
 have l3:(l == [42])=false:=by rw [beq_eq_false_iff_ne];exact l1
 subst c1
 rw [show str optL=⟨#[79,80,84,73,79,78,83]⟩ from rfl]
 clear m1 m2 hm hmo
 have IA:=Hy (fun w=>by have h:=IndexAny_c r hr8 w;rw [ia_auth,if_neg ck] at h;exact h)
 have hk:authL r=r.length:=by have:=tw_len autB r;have h2:authL r=(r.takeWhile autB).length:=rfl;omega
 rw [hk,List.take_length,List.drop_length] at hRk
 clear hk ck
 have CH:=fun w hE=>uHost_c r (by omega) w hE
 have D:=fun w=>Cut63_c [] (by unfold maxLen;simp) w
 unfold hostV at CH
 obtain ⟨H,hH⟩:∃ H,H=(hostL r).1:=⟨_,rfl⟩
 obtain ⟨port,hp⟩:∃ p,p=(hostL r).2.1:=⟨_,rfl⟩
 obtain ⟨e,he⟩:∃ e,e=(hostL r).2.2:=⟨_,rfl⟩
 rw [← hH,← hp,← he] at CH hRk
 have CH:=Hy CH
 clear hH hp he
 have hnR:w.heap.size≠w.heap.size+1+1:=by omega
 have hnN:w.heap.size+1≠w.heap.size+1+1:=by omega
 have hge:w.heap.size≤w.heap.size+1+1:=by omega
 by_cases c1:e=0
 ·subst c1
  rw [if_pos rfl] at hRk
  have hlp:=(cut_len []).1
  have hlq:=(cut_len []).2
  simp only [List.length_nil] at hlp hlq
  have hRR:=hRk
  unfold finT at hRR
  rw [local_cut] at hRR
  clear hRk
  obtain ⟨p,hp⟩:∃ p,p=(cutL []).1:=⟨_,rfl⟩
  obtain ⟨q,hq⟩:∃ q,q=(cutL []).2.1:=⟨_,rfl⟩
  obtain ⟨a,ha⟩:∃ a,a=(cutL []).2.2:=⟨_,rfl⟩
  rw [show cutL []=(p,q,a) by rw [hp,hq,ha]] at hRR
  rw [← hp,← hq,← ha] at D
  rw [← hp] at hlp
  rw [← hq] at hlq
  have hlp:p.length≤140737488355328:=by omega
  have hlq:q.length≤140737488355328:=by omega
  dsimp only at hRR
  rw [show str ([]:List UInt8)=ByteArray.empty from rfl] at D
  have D:=Hy D
  have HRR:=Hy hRR
  clear hp hq ha hRR
  go_enter Tryz.func59,Tryz.ntmps59
  go_wp2_with (first
   | (go_at_call 62;refine (C.out _).mono ?_;rintro e wa ⟨rfl,hx1⟩)
   | (go_at_call 86;refine (IA.out _).mono ?_;rintro e wb ⟨rfl,hx2⟩))
  go_at_call 85
  refine (CH.out _ (HE.out.ext Xq)).mono ?_
  rintro e w3 ⟨rfl,hx3⟩
  have hq:Ext (((w.alloc (.cells #[.int .i64 0,.string ⟨#[]⟩,.int .i64 0,.string ⟨#[]⟩,.string ⟨#[]⟩,.bool false] 107)).alloc (.cells #[.int .i64 0,.string ⟨#[]⟩,.int .i64 0,.string ⟨#[]⟩,.string ⟨#[]⟩,.bool false] 107)).alloc (.cells #[.int .i64 1,.string ⟨#[]⟩,.int .i64 (-1),.string ⟨#[]⟩,.string ⟨#[]⟩,.bool false] 107)) w3:=Xq;have HB:=Hy ((hq.block w.heap.size (by first | (simp;done) | (simp;omega))).trans (three w _ _ _).1);have HN:=Hy ((hq.block (w.heap.size+1) (by first | (simp;done) | (simp;omega))).trans (three_m w _ _ _));have HT:=Hy ((hq.block (w.heap.size+1+1) (by simp)).trans (three w _ _ _).2);have hw1:Ext w w3:=Xq;clear hq;obtain ⟨⟨r0,r1,r2,r3,r4,r5⟩,f0,f1,f2,f3,f4,f5⟩:=six HB.out (Ext.rfl' _);obtain ⟨⟨n0,n1,n2,n3,n4,n5⟩,m0,m1,m2,m3,m4,m5⟩:=six HN.out (Ext.rfl' _);obtain ⟨⟨t0,t1,t2,t3,t4,t5⟩,g0,g1,g2,g3,g4,g5⟩:=six HT.out (Ext.rfl' _)
  have hw3:=hw1
  clear hw1
  go_wp2
  go_region
  obtain ⟨Wx,hWx⟩:∃ Wx,Wx=(((w3.setCell ⟨w.heap.size+1+1,1,none⟩ (.string (str H))).setCell ⟨w.heap.size+1+1,2,none⟩ (.int .i64 port)).setCell ⟨w.heap.size+1+1,0,none⟩ (.int .i64 2)).drew:=⟨_,rfl⟩
  rw [← hWx]
  have HTx:=Hy (show Wx.heap[w.heap.size+1+1]?=some (.cells #[.int .i64 2,.string (str H),.int .i64 port,.string ⟨#[]⟩,.string ⟨#[]⟩,.bool false] 107 (0,0)) by
   rw [hWx]
   show (((w3.setCell ⟨w.heap.size+1+1,1,none⟩ (.string (str H))).setCell ⟨w.heap.size+1+1,2,none⟩ (.int .i64 port)).setCell ⟨w.heap.size+1+1,0,none⟩ (.int .i64 2)).heap[w.heap.size+1+1]?=_
   simp [World.setCell,Array.getElem?_modify,HT.out])
  have HBx:=Hy (show Wx.heap[w.heap.size]?=some (.cells #[.int .i64 0,.string ⟨#[]⟩,.int .i64 0,.string ⟨#[]⟩,.string ⟨#[]⟩,.bool false] 107 (0,0)) by
   rw [hWx];exact (Below.heap_setCell _ _ _ _ hnR).trans ((Below.heap_setCell _ _ _ _ hnR).trans ((Below.heap_setCell _ _ _ _ hnR).trans HB.out)))
  have HNx:=Hy (show Wx.heap[w.heap.size+1]?=some (.cells #[.int .i64 0,.string ⟨#[]⟩,.int .i64 0,.string ⟨#[]⟩,.string ⟨#[]⟩,.bool false] 107 (0,0)) by
   rw [hWx];exact (Below.heap_setCell _ _ _ _ hnN).trans ((Below.heap_setCell _ _ _ _ hnN).trans ((Below.heap_setCell _ _ _ _ hnN).trans HN.out)))
  have hwx:Ext w Wx:=by rw [hWx];exact (((hw3.st hge _).st hge _).st hge _).dr
  clear hWx
  clear r0 r1 r2 r3 r4 r5 f0 f1 f2 f3 f4 f5 n0 n1 n2 n3 n4 n5 m0 m1 m2 m3 m4 m5 t0 t1 t2 t3 t4 t5 g0 g1 g2 g3 g4 g5
  obtain ⟨⟨t0,t1,t2,t3,t4,t5⟩,g0,g1,g2,g3,g4,g5⟩:=six HTx.out (Ext.rfl' _)
  go_wp2_with (go_at_call 78;refine (D.out _).mono ?_;rintro e w4 ⟨rfl,hx4⟩;have HT4:=Hy ((hx4.block (w.heap.size+1+1) (Array.getElem?_eq_some_iff.1 HTx.out).1).trans HTx.out);have HB4:=Hy ((hx4.block w.heap.size (Array.getElem?_eq_some_iff.1 HBx.out).1).trans HBx.out);have HN4:=Hy ((hx4.block (w.heap.size+1) (Array.getElem?_eq_some_iff.1 HNx.out).1).trans HNx.out);have hw4:Ext w w4:=Ext.tr hwx hx4;clear hx4 t0 t1 t2 t3 t4 t5 g0 g1 g2 g3 g4 g5;obtain ⟨⟨t0,t1,t2,t3,t4,t5⟩,g0,g1,g2,g3,g4,g5⟩:=six HT4.out (Ext.rfl' _))
  obtain ⟨W5,hW5⟩:∃ W5,W5=((w4.setCell ⟨w.heap.size+1+1,3,none⟩ (.string (str p))).setCell ⟨w.heap.size+1+1,4,none⟩ (.string (str q))).setCell ⟨w.heap.size+1+1,5,none⟩ (.bool a):=⟨_,rfl⟩
  rw [← hW5]
  have HT5:=Hy (show W5.heap[w.heap.size+1+1]?=some (.cells #[.int .i64 2,.string (str H),.int .i64 port,.string (str p),.string (str q),.bool a] 107 (0,0)) by rw [hW5];simp [World.setCell,Array.getElem?_modify,HT4.out])
  have HR5:=Hy ((show W5.heap[w.heap.size]?=w4.heap[w.heap.size]? by rw [hW5,Below.heap_setCell _ _ _ _ hnR,Below.heap_setCell _ _ _ _ hnR,Below.heap_setCell _ _ _ _ hnR]).trans HB4.out)
  have HN5:=Hy ((show W5.heap[w.heap.size+1]?=w4.heap[w.heap.size+1]? by rw [hW5,Below.heap_setCell _ _ _ _ hnN,Below.heap_setCell _ _ _ _ hnN,Below.heap_setCell _ _ _ _ hnN]).trans HN4.out)
  have hx5:Ext w W5:=by rw [hW5];exact ((hw4.st hge _).st hge _).st hge _
  clear hW5 hw4 hw3 hwx HTx HBx HNx HT4 HB4 HN4 HT HB HN t0 t1 t2 t3 t4 t5 g0 g1 g2 g3 g4 g5 hx1 hx2 hx3
  try clear C
  try clear IA
  try clear CH
  try clear D
  try clear HE
  try clear d1
  try clear d7
  try clear n7
  try clear e1
  try clear e2
  try clear hdr
  try clear hr8
  try clear i1
  try clear i2
  try clear hki
  try clear m1
  try clear m2
  try clear o1
  try clear o2
  try clear l1
  try clear l2
  try clear l3
  try clear c1
  try clear h1
  try clear h2
  try clear h7
  try clear hm
  try clear ho
  try clear hmo
  try clear ck
  try clear hb
  try clear hl0
  try clear c7
  have hlT:w.heap.size+1+1<W5.heap.size:=(Array.getElem?_eq_some_iff.1 HT5.out).1
  have hlN:w.heap.size+1<W5.heap.size:=by omega
  have hlR:w.heap.size<W5.heap.size:=by omega
  have hks:=Hy (fun w' (x:Ext W5 w')=>(show w'.cell? ⟨w.heap.size+1+1,3,none⟩=some (.string (str p))∧w'.cell? ⟨w.heap.size+1+1,4,none⟩=some (.string (str q)) from ⟨(six HT5.out x).1.2.2.2.1,(six HT5.out x).1.2.2.2.2.1⟩))
  have hRR:=HRR.out
  clear HRR
  obtain ⟨vp,hvp⟩:∃ v,v=p.all (mayB false):=⟨_,rfl⟩
  obtain ⟨vq,hvq⟩:∃ v,v=q.all (mayB true):=⟨_,rfl⟩
  rw [← hvp,← hvq] at hRR
  rw [show mayB false=mayB (mq ⟨#[]⟩) from rfl] at hvp
  rw [show mayB true=mayB (mq ⟨#[63]⟩) from rfl] at hvq
  have HP:=Hy hvp.symm
  have HQ:=Hy hvq.symm
  clear hvp hvq
  cases vp
  ·have HV:=Hy (show R=badT by rw [hRR];simp)
   clear hRR
   have kA:W5.cell? ⟨w.heap.size+1+1,3,none⟩=some (.string (str p)):=(hks.out W5 (Ext.rfl' _)).1
   have kB:∀ n,(W5.drewN n).cell? ⟨w.heap.size+1+1,3,none⟩=some (.string (str p)):=fun n=>(hks.out _ Xq).1
   have kC:∀ n,((W5.drewN n).alloc (.cells #[.string ⟨#[]⟩] 9)).cell? ⟨w.heap.size+1+1,3,none⟩=some (.string (str p)):=fun n=>(hks.out _ Xq).1
   first
    | (go_region_with (first
    | (go_at_call 88;refine (upath_c _ _).mono ?_;rintro e w5 ⟨rfl,rfl⟩)
    | (go_at_call 87;refine (all_px _ _ _ _ hlp (by first | exact new_at _ _ _ 0 _ rfl | exact new_at_g (by simp) _ _ 0 _ rfl) (.inl rfl)).mono ?_;rintro e w6 ⟨rfl,rfl⟩;rw [HP.out])))
    | fail
   all_goals (
    obtain ⟨w1,hW8⟩:∃ w1,w1=W5.alloc (.cells #[.string ⟨#[]⟩] 9):=⟨_,rfl⟩
    first | rw [← hW8] | skip
    have hx8:Ext W5 w1:=by rw [hW8];(exact Xq)
    clear hW8
    have HN:=Hy ((hx8.block (w.heap.size+1) hlN).trans HN5.out)
    have HB:=Hy ((hx8.block w.heap.size hlR).trans HR5.out)
    have hw1:Ext w w1:=hx5.tr hx8
    obtain ⟨⟨r0,r1,r2,r3,r4,r5⟩,f0,f1,f2,f3,f4,f5⟩:=six HB.out (Ext.rfl' _);obtain ⟨⟨n0,n1,n2,n3,n4,n5⟩,m0,m1,m2,m3,m4,m5⟩:=six HN.out (Ext.rfl' _)
    clear hks hlT hlR hlN
    go_wp2
    clear r0 r1 r2 r3 r4 r5 f0 f1 f2 f3 f4 f5 n0 n1 n2 n3 n4 n5 m0 m1 m2 m3 m4 m5
    have hx9:Ext w _:=ext6 hw1 (.int .i64 0) (.string (str [])) (.int .i64 0) (.string (str [])) (.string (str [])) (.bool false)
    have hp9:=put6 HB.out (.int .i64 0) (.string (str [])) (.int .i64 0) (.string (str [])) (.string (str [])) (.bool false)
    obtain ⟨W9,hW9⟩:∃ W9,W9=((((((w1.setCell ⟨w.heap.size,0,none⟩ (.int .i64 0)).setCell ⟨w.heap.size,1,none⟩ (.string (str []))).setCell ⟨w.heap.size,2,none⟩ (.int .i64 0)).setCell ⟨w.heap.size,3,none⟩ (.string (str []))).setCell ⟨w.heap.size,4,none⟩ (.string (str []))).setCell ⟨w.heap.size,5,none⟩ (.bool false)):=⟨_,rfl⟩
    rw [← hW9] at hx9 hp9
    try simp only [show str ([]:List UInt8)=⟨#[]⟩ from rfl,show str ([47]:List UInt8)=⟨#[47]⟩ from rfl] at hW9
    rw [← hW9]
    clear hW9
    obtain ⟨⟨r0,r1,r2,r3,r4,r5⟩,_⟩:=six hp9 (Ext.rfl' _)
    exact bodyPost_ret (v:=tgtV ((0,[],0,[],[],false),40)) (by simp [results,Tryz.results59,go_sem,tgtV,r0,r1,r2,r3,r4,r5]) rfl ⟨by first | rfl | exact ret_val (by rw [HV.out];try rfl),by first | exact hx9 | ((exact Xq))⟩
    )
  ·cases vq
   ·have HV:=Hy (show R=badT by rw [hRR];simp)
    clear hRR
    go_region_held3 (fun w'=>w'.cell? ⟨w.heap.size+1+1,3,none⟩=some (.string (str p))∧w'.cell? ⟨w.heap.size+1+1,4,none⟩=some (.string (str q))) (exact hks.out _ Xq) (first
     | (go_at_call 88;refine (upath_c _ _).mono ?_;rintro e w5 ⟨rfl,rfl⟩)
     | (go_at_call 87;refine (all_px _ _ _ _ (by first | exact hlp | exact hlq) (by first | exact new_at _ _ _ 0 _ rfl | exact new_at_g (by simp) _ _ 0 _ rfl) (by first | exact .inl rfl | exact .inr rfl)).mono ?_;rintro e w6 ⟨rfl,rfl⟩;first | rw [HP.out] | rw [HQ.out]))
    all_goals (
     obtain ⟨w1,hW8⟩:∃ w1,w1=(W5.alloc (.cells #[.string ⟨#[]⟩] 9)).alloc (.cells #[.string ⟨#[63]⟩] 9):=⟨_,rfl⟩
     first | rw [← hW8] | skip
     have hx8:Ext W5 w1:=by rw [hW8];(exact Xq)
     clear hW8
     have HN:=Hy ((hx8.block (w.heap.size+1) hlN).trans HN5.out)
     have HB:=Hy ((hx8.block w.heap.size hlR).trans HR5.out)
     have hw1:Ext w w1:=hx5.tr hx8
     obtain ⟨⟨r0,r1,r2,r3,r4,r5⟩,f0,f1,f2,f3,f4,f5⟩:=six HB.out (Ext.rfl' _);obtain ⟨⟨n0,n1,n2,n3,n4,n5⟩,m0,m1,m2,m3,m4,m5⟩:=six HN.out (Ext.rfl' _)
     clear hks hlT hlR hlN
     go_wp2
     clear r0 r1 r2 r3 r4 r5 f0 f1 f2 f3 f4 f5 n0 n1 n2 n3 n4 n5 m0 m1 m2 m3 m4 m5
     have hx9:Ext w _:=ext6 hw1 (.int .i64 0) (.string (str [])) (.int .i64 0) (.string (str [])) (.string (str [])) (.bool false)
     have hp9:=put6 HB.out (.int .i64 0) (.string (str [])) (.int .i64 0) (.string (str [])) (.string (str [])) (.bool false)
     obtain ⟨W9,hW9⟩:∃ W9,W9=((((((w1.setCell ⟨w.heap.size,0,none⟩ (.int .i64 0)).setCell ⟨w.heap.size,1,none⟩ (.string (str []))).setCell ⟨w.heap.size,2,none⟩ (.int .i64 0)).setCell ⟨w.heap.size,3,none⟩ (.string (str []))).setCell ⟨w.heap.size,4,none⟩ (.string (str []))).setCell ⟨w.heap.size,5,none⟩ (.bool false)):=⟨_,rfl⟩
     rw [← hW9] at hx9 hp9
     try simp only [show str ([]:List UInt8)=⟨#[]⟩ from rfl,show str ([47]:List UInt8)=⟨#[47]⟩ from rfl] at hW9
     rw [← hW9]
     clear hW9
     obtain ⟨⟨r0,r1,r2,r3,r4,r5⟩,_⟩:=six hp9 (Ext.rfl' _)
     exact bodyPost_ret (v:=tgtV ((0,[],0,[],[],false),40)) (by simp [results,Tryz.results59,go_sem,tgtV,r0,r1,r2,r3,r4,r5]) rfl ⟨by first | rfl | exact ret_val (by rw [HV.out];try rfl),by first | exact hx9 | ((exact Xq))⟩
     )
   ·rw [if_pos ⟨rfl,rfl⟩] at hRR
    dsimp only at hRR
    by_cases pn:p=[]
    ·rw [if_pos pn] at hRR
     have p2:p.isEmpty=true:=by rw [pn];rfl
     have p3:(str p).toList.isEmpty=true:=by rw [Lib.toList_data];exact p2
     have HV:=Hy hRR
     clear hRR pn
     go_region_held3 (fun w'=>w'.cell? ⟨w.heap.size+1+1,3,none⟩=some (.string (str p))∧w'.cell? ⟨w.heap.size+1+1,4,none⟩=some (.string (str q))) (exact hks.out _ Xq) (first
      | (go_at_call 88;refine (upath_c _ _).mono ?_;rintro e w5 ⟨rfl,rfl⟩)
      | (go_at_call 87;refine (all_px _ _ _ _ (by first | exact hlp | exact hlq) (by first | exact new_at _ _ _ 0 _ rfl | exact new_at_g (by simp) _ _ 0 _ rfl) (by first | exact .inl rfl | exact .inr rfl)).mono ?_;rintro e w6 ⟨rfl,rfl⟩;first | rw [HP.out] | rw [HQ.out]))
     all_goals (
      obtain ⟨W8,hW8⟩:∃ W8,W8=(W5.alloc (.cells #[.string ⟨#[]⟩] 9)).alloc (.cells #[.string ⟨#[63]⟩] 9):=⟨_,rfl⟩
      first | rw [← hW8] | skip
      have hx8:Ext W5 W8:=by rw [hW8];(exact Xq)
      clear hW8
      have HR8:=Hy ((hx8.block w.heap.size hlR).trans HR5.out)
      have hT8:=(hx8.block (w.heap.size+1+1) hlT).trans HT5.out
      have hxW8:Ext w W8:=hx5.tr hx8
      obtain ⟨⟨t0,t1,t2,t3,t4,t5⟩,g0,g1,g2,g3,g4,g5⟩:=six hT8 (Ext.rfl' _)
      obtain ⟨⟨r0,r1,r2,r3,r4,r5⟩,f0,f1,f2,f3,f4,f5⟩:=six HR8.out (Ext.rfl' _)
      clear hks hlT hlR hlN hT8
      go_wp2
      clear t0 t1 t2 t3 t4 t5 g0 g1 g2 g3 g4 g5 r0 r1 r2 r3 r4 r5 f0 f1 f2 f3 f4 f5
      obtain ⟨w1,hW1⟩:∃ w1,w1=W8.setCell ⟨w.heap.size+1+1,3,none⟩ (.string ⟨#[47]⟩):=⟨_,rfl⟩
      rw [← hW1]
      have HB:=Hy ((show w1.heap[w.heap.size]?=W8.heap[w.heap.size]? by rw [hW1,Below.heap_setCell _ _ _ _ hnR]).trans HR8.out)
      have hw1:Ext w w1:=by rw [hW1];exact hxW8.st hge _
      clear hW1
      have hx9:Ext w _:=ext6 hw1 (.int .i64 2) (.string (str H)) (.int .i64 port) (.string (str [47])) (.string (str q)) (.bool a)
      have hp9:=put6 HB.out (.int .i64 2) (.string (str H)) (.int .i64 port) (.string (str [47])) (.string (str q)) (.bool a)
      obtain ⟨W9,hW9⟩:∃ W9,W9=((((((w1.setCell ⟨w.heap.size,0,none⟩ (.int .i64 2)).setCell ⟨w.heap.size,1,none⟩ (.string (str H))).setCell ⟨w.heap.size,2,none⟩ (.int .i64 port)).setCell ⟨w.heap.size,3,none⟩ (.string (str [47]))).setCell ⟨w.heap.size,4,none⟩ (.string (str q))).setCell ⟨w.heap.size,5,none⟩ (.bool a)):=⟨_,rfl⟩
      rw [← hW9] at hx9 hp9
      try simp only [show str ([]:List UInt8)=⟨#[]⟩ from rfl,show str ([47]:List UInt8)=⟨#[47]⟩ from rfl] at hW9
      rw [← hW9]
      clear hW9
      obtain ⟨⟨r0,r1,r2,r3,r4,r5⟩,_⟩:=six hp9 (Ext.rfl' _)
      exact bodyPost_ret (v:=tgtV ((2,H,port,[47],q,a),0)) (by simp [results,Tryz.results59,go_sem,tgtV,r0,r1,r2,r3,r4,r5]) rfl ⟨by first | rfl | exact ret_val (by rw [HV.out];try rfl),by first | exact hx9 | ((exact Xq))⟩
      )
    ·rw [if_neg pn] at hRR
     have HV:=Hy hRR
     have p2:p.isEmpty=false:=by rw [List.isEmpty_eq_false_iff];exact pn
     have p3:(str p).toList.isEmpty=false:=by rw [Lib.toList_data];exact p2
     clear hRR pn
     go_region_held3 (fun w'=>w'.cell? ⟨w.heap.size+1+1,3,none⟩=some (.string (str p))∧w'.cell? ⟨w.heap.size+1+1,4,none⟩=some (.string (str q))) (exact hks.out _ Xq) (first
      | (go_at_call 88;refine (upath_c _ _).mono ?_;rintro e w5 ⟨rfl,rfl⟩)
      | (go_at_call 87;refine (all_px _ _ _ _ (by first | exact hlp | exact hlq) (by first | exact new_at _ _ _ 0 _ rfl | exact new_at_g (by simp) _ _ 0 _ rfl) (by first | exact .inl rfl | exact .inr rfl)).mono ?_;rintro e w6 ⟨rfl,rfl⟩;first | rw [HP.out] | rw [HQ.out]))
     all_goals (
      obtain ⟨W8,hW8⟩:∃ W8,W8=(W5.alloc (.cells #[.string ⟨#[]⟩] 9)).alloc (.cells #[.string ⟨#[63]⟩] 9):=⟨_,rfl⟩
      first | rw [← hW8] | skip
      have hx8:Ext W5 W8:=by rw [hW8];(exact Xq)
      clear hW8
      have HR8:=Hy ((hx8.block w.heap.size hlR).trans HR5.out)
      have hT8:=(hx8.block (w.heap.size+1+1) hlT).trans HT5.out
      have hxW8:Ext w W8:=hx5.tr hx8
      obtain ⟨⟨t0,t1,t2,t3,t4,t5⟩,g0,g1,g2,g3,g4,g5⟩:=six hT8 (Ext.rfl' _)
      obtain ⟨⟨r0,r1,r2,r3,r4,r5⟩,f0,f1,f2,f3,f4,f5⟩:=six HR8.out (Ext.rfl' _)
      clear hks hlT hlR hlN hT8
      go_wp2
      clear t0 t1 t2 t3 t4 t5 g0 g1 g2 g3 g4 g5 r0 r1 r2 r3 r4 r5 f0 f1 f2 f3 f4 f5
      have HB:=HR8
      have hw1:=hxW8
      obtain ⟨w1,hW1⟩:∃ w1,w1=W8:=⟨_,rfl⟩
      rw [← hW1] at HB hw1 ⊢
      clear hW1
      have hx9:Ext w _:=ext6 hw1 (.int .i64 2) (.string (str H)) (.int .i64 port) (.string (str p)) (.string (str q)) (.bool a)
      have hp9:=put6 HB.out (.int .i64 2) (.string (str H)) (.int .i64 port) (.string (str p)) (.string (str q)) (.bool a)
      obtain ⟨W9,hW9⟩:∃ W9,W9=((((((w1.setCell ⟨w.heap.size,0,none⟩ (.int .i64 2)).setCell ⟨w.heap.size,1,none⟩ (.string (str H))).setCell ⟨w.heap.size,2,none⟩ (.int .i64 port)).setCell ⟨w.heap.size,3,none⟩ (.string (str p))).setCell ⟨w.heap.size,4,none⟩ (.string (str q))).setCell ⟨w.heap.size,5,none⟩ (.bool a)):=⟨_,rfl⟩
      rw [← hW9] at hx9 hp9
      try simp only [show str ([]:List UInt8)=⟨#[]⟩ from rfl,show str ([47]:List UInt8)=⟨#[47]⟩ from rfl] at hW9
      rw [← hW9]
      clear hW9
      obtain ⟨⟨r0,r1,r2,r3,r4,r5⟩,_⟩:=six hp9 (Ext.rfl' _)
      exact bodyPost_ret (v:=tgtV ((2,H,port,p,q,a),0)) (by simp [results,Tryz.results59,go_sem,tgtV,r0,r1,r2,r3,r4,r5]) rfl ⟨by first | rfl | exact ret_val (by rw [HV.out];try rfl),by first | exact hx9 | ((exact Xq))⟩
      )
 ·have d2:(e != 0)=true:=by rw [bne_iff_ne];exact c1
  rw [if_neg c1] at hRk
  have HV:=Hy hRk
  clear hRk c1 D
  go_enter Tryz.func59,Tryz.ntmps59
  go_wp2_with (first
   | (go_at_call 62;refine (C.out _).mono ?_;rintro e wa ⟨rfl,hx1⟩)
   | (go_at_call 86;refine (IA.out _).mono ?_;rintro e wb ⟨rfl,hx2⟩))
  go_at_call 85
  refine (CH.out _ (HE.out.ext Xq)).mono ?_
  rintro e w3 ⟨rfl,hx3⟩
  have hq:Ext (((w.alloc (.cells #[.int .i64 0,.string ⟨#[]⟩,.int .i64 0,.string ⟨#[]⟩,.string ⟨#[]⟩,.bool false] 107)).alloc (.cells #[.int .i64 0,.string ⟨#[]⟩,.int .i64 0,.string ⟨#[]⟩,.string ⟨#[]⟩,.bool false] 107)).alloc (.cells #[.int .i64 1,.string ⟨#[]⟩,.int .i64 (-1),.string ⟨#[]⟩,.string ⟨#[]⟩,.bool false] 107)) w3:=Xq;have HB:=Hy ((hq.block w.heap.size (by first | (simp;done) | (simp;omega))).trans (three w _ _ _).1);have HN:=Hy ((hq.block (w.heap.size+1) (by first | (simp;done) | (simp;omega))).trans (three_m w _ _ _));have HT:=Hy ((hq.block (w.heap.size+1+1) (by simp)).trans (three w _ _ _).2);have hw1:Ext w w3:=Xq;clear hq;obtain ⟨⟨r0,r1,r2,r3,r4,r5⟩,f0,f1,f2,f3,f4,f5⟩:=six HB.out (Ext.rfl' _);obtain ⟨⟨n0,n1,n2,n3,n4,n5⟩,m0,m1,m2,m3,m4,m5⟩:=six HN.out (Ext.rfl' _);obtain ⟨⟨t0,t1,t2,t3,t4,t5⟩,g0,g1,g2,g3,g4,g5⟩:=six HT.out (Ext.rfl' _)
  have hw3:=hw1
  clear hw1
  go_wp2
  obtain ⟨w1,hW1⟩:∃ w1,w1=((w3.setCell ⟨w.heap.size+1+1,1,none⟩ (.string (str H))).setCell ⟨w.heap.size+1+1,2,none⟩ (.int .i64 port)):=⟨_,rfl⟩
  rw [← hW1]
  have HB1:=Hy ((show w1.heap[w.heap.size]?=w3.heap[w.heap.size]? by rw [hW1,Below.heap_setCell _ _ _ _ hnR,Below.heap_setCell _ _ _ _ hnR]).trans HB.out)
  have hw1:Ext w w1:=by rw [hW1];exact (hw3.st hge _).st hge _
  clear hW1 HB
  have HB:=HB1
  clear HB1
  clear r0 r1 r2 r3 r4 r5 f0 f1 f2 f3 f4 f5 n0 n1 n2 n3 n4 n5 m0 m1 m2 m3 m4 m5 t0 t1 t2 t3 t4 t5 g0 g1 g2 g3 g4 g5
  have hx9:Ext w _:=ext6 hw1 (.int .i64 0) (.string (str [])) (.int .i64 0) (.string (str [])) (.string (str [])) (.bool false)
  have hp9:=put6 HB.out (.int .i64 0) (.string (str [])) (.int .i64 0) (.string (str [])) (.string (str [])) (.bool false)
  obtain ⟨W9,hW9⟩:∃ W9,W9=((((((w1.setCell ⟨w.heap.size,0,none⟩ (.int .i64 0)).setCell ⟨w.heap.size,1,none⟩ (.string (str []))).setCell ⟨w.heap.size,2,none⟩ (.int .i64 0)).setCell ⟨w.heap.size,3,none⟩ (.string (str []))).setCell ⟨w.heap.size,4,none⟩ (.string (str []))).setCell ⟨w.heap.size,5,none⟩ (.bool false)):=⟨_,rfl⟩
  rw [← hW9] at hx9 hp9
  try simp only [show str ([]:List UInt8)=⟨#[]⟩ from rfl,show str ([47]:List UInt8)=⟨#[47]⟩ from rfl] at hW9
  rw [← hW9]
  clear hW9
  obtain ⟨⟨r0,r1,r2,r3,r4,r5⟩,_⟩:=six hp9 (Ext.rfl' _)
  exact bodyPost_ret (v:=tgtV ((0,[],0,[],[],false),40)) (by simp [results,Tryz.results59,go_sem,tgtV,r0,r1,r2,r3,r4,r5]) rfl ⟨by first | rfl | exact ret_val (by rw [HV.out];try rfl),by first | exact hx9 | ((exact Xq))⟩
end Go.Proofs.YthbofilcnpdghaaGreatDoor
