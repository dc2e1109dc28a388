/-
The directives limit and return: where a number is none; return.
-/
import Derived.Test.YtmnohicojefhfaaGreatDoorCFe
set_option maxRecDepth 100000
set_option maxHeartbeats 8000000
set_option linter.unusedVariables false
set_option linter.unusedSimpArgs false
section
namespace Go.Proofs.YtmnohicojefhfaaGreatDoor
open Go.RowKit
section
variable {w:World} {o:Ow} {p line uc sc:Nat} {c:Cf14} {U:List (Up14 × Hd)} {UA SA:Option Addr} {a:List (Sr14 × Hd × Hd)} {x:Sr14 × Hd × Hd}
theorem Cf0.loF {lo:List Lo14} {l:Lo14} {g f:Nat} (h:Cf0 w o p c line U UA uc (a ++ [x]) SA sc) (hx:x.1.locs=lo ++ [l]) (hA:x.2.2.1=some ⟨g,f,none⟩) (j:Nat) (u:Value) (hu:(loV l)[j]?=some u) :
  w.cell? ⟨g,f + lo.length * 12 + j,none⟩=some u∧w.frozen? ⟨g,f + lo.length * 12 + j,none⟩=false:=by
 obtain ⟨lo',l',g',f',h1,h2,_,h3⟩:=h.loX (by rw [hx]; simp)
 rw [hx] at h1
 obtain ⟨he,hl2⟩:=List.append_inj' h1 rfl
 subst he
 obtain rfl:l=l':=by simpa using hl2
 rw [hA] at h2
 cases h2
 exact h3 j u hu
theorem Cf0.locC {g f g2 f2 m2:Nat} (h:Cf0 w o p c line U UA uc (a ++ [x]) (some ⟨g,f,none⟩) sc) (hA:x.2.2.1=some ⟨g2,f2,none⟩) (hl:x.1.locs.length=m2 + 1) (hm:a.length < 1099511627776) (hm2:m2 < 1099511627776) :
  Calls Tryz.prog 49 #[.pointer (some ⟨p,0,none⟩)] w (Gives (.pointer (some ⟨g2,f2 + m2 * 12,none⟩)) w):=by
 have hul:=h.sln
 rw [List.length_append,List.length_singleton] at hul
 have h5:=h.c5
 rw [← hul] at h5
 obtain ⟨g',f',hA',_,_,hc,_⟩:=h.srvs.cells (by omega)
 cases hA'
 have h2:=hc (a.length * 3 + 2) _ (by rw [flat_last srV 3 srV_len]; rfl)
 rw [hA,hl,← Nat.add_assoc] at h2
 exact cloc_c p g f a.length sc g2 f2 m2 x.2.2.2 w hm hm2 h5 h2
end
theorem limit_n (w:World) (o:Ow) (p line:Nat) (c:Cf14) (h:CfAt w o p c line) (hE:ErrR w) (hL:LocOk c) (hM:CfB 1099511627776 c) (s t:List UInt8) (hs:s.length ≤ 65536) (hn:numC s=none) (A:Option Addr) (ac:Nat) (hr:Rd w A (strC [s,t])) :
  Calls Tryz.prog 56 #[.pointer (some ⟨p,0,none⟩),.slice A 2 ac] w (DoQ w o p line (doD .limit [s,t] c)):=by
 obtain ⟨U,UA,uc,S,SA,sc,h⟩:=h
 obtain ⟨a,x,g,f,rfl,rfl,hl,hcs,hg,hce⟩:=h.srX hL.ne
 obtain ⟨lo,l,g2,f2,hlo,hA2,hg2,hce2⟩:=h.loX (hL.last hcs)
 have h5:=h.c5
 rw [hl] at h5
 have hm:a.length < 1099511627776:=by have:=hM.srvs; omega
 have hm2:lo.length < 1099511627776:=by
  have:=hM.locs x.1 (by rw [hcs]; simp)
  rw [hlo,List.length_append,List.length_singleton] at this; omega
 have h2:=(hce 2 _ rfl).1
 rw [hA2,hlo,show (lo ++ [l]).length=lo.length + 1 from by simp] at h2
 have HL:=Lib.hid (fun (w':World) (e:Ext w w')=>cloc_c p g f a.length sc g2 f2 lo.length x.2.2.2 w' hm hm2 ((e.cell (lt_of_cell h5)).trans h5) ((e.cell (lt_of_cell h2)).trans h2))
 have HC:=Lib.hid h
 obtain ⟨F,hF⟩:∃ F,F=f2 + lo.length * 12:=⟨_,rfl⟩
 rw [← hF] at HL hce2
 have FG:=Lib.hid (fun (w':World) (e:Ext w w') (j:Nat) (u:Value) (hu:(loV l)[j]?=some u)=>And.intro ((e.cell (p:=⟨g2,F + j,none⟩) hg2).trans (hce2 j u hu).1) ((World.frozen?_of_block (a:=⟨g2,F + j,none⟩) (e.block g2 hg2)).trans (hce2 j u hu).2))
 have HF:=Lib.hid hF
 have HLO:=Lib.hid (And.intro hlo hA2)
 have HCS:=Lib.hid hcs
 clear hF h2 h5 hl hce hce2 hlo hA2 hcs h
 obtain ⟨bA,gA,rfl,kA,kB⟩:∃ b g,A=some ⟨b,g,none⟩∧w.cell? ⟨b,g,none⟩=some (.string (str s))∧w.cell? ⟨b,g + 1,none⟩=some (.string (str t)):=by
  rcases hr with h | ⟨b,g,hA,hc⟩
  ·cases h
  ·exact ⟨b,g,hA,hc 0 _ rfl,hc 1 _ rfl⟩
 have FA:=Lib.hid (fun (w':World) (e:Ext w w')=>And.intro ((e.cell (p:=⟨bA,gA,none⟩) (lt_of_cell kA)).trans kA) ((e.cell (p:=⟨bA,gA + 1,none⟩) (lt_of_cell kB)).trans kB))
 clear hr kA kB
 have CN:=Lib.hid (fun w' (e:Ext w w')=>cnumber_no p line s hs hn w' (hE.ext e) ((e.cell (p:=⟨p,6,none⟩) (lt_of_cell HC.out.c6)).trans HC.out.c6))
 have HT:=Lib.hid (fun w1 (hx:Ext w w1)=>DoQ.no (o:=o) (p:=p) (line:=line) (r:=doD .limit [s,t] c) (by simp [doD,hn]) hx)
 obtain ⟨sv,hsv⟩:∃ v,v=str s:=⟨_,rfl⟩
 obtain ⟨tv,htv⟩:∃ v,v=str t:=⟨_,rfl⟩
 rw [← hsv] at FA CN
 rw [← htv] at FA
 clear hsv htv hE hn hs
 go_enter Tryz.func56,Tryz.ntmps56
 have HS:Hid (∀ w',Ext w w' → (w'.cell? ⟨bA,gA,none⟩=some (.string sv)∧w'.cell? ⟨bA,gA + 1,none⟩=some (.string tv))):=FA
 refine wp_region_held_drew (S:=fun w'=>w'.cell? ⟨bA,gA,none⟩=some (.string sv)∧w'.cell? ⟨bA,gA + 1,none⟩=some (.string tv)) (by kernel_rfl) (HS.out _ (by (repeat first | exact Ex0 | assumption | refine Ex1 ?_ | refine Ex2 ?_ | refine Ex3 ?_ | refine Ex4 ?_ | refine Ex5 ?_))) (fun hHeld=>?_)
 refine wpAnyH_take (i:=0) (oi:=?_) (v:=?_) ?_ (by kernel_rfl) (by kernel_rfl) (by kernel_rfl) (fun _ _ _ h=>post_put h) (Or.inl ⟨?_,?_⟩) (by assumption) ?_
 rotate_left 2
 ·(simp only [List.getElem?_toArray,List.getElem?_cons_succ,List.getElem?_cons_zero]; first | done | rfl)
 ·rfl
 ·intro w hSw
  try dsimp only at hSw
  go_simp <;> with_reducible rfl
 try simp only [Act.put,List.setIfInBounds_toArray,List.set_cons_zero,List.set_cons_succ]
 refine wpAnyH_take (i:=2) (oi:=?_) (v:=?_) ?_ (by kernel_rfl) (by kernel_rfl) (by kernel_rfl) (fun _ _ _ h=>post_put h) (Or.inl ⟨?_,?_⟩) (by assumption) ?_
 rotate_left 2
 ·(simp only [List.getElem?_toArray,List.getElem?_cons_succ,List.getElem?_cons_zero]; first | done | rfl)
 ·rfl
 ·intro w hSw
  try dsimp only at hSw
  go_simp <;> with_reducible rfl
 try simp only [Act.put,List.setIfInBounds_toArray,List.set_cons_zero,List.set_cons_succ]
 refine wpAnyH_take (i:=4) (oi:=?_) (v:=?_) ?_ (by kernel_rfl) (by kernel_rfl) (by kernel_rfl) (fun _ _ _ h=>post_put h) (Or.inl ⟨?_,?_⟩) (by assumption) ?_
 rotate_left 2
 ·(simp only [List.getElem?_toArray,List.getElem?_cons_succ,List.getElem?_cons_zero]; first | done | rfl)
 ·rfl
 ·intro w hSw
  try dsimp only at hSw
  go_simp <;> with_reducible rfl
 try simp only [Act.put,List.setIfInBounds_toArray,List.set_cons_zero,List.set_cons_succ]
 refine wpAnyH_take (i:=5) (oi:=?_) (v:=?_) ?_ (by kernel_rfl) (by kernel_rfl) (by kernel_rfl) (fun _ _ _ h=>post_put h) (Or.inl ⟨?_,?_⟩) (by assumption) ?_
 rotate_left 2
 ·(simp only [List.getElem?_toArray,List.getElem?_cons_succ,List.getElem?_cons_zero]; first | done | rfl)
 ·rfl
 ·intro w hSw
  try dsimp only at hSw
  go_simp <;> with_reducible rfl
 try simp only [Act.put,List.setIfInBounds_toArray,List.set_cons_zero,List.set_cons_succ]
 refine wpAnyH_take (i:=6) (oi:=?_) (v:=?_) ?_ (by kernel_rfl) (by kernel_rfl) (by kernel_rfl) (fun _ _ _ h=>post_put h) (Or.inl ⟨?_,?_⟩) (by assumption) ?_
 rotate_left 2
 ·(simp only [List.getElem?_toArray,List.getElem?_cons_succ,List.getElem?_cons_zero]; first | done | rfl)
 ·rfl
 ·intro w hSw
  try dsimp only at hSw
  go_simp <;> with_reducible rfl
 try simp only [Act.put,List.setIfInBounds_toArray,List.set_cons_zero,List.set_cons_succ]
 refine wpAnyH_take (i:=7) (oi:=?_) (v:=?_) ?_ (by kernel_rfl) (by kernel_rfl) (by kernel_rfl) (fun _ _ _ h=>post_put h) (Or.inl ⟨?_,?_⟩) (by assumption) ?_
 rotate_left 2
 ·(simp only [List.getElem?_toArray,List.getElem?_cons_succ,List.getElem?_cons_zero]; first | done | rfl)
 ·rfl
 ·intro w hSw
  try dsimp only at hSw
  go_simp <;> with_reducible rfl
 try simp only [Act.put,List.setIfInBounds_toArray,List.set_cons_zero,List.set_cons_succ]
 refine wpAnyH_take (i:=9) (oi:=?_) (v:=?_) ?_ (by kernel_rfl) (by kernel_rfl) (by kernel_rfl) (fun _ _ _ h=>post_put h) (Or.inl ⟨?_,?_⟩) (by assumption) ?_
 rotate_left 2
 ·(simp only [List.getElem?_toArray,List.getElem?_cons_succ,List.getElem?_cons_zero]; first | done | rfl)
 ·rfl
 ·intro w hSw
  try dsimp only at hSw
  go_simp <;> with_reducible rfl
 try simp only [Act.put,List.setIfInBounds_toArray,List.set_cons_zero,List.set_cons_succ]
 refine wpAnyH_take (i:=10) (oi:=?_) (v:=?_) ?_ (by kernel_rfl) (by kernel_rfl) (by kernel_rfl) (fun _ _ _ h=>post_put h) (Or.inl ⟨?_,?_⟩) (by assumption) ?_
 rotate_left 2
 ·(simp only [List.getElem?_toArray,List.getElem?_cons_succ,List.getElem?_cons_zero]; first | done | rfl)
 ·rfl
 ·intro w hSw
  try dsimp only at hSw
  go_simp <;> with_reducible rfl
 try simp only [Act.put,List.setIfInBounds_toArray,List.set_cons_zero,List.set_cons_succ]
 refine wpAnyH_take (i:=11) (oi:=?_) (v:=?_) ?_ (by kernel_rfl) (by kernel_rfl) (by kernel_rfl) (fun _ _ _ h=>post_put h) (Or.inl ⟨?_,?_⟩) (by assumption) ?_
 rotate_left 2
 ·(simp only [List.getElem?_toArray,List.getElem?_cons_succ,List.getElem?_cons_zero]; first | done | rfl)
 ·rfl
 ·intro w hSw
  try dsimp only at hSw
  go_simp <;> with_reducible rfl
 try simp only [Act.put,List.setIfInBounds_toArray,List.set_cons_zero,List.set_cons_succ]
 refine wpAnyH_take (i:=12) (oi:=?_) (v:=?_) ?_ (by kernel_rfl) (by kernel_rfl) (by kernel_rfl) (fun _ _ _ h=>post_put h) (Or.inl ⟨?_,?_⟩) (by assumption) ?_
 rotate_left 2
 ·(simp only [List.getElem?_toArray,List.getElem?_cons_succ,List.getElem?_cons_zero]; first | done | rfl)
 ·rfl
 ·intro w hSw
  try dsimp only at hSw
  go_simp <;> with_reducible rfl
 try simp only [Act.put,List.setIfInBounds_toArray,List.set_cons_zero,List.set_cons_succ]
 refine wpAnyH_ready (rs:=[1]) (by kernel_rfl) (by simp) ?_
 refine AllReadyH.cons rfl (fun K hK=>?_) AllReadyH.nil
 go_simp
 go_at_call 49
 refine (HL.out _ (by (repeat first | exact Ex0 | assumption | refine Ex1 ?_ | refine Ex2 ?_ | refine Ex3 ?_ | refine Ex4 ?_ | refine Ex5 ?_))).mono ?_
 rintro e w1 ⟨rfl,hx1⟩
 refine hK.out _ _ (HS.out _ (by (repeat first | exact Ex0 | assumption | refine Ex1 ?_ | refine Ex2 ?_ | refine Ex3 ?_ | refine Ex4 ?_ | refine Ex5 ?_))) (fun hHeld=>?_)
 clear hK K
 try simp only [Act.put,List.setIfInBounds_toArray,List.set_cons_zero,List.set_cons_succ]
 refine wpAnyH_ready (rs:=[3]) (by kernel_rfl) (by simp) ?_
 refine AllReadyH.cons rfl (fun K hK=>?_) AllReadyH.nil
 go_simp
 go_at_call 49
 refine (HL.out _ (by (repeat first | exact Ex0 | assumption | refine Ex1 ?_ | refine Ex2 ?_ | refine Ex3 ?_ | refine Ex4 ?_ | refine Ex5 ?_))).mono ?_
 rintro e w2 ⟨rfl,hx2⟩
 refine hK.out _ _ (HS.out _ (by (repeat first | exact Ex0 | assumption | refine Ex1 ?_ | refine Ex2 ?_ | refine Ex3 ?_ | refine Ex4 ?_ | refine Ex5 ?_))) (fun hHeld=>?_)
 clear hK K
 try simp only [Act.put,List.setIfInBounds_toArray,List.set_cons_zero,List.set_cons_succ]
 refine wpAnyH_ready (rs:=[8]) (by kernel_rfl) (by simp) ?_
 refine AllReadyH.cons rfl (fun K hK=>?_) AllReadyH.nil
 go_simp
 go_at_call 57
 refine (CN.out _ (by (repeat first | exact Ex0 | assumption | refine Ex1 ?_ | refine Ex2 ?_ | refine Ex3 ?_ | refine Ex4 ?_ | refine Ex5 ?_))).mono ?_
 rintro e w3 ⟨rfl,hx3⟩
 simp only [bodyPost]
 exact ⟨trivial,HT.out _ (by (repeat first | exact Ex0 | assumption | refine Ex1 ?_ | refine Ex2 ?_ | refine Ex3 ?_ | refine Ex4 ?_ | refine Ex5 ?_))⟩
theorem limit_yn (w:World) (o:Ow) (p line:Nat) (c:Cf14) (h:CfAt w o p c line) (hE:ErrR w) (hL:LocOk c) (hM:CfB 1099511627776 c) (s t:List UInt8) (hs:s.length ≤ 65536) (ht:t.length ≤ 65536) (n:Int) (hn:numC s=some n) (hm':numC t=none) (A:Option Addr) (ac:Nat) (hr:Rd w A (strC [s,t])) :
  Calls Tryz.prog 56 #[.pointer (some ⟨p,0,none⟩),.slice A 2 ac] w (DoQ w o p line (doD .limit [s,t] c)):=by
 obtain ⟨U,UA,uc,S,SA,sc,h⟩:=h
 obtain ⟨a,x,g,f,rfl,rfl,hl,hcs,hg,hce⟩:=h.srX hL.ne
 obtain ⟨lo,l,g2,f2,hlo,hA2,hg2,hce2⟩:=h.loX (hL.last hcs)
 have h5:=h.c5
 rw [hl] at h5
 have hm:a.length < 1099511627776:=by have:=hM.srvs; omega
 have hm2:lo.length < 1099511627776:=by
  have:=hM.locs x.1 (by rw [hcs]; simp)
  rw [hlo,List.length_append,List.length_singleton] at this; omega
 have h2:=(hce 2 _ rfl).1
 rw [hA2,hlo,show (lo ++ [l]).length=lo.length + 1 from by simp] at h2
 have HL:=Lib.hid (fun (w':World) (e:Ext w w')=>cloc_c p g f a.length sc g2 f2 lo.length x.2.2.2 w' hm hm2 ((e.cell (lt_of_cell h5)).trans h5) ((e.cell (lt_of_cell h2)).trans h2))
 have HC:=Lib.hid h
 obtain ⟨F,hF⟩:∃ F,F=f2 + lo.length * 12:=⟨_,rfl⟩
 rw [← hF] at HL hce2
 have FG:=Lib.hid (fun (w':World) (e:Ext w w') (j:Nat) (u:Value) (hu:(loV l)[j]?=some u)=>And.intro ((e.cell (p:=⟨g2,F + j,none⟩) hg2).trans (hce2 j u hu).1) ((World.frozen?_of_block (a:=⟨g2,F + j,none⟩) (e.block g2 hg2)).trans (hce2 j u hu).2))
 have HF:=Lib.hid hF
 have HLO:=Lib.hid (And.intro hlo hA2)
 have HCS:=Lib.hid hcs
 clear hF h2 h5 hl hce hce2 hlo hA2 hcs h
 obtain ⟨bA,gA,rfl,kA,kB⟩:∃ b g,A=some ⟨b,g,none⟩∧w.cell? ⟨b,g,none⟩=some (.string (str s))∧w.cell? ⟨b,g + 1,none⟩=some (.string (str t)):=by
  rcases hr with h | ⟨b,g,hA,hc⟩
  ·cases h
  ·exact ⟨b,g,hA,hc 0 _ rfl,hc 1 _ rfl⟩
 have FA:=Lib.hid (fun (w':World) (e:Ext w w')=>And.intro ((e.cell (p:=⟨bA,gA,none⟩) (lt_of_cell kA)).trans kA) ((e.cell (p:=⟨bA,gA + 1,none⟩) (lt_of_cell kB)).trans kB))
 clear hr kA kB
 have CN:=Lib.hid (fun w' (e:Ext w w')=>cnumber_yes p s hs n hn w' (hE.ext e))
 have CM:=Lib.hid (fun w' (e:Ext w w')=>cnumber_no p line t ht hm' w' (hE.ext e) ((e.cell (p:=⟨p,6,none⟩) (lt_of_cell HC.out.c6)).trans HC.out.c6))
 have HT:=Lib.hid (fun w1 (hx:Ext w w1)=>DoQ.no (o:=o) (p:=p) (line:=line) (r:=doD .limit [s,t] c) (by simp [doD,hn,hm']) hx)
 obtain ⟨sv,hsv⟩:∃ v,v=str s:=⟨_,rfl⟩
 obtain ⟨tv,htv⟩:∃ v,v=str t:=⟨_,rfl⟩
 rw [← hsv] at FA CN
 rw [← htv] at FA CM
 clear hsv htv hE hn hm' hs ht
 go_enter Tryz.func56,Tryz.ntmps56
 have HS:Hid (∀ w',Ext w w' → (w'.cell? ⟨bA,gA,none⟩=some (.string sv)∧w'.cell? ⟨bA,gA + 1,none⟩=some (.string tv))):=FA
 refine wp_region_held_drew (S:=fun w'=>w'.cell? ⟨bA,gA,none⟩=some (.string sv)∧w'.cell? ⟨bA,gA + 1,none⟩=some (.string tv)) (by kernel_rfl) (HS.out _ (by (repeat first | exact Ex0 | assumption | refine Ex1 ?_ | refine Ex2 ?_ | refine Ex3 ?_ | refine Ex4 ?_ | refine Ex5 ?_))) (fun hHeld=>?_)
 refine wpAnyH_take (i:=0) (oi:=?_) (v:=?_) ?_ (by kernel_rfl) (by kernel_rfl) (by kernel_rfl) (fun _ _ _ h=>post_put h) (Or.inl ⟨?_,?_⟩) (by assumption) ?_
 rotate_left 2
 ·(simp only [List.getElem?_toArray,List.getElem?_cons_succ,List.getElem?_cons_zero]; first | done | rfl)
 ·rfl
 ·intro w hSw
  try dsimp only at hSw
  go_simp <;> with_reducible rfl
 try simp only [Act.put,List.setIfInBounds_toArray,List.set_cons_zero,List.set_cons_succ]
 refine wpAnyH_take (i:=2) (oi:=?_) (v:=?_) ?_ (by kernel_rfl) (by kernel_rfl) (by kernel_rfl) (fun _ _ _ h=>post_put h) (Or.inl ⟨?_,?_⟩) (by assumption) ?_
 rotate_left 2
 ·(simp only [List.getElem?_toArray,List.getElem?_cons_succ,List.getElem?_cons_zero]; first | done | rfl)
 ·rfl
 ·intro w hSw
  try dsimp only at hSw
  go_simp <;> with_reducible rfl
 try simp only [Act.put,List.setIfInBounds_toArray,List.set_cons_zero,List.set_cons_succ]
 refine wpAnyH_take (i:=4) (oi:=?_) (v:=?_) ?_ (by kernel_rfl) (by kernel_rfl) (by kernel_rfl) (fun _ _ _ h=>post_put h) (Or.inl ⟨?_,?_⟩) (by assumption) ?_
 rotate_left 2
 ·(simp only [List.getElem?_toArray,List.getElem?_cons_succ,List.getElem?_cons_zero]; first | done | rfl)
 ·rfl
 ·intro w hSw
  try dsimp only at hSw
  go_simp <;> with_reducible rfl
 try simp only [Act.put,List.setIfInBounds_toArray,List.set_cons_zero,List.set_cons_succ]
 refine wpAnyH_take (i:=5) (oi:=?_) (v:=?_) ?_ (by kernel_rfl) (by kernel_rfl) (by kernel_rfl) (fun _ _ _ h=>post_put h) (Or.inl ⟨?_,?_⟩) (by assumption) ?_
 rotate_left 2
 ·(simp only [List.getElem?_toArray,List.getElem?_cons_succ,List.getElem?_cons_zero]; first | done | rfl)
 ·rfl
 ·intro w hSw
  try dsimp only at hSw
  go_simp <;> with_reducible rfl
 try simp only [Act.put,List.setIfInBounds_toArray,List.set_cons_zero,List.set_cons_succ]
 refine wpAnyH_take (i:=6) (oi:=?_) (v:=?_) ?_ (by kernel_rfl) (by kernel_rfl) (by kernel_rfl) (fun _ _ _ h=>post_put h) (Or.inl ⟨?_,?_⟩) (by assumption) ?_
 rotate_left 2
 ·(simp only [List.getElem?_toArray,List.getElem?_cons_succ,List.getElem?_cons_zero]; first | done | rfl)
 ·rfl
 ·intro w hSw
  try dsimp only at hSw
  go_simp <;> with_reducible rfl
 try simp only [Act.put,List.setIfInBounds_toArray,List.set_cons_zero,List.set_cons_succ]
 refine wpAnyH_take (i:=7) (oi:=?_) (v:=?_) ?_ (by kernel_rfl) (by kernel_rfl) (by kernel_rfl) (fun _ _ _ h=>post_put h) (Or.inl ⟨?_,?_⟩) (by assumption) ?_
 rotate_left 2
 ·(simp only [List.getElem?_toArray,List.getElem?_cons_succ,List.getElem?_cons_zero]; first | done | rfl)
 ·rfl
 ·intro w hSw
  try dsimp only at hSw
  go_simp <;> with_reducible rfl
 try simp only [Act.put,List.setIfInBounds_toArray,List.set_cons_zero,List.set_cons_succ]
 refine wpAnyH_take (i:=9) (oi:=?_) (v:=?_) ?_ (by kernel_rfl) (by kernel_rfl) (by kernel_rfl) (fun _ _ _ h=>post_put h) (Or.inl ⟨?_,?_⟩) (by assumption) ?_
 rotate_left 2
 ·(simp only [List.getElem?_toArray,List.getElem?_cons_succ,List.getElem?_cons_zero]; first | done | rfl)
 ·rfl
 ·intro w hSw
  try dsimp only at hSw
  go_simp <;> with_reducible rfl
 try simp only [Act.put,List.setIfInBounds_toArray,List.set_cons_zero,List.set_cons_succ]
 refine wpAnyH_take (i:=10) (oi:=?_) (v:=?_) ?_ (by kernel_rfl) (by kernel_rfl) (by kernel_rfl) (fun _ _ _ h=>post_put h) (Or.inl ⟨?_,?_⟩) (by assumption) ?_
 rotate_left 2
 ·(simp only [List.getElem?_toArray,List.getElem?_cons_succ,List.getElem?_cons_zero]; first | done | rfl)
 ·rfl
 ·intro w hSw
  try dsimp only at hSw
  go_simp <;> with_reducible rfl
 try simp only [Act.put,List.setIfInBounds_toArray,List.set_cons_zero,List.set_cons_succ]
 refine wpAnyH_take (i:=11) (oi:=?_) (v:=?_) ?_ (by kernel_rfl) (by kernel_rfl) (by kernel_rfl) (fun _ _ _ h=>post_put h) (Or.inl ⟨?_,?_⟩) (by assumption) ?_
 rotate_left 2
 ·(simp only [List.getElem?_toArray,List.getElem?_cons_succ,List.getElem?_cons_zero]; first | done | rfl)
 ·rfl
 ·intro w hSw
  try dsimp only at hSw
  go_simp <;> with_reducible rfl
 try simp only [Act.put,List.setIfInBounds_toArray,List.set_cons_zero,List.set_cons_succ]
 refine wpAnyH_take (i:=12) (oi:=?_) (v:=?_) ?_ (by kernel_rfl) (by kernel_rfl) (by kernel_rfl) (fun _ _ _ h=>post_put h) (Or.inl ⟨?_,?_⟩) (by assumption) ?_
 rotate_left 2
 ·(simp only [List.getElem?_toArray,List.getElem?_cons_succ,List.getElem?_cons_zero]; first | done | rfl)
 ·rfl
 ·intro w hSw
  try dsimp only at hSw
  go_simp <;> with_reducible rfl
 try simp only [Act.put,List.setIfInBounds_toArray,List.set_cons_zero,List.set_cons_succ]
 refine wpAnyH_ready (rs:=[1]) (by kernel_rfl) (by simp) ?_
 refine AllReadyH.cons rfl (fun K hK=>?_) AllReadyH.nil
 go_simp
 go_at_call 49
 refine (HL.out _ (by (repeat first | exact Ex0 | assumption | refine Ex1 ?_ | refine Ex2 ?_ | refine Ex3 ?_ | refine Ex4 ?_ | refine Ex5 ?_))).mono ?_
 rintro e w1 ⟨rfl,hx1⟩
 refine hK.out _ _ (HS.out _ (by (repeat first | exact Ex0 | assumption | refine Ex1 ?_ | refine Ex2 ?_ | refine Ex3 ?_ | refine Ex4 ?_ | refine Ex5 ?_))) (fun hHeld=>?_)
 clear hK K
 try simp only [Act.put,List.setIfInBounds_toArray,List.set_cons_zero,List.set_cons_succ]
 refine wpAnyH_ready (rs:=[3]) (by kernel_rfl) (by simp) ?_
 refine AllReadyH.cons rfl (fun K hK=>?_) AllReadyH.nil
 go_simp
 go_at_call 49
 refine (HL.out _ (by (repeat first | exact Ex0 | assumption | refine Ex1 ?_ | refine Ex2 ?_ | refine Ex3 ?_ | refine Ex4 ?_ | refine Ex5 ?_))).mono ?_
 rintro e w2 ⟨rfl,hx2⟩
 refine hK.out _ _ (HS.out _ (by (repeat first | exact Ex0 | assumption | refine Ex1 ?_ | refine Ex2 ?_ | refine Ex3 ?_ | refine Ex4 ?_ | refine Ex5 ?_))) (fun hHeld=>?_)
 clear hK K
 try simp only [Act.put,List.setIfInBounds_toArray,List.set_cons_zero,List.set_cons_succ]
 refine wpAnyH_ready (rs:=[8]) (by kernel_rfl) (by simp) ?_
 refine AllReadyH.cons rfl (fun K hK=>?_) AllReadyH.nil
 go_simp
 go_at_call 57
 refine (CN.out _ (by (repeat first | exact Ex0 | assumption | refine Ex1 ?_ | refine Ex2 ?_ | refine Ex3 ?_ | refine Ex4 ?_ | refine Ex5 ?_))).mono ?_
 rintro e w3 ⟨rfl,hx3⟩
 refine hK.out _ _ (HS.out _ (by (repeat first | exact Ex0 | assumption | refine Ex1 ?_ | refine Ex2 ?_ | refine Ex3 ?_ | refine Ex4 ?_ | refine Ex5 ?_))) (fun hHeld=>?_)
 clear hK K
 try simp only [Act.put,List.setIfInBounds_toArray,List.set_cons_zero,List.set_cons_succ]
 refine wpAnyH_ready (rs:=[13]) (by kernel_rfl) (by simp) ?_
 refine AllReadyH.cons rfl (fun K hK=>?_) AllReadyH.nil
 go_simp
 go_at_call 57
 refine (CM.out _ (by (repeat first | exact Ex0 | assumption | refine Ex1 ?_ | refine Ex2 ?_ | refine Ex3 ?_ | refine Ex4 ?_ | refine Ex5 ?_))).mono ?_
 rintro e w4 ⟨rfl,hx4⟩
 simp only [bodyPost]
 exact ⟨trivial,HT.out _ (by (repeat first | exact Ex0 | assumption | refine Ex1 ?_ | refine Ex2 ?_ | refine Ex3 ?_ | refine Ex4 ?_ | refine Ex5 ?_))⟩
theorem ret_n (w:World) (o:Ow) (p line:Nat) (c:Cf14) (h:CfAt w o p c line) (hE:ErrR w) (hL:LocOk c) (hM:CfB 1099511627776 c) (s:List UInt8) (r:List (List UInt8)) (hs:s.length ≤ 65536) (hn:numC s=none) (A:Option Addr) (m ac:Nat) (hm0:0 < m) (hr:Rd w A (strC (s :: r))) :
  Calls Tryz.prog 58 #[.pointer (some ⟨p,0,none⟩),.slice A m ac] w (DoQ w o p line (doD .ret (s :: r) c)):=by
 obtain ⟨U,UA,uc,S,SA,sc,h⟩:=h
 obtain ⟨a,x,g,f,rfl,rfl,hl,hcs,hg,hce⟩:=h.srX hL.ne
 obtain ⟨lo,l,g2,f2,hlo,hA2,hg2,hce2⟩:=h.loX (hL.last hcs)
 have h5:=h.c5
 rw [hl] at h5
 have hm:a.length < 1099511627776:=by have:=hM.srvs; omega
 have hm2:lo.length < 1099511627776:=by
  have:=hM.locs x.1 (by rw [hcs]; simp)
  rw [hlo,List.length_append,List.length_singleton] at this; omega
 have h2:=(hce 2 _ rfl).1
 rw [hA2,hlo,show (lo ++ [l]).length=lo.length + 1 from by simp] at h2
 have HL:=Lib.hid (fun (w':World) (e:Ext w w')=>cloc_c p g f a.length sc g2 f2 lo.length x.2.2.2 w' hm hm2 ((e.cell (lt_of_cell h5)).trans h5) ((e.cell (lt_of_cell h2)).trans h2))
 have HC:=Lib.hid h
 obtain ⟨F,hF⟩:∃ F,F=f2 + lo.length * 12:=⟨_,rfl⟩
 rw [← hF] at HL hce2
 have FG:=Lib.hid (fun (w':World) (e:Ext w w') (j:Nat) (u:Value) (hu:(loV l)[j]?=some u)=>And.intro ((e.cell (p:=⟨g2,F + j,none⟩) hg2).trans (hce2 j u hu).1) ((World.frozen?_of_block (a:=⟨g2,F + j,none⟩) (e.block g2 hg2)).trans (hce2 j u hu).2))
 have HF:=Lib.hid hF
 have HLO:=Lib.hid (And.intro hlo hA2)
 have HCS:=Lib.hid hcs
 clear hF h2 h5 hl hce hce2 hlo hA2 hcs h
 obtain ⟨bA,gA,rfl,kA⟩:∃ b g,A=some ⟨b,g,none⟩∧w.cell? ⟨b,g,none⟩=some (.string (str s)):=by
  rcases hr with h | ⟨b,g,hA,hc⟩
  ·cases h
  ·exact ⟨b,g,hA,hc 0 _ rfl⟩
 have FA:=Lib.hid (fun (w':World) (e:Ext w w')=>(e.cell (p:=⟨bA,gA,none⟩) (lt_of_cell kA)).trans kA)
 clear hr kA
 have CN:=Lib.hid (fun w' (e:Ext w w')=>cnumber_no p line s hs hn w' (hE.ext e) ((e.cell (p:=⟨p,6,none⟩) (lt_of_cell HC.out.c6)).trans HC.out.c6))
 have HT:=Lib.hid (fun w1 (hx:Ext w w1)=>DoQ.no (o:=o) (p:=p) (line:=line) (r:=doD .ret (s :: r) c) (by simp [doD,hn]) hx)
 obtain ⟨sv,hsv⟩:∃ v,v=str s:=⟨_,rfl⟩
 rw [← hsv] at FA CN
 have m1:(0:Int) < (m:Int):=by omega
 have HS:Hid (∀ w',Ext w w' → w'.cell? ⟨bA,gA,none⟩=some (.string sv)):=FA
 clear hsv hE hn hs
 go_enter Tryz.func58,Tryz.ntmps58
 go_wp2
 refine wp_region_held_drew (S:=fun w'=>w'.cell? ⟨bA,gA,none⟩=some (.string sv)) (by kernel_rfl) (HS.out w.drew (by (repeat first | exact Ex0 | assumption | refine Ex1 ?_ | refine Ex2 ?_ | refine Ex3 ?_ | refine Ex4 ?_ | refine Ex5 ?_))) (fun hHeld=>?_)
 refine wpAnyH_take (i:=0) (oi:=?_) (v:=?_) ?_ (by kernel_rfl) (by kernel_rfl) (by kernel_rfl) (fun _ _ _ h=>post_put (P:=Tryz.prog) (fn:=Tryz.f58) h) (Or.inl ⟨?_,?_⟩) (by assumption) ?_
 rotate_left 2
 ·(simp only [List.getElem?_toArray,List.getElem?_cons_succ,List.getElem?_cons_zero]; first | done | rfl)
 ·rfl
 ·intro w hSw
  try dsimp only at hSw
  go_simp <;> with_reducible rfl
 try simp only [Act.put,List.setIfInBounds_toArray,List.set_cons_zero,List.set_cons_succ]
 refine wpAnyH_take (i:=2) (oi:=?_) (v:=?_) ?_ (by kernel_rfl) (by kernel_rfl) (by kernel_rfl) (fun _ _ _ h=>post_put (P:=Tryz.prog) (fn:=Tryz.f58) h) (Or.inl ⟨?_,?_⟩) (by assumption) ?_
 rotate_left 2
 ·(simp only [List.getElem?_toArray,List.getElem?_cons_succ,List.getElem?_cons_zero]; first | done | rfl)
 ·rfl
 ·intro w hSw
  try dsimp only at hSw
  go_simp <;> with_reducible rfl
 try simp only [Act.put,List.setIfInBounds_toArray,List.set_cons_zero,List.set_cons_succ]
 refine wpAnyH_take (i:=4) (oi:=?_) (v:=?_) ?_ (by kernel_rfl) (by kernel_rfl) (by kernel_rfl) (fun _ _ _ h=>post_put (P:=Tryz.prog) (fn:=Tryz.f58) h) (Or.inl ⟨?_,?_⟩) (by assumption) ?_
 rotate_left 2
 ·(simp only [List.getElem?_toArray,List.getElem?_cons_succ,List.getElem?_cons_zero]; first | done | rfl)
 ·rfl
 ·intro w hSw
  try dsimp only at hSw
  go_simp <;> with_reducible rfl
 try simp only [Act.put,List.setIfInBounds_toArray,List.set_cons_zero,List.set_cons_succ]
 refine wpAnyH_take (i:=5) (oi:=?_) (v:=?_) ?_ (by kernel_rfl) (by kernel_rfl) (by kernel_rfl) (fun _ _ _ h=>post_put (P:=Tryz.prog) (fn:=Tryz.f58) h) (Or.inl ⟨?_,?_⟩) (by assumption) ?_
 rotate_left 2
 ·(simp only [List.getElem?_toArray,List.getElem?_cons_succ,List.getElem?_cons_zero]; first | done | rfl)
 ·rfl
 ·intro w hSw
  try dsimp only at hSw
  go_simp <;> with_reducible rfl
 try simp only [Act.put,List.setIfInBounds_toArray,List.set_cons_zero,List.set_cons_succ]
 refine wpAnyH_take (i:=6) (oi:=?_) (v:=?_) ?_ (by kernel_rfl) (by kernel_rfl) (by kernel_rfl) (fun _ _ _ h=>post_put (P:=Tryz.prog) (fn:=Tryz.f58) h) (Or.inl ⟨?_,?_⟩) (by assumption) ?_
 rotate_left 2
 ·(simp only [List.getElem?_toArray,List.getElem?_cons_succ,List.getElem?_cons_zero]; first | done | rfl)
 ·rfl
 ·intro w hSw
  try dsimp only at hSw
  go_simp <;> with_reducible rfl
 try simp only [Act.put,List.setIfInBounds_toArray,List.set_cons_zero,List.set_cons_succ]
 refine wpAnyH_take (i:=7) (oi:=?_) (v:=?_) ?_ (by kernel_rfl) (by kernel_rfl) (by kernel_rfl) (fun _ _ _ h=>post_put (P:=Tryz.prog) (fn:=Tryz.f58) h) (Or.inl ⟨?_,?_⟩) (by assumption) ?_
 rotate_left 2
 ·(simp only [List.getElem?_toArray,List.getElem?_cons_succ,List.getElem?_cons_zero]; first | done | rfl)
 ·rfl
 ·intro w hSw
  try dsimp only at hSw
  go_simp <;> with_reducible rfl
 try simp only [Act.put,List.setIfInBounds_toArray,List.set_cons_zero,List.set_cons_succ]
 refine wpAnyH_ready (rs:=[1]) (by kernel_rfl) (by simp) ?_
 refine AllReadyH.cons rfl (fun K hK=>?_) AllReadyH.nil
 go_simp
 go_at_call 49
 refine (HL.out _ (by (repeat first | exact Ex0 | assumption | refine Ex1 ?_ | refine Ex2 ?_ | refine Ex3 ?_ | refine Ex4 ?_ | refine Ex5 ?_))).mono ?_
 rintro e w1 ⟨rfl,hx1⟩
 refine hK.out _ _ (HS.out _ (by (repeat first | exact Ex0 | assumption | refine Ex1 ?_ | refine Ex2 ?_ | refine Ex3 ?_ | refine Ex4 ?_ | refine Ex5 ?_))) (fun hHeld=>?_)
 clear hK K
 try simp only [Act.put,List.setIfInBounds_toArray,List.set_cons_zero,List.set_cons_succ]
 refine wpAnyH_ready (rs:=[3]) (by kernel_rfl) (by simp) ?_
 refine AllReadyH.cons rfl (fun K hK=>?_) AllReadyH.nil
 go_simp
 go_at_call 49
 refine (HL.out _ (by (repeat first | exact Ex0 | assumption | refine Ex1 ?_ | refine Ex2 ?_ | refine Ex3 ?_ | refine Ex4 ?_ | refine Ex5 ?_))).mono ?_
 rintro e w2 ⟨rfl,hx2⟩
 refine hK.out _ _ (HS.out _ (by (repeat first | exact Ex0 | assumption | refine Ex1 ?_ | refine Ex2 ?_ | refine Ex3 ?_ | refine Ex4 ?_ | refine Ex5 ?_))) (fun hHeld=>?_)
 clear hK K
 try simp only [Act.put,List.setIfInBounds_toArray,List.set_cons_zero,List.set_cons_succ]
 refine wpAnyH_ready (rs:=[8]) (by kernel_rfl) (by simp) ?_
 refine AllReadyH.cons rfl (fun K hK=>?_) AllReadyH.nil
 go_simp
 go_at_call 57
 refine (CN.out _ (by (repeat first | exact Ex0 | assumption | refine Ex1 ?_ | refine Ex2 ?_ | refine Ex3 ?_ | refine Ex4 ?_ | refine Ex5 ?_))).mono ?_
 rintro e w3 ⟨rfl,hx3⟩
 simp only [Exit.then,bodyPost]
 exact ⟨trivial,HT.out _ (by (repeat first | exact Ex0 | assumption | refine Ex1 ?_ | refine Ex2 ?_ | refine Ex3 ?_ | refine Ex4 ?_ | refine Ex5 ?_))⟩
end Go.Proofs.YtmnohicojefhfaaGreatDoor
end
section
namespace Go.Proofs.YtmnohicojefhfaaGreatDoor
open Go.RowKit
theorem ret_y1 (w:World) (o:Ow) (p line:Nat) (c:Cf14) (h:CfAt w o p c line) (hE:ErrR w) (hL:LocOk c) (hM:CfB 1099511627776 c) (s:List UInt8) (hs:s.length ≤ 65536) (n:Int) (hn:numC s=some n) (A:Option Addr) (ac:Nat) (hr:Rd w A (strC [s])) :
  Calls Tryz.prog 58 #[.pointer (some ⟨p,0,none⟩),.slice A 1 ac] w (DoQ w o p line (doD .ret [s] c)):=by
 obtain ⟨U,UA,uc,S,SA,sc,h⟩:=h
 obtain ⟨a,x,g,f,rfl,rfl,hl,hcs,hg,hce⟩:=h.srX hL.ne
 obtain ⟨lo,l,g2,f2,hlo,hA2,hg2,hce2⟩:=h.loX (hL.last hcs)
 have h5:=h.c5
 rw [hl] at h5
 have hm:a.length < 1099511627776:=by have:=hM.srvs; omega
 have hm2:lo.length < 1099511627776:=by
  have:=hM.locs x.1 (by rw [hcs]; simp)
  rw [hlo,List.length_append,List.length_singleton] at this; omega
 have h2:=(hce 2 _ rfl).1
 rw [hA2,hlo,show (lo ++ [l]).length=lo.length + 1 from by simp] at h2
 have HL:=Lib.hid (fun (w':World) (e:Ext w w')=>cloc_c p g f a.length sc g2 f2 lo.length x.2.2.2 w' hm hm2 ((e.cell (lt_of_cell h5)).trans h5) ((e.cell (lt_of_cell h2)).trans h2))
 have HC:=Lib.hid h
 obtain ⟨F,hF⟩:∃ F,F=f2 + lo.length * 12:=⟨_,rfl⟩
 rw [← hF] at HL hce2
 have FG:=Lib.hid (fun (w':World) (e:Ext w w') (j:Nat) (u:Value) (hu:(loV l)[j]?=some u)=>And.intro ((e.cell (p:=⟨g2,F + j,none⟩) hg2).trans (hce2 j u hu).1) ((World.frozen?_of_block (a:=⟨g2,F + j,none⟩) (e.block g2 hg2)).trans (hce2 j u hu).2))
 have HF:=Lib.hid hF
 have HLO:=Lib.hid (And.intro hlo hA2)
 have HCS:=Lib.hid hcs
 clear hF h2 h5 hl hce hce2 hlo hA2 hcs h
 obtain ⟨bA,gA,rfl,kA⟩:∃ b g,A=some ⟨b,g,none⟩∧w.cell? ⟨b,g,none⟩=some (.string (str s)):=by
  rcases hr with h | ⟨b,g,hA,hc⟩
  ·cases h
  ·exact ⟨b,g,hA,hc 0 _ rfl⟩
 have FA:=Lib.hid (fun (w':World) (e:Ext w w')=>(e.cell (p:=⟨bA,gA,none⟩) (lt_of_cell kA)).trans kA)
 clear hr kA
 have HB:Hid (∀ w1,Ext w w1 → Cf0 ((w1.setCell ⟨g2,F + 1,none⟩ (.int .i64 3)).setCell ⟨g2,F + 10,none⟩ (.int .i64 n)) o p { c with srvs:=(a ++ [locS x (lo ++ [{ l with kind:=3,status:=n }])]).map (·.1) } line U UA uc (a ++ [locS x (lo ++ [{ l with kind:=3,status:=n }])]) (some ⟨g,f,none⟩) sc∧Stp KB w o ((w1.setCell ⟨g2,F + 1,none⟩ (.int .i64 3)).setCell ⟨g2,F + 10,none⟩ (.int .i64 n)) o):=Lib.hid (fun w1 hx=>by
  have h1:=(HC.out.ext hx).lo5 HLO.out.1 HLO.out.2 (l':={ l with kind:=3 }) 1 (by omega) (.int .i64 3) rfl
  have hT:=h1.1.lo5 (lo:=lo) (l:={ l with kind:=3 }) rfl HLO.out.2 (l':={ l with kind:=3,status:=n }) 10 (by omega) (.int .i64 n) rfl
  rw [← Nat.add_assoc,← HF.out] at h1 hT
  rw [← Nat.add_assoc,← HF.out] at hT
  exact ⟨hT.1,(Stp.ext hx).tr (h1.2.tr hT.2)⟩)
 have CN:=Lib.hid (fun w' (e:Ext w w')=>cnumber_yes p s hs n hn w' (hE.ext e))
 obtain ⟨sv,hsv⟩:∃ v,v=str s:=⟨_,rfl⟩
 have HT:Hid (∀ w1,Ext w w1 → DoQ w o p line (doD .ret [s] c) (.returned (.tuple #[])) ((w1.setCell ⟨g2,F + 1,none⟩ (.int .i64 3)).setCell ⟨g2,F + 10,none⟩ (.int .i64 n))):=Lib.hid (fun w1 hx=>by
  have hT:=HB.out w1 hx
  exact DoQ.yes (c:=cfLo c fun l=>{ l with kind:=3,status:=n }) (by simp [doD,hn]) hT.2 ⟨_,_,_,_,_,_,by rw [cfLo_eq HCS.out HLO.out.1]; exact hT.1⟩)
 rw [← hsv] at FA CN
 clear hsv hE hn hs
 have k0:=FA.out w (Ext.rfl' w)
 go_enter Tryz.func58,Tryz.ntmps58
 go_wp2
 go_region_with (first
  | (go_at_call 49; refine (HL.out _ (by (repeat first | exact Ex0 | assumption | refine Ex1 ?_ | refine Ex2 ?_ | refine Ex3 ?_ | refine Ex4 ?_ | refine Ex5 ?_))).mono ?_; rintro e w1 ⟨rfl,hx1⟩; have k5:=FA.out w1 (by (repeat first | exact Ex0 | assumption | refine Ex1 ?_ | refine Ex2 ?_ | refine Ex3 ?_ | refine Ex4 ?_ | refine Ex5 ?_)))
  | (go_at_call 57; refine (CN.out _ (by (repeat first | exact Ex0 | assumption | refine Ex1 ?_ | refine Ex2 ?_ | refine Ex3 ?_ | refine Ex4 ?_ | refine Ex5 ?_))).mono ?_; rintro e w2 ⟨rfl,hx2⟩; have k1:=(FG.out w2 (by (repeat first | exact Ex0 | assumption | refine Ex1 ?_ | refine Ex2 ?_ | refine Ex3 ?_ | refine Ex4 ?_ | refine Ex5 ?_)) 1 _ rfl).1; have k2:=(FG.out w2 (by (repeat first | exact Ex0 | assumption | refine Ex1 ?_ | refine Ex2 ?_ | refine Ex3 ?_ | refine Ex4 ?_ | refine Ex5 ?_)) 1 _ rfl).2; have k3:=(FG.out w2 (by (repeat first | exact Ex0 | assumption | refine Ex1 ?_ | refine Ex2 ?_ | refine Ex3 ?_ | refine Ex4 ?_ | refine Ex5 ?_)) 10 _ rfl).1; have k4:=(FG.out w2 (by (repeat first | exact Ex0 | assumption | refine Ex1 ?_ | refine Ex2 ?_ | refine Ex3 ?_ | refine Ex4 ?_ | refine Ex5 ?_)) 10 _ rfl).2))
 all_goals go_wp2
 all_goals go_end0
 all_goals exact HT.out _ (by (repeat first | exact Ex0 | assumption | refine Ex1 ?_ | refine Ex2 ?_ | refine Ex3 ?_ | refine Ex4 ?_ | refine Ex5 ?_))
theorem ret_y2 (w:World) (o:Ow) (p line:Nat) (c:Cf14) (h:CfAt w o p c line) (hE:ErrR w) (hL:LocOk c) (hM:CfB 1099511627776 c) (s t:List UInt8) (hs:s.length ≤ 65536) (n:Int) (hn:numC s=some n) (A:Option Addr) (ac:Nat) (hr:Rd w A (strC [s,t])) (hA0:∀ a,A=some a → o a.block=0) :
  Calls Tryz.prog 58 #[.pointer (some ⟨p,0,none⟩),.slice A 2 ac] w (DoQ w o p line (doD .ret [s,t] c)):=by
 obtain ⟨U,UA,uc,S,SA,sc,h⟩:=h
 obtain ⟨a,x,g,f,rfl,rfl,hl,hcs,hg,hce⟩:=h.srX hL.ne
 obtain ⟨lo,l,g2,f2,hlo,hA2,hg2,hce2⟩:=h.loX (hL.last hcs)
 have h5:=h.c5
 rw [hl] at h5
 have hm:a.length < 1099511627776:=by have:=hM.srvs; omega
 have hm2:lo.length < 1099511627776:=by
  have:=hM.locs x.1 (by rw [hcs]; simp)
  rw [hlo,List.length_append,List.length_singleton] at this; omega
 have h2:=(hce 2 _ rfl).1
 rw [hA2,hlo,show (lo ++ [l]).length=lo.length + 1 from by simp] at h2
 have HL:=Lib.hid (fun (w':World) (e:Ext w w')=>cloc_c p g f a.length sc g2 f2 lo.length x.2.2.2 w' hm hm2 ((e.cell (lt_of_cell h5)).trans h5) ((e.cell (lt_of_cell h2)).trans h2))
 have HC:=Lib.hid h
 obtain ⟨F,hF⟩:∃ F,F=f2 + lo.length * 12:=⟨_,rfl⟩
 rw [← hF] at HL hce2
 have FG:=Lib.hid (fun (w':World) (e:Ext w w') (j:Nat) (u:Value) (hu:(loV l)[j]?=some u)=>And.intro ((e.cell (p:=⟨g2,F + j,none⟩) hg2).trans (hce2 j u hu).1) ((World.frozen?_of_block (a:=⟨g2,F + j,none⟩) (e.block g2 hg2)).trans (hce2 j u hu).2))
 have HF:=Lib.hid hF
 have HLO:=Lib.hid (And.intro hlo hA2)
 have HCS:=Lib.hid hcs
 clear hF h2 h5 hl hce hce2 hlo hA2 hcs h
 obtain ⟨bA,gA,rfl,kA,kB⟩:∃ b g,A=some ⟨b,g,none⟩∧w.cell? ⟨b,g,none⟩=some (.string (str s))∧w.cell? ⟨b,g + 1,none⟩=some (.string (str t)):=by
  rcases hr with h | ⟨b,g,hA,hc⟩
  ·cases h
  ·exact ⟨b,g,hA,hc 0 _ rfl,hc 1 _ rfl⟩
 have FA:=Lib.hid (fun (w':World) (e:Ext w w')=>And.intro ((e.cell (p:=⟨bA,gA,none⟩) (lt_of_cell kA)).trans kA) ((e.cell (p:=⟨bA,gA + 1,none⟩) (lt_of_cell kB)).trans kB))
 clear hr kA kB
 have hb0:=hA0 _ rfl
 have HB:Hid (∀ w1,Ext w w1 → Cf0 ((w1.setCell ⟨g2,F + 1,none⟩ (.int .i64 3)).setCell ⟨g2,F + 10,none⟩ (.int .i64 n)) o p { c with srvs:=(a ++ [locS x (lo ++ [{ l with kind:=3,status:=n }])]).map (·.1) } line U UA uc (a ++ [locS x (lo ++ [{ l with kind:=3,status:=n }])]) (some ⟨g,f,none⟩) sc∧Stp KB w o ((w1.setCell ⟨g2,F + 1,none⟩ (.int .i64 3)).setCell ⟨g2,F + 10,none⟩ (.int .i64 n)) o):=Lib.hid (fun w1 hx=>by
  have h1:=(HC.out.ext hx).lo5 HLO.out.1 HLO.out.2 (l':={ l with kind:=3 }) 1 (by omega) (.int .i64 3) rfl
  have hT:=h1.1.lo5 (lo:=lo) (l:={ l with kind:=3 }) rfl HLO.out.2 (l':={ l with kind:=3,status:=n }) 10 (by omega) (.int .i64 n) rfl
  rw [← Nat.add_assoc,← HF.out] at h1 hT
  rw [← Nat.add_assoc,← HF.out] at hT
  exact ⟨hT.1,(Stp.ext hx).tr (h1.2.tr hT.2)⟩)
 have CN:=Lib.hid (fun w' (e:Ext w w')=>cnumber_yes p s hs n hn w' (hE.ext e))
 obtain ⟨sv,hsv⟩:∃ v,v=str s:=⟨_,rfl⟩
 obtain ⟨tv,htv⟩:∃ v,v=str t:=⟨_,rfl⟩
 have HT:Hid (∀ w1,Ext w w1 → ∀ w2,Ext ((w1.setCell ⟨g2,F + 1,none⟩ (.int .i64 3)).setCell ⟨g2,F + 10,none⟩ (.int .i64 n)) w2 → DoQ w o p line (doD .ret [s,t] c) (.returned (.tuple #[])) (w2.setCell ⟨g2,F + 11,none⟩ (.string tv))):=Lib.hid (fun w1 hx w2 hx2=>by
  have hB:=HB.out w1 hx
  have hT:=(hB.1.ext hx2).lo5 (lo:=lo) (l:={ l with kind:=3,status:=n }) rfl HLO.out.2 (l':={ l with kind:=3,status:=n,goal:=t }) 11 (by omega) (.string tv) (by rw [htv]; rfl)
  rw [← Nat.add_assoc,← HF.out] at hT
  exact DoQ.yes (c:=cfLo c fun l=>{ l with kind:=3,status:=n,goal:=t }) (by simp [doD,hn]) ((hB.2.tr (Stp.ext hx2)).tr hT.2) ⟨_,_,_,_,_,_,by rw [cfLo_eq HCS.out HLO.out.1]; exact hT.1⟩)
 have HL2:Hid (∀ w1,Ext w w1 → ∀ w2,Ext ((w1.setCell ⟨g2,F + 1,none⟩ (.int .i64 3)).setCell ⟨g2,F + 10,none⟩ (.int .i64 n)) w2 → Calls Tryz.prog 49 #[.pointer (some ⟨p,0,none⟩)] w2 (Gives (.pointer (some ⟨g2,F,none⟩)) w2)):=Lib.hid (fun w1 hx w2 hx2=>by
  rw [HF.out]
  exact ((HB.out w1 hx).1.ext hx2).locC HLO.out.2 (by show (lo ++ [_]).length=_; simp) hm hm2)
 have HG2:Hid (∀ w1,Ext w w1 → ∀ w2,Ext ((w1.setCell ⟨g2,F + 1,none⟩ (.int .i64 3)).setCell ⟨g2,F + 10,none⟩ (.int .i64 n)) w2 → (w2.cell? ⟨g2,F + 11,none⟩=some (.string (str l.goal))∧w2.frozen? ⟨g2,F + 11,none⟩=false)∧w2.cell? ⟨bA,gA + 1,none⟩=some (.string tv)):=Lib.hid (fun w1 hx w2 hx2=>by
  have hB:=HB.out w1 hx
  have hF:=((hB.1.ext hx2).loF (lo:=lo) (l:={ l with kind:=3,status:=n }) rfl HLO.out.2 11 _ rfl)
  rw [← HF.out] at hF
  refine ⟨hF,?_⟩
  have hk:=(FA.out w (Ext.rfl' w)).2
  rw [htv]
  exact (hB.2.tr (Stp.ext hx2)).cell (a:=⟨bA,gA + 1,none⟩) (by show ¬ KB (o bA); rw [hb0]; unfold KB; omega) hk)
 rw [← hsv] at FA CN
 clear hsv hE hn hs hb0 hA0 htv
 have k0:=(FA.out w (Ext.rfl' w)).1
 go_enter Tryz.func58,Tryz.ntmps58
 go_wp2
 go_region_with (first
  | (go_at_call 49; refine (HL.out _ (by (repeat first | exact Ex0 | assumption | refine Ex1 ?_ | refine Ex2 ?_ | refine Ex3 ?_ | refine Ex4 ?_ | refine Ex5 ?_))).mono ?_; rintro e w1 ⟨rfl,hx1⟩; have k5:=(FA.out w1 (by (repeat first | exact Ex0 | assumption | refine Ex1 ?_ | refine Ex2 ?_ | refine Ex3 ?_ | refine Ex4 ?_ | refine Ex5 ?_))).1)
  | (go_at_call 57; refine (CN.out _ (by (repeat first | exact Ex0 | assumption | refine Ex1 ?_ | refine Ex2 ?_ | refine Ex3 ?_ | refine Ex4 ?_ | refine Ex5 ?_))).mono ?_; rintro e w2 ⟨rfl,hx2⟩; have k1:=(FG.out w2 (by (repeat first | exact Ex0 | assumption | refine Ex1 ?_ | refine Ex2 ?_ | refine Ex3 ?_ | refine Ex4 ?_ | refine Ex5 ?_)) 1 _ rfl).1; have k2:=(FG.out w2 (by (repeat first | exact Ex0 | assumption | refine Ex1 ?_ | refine Ex2 ?_ | refine Ex3 ?_ | refine Ex4 ?_ | refine Ex5 ?_)) 1 _ rfl).2; have k3:=(FG.out w2 (by (repeat first | exact Ex0 | assumption | refine Ex1 ?_ | refine Ex2 ?_ | refine Ex3 ?_ | refine Ex4 ?_ | refine Ex5 ?_)) 10 _ rfl).1; have k4:=(FG.out w2 (by (repeat first | exact Ex0 | assumption | refine Ex1 ?_ | refine Ex2 ?_ | refine Ex3 ?_ | refine Ex4 ?_ | refine Ex5 ?_)) 10 _ rfl).2))
 all_goals (
  have xw:Ext w w2:=by (repeat first | exact Ex0 | assumption | refine Ex1 ?_ | refine Ex2 ?_ | refine Ex3 ?_ | refine Ex4 ?_ | refine Ex5 ?_)
  have q0:=(HG2.out w2 xw _ (Ext.rfl' _)).2
  go_wp2
  go_region_with (first
   | (go_at_call 49; refine (HL2.out w2 xw _ (by (repeat first | exact Ex0 | assumption | refine Ex1 ?_ | refine Ex2 ?_ | refine Ex3 ?_ | refine Ex4 ?_ | refine Ex5 ?_))).mono ?_; rintro e w5 ⟨rfl,hx5⟩; have q1:=(HG2.out w2 xw w5 (by (repeat first | exact Ex0 | assumption | refine Ex1 ?_ | refine Ex2 ?_ | refine Ex3 ?_ | refine Ex4 ?_ | refine Ex5 ?_))).1.1; have q2:=(HG2.out w2 xw w5 (by (repeat first | exact Ex0 | assumption | refine Ex1 ?_ | refine Ex2 ?_ | refine Ex3 ?_ | refine Ex4 ?_ | refine Ex5 ?_))).1.2; have q3:=(HG2.out w2 xw w5 (by (repeat first | exact Ex0 | assumption | refine Ex1 ?_ | refine Ex2 ?_ | refine Ex3 ?_ | refine Ex4 ?_ | refine Ex5 ?_))).2)))
 all_goals go_end0
 all_goals exact HT.out w2 (by (repeat first | exact Ex0 | assumption | refine Ex1 ?_ | refine Ex2 ?_ | refine Ex3 ?_ | refine Ex4 ?_ | refine Ex5 ?_)) _ (by (repeat first | exact Ex0 | assumption | refine Ex1 ?_ | refine Ex2 ?_ | refine Ex3 ?_ | refine Ex4 ?_ | refine Ex5 ?_))
end Go.Proofs.YtmnohicojefhfaaGreatDoor
end
