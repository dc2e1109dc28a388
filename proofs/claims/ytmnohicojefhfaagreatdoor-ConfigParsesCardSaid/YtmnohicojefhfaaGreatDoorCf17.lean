/-
Directives: a number is put where a closure says: upstreams', locations'.
-/
import Derived.Test.YtmnohicojefhfaaGreatDoorCFd
set_option maxRecDepth 100000
set_option maxHeartbeats 8000000
set_option linter.unusedVariables false
set_option linter.unusedSimpArgs false
namespace Go.Proofs.YtmnohicojefhfaaGreatDoor
open Go.RowKit
theorem cset7_yes (gc gg ff p:Nat) (old:Value) (s:List UInt8) (hs:s.length ≤ 65536) (n:Int) (hn:numC s=some n) (A:Option Addr) (m ac:Nat) (w:World) (hE:ErrR w) (CG:∀ w',Ext w w' → Calls Tryz.prog 95 #[.pointer (some ⟨p,0,none⟩)] w' (Gives (.pointer (some ⟨gg,ff,none⟩)) w'))
  (hc:w.cell? ⟨gc,0,none⟩=some (.func (.func 95) #[] #[])) (hg:w.cell? ⟨gg,ff,none⟩=some old) (hgf:w.frozen? ⟨gg,ff,none⟩=false) (hr:Rd w A [.string (str s)]) (hm:0 < m) :
  Calls Tryz.prog 102 #[.pointer (some ⟨p,0,none⟩),.slice A m ac,.pointer (some ⟨gc,0,none⟩)] w fun e w'=>e=.returned (.tuple #[])∧∃ w1,Ext w w1∧w'=w1.setCell ⟨gg,ff,none⟩ (.int .i64 n):=by
 have HCG:=Lib.hid CG
 have FC:=Lib.hid (fun w' (e:Ext w w')=>(e.cell (p:=⟨gc,0,none⟩) (lt_of_cell hc)).trans hc)
 have FG:=Lib.hid (fun w' (e:Ext w w')=>And.intro ((e.cell (p:=⟨gg,ff,none⟩) (lt_of_cell hg)).trans hg) ((World.frozen?_of_block (a:=⟨gg,ff,none⟩) (e.block gg (lt_of_cell hg))).trans hgf))
 obtain ⟨b,g0,rfl,k0⟩:∃ b g,A=some ⟨b,g,none⟩∧w.cell? ⟨b,g,none⟩=some (.string (str s)):=by
  rcases hr with h | ⟨b,g,hA,hc⟩
  ·cases h
  ·exact ⟨b,g,hA,hc 0 _ rfl⟩
 have FA:=Lib.hid (fun w' (e:Ext w w')=>(e.cell (p:=⟨b,g0,none⟩) (lt_of_cell k0)).trans k0)
 have HE:=Lib.hid hE
 obtain ⟨sv,hsv⟩:∃ x,x=str s:=⟨_,rfl⟩
 have CN:=Lib.hid (fun w' (e:Ext w w')=>cnumber_yes p s hs n hn w' (hE.ext e))
 rw [← hsv] at CN FA k0
 have m1:(0:Int) < (m:Int):=by omega
 have j0:=FC.out w (Ext.rfl' w)
 clear hsv hr hE hn CG hc hg hgf
 go_enter Tryz.func102,Tryz.ntmps102
 go_region_with (first
  | (go_at_call 95; refine (HCG.out _ (by (repeat first | exact Ex0 | assumption | refine Ex1 ?_ | refine Ex2 ?_ | refine Ex3 ?_ | refine Ex4 ?_ | refine Ex5 ?_))).mono ?_; rintro e w1 ⟨rfl,hx1⟩; have k1:=FA.out w1 (by (repeat first | exact Ex0 | assumption | refine Ex1 ?_ | refine Ex2 ?_ | refine Ex3 ?_ | refine Ex4 ?_ | refine Ex5 ?_)))
  | (go_at_call 57; refine (CN.out _ (by (repeat first | exact Ex0 | assumption | refine Ex1 ?_ | refine Ex2 ?_ | refine Ex3 ?_ | refine Ex4 ?_ | refine Ex5 ?_))).mono ?_; rintro e w2 ⟨rfl,hx2⟩; have k2:=FG.out w2 (by (repeat first | exact Ex0 | assumption | refine Ex1 ?_ | refine Ex2 ?_ | refine Ex3 ?_ | refine Ex4 ?_ | refine Ex5 ?_))))
 all_goals go_end0
 all_goals exact ⟨rfl,w2,by (repeat first | exact Ex0 | assumption | refine Ex1 ?_ | refine Ex2 ?_ | refine Ex3 ?_ | refine Ex4 ?_ | refine Ex5 ?_),rfl⟩
theorem cset7_no (gc gg ff p:Nat) (old:Value) (s:List UInt8) (hs:s.length ≤ 65536) (line:Nat) (hn:numC s=none) (A:Option Addr) (m ac:Nat) (w:World) (h6:w.cell? ⟨p,6,none⟩=some (.int .i64 (line:Int))) (hE:ErrR w) (CG:∀ w',Ext w w' → Calls Tryz.prog 95 #[.pointer (some ⟨p,0,none⟩)] w' (Gives (.pointer (some ⟨gg,ff,none⟩)) w'))
  (hc:w.cell? ⟨gc,0,none⟩=some (.func (.func 95) #[] #[])) (hg:w.cell? ⟨gg,ff,none⟩=some old) (hgf:w.frozen? ⟨gg,ff,none⟩=false) (hr:Rd w A [.string (str s)]) (hm:0 < m) :
  Calls Tryz.prog 102 #[.pointer (some ⟨p,0,none⟩),.slice A m ac,.pointer (some ⟨gc,0,none⟩)] w fun e w'=>e=.panicked [{ v:=.iface 48 (.int .i64 (line:Int)),recovered:=false }]∧Ext w w':=by
 have HCG:=Lib.hid CG
 have FC:=Lib.hid (fun w' (e:Ext w w')=>(e.cell (p:=⟨gc,0,none⟩) (lt_of_cell hc)).trans hc)
 have FG:=Lib.hid (fun w' (e:Ext w w')=>And.intro ((e.cell (p:=⟨gg,ff,none⟩) (lt_of_cell hg)).trans hg) ((World.frozen?_of_block (a:=⟨gg,ff,none⟩) (e.block gg (lt_of_cell hg))).trans hgf))
 obtain ⟨b,g0,rfl,k0⟩:∃ b g,A=some ⟨b,g,none⟩∧w.cell? ⟨b,g,none⟩=some (.string (str s)):=by
  rcases hr with h | ⟨b,g,hA,hc⟩
  ·cases h
  ·exact ⟨b,g,hA,hc 0 _ rfl⟩
 have FA:=Lib.hid (fun w' (e:Ext w w')=>(e.cell (p:=⟨b,g0,none⟩) (lt_of_cell k0)).trans k0)
 have HE:=Lib.hid hE
 obtain ⟨sv,hsv⟩:∃ x,x=str s:=⟨_,rfl⟩
 have CN:=Lib.hid (fun w' (e:Ext w w')=>cnumber_no p line s hs hn w' (hE.ext e) ((e.cell (p:=⟨p,6,none⟩) (lt_of_cell h6)).trans h6))
 rw [← hsv] at CN FA k0
 have m1:(0:Int) < (m:Int):=by omega
 have j0:=FC.out w (Ext.rfl' w)
 clear hsv hr hE hn CG hc hg hgf h6
 go_enter Tryz.func102,Tryz.ntmps102
 have HS:Hid (∀ w',Ext w w' → (w'.cell? ⟨gc,0,none⟩=some (.func (.func 95) #[] #[])∧w'.cell? ⟨b,g0,none⟩=some (.string sv))):=Lib.hid (fun w' e=>⟨FC.out w' e,FA.out w' e⟩)
 refine wp_region_held_drew (S:=fun w'=>w'.cell? ⟨gc,0,none⟩=some (.func (.func 95) #[] #[])∧w'.cell? ⟨b,g0,none⟩=some (.string sv)) (by kernel_rfl) (HS.out _ (by (repeat first | exact Ex0 | assumption | refine Ex1 ?_ | refine Ex2 ?_ | refine Ex3 ?_ | refine Ex4 ?_ | refine Ex5 ?_))) (fun hHeld=>?_)
 refine wpAnyH_take (i:=0) (oi:=?_) (v:=?_) ?_ (by kernel_rfl) (by kernel_rfl) (by kernel_rfl) (fun _ _ _ h=>post_put h) (Or.inl ⟨?_,?_⟩) (by assumption) ?_
 rotate_left 2
 ·(simp only [List.getElem?_toArray,List.getElem?_cons_succ,List.getElem?_cons_zero]; first | done | rfl)
 ·rfl
 ·intro w hSw
  try dsimp only at hSw
  go_simp <;> with_reducible rfl
 try simp only [Act.put,List.setIfInBounds_toArray,List.set_cons_zero,List.set_cons_succ]
 refine wpAnyH_take (i:=1) (oi:=?_) (v:=?_) ?_ (by kernel_rfl) (by kernel_rfl) (by kernel_rfl) (fun _ _ _ h=>post_put h) (Or.inl ⟨?_,?_⟩) (by assumption) ?_
 rotate_left 2
 ·(simp only [List.getElem?_toArray,List.getElem?_cons_succ,List.getElem?_cons_zero]; first | done | rfl)
 ·rfl
 ·intro w hSw
  try dsimp only at hSw
  go_simp <;> with_reducible rfl
 try simp only [Act.put,List.setIfInBounds_toArray,List.set_cons_zero,List.set_cons_succ]
 refine wpAnyH_take (i:=3) (oi:=?_) (v:=?_) ?_ (by kernel_rfl) (by kernel_rfl) (by kernel_rfl) (fun _ _ _ h=>post_put h) (Or.inl ⟨?_,?_⟩) (by assumption) ?_
 rotate_left 2
 ·(simp only [List.getElem?_toArray,List.getElem?_cons_succ,List.getElem?_cons_zero]; first | done | rfl)
 ·rfl
 ·intro w hSw
  try dsimp only at hSw
  go_simp <;> with_reducible rfl
 try simp only [Act.put,List.setIfInBounds_toArray,List.set_cons_zero,List.set_cons_succ]
 refine wpAnyH_take (i:=4) (oi:=?_) (v:=?_) ?_ (by kernel_rfl) (by kernel_rfl) (by kernel_rfl) (fun _ _ _ h=>post_put h) (Or.inl ⟨?_,?_⟩) (by assumption) ?_
 rotate_left 2
 ·(simp only [List.getElem?_toArray,List.getElem?_cons_succ,List.getElem?_cons_zero]; first | done | rfl)
 ·rfl
 ·intro w hSw
  try dsimp only at hSw
  go_simp <;> with_reducible rfl
 try simp only [Act.put,List.setIfInBounds_toArray,List.set_cons_zero,List.set_cons_succ]
 refine wpAnyH_take (i:=5) (oi:=?_) (v:=?_) ?_ (by kernel_rfl) (by kernel_rfl) (by kernel_rfl) (fun _ _ _ h=>post_put h) (Or.inl ⟨?_,?_⟩) (by assumption) ?_
 rotate_left 2
 ·(simp only [List.getElem?_toArray,List.getElem?_cons_succ,List.getElem?_cons_zero]; first | done | rfl)
 ·rfl
 ·intro w hSw
  try dsimp only at hSw
  go_simp <;> with_reducible rfl
 try simp only [Act.put,List.setIfInBounds_toArray,List.set_cons_zero,List.set_cons_succ]
 refine wpAnyH_take (i:=6) (oi:=?_) (v:=?_) ?_ (by kernel_rfl) (by kernel_rfl) (by kernel_rfl) (fun _ _ _ h=>post_put h) (Or.inl ⟨?_,?_⟩) (by assumption) ?_
 rotate_left 2
 ·(simp only [List.getElem?_toArray,List.getElem?_cons_succ,List.getElem?_cons_zero]; first | done | rfl)
 ·rfl
 ·intro w hSw
  try dsimp only at hSw
  go_simp <;> with_reducible rfl
 try simp only [Act.put,List.setIfInBounds_toArray,List.set_cons_zero,List.set_cons_succ]
 refine wpAnyH_ready (rs:=[2]) (by kernel_rfl) (by simp) ?_
 refine AllReadyH.cons rfl (fun K hK=>?_) AllReadyH.nil
 go_simp
 go_at_call 95
 refine (HCG.out _ (by (repeat first | exact Ex0 | assumption | refine Ex1 ?_ | refine Ex2 ?_ | refine Ex3 ?_ | refine Ex4 ?_ | refine Ex5 ?_))).mono ?_
 rintro e w1 ⟨rfl,hx1⟩
 refine hK.out _ _ (HS.out _ (by (repeat first | exact Ex0 | assumption | refine Ex1 ?_ | refine Ex2 ?_ | refine Ex3 ?_ | refine Ex4 ?_ | refine Ex5 ?_))) (fun hHeld=>?_)
 clear hK K
 try simp only [Act.put,List.setIfInBounds_toArray,List.set_cons_zero,List.set_cons_succ]
 refine wpAnyH_ready (rs:=[7]) (by kernel_rfl) (by simp) ?_
 refine AllReadyH.cons rfl (fun K hK=>?_) AllReadyH.nil
 go_simp
 go_at_call 57
 refine (CN.out _ (by (repeat first | exact Ex0 | assumption | refine Ex1 ?_ | refine Ex2 ?_ | refine Ex3 ?_ | refine Ex4 ?_ | refine Ex5 ?_))).mono ?_
 rintro e w2 ⟨rfl,hx2⟩
 simp only [bodyPost]
 exact ⟨trivial,trivial,by (repeat first | exact Ex0 | assumption | refine Ex1 ?_ | refine Ex2 ?_ | refine Ex3 ?_ | refine Ex4 ?_ | refine Ex5 ?_)⟩
theorem cset8_yes (gc gg ff p:Nat) (old:Value) (s:List UInt8) (hs:s.length ≤ 65536) (n:Int) (hn:numC s=some n) (A:Option Addr) (m ac:Nat) (w:World) (hE:ErrR w) (CG:∀ w',Ext w w' → Calls Tryz.prog 96 #[.pointer (some ⟨p,0,none⟩)] w' (Gives (.pointer (some ⟨gg,ff,none⟩)) w'))
  (hc:w.cell? ⟨gc,0,none⟩=some (.func (.func 96) #[] #[])) (hg:w.cell? ⟨gg,ff,none⟩=some old) (hgf:w.frozen? ⟨gg,ff,none⟩=false) (hr:Rd w A [.string (str s)]) (hm:0 < m) :
  Calls Tryz.prog 102 #[.pointer (some ⟨p,0,none⟩),.slice A m ac,.pointer (some ⟨gc,0,none⟩)] w fun e w'=>e=.returned (.tuple #[])∧∃ w1,Ext w w1∧w'=w1.setCell ⟨gg,ff,none⟩ (.int .i64 n):=by
 have HCG:=Lib.hid CG
 have FC:=Lib.hid (fun w' (e:Ext w w')=>(e.cell (p:=⟨gc,0,none⟩) (lt_of_cell hc)).trans hc)
 have FG:=Lib.hid (fun w' (e:Ext w w')=>And.intro ((e.cell (p:=⟨gg,ff,none⟩) (lt_of_cell hg)).trans hg) ((World.frozen?_of_block (a:=⟨gg,ff,none⟩) (e.block gg (lt_of_cell hg))).trans hgf))
 obtain ⟨b,g0,rfl,k0⟩:∃ b g,A=some ⟨b,g,none⟩∧w.cell? ⟨b,g,none⟩=some (.string (str s)):=by
  rcases hr with h | ⟨b,g,hA,hc⟩
  ·cases h
  ·exact ⟨b,g,hA,hc 0 _ rfl⟩
 have FA:=Lib.hid (fun w' (e:Ext w w')=>(e.cell (p:=⟨b,g0,none⟩) (lt_of_cell k0)).trans k0)
 have HE:=Lib.hid hE
 obtain ⟨sv,hsv⟩:∃ x,x=str s:=⟨_,rfl⟩
 have CN:=Lib.hid (fun w' (e:Ext w w')=>cnumber_yes p s hs n hn w' (hE.ext e))
 rw [← hsv] at CN FA k0
 have m1:(0:Int) < (m:Int):=by omega
 have j0:=FC.out w (Ext.rfl' w)
 clear hsv hr hE hn CG hc hg hgf
 go_enter Tryz.func102,Tryz.ntmps102
 go_region_with (first
  | (go_at_call 96; refine (HCG.out _ (by (repeat first | exact Ex0 | assumption | refine Ex1 ?_ | refine Ex2 ?_ | refine Ex3 ?_ | refine Ex4 ?_ | refine Ex5 ?_))).mono ?_; rintro e w1 ⟨rfl,hx1⟩; have k1:=FA.out w1 (by (repeat first | exact Ex0 | assumption | refine Ex1 ?_ | refine Ex2 ?_ | refine Ex3 ?_ | refine Ex4 ?_ | refine Ex5 ?_)))
  | (go_at_call 57; refine (CN.out _ (by (repeat first | exact Ex0 | assumption | refine Ex1 ?_ | refine Ex2 ?_ | refine Ex3 ?_ | refine Ex4 ?_ | refine Ex5 ?_))).mono ?_; rintro e w2 ⟨rfl,hx2⟩; have k2:=FG.out w2 (by (repeat first | exact Ex0 | assumption | refine Ex1 ?_ | refine Ex2 ?_ | refine Ex3 ?_ | refine Ex4 ?_ | refine Ex5 ?_))))
 all_goals go_end0
 all_goals exact ⟨rfl,w2,by (repeat first | exact Ex0 | assumption | refine Ex1 ?_ | refine Ex2 ?_ | refine Ex3 ?_ | refine Ex4 ?_ | refine Ex5 ?_),rfl⟩
theorem cset8_no (gc gg ff p:Nat) (old:Value) (s:List UInt8) (hs:s.length ≤ 65536) (line:Nat) (hn:numC s=none) (A:Option Addr) (m ac:Nat) (w:World) (h6:w.cell? ⟨p,6,none⟩=some (.int .i64 (line:Int))) (hE:ErrR w) (CG:∀ w',Ext w w' → Calls Tryz.prog 96 #[.pointer (some ⟨p,0,none⟩)] w' (Gives (.pointer (some ⟨gg,ff,none⟩)) w'))
  (hc:w.cell? ⟨gc,0,none⟩=some (.func (.func 96) #[] #[])) (hg:w.cell? ⟨gg,ff,none⟩=some old) (hgf:w.frozen? ⟨gg,ff,none⟩=false) (hr:Rd w A [.string (str s)]) (hm:0 < m) :
  Calls Tryz.prog 102 #[.pointer (some ⟨p,0,none⟩),.slice A m ac,.pointer (some ⟨gc,0,none⟩)] w fun e w'=>e=.panicked [{ v:=.iface 48 (.int .i64 (line:Int)),recovered:=false }]∧Ext w w':=by
 have HCG:=Lib.hid CG
 have FC:=Lib.hid (fun w' (e:Ext w w')=>(e.cell (p:=⟨gc,0,none⟩) (lt_of_cell hc)).trans hc)
 have FG:=Lib.hid (fun w' (e:Ext w w')=>And.intro ((e.cell (p:=⟨gg,ff,none⟩) (lt_of_cell hg)).trans hg) ((World.frozen?_of_block (a:=⟨gg,ff,none⟩) (e.block gg (lt_of_cell hg))).trans hgf))
 obtain ⟨b,g0,rfl,k0⟩:∃ b g,A=some ⟨b,g,none⟩∧w.cell? ⟨b,g,none⟩=some (.string (str s)):=by
  rcases hr with h | ⟨b,g,hA,hc⟩
  ·cases h
  ·exact ⟨b,g,hA,hc 0 _ rfl⟩
 have FA:=Lib.hid (fun w' (e:Ext w w')=>(e.cell (p:=⟨b,g0,none⟩) (lt_of_cell k0)).trans k0)
 have HE:=Lib.hid hE
 obtain ⟨sv,hsv⟩:∃ x,x=str s:=⟨_,rfl⟩
 have CN:=Lib.hid (fun w' (e:Ext w w')=>cnumber_no p line s hs hn w' (hE.ext e) ((e.cell (p:=⟨p,6,none⟩) (lt_of_cell h6)).trans h6))
 rw [← hsv] at CN FA k0
 have m1:(0:Int) < (m:Int):=by omega
 have j0:=FC.out w (Ext.rfl' w)
 clear hsv hr hE hn CG hc hg hgf h6
 go_enter Tryz.func102,Tryz.ntmps102
 have HS:Hid (∀ w',Ext w w' → (w'.cell? ⟨gc,0,none⟩=some (.func (.func 96) #[] #[])∧w'.cell? ⟨b,g0,none⟩=some (.string sv))):=Lib.hid (fun w' e=>⟨FC.out w' e,FA.out w' e⟩)
 refine wp_region_held_drew (S:=fun w'=>w'.cell? ⟨gc,0,none⟩=some (.func (.func 96) #[] #[])∧w'.cell? ⟨b,g0,none⟩=some (.string sv)) (by kernel_rfl) (HS.out _ (by (repeat first | exact Ex0 | assumption | refine Ex1 ?_ | refine Ex2 ?_ | refine Ex3 ?_ | refine Ex4 ?_ | refine Ex5 ?_))) (fun hHeld=>?_)
 refine wpAnyH_take (i:=0) (oi:=?_) (v:=?_) ?_ (by kernel_rfl) (by kernel_rfl) (by kernel_rfl) (fun _ _ _ h=>post_put h) (Or.inl ⟨?_,?_⟩) (by assumption) ?_
 rotate_left 2
 ·(simp only [List.getElem?_toArray,List.getElem?_cons_succ,List.getElem?_cons_zero]; first | done | rfl)
 ·rfl
 ·intro w hSw
  try dsimp only at hSw
  go_simp <;> with_reducible rfl
 try simp only [Act.put,List.setIfInBounds_toArray,List.set_cons_zero,List.set_cons_succ]
 refine wpAnyH_take (i:=1) (oi:=?_) (v:=?_) ?_ (by kernel_rfl) (by kernel_rfl) (by kernel_rfl) (fun _ _ _ h=>post_put h) (Or.inl ⟨?_,?_⟩) (by assumption) ?_
 rotate_left 2
 ·(simp only [List.getElem?_toArray,List.getElem?_cons_succ,List.getElem?_cons_zero]; first | done | rfl)
 ·rfl
 ·intro w hSw
  try dsimp only at hSw
  go_simp <;> with_reducible rfl
 try simp only [Act.put,List.setIfInBounds_toArray,List.set_cons_zero,List.set_cons_succ]
 refine wpAnyH_take (i:=3) (oi:=?_) (v:=?_) ?_ (by kernel_rfl) (by kernel_rfl) (by kernel_rfl) (fun _ _ _ h=>post_put h) (Or.inl ⟨?_,?_⟩) (by assumption) ?_
 rotate_left 2
 ·(simp only [List.getElem?_toArray,List.getElem?_cons_succ,List.getElem?_cons_zero]; first | done | rfl)
 ·rfl
 ·intro w hSw
  try dsimp only at hSw
  go_simp <;> with_reducible rfl
 try simp only [Act.put,List.setIfInBounds_toArray,List.set_cons_zero,List.set_cons_succ]
 refine wpAnyH_take (i:=4) (oi:=?_) (v:=?_) ?_ (by kernel_rfl) (by kernel_rfl) (by kernel_rfl) (fun _ _ _ h=>post_put h) (Or.inl ⟨?_,?_⟩) (by assumption) ?_
 rotate_left 2
 ·(simp only [List.getElem?_toArray,List.getElem?_cons_succ,List.getElem?_cons_zero]; first | done | rfl)
 ·rfl
 ·intro w hSw
  try dsimp only at hSw
  go_simp <;> with_reducible rfl
 try simp only [Act.put,List.setIfInBounds_toArray,List.set_cons_zero,List.set_cons_succ]
 refine wpAnyH_take (i:=5) (oi:=?_) (v:=?_) ?_ (by kernel_rfl) (by kernel_rfl) (by kernel_rfl) (fun _ _ _ h=>post_put h) (Or.inl ⟨?_,?_⟩) (by assumption) ?_
 rotate_left 2
 ·(simp only [List.getElem?_toArray,List.getElem?_cons_succ,List.getElem?_cons_zero]; first | done | rfl)
 ·rfl
 ·intro w hSw
  try dsimp only at hSw
  go_simp <;> with_reducible rfl
 try simp only [Act.put,List.setIfInBounds_toArray,List.set_cons_zero,List.set_cons_succ]
 refine wpAnyH_take (i:=6) (oi:=?_) (v:=?_) ?_ (by kernel_rfl) (by kernel_rfl) (by kernel_rfl) (fun _ _ _ h=>post_put h) (Or.inl ⟨?_,?_⟩) (by assumption) ?_
 rotate_left 2
 ·(simp only [List.getElem?_toArray,List.getElem?_cons_succ,List.getElem?_cons_zero]; first | done | rfl)
 ·rfl
 ·intro w hSw
  try dsimp only at hSw
  go_simp <;> with_reducible rfl
 try simp only [Act.put,List.setIfInBounds_toArray,List.set_cons_zero,List.set_cons_succ]
 refine wpAnyH_ready (rs:=[2]) (by kernel_rfl) (by simp) ?_
 refine AllReadyH.cons rfl (fun K hK=>?_) AllReadyH.nil
 go_simp
 go_at_call 96
 refine (HCG.out _ (by (repeat first | exact Ex0 | assumption | refine Ex1 ?_ | refine Ex2 ?_ | refine Ex3 ?_ | refine Ex4 ?_ | refine Ex5 ?_))).mono ?_
 rintro e w1 ⟨rfl,hx1⟩
 refine hK.out _ _ (HS.out _ (by (repeat first | exact Ex0 | assumption | refine Ex1 ?_ | refine Ex2 ?_ | refine Ex3 ?_ | refine Ex4 ?_ | refine Ex5 ?_))) (fun hHeld=>?_)
 clear hK K
 try simp only [Act.put,List.setIfInBounds_toArray,List.set_cons_zero,List.set_cons_succ]
 refine wpAnyH_ready (rs:=[7]) (by kernel_rfl) (by simp) ?_
 refine AllReadyH.cons rfl (fun K hK=>?_) AllReadyH.nil
 go_simp
 go_at_call 57
 refine (CN.out _ (by (repeat first | exact Ex0 | assumption | refine Ex1 ?_ | refine Ex2 ?_ | refine Ex3 ?_ | refine Ex4 ?_ | refine Ex5 ?_))).mono ?_
 rintro e w2 ⟨rfl,hx2⟩
 simp only [bodyPost]
 exact ⟨trivial,trivial,by (repeat first | exact Ex0 | assumption | refine Ex1 ?_ | refine Ex2 ?_ | refine Ex3 ?_ | refine Ex4 ?_ | refine Ex5 ?_)⟩
theorem cset9_yes (gc gg ff p:Nat) (old:Value) (s:List UInt8) (hs:s.length ≤ 65536) (n:Int) (hn:numC s=some n) (A:Option Addr) (m ac:Nat) (w:World) (hE:ErrR w) (CG:∀ w',Ext w w' → Calls Tryz.prog 52 #[.pointer (some ⟨p,0,none⟩)] w' (Gives (.pointer (some ⟨gg,ff,none⟩)) w'))
  (hc:w.cell? ⟨gc,0,none⟩=some (.func (.func 52) #[] #[])) (hg:w.cell? ⟨gg,ff,none⟩=some old) (hgf:w.frozen? ⟨gg,ff,none⟩=false) (hr:Rd w A [.string (str s)]) (hm:0 < m) :
  Calls Tryz.prog 102 #[.pointer (some ⟨p,0,none⟩),.slice A m ac,.pointer (some ⟨gc,0,none⟩)] w fun e w'=>e=.returned (.tuple #[])∧∃ w1,Ext w w1∧w'=w1.setCell ⟨gg,ff,none⟩ (.int .i64 n):=by
 have HCG:=Lib.hid CG
 have FC:=Lib.hid (fun w' (e:Ext w w')=>(e.cell (p:=⟨gc,0,none⟩) (lt_of_cell hc)).trans hc)
 have FG:=Lib.hid (fun w' (e:Ext w w')=>And.intro ((e.cell (p:=⟨gg,ff,none⟩) (lt_of_cell hg)).trans hg) ((World.frozen?_of_block (a:=⟨gg,ff,none⟩) (e.block gg (lt_of_cell hg))).trans hgf))
 obtain ⟨b,g0,rfl,k0⟩:∃ b g,A=some ⟨b,g,none⟩∧w.cell? ⟨b,g,none⟩=some (.string (str s)):=by
  rcases hr with h | ⟨b,g,hA,hc⟩
  ·cases h
  ·exact ⟨b,g,hA,hc 0 _ rfl⟩
 have FA:=Lib.hid (fun w' (e:Ext w w')=>(e.cell (p:=⟨b,g0,none⟩) (lt_of_cell k0)).trans k0)
 have HE:=Lib.hid hE
 obtain ⟨sv,hsv⟩:∃ x,x=str s:=⟨_,rfl⟩
 have CN:=Lib.hid (fun w' (e:Ext w w')=>cnumber_yes p s hs n hn w' (hE.ext e))
 rw [← hsv] at CN FA k0
 have m1:(0:Int) < (m:Int):=by omega
 have j0:=FC.out w (Ext.rfl' w)
 clear hsv hr hE hn CG hc hg hgf
 go_enter Tryz.func102,Tryz.ntmps102
 go_region_with (first
  | (go_at_call 52; refine (HCG.out _ (by (repeat first | exact Ex0 | assumption | refine Ex1 ?_ | refine Ex2 ?_ | refine Ex3 ?_ | refine Ex4 ?_ | refine Ex5 ?_))).mono ?_; rintro e w1 ⟨rfl,hx1⟩; have k1:=FA.out w1 (by (repeat first | exact Ex0 | assumption | refine Ex1 ?_ | refine Ex2 ?_ | refine Ex3 ?_ | refine Ex4 ?_ | refine Ex5 ?_)))
  | (go_at_call 57; refine (CN.out _ (by (repeat first | exact Ex0 | assumption | refine Ex1 ?_ | refine Ex2 ?_ | refine Ex3 ?_ | refine Ex4 ?_ | refine Ex5 ?_))).mono ?_; rintro e w2 ⟨rfl,hx2⟩; have k2:=FG.out w2 (by (repeat first | exact Ex0 | assumption | refine Ex1 ?_ | refine Ex2 ?_ | refine Ex3 ?_ | refine Ex4 ?_ | refine Ex5 ?_))))
 all_goals go_end0
 all_goals exact ⟨rfl,w2,by (repeat first | exact Ex0 | assumption | refine Ex1 ?_ | refine Ex2 ?_ | refine Ex3 ?_ | refine Ex4 ?_ | refine Ex5 ?_),rfl⟩
theorem cset9_no (gc gg ff p:Nat) (old:Value) (s:List UInt8) (hs:s.length ≤ 65536) (line:Nat) (hn:numC s=none) (A:Option Addr) (m ac:Nat) (w:World) (h6:w.cell? ⟨p,6,none⟩=some (.int .i64 (line:Int))) (hE:ErrR w) (CG:∀ w',Ext w w' → Calls Tryz.prog 52 #[.pointer (some ⟨p,0,none⟩)] w' (Gives (.pointer (some ⟨gg,ff,none⟩)) w'))
  (hc:w.cell? ⟨gc,0,none⟩=some (.func (.func 52) #[] #[])) (hg:w.cell? ⟨gg,ff,none⟩=some old) (hgf:w.frozen? ⟨gg,ff,none⟩=false) (hr:Rd w A [.string (str s)]) (hm:0 < m) :
  Calls Tryz.prog 102 #[.pointer (some ⟨p,0,none⟩),.slice A m ac,.pointer (some ⟨gc,0,none⟩)] w fun e w'=>e=.panicked [{ v:=.iface 48 (.int .i64 (line:Int)),recovered:=false }]∧Ext w w':=by
 have HCG:=Lib.hid CG
 have FC:=Lib.hid (fun w' (e:Ext w w')=>(e.cell (p:=⟨gc,0,none⟩) (lt_of_cell hc)).trans hc)
 have FG:=Lib.hid (fun w' (e:Ext w w')=>And.intro ((e.cell (p:=⟨gg,ff,none⟩) (lt_of_cell hg)).trans hg) ((World.frozen?_of_block (a:=⟨gg,ff,none⟩) (e.block gg (lt_of_cell hg))).trans hgf))
 obtain ⟨b,g0,rfl,k0⟩:∃ b g,A=some ⟨b,g,none⟩∧w.cell? ⟨b,g,none⟩=some (.string (str s)):=by
  rcases hr with h | ⟨b,g,hA,hc⟩
  ·cases h
  ·exact ⟨b,g,hA,hc 0 _ rfl⟩
 have FA:=Lib.hid (fun w' (e:Ext w w')=>(e.cell (p:=⟨b,g0,none⟩) (lt_of_cell k0)).trans k0)
 have HE:=Lib.hid hE
 obtain ⟨sv,hsv⟩:∃ x,x=str s:=⟨_,rfl⟩
 have CN:=Lib.hid (fun w' (e:Ext w w')=>cnumber_no p line s hs hn w' (hE.ext e) ((e.cell (p:=⟨p,6,none⟩) (lt_of_cell h6)).trans h6))
 rw [← hsv] at CN FA k0
 have m1:(0:Int) < (m:Int):=by omega
 have j0:=FC.out w (Ext.rfl' w)
 clear hsv hr hE hn CG hc hg hgf h6
 go_enter Tryz.func102,Tryz.ntmps102
 have HS:Hid (∀ w',Ext w w' → (w'.cell? ⟨gc,0,none⟩=some (.func (.func 52) #[] #[])∧w'.cell? ⟨b,g0,none⟩=some (.string sv))):=Lib.hid (fun w' e=>⟨FC.out w' e,FA.out w' e⟩)
 refine wp_region_held_drew (S:=fun w'=>w'.cell? ⟨gc,0,none⟩=some (.func (.func 52) #[] #[])∧w'.cell? ⟨b,g0,none⟩=some (.string sv)) (by kernel_rfl) (HS.out _ (by (repeat first | exact Ex0 | assumption | refine Ex1 ?_ | refine Ex2 ?_ | refine Ex3 ?_ | refine Ex4 ?_ | refine Ex5 ?_))) (fun hHeld=>?_)
 refine wpAnyH_take (i:=0) (oi:=?_) (v:=?_) ?_ (by kernel_rfl) (by kernel_rfl) (by kernel_rfl) (fun _ _ _ h=>post_put h) (Or.inl ⟨?_,?_⟩) (by assumption) ?_
 rotate_left 2
 ·(simp only [List.getElem?_toArray,List.getElem?_cons_succ,List.getElem?_cons_zero]; first | done | rfl)
 ·rfl
 ·intro w hSw
  try dsimp only at hSw
  go_simp <;> with_reducible rfl
 try simp only [Act.put,List.setIfInBounds_toArray,List.set_cons_zero,List.set_cons_succ]
 refine wpAnyH_take (i:=1) (oi:=?_) (v:=?_) ?_ (by kernel_rfl) (by kernel_rfl) (by kernel_rfl) (fun _ _ _ h=>post_put h) (Or.inl ⟨?_,?_⟩) (by assumption) ?_
 rotate_left 2
 ·(simp only [List.getElem?_toArray,List.getElem?_cons_succ,List.getElem?_cons_zero]; first | done | rfl)
 ·rfl
 ·intro w hSw
  try dsimp only at hSw
  go_simp <;> with_reducible rfl
 try simp only [Act.put,List.setIfInBounds_toArray,List.set_cons_zero,List.set_cons_succ]
 refine wpAnyH_take (i:=3) (oi:=?_) (v:=?_) ?_ (by kernel_rfl) (by kernel_rfl) (by kernel_rfl) (fun _ _ _ h=>post_put h) (Or.inl ⟨?_,?_⟩) (by assumption) ?_
 rotate_left 2
 ·(simp only [List.getElem?_toArray,List.getElem?_cons_succ,List.getElem?_cons_zero]; first | done | rfl)
 ·rfl
 ·intro w hSw
  try dsimp only at hSw
  go_simp <;> with_reducible rfl
 try simp only [Act.put,List.setIfInBounds_toArray,List.set_cons_zero,List.set_cons_succ]
 refine wpAnyH_take (i:=4) (oi:=?_) (v:=?_) ?_ (by kernel_rfl) (by kernel_rfl) (by kernel_rfl) (fun _ _ _ h=>post_put h) (Or.inl ⟨?_,?_⟩) (by assumption) ?_
 rotate_left 2
 ·(simp only [List.getElem?_toArray,List.getElem?_cons_succ,List.getElem?_cons_zero]; first | done | rfl)
 ·rfl
 ·intro w hSw
  try dsimp only at hSw
  go_simp <;> with_reducible rfl
 try simp only [Act.put,List.setIfInBounds_toArray,List.set_cons_zero,List.set_cons_succ]
 refine wpAnyH_take (i:=5) (oi:=?_) (v:=?_) ?_ (by kernel_rfl) (by kernel_rfl) (by kernel_rfl) (fun _ _ _ h=>post_put h) (Or.inl ⟨?_,?_⟩) (by assumption) ?_
 rotate_left 2
 ·(simp only [List.getElem?_toArray,List.getElem?_cons_succ,List.getElem?_cons_zero]; first | done | rfl)
 ·rfl
 ·intro w hSw
  try dsimp only at hSw
  go_simp <;> with_reducible rfl
 try simp only [Act.put,List.setIfInBounds_toArray,List.set_cons_zero,List.set_cons_succ]
 refine wpAnyH_take (i:=6) (oi:=?_) (v:=?_) ?_ (by kernel_rfl) (by kernel_rfl) (by kernel_rfl) (fun _ _ _ h=>post_put h) (Or.inl ⟨?_,?_⟩) (by assumption) ?_
 rotate_left 2
 ·(simp only [List.getElem?_toArray,List.getElem?_cons_succ,List.getElem?_cons_zero]; first | done | rfl)
 ·rfl
 ·intro w hSw
  try dsimp only at hSw
  go_simp <;> with_reducible rfl
 try simp only [Act.put,List.setIfInBounds_toArray,List.set_cons_zero,List.set_cons_succ]
 refine wpAnyH_ready (rs:=[2]) (by kernel_rfl) (by simp) ?_
 refine AllReadyH.cons rfl (fun K hK=>?_) AllReadyH.nil
 go_simp
 go_at_call 52
 refine (HCG.out _ (by (repeat first | exact Ex0 | assumption | refine Ex1 ?_ | refine Ex2 ?_ | refine Ex3 ?_ | refine Ex4 ?_ | refine Ex5 ?_))).mono ?_
 rintro e w1 ⟨rfl,hx1⟩
 refine hK.out _ _ (HS.out _ (by (repeat first | exact Ex0 | assumption | refine Ex1 ?_ | refine Ex2 ?_ | refine Ex3 ?_ | refine Ex4 ?_ | refine Ex5 ?_))) (fun hHeld=>?_)
 clear hK K
 try simp only [Act.put,List.setIfInBounds_toArray,List.set_cons_zero,List.set_cons_succ]
 refine wpAnyH_ready (rs:=[7]) (by kernel_rfl) (by simp) ?_
 refine AllReadyH.cons rfl (fun K hK=>?_) AllReadyH.nil
 go_simp
 go_at_call 57
 refine (CN.out _ (by (repeat first | exact Ex0 | assumption | refine Ex1 ?_ | refine Ex2 ?_ | refine Ex3 ?_ | refine Ex4 ?_ | refine Ex5 ?_))).mono ?_
 rintro e w2 ⟨rfl,hx2⟩
 simp only [bodyPost]
 exact ⟨trivial,trivial,by (repeat first | exact Ex0 | assumption | refine Ex1 ?_ | refine Ex2 ?_ | refine Ex3 ?_ | refine Ex4 ?_ | refine Ex5 ?_)⟩
theorem cset10_yes (gc gg ff p:Nat) (old:Value) (s:List UInt8) (hs:s.length ≤ 65536) (n:Int) (hn:numC s=some n) (A:Option Addr) (m ac:Nat) (w:World) (hE:ErrR w) (CG:∀ w',Ext w w' → Calls Tryz.prog 53 #[.pointer (some ⟨p,0,none⟩)] w' (Gives (.pointer (some ⟨gg,ff,none⟩)) w'))
  (hc:w.cell? ⟨gc,0,none⟩=some (.func (.func 53) #[] #[])) (hg:w.cell? ⟨gg,ff,none⟩=some old) (hgf:w.frozen? ⟨gg,ff,none⟩=false) (hr:Rd w A [.string (str s)]) (hm:0 < m) :
  Calls Tryz.prog 102 #[.pointer (some ⟨p,0,none⟩),.slice A m ac,.pointer (some ⟨gc,0,none⟩)] w fun e w'=>e=.returned (.tuple #[])∧∃ w1,Ext w w1∧w'=w1.setCell ⟨gg,ff,none⟩ (.int .i64 n):=by
 have HCG:=Lib.hid CG
 have FC:=Lib.hid (fun w' (e:Ext w w')=>(e.cell (p:=⟨gc,0,none⟩) (lt_of_cell hc)).trans hc)
 have FG:=Lib.hid (fun w' (e:Ext w w')=>And.intro ((e.cell (p:=⟨gg,ff,none⟩) (lt_of_cell hg)).trans hg) ((World.frozen?_of_block (a:=⟨gg,ff,none⟩) (e.block gg (lt_of_cell hg))).trans hgf))
 obtain ⟨b,g0,rfl,k0⟩:∃ b g,A=some ⟨b,g,none⟩∧w.cell? ⟨b,g,none⟩=some (.string (str s)):=by
  rcases hr with h | ⟨b,g,hA,hc⟩
  ·cases h
  ·exact ⟨b,g,hA,hc 0 _ rfl⟩
 have FA:=Lib.hid (fun w' (e:Ext w w')=>(e.cell (p:=⟨b,g0,none⟩) (lt_of_cell k0)).trans k0)
 have HE:=Lib.hid hE
 obtain ⟨sv,hsv⟩:∃ x,x=str s:=⟨_,rfl⟩
 have CN:=Lib.hid (fun w' (e:Ext w w')=>cnumber_yes p s hs n hn w' (hE.ext e))
 rw [← hsv] at CN FA k0
 have m1:(0:Int) < (m:Int):=by omega
 have j0:=FC.out w (Ext.rfl' w)
 clear hsv hr hE hn CG hc hg hgf
 go_enter Tryz.func102,Tryz.ntmps102
 go_region_with (first
  | (go_at_call 53; refine (HCG.out _ (by (repeat first | exact Ex0 | assumption | refine Ex1 ?_ | refine Ex2 ?_ | refine Ex3 ?_ | refine Ex4 ?_ | refine Ex5 ?_))).mono ?_; rintro e w1 ⟨rfl,hx1⟩; have k1:=FA.out w1 (by (repeat first | exact Ex0 | assumption | refine Ex1 ?_ | refine Ex2 ?_ | refine Ex3 ?_ | refine Ex4 ?_ | refine Ex5 ?_)))
  | (go_at_call 57; refine (CN.out _ (by (repeat first | exact Ex0 | assumption | refine Ex1 ?_ | refine Ex2 ?_ | refine Ex3 ?_ | refine Ex4 ?_ | refine Ex5 ?_))).mono ?_; rintro e w2 ⟨rfl,hx2⟩; have k2:=FG.out w2 (by (repeat first | exact Ex0 | assumption | refine Ex1 ?_ | refine Ex2 ?_ | refine Ex3 ?_ | refine Ex4 ?_ | refine Ex5 ?_))))
 all_goals go_end0
 all_goals exact ⟨rfl,w2,by (repeat first | exact Ex0 | assumption | refine Ex1 ?_ | refine Ex2 ?_ | refine Ex3 ?_ | refine Ex4 ?_ | refine Ex5 ?_),rfl⟩
theorem cset10_no (gc gg ff p:Nat) (old:Value) (s:List UInt8) (hs:s.length ≤ 65536) (line:Nat) (hn:numC s=none) (A:Option Addr) (m ac:Nat) (w:World) (h6:w.cell? ⟨p,6,none⟩=some (.int .i64 (line:Int))) (hE:ErrR w) (CG:∀ w',Ext w w' → Calls Tryz.prog 53 #[.pointer (some ⟨p,0,none⟩)] w' (Gives (.pointer (some ⟨gg,ff,none⟩)) w'))
  (hc:w.cell? ⟨gc,0,none⟩=some (.func (.func 53) #[] #[])) (hg:w.cell? ⟨gg,ff,none⟩=some old) (hgf:w.frozen? ⟨gg,ff,none⟩=false) (hr:Rd w A [.string (str s)]) (hm:0 < m) :
  Calls Tryz.prog 102 #[.pointer (some ⟨p,0,none⟩),.slice A m ac,.pointer (some ⟨gc,0,none⟩)] w fun e w'=>e=.panicked [{ v:=.iface 48 (.int .i64 (line:Int)),recovered:=false }]∧Ext w w':=by
 have HCG:=Lib.hid CG
 have FC:=Lib.hid (fun w' (e:Ext w w')=>(e.cell (p:=⟨gc,0,none⟩) (lt_of_cell hc)).trans hc)
 have FG:=Lib.hid (fun w' (e:Ext w w')=>And.intro ((e.cell (p:=⟨gg,ff,none⟩) (lt_of_cell hg)).trans hg) ((World.frozen?_of_block (a:=⟨gg,ff,none⟩) (e.block gg (lt_of_cell hg))).trans hgf))
 obtain ⟨b,g0,rfl,k0⟩:∃ b g,A=some ⟨b,g,none⟩∧w.cell? ⟨b,g,none⟩=some (.string (str s)):=by
  rcases hr with h | ⟨b,g,hA,hc⟩
  ·cases h
  ·exact ⟨b,g,hA,hc 0 _ rfl⟩
 have FA:=Lib.hid (fun w' (e:Ext w w')=>(e.cell (p:=⟨b,g0,none⟩) (lt_of_cell k0)).trans k0)
 have HE:=Lib.hid hE
 obtain ⟨sv,hsv⟩:∃ x,x=str s:=⟨_,rfl⟩
 have CN:=Lib.hid (fun w' (e:Ext w w')=>cnumber_no p line s hs hn w' (hE.ext e) ((e.cell (p:=⟨p,6,none⟩) (lt_of_cell h6)).trans h6))
 rw [← hsv] at CN FA k0
 have m1:(0:Int) < (m:Int):=by omega
 have j0:=FC.out w (Ext.rfl' w)
 clear hsv hr hE hn CG hc hg hgf h6
 go_enter Tryz.func102,Tryz.ntmps102
 have HS:Hid (∀ w',Ext w w' → (w'.cell? ⟨gc,0,none⟩=some (.func (.func 53) #[] #[])∧w'.cell? ⟨b,g0,none⟩=some (.string sv))):=Lib.hid (fun w' e=>⟨FC.out w' e,FA.out w' e⟩)
 refine wp_region_held_drew (S:=fun w'=>w'.cell? ⟨gc,0,none⟩=some (.func (.func 53) #[] #[])∧w'.cell? ⟨b,g0,none⟩=some (.string sv)) (by kernel_rfl) (HS.out _ (by (repeat first | exact Ex0 | assumption | refine Ex1 ?_ | refine Ex2 ?_ | refine Ex3 ?_ | refine Ex4 ?_ | refine Ex5 ?_))) (fun hHeld=>?_)
 refine wpAnyH_take (i:=0) (oi:=?_) (v:=?_) ?_ (by kernel_rfl) (by kernel_rfl) (by kernel_rfl) (fun _ _ _ h=>post_put h) (Or.inl ⟨?_,?_⟩) (by assumption) ?_
 rotate_left 2
 ·(simp only [List.getElem?_toArray,List.getElem?_cons_succ,List.getElem?_cons_zero]; first | done | rfl)
 ·rfl
 ·intro w hSw
  try dsimp only at hSw
  go_simp <;> with_reducible rfl
 try simp only [Act.put,List.setIfInBounds_toArray,List.set_cons_zero,List.set_cons_succ]
 refine wpAnyH_take (i:=1) (oi:=?_) (v:=?_) ?_ (by kernel_rfl) (by kernel_rfl) (by kernel_rfl) (fun _ _ _ h=>post_put h) (Or.inl ⟨?_,?_⟩) (by assumption) ?_
 rotate_left 2
 ·(simp only [List.getElem?_toArray,List.getElem?_cons_succ,List.getElem?_cons_zero]; first | done | rfl)
 ·rfl
 ·intro w hSw
  try dsimp only at hSw
  go_simp <;> with_reducible rfl
 try simp only [Act.put,List.setIfInBounds_toArray,List.set_cons_zero,List.set_cons_succ]
 refine wpAnyH_take (i:=3) (oi:=?_) (v:=?_) ?_ (by kernel_rfl) (by kernel_rfl) (by kernel_rfl) (fun _ _ _ h=>post_put h) (Or.inl ⟨?_,?_⟩) (by assumption) ?_
 rotate_left 2
 ·(simp only [List.getElem?_toArray,List.getElem?_cons_succ,List.getElem?_cons_zero]; first | done | rfl)
 ·rfl
 ·intro w hSw
  try dsimp only at hSw
  go_simp <;> with_reducible rfl
 try simp only [Act.put,List.setIfInBounds_toArray,List.set_cons_zero,List.set_cons_succ]
 refine wpAnyH_take (i:=4) (oi:=?_) (v:=?_) ?_ (by kernel_rfl) (by kernel_rfl) (by kernel_rfl) (fun _ _ _ h=>post_put h) (Or.inl ⟨?_,?_⟩) (by assumption) ?_
 rotate_left 2
 ·(simp only [List.getElem?_toArray,List.getElem?_cons_succ,List.getElem?_cons_zero]; first | done | rfl)
 ·rfl
 ·intro w hSw
  try dsimp only at hSw
  go_simp <;> with_reducible rfl
 try simp only [Act.put,List.setIfInBounds_toArray,List.set_cons_zero,List.set_cons_succ]
 refine wpAnyH_take (i:=5) (oi:=?_) (v:=?_) ?_ (by kernel_rfl) (by kernel_rfl) (by kernel_rfl) (fun _ _ _ h=>post_put h) (Or.inl ⟨?_,?_⟩) (by assumption) ?_
 rotate_left 2
 ·(simp only [List.getElem?_toArray,List.getElem?_cons_succ,List.getElem?_cons_zero]; first | done | rfl)
 ·rfl
 ·intro w hSw
  try dsimp only at hSw
  go_simp <;> with_reducible rfl
 try simp only [Act.put,List.setIfInBounds_toArray,List.set_cons_zero,List.set_cons_succ]
 refine wpAnyH_take (i:=6) (oi:=?_) (v:=?_) ?_ (by kernel_rfl) (by kernel_rfl) (by kernel_rfl) (fun _ _ _ h=>post_put h) (Or.inl ⟨?_,?_⟩) (by assumption) ?_
 rotate_left 2
 ·(simp only [List.getElem?_toArray,List.getElem?_cons_succ,List.getElem?_cons_zero]; first | done | rfl)
 ·rfl
 ·intro w hSw
  try dsimp only at hSw
  go_simp <;> with_reducible rfl
 try simp only [Act.put,List.setIfInBounds_toArray,List.set_cons_zero,List.set_cons_succ]
 refine wpAnyH_ready (rs:=[2]) (by kernel_rfl) (by simp) ?_
 refine AllReadyH.cons rfl (fun K hK=>?_) AllReadyH.nil
 go_simp
 go_at_call 53
 refine (HCG.out _ (by (repeat first | exact Ex0 | assumption | refine Ex1 ?_ | refine Ex2 ?_ | refine Ex3 ?_ | refine Ex4 ?_ | refine Ex5 ?_))).mono ?_
 rintro e w1 ⟨rfl,hx1⟩
 refine hK.out _ _ (HS.out _ (by (repeat first | exact Ex0 | assumption | refine Ex1 ?_ | refine Ex2 ?_ | refine Ex3 ?_ | refine Ex4 ?_ | refine Ex5 ?_))) (fun hHeld=>?_)
 clear hK K
 try simp only [Act.put,List.setIfInBounds_toArray,List.set_cons_zero,List.set_cons_succ]
 refine wpAnyH_ready (rs:=[7]) (by kernel_rfl) (by simp) ?_
 refine AllReadyH.cons rfl (fun K hK=>?_) AllReadyH.nil
 go_simp
 go_at_call 57
 refine (CN.out _ (by (repeat first | exact Ex0 | assumption | refine Ex1 ?_ | refine Ex2 ?_ | refine Ex3 ?_ | refine Ex4 ?_ | refine Ex5 ?_))).mono ?_
 rintro e w2 ⟨rfl,hx2⟩
 simp only [bodyPost]
 exact ⟨trivial,trivial,by (repeat first | exact Ex0 | assumption | refine Ex1 ?_ | refine Ex2 ?_ | refine Ex3 ?_ | refine Ex4 ?_ | refine Ex5 ?_)⟩
end Go.Proofs.YtmnohicojefhfaaGreatDoor
