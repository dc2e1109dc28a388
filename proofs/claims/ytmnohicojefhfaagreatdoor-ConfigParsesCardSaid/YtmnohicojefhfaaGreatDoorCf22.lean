/-
The directive limit: its contract.
-/
import Derived.Test.YtmnohicojefhfaaGreatDoorCFe
set_option maxRecDepth 100000
set_option maxHeartbeats 8000000
set_option linter.unusedVariables false
set_option linter.unusedSimpArgs false
namespace Go.Proofs.YtmnohicojefhfaaGreatDoor
open Go.RowKit
theorem limit_yy (w:World) (o:Ow) (p line:Nat) (c:Cf14) (h:CfAt w o p c line) (hE:ErrR w) (hL:LocOk c) (hM:CfB 1099511627776 c) (s t:List UInt8) (hs:s.length ≤ 65536) (ht:t.length ≤ 65536) (n m:Int) (hn:numC s=some n) (hm':numC t=some m) (A:Option Addr) (ac:Nat) (hr:Rd w A (strC [s,t])) :
  Calls Tryz.prog 56 #[.pointer (some ⟨p,0,none⟩),.slice A 2 ac] w (DoQ w o p line (doD .limit [s,t] c)):=by
 obtain ⟨U,UA,uc,S,SA,sc,h⟩:=h
 obtain ⟨a,x,g,f,rfl,rfl,hl,hcs,hg,hce⟩:=h.srX hL.ne
 obtain ⟨lo,l,g2,f2,hlo,hA2,hg2,hce2⟩:=h.loX (hL.last hcs)
 have h5:=h.c5
 rw [hl] at h5
 have hm:a.length < 1099511627776:=by have:=hM.srvs; omega
 have hm2:lo.length < 1099511627776:=by
  have:=hM.locs x.1 (by rw [hcs]; simp)
  rw [hlo,List.length_append,List.length_singleton] at this; omega
 have h2:=(hce 2 _ rfl).1
 rw [hA2,hlo,show (lo ++ [l]).length=lo.length + 1 from by simp] at h2
 have HL:=Lib.hid (fun (w':World) (e:Ext w w')=>cloc_c p g f a.length sc g2 f2 lo.length x.2.2.2 w' hm hm2 ((e.cell (lt_of_cell h5)).trans h5) ((e.cell (lt_of_cell h2)).trans h2))
 have HC:=Lib.hid h
 obtain ⟨F,hF⟩:∃ F,F=f2 + lo.length * 12:=⟨_,rfl⟩
 rw [← hF] at HL hce2
 have FG:=Lib.hid (fun (w':World) (e:Ext w w') (j:Nat) (u:Value) (hu:(loV l)[j]?=some u)=>And.intro ((e.cell (p:=⟨g2,F + j,none⟩) hg2).trans (hce2 j u hu).1) ((World.frozen?_of_block (a:=⟨g2,F + j,none⟩) (e.block g2 hg2)).trans (hce2 j u hu).2))
 have HF:=Lib.hid hF
 have HLO:=Lib.hid (And.intro hlo hA2)
 have HCS:=Lib.hid hcs
 clear hF h2 h5 hl hce hce2 hlo hA2 hcs h
 obtain ⟨bA,gA,rfl,kA,kB⟩:∃ b g,A=some ⟨b,g,none⟩∧w.cell? ⟨b,g,none⟩=some (.string (str s))∧w.cell? ⟨b,g + 1,none⟩=some (.string (str t)):=by
  rcases hr with h | ⟨b,g,hA,hc⟩
  ·cases h
  ·exact ⟨b,g,hA,hc 0 _ rfl,hc 1 _ rfl⟩
 have FA:=Lib.hid (fun (w':World) (e:Ext w w')=>And.intro ((e.cell (p:=⟨bA,gA,none⟩) (lt_of_cell kA)).trans kA) ((e.cell (p:=⟨bA,gA + 1,none⟩) (lt_of_cell kB)).trans kB))
 clear hr kA kB
 have HT:Hid (∀ w1,Ext w w1 → DoQ w o p line (doD .limit [s,t] c) (.returned (.tuple #[])) ((w1.setCell ⟨g2,F + 8,none⟩ (.int .i64 n)).setCell ⟨g2,F + 9,none⟩ (.int .i64 m))):=Lib.hid (fun w1 hx=>by
  have h1:=(HC.out.ext hx).lo5 HLO.out.1 HLO.out.2 (l':={ l with rate:=n }) 8 (by omega) (.int .i64 n) rfl
  have hT:=h1.1.lo5 (lo:=lo) (l:={ l with rate:=n }) rfl HLO.out.2 (l':={ l with rate:=n,burst:=m }) 9 (by omega) (.int .i64 m) rfl
  rw [← Nat.add_assoc,← HF.out] at h1 hT
  rw [← Nat.add_assoc,← HF.out] at hT
  exact DoQ.yes (c:=cfLo c fun l=>{ l with rate:=n,burst:=m }) (by simp [doD,hn,hm']) ((Stp.ext hx).tr (h1.2.tr hT.2)) ⟨_,_,_,_,_,_,by rw [cfLo_eq HCS.out HLO.out.1]; exact hT.1⟩)
 have CN:=Lib.hid (fun w' (e:Ext w w')=>cnumber_yes p s hs n hn w' (hE.ext e))
 have CM:=Lib.hid (fun w' (e:Ext w w')=>cnumber_yes p t ht m hm' w' (hE.ext e))
 obtain ⟨sv,hsv⟩:∃ v,v=str s:=⟨_,rfl⟩
 obtain ⟨tv,htv⟩:∃ v,v=str t:=⟨_,rfl⟩
 rw [← hsv] at FA CN
 rw [← htv] at FA CM
 clear hsv htv hE hn hm' hs ht
 have k0:=(FA.out w (Ext.rfl' w)).1
 have k9:=(FA.out w (Ext.rfl' w)).2
 go_enter Tryz.func56,Tryz.ntmps56
 go_region_with (first
  | (go_at_call 49; refine (HL.out _ (by (repeat first | exact Ex0 | assumption | refine Ex1 ?_ | refine Ex2 ?_ | refine Ex3 ?_ | refine Ex4 ?_ | refine Ex5 ?_))).mono ?_; rintro e w1 ⟨rfl,hx1⟩; have k5:=(FA.out w1 (by (repeat first | exact Ex0 | assumption | refine Ex1 ?_ | refine Ex2 ?_ | refine Ex3 ?_ | refine Ex4 ?_ | refine Ex5 ?_))).1; have k6:=(FA.out w1 (by (repeat first | exact Ex0 | assumption | refine Ex1 ?_ | refine Ex2 ?_ | refine Ex3 ?_ | refine Ex4 ?_ | refine Ex5 ?_))).2)
  | (go_at_call 57; refine (CN.out _ (by (repeat first | exact Ex0 | assumption | refine Ex1 ?_ | refine Ex2 ?_ | refine Ex3 ?_ | refine Ex4 ?_ | refine Ex5 ?_))).mono ?_; rintro e w2 ⟨rfl,hx2⟩; have k5:=(FA.out w2 (by (repeat first | exact Ex0 | assumption | refine Ex1 ?_ | refine Ex2 ?_ | refine Ex3 ?_ | refine Ex4 ?_ | refine Ex5 ?_))).2; clear CN)
  | (go_at_call 57; refine (CM.out _ (by (repeat first | exact Ex0 | assumption | refine Ex1 ?_ | refine Ex2 ?_ | refine Ex3 ?_ | refine Ex4 ?_ | refine Ex5 ?_))).mono ?_; rintro e w3 ⟨rfl,hx3⟩; have k1:=(FG.out w3 (by (repeat first | exact Ex0 | assumption | refine Ex1 ?_ | refine Ex2 ?_ | refine Ex3 ?_ | refine Ex4 ?_ | refine Ex5 ?_)) 8 _ rfl).1; have k2:=(FG.out w3 (by (repeat first | exact Ex0 | assumption | refine Ex1 ?_ | refine Ex2 ?_ | refine Ex3 ?_ | refine Ex4 ?_ | refine Ex5 ?_)) 8 _ rfl).2; have k3:=(FG.out w3 (by (repeat first | exact Ex0 | assumption | refine Ex1 ?_ | refine Ex2 ?_ | refine Ex3 ?_ | refine Ex4 ?_ | refine Ex5 ?_)) 9 _ rfl).1; have k4:=(FG.out w3 (by (repeat first | exact Ex0 | assumption | refine Ex1 ?_ | refine Ex2 ?_ | refine Ex3 ?_ | refine Ex4 ?_ | refine Ex5 ?_)) 9 _ rfl).2))
 all_goals go_end0
 all_goals exact HT.out _ (by (repeat first | exact Ex0 | assumption | refine Ex1 ?_ | refine Ex2 ?_ | refine Ex3 ?_ | refine Ex4 ?_ | refine Ex5 ?_))
end Go.Proofs.YtmnohicojefhfaaGreatDoor
