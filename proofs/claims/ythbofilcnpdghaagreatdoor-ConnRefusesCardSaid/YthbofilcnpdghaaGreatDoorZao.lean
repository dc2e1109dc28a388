/-
Head's field: a line behind the first one.
-/
import Derived.Test.YthbofilcnpdghaaGreatDoorZan
set_option maxRecDepth 100000
set_option maxHeartbeats 8000000
set_option linter.unusedVariables false
set_option linter.unusedSimpArgs false
section
namespace Go.Proofs.YthbofilcnpdghaaGreatDoor
open Go.RowKit
theorem Value_h (l:List UInt8) (hs:l.length ≤ maxLen) (w:World):Calls Tryz.prog 80 #[.string (str l)] w (Gives (.bool (vlL l)) w):=Value_c l hs w
theorem PsAt.dn {w:World} {o:Ow} {k P:Nat} {s:Pst} (h:PsAt w o k P s):PsAt (w.setCell ⟨P,4,none⟩ (.bool true)) o k P { s with done:=true }:=by
 obtain ⟨A,c,B,d,hr,h1,h2,h3,h4⟩:=h.row
 exact PsAt.of h.own (hr.set 4 _ rfl) (h1.stp (Stp.set (K:=fun i=>i=k) P 4 _ (fun _=>h.own)) (by omega)) h2 (h3.stp (Stp.set (K:=fun i=>i=k) P 4 _ (fun _=>h.own)) (by omega)) h4
theorem hField_done (k P:Nat) (s:Pst) (w:World) (o:Ow) (h:PsAt w o k P s) :
  Calls Tryz.prog 51 #[.pointer (some ⟨P,0,none⟩),.string (str [])] w (TurnsP k w o P (fldP s [])):=by
 obtain ⟨A,c,B,d,hr,h1,h2,h3,h4⟩:=h.row
 have c4:=hr.c4
 have f4:=hr.fz 4 (by decide)
 have HE:=Lib.hid h
 have HQ:=Lib.hid (show fldP s []=({ s with done:=true },0) from if_pos rfl)
 clear hr h1 h2 h3 h4 h
 rw [show str ([]:List UInt8)=⟨#[]⟩ from rfl]
 go_enter Tryz.func51,Tryz.ntmps51
 go_wp2
 refine bodyPost_ret (results_none rfl _ _ _) rfl ?_
 rw [HQ.out]
 exact ⟨rfl,o,HE.out.dn,set_stp 4 _ HE.out.own⟩
theorem hField_nocut (k P:Nat) (s:Pst) (l:List UInt8) (hne:l ≠ []) (hno:58 ∉ l) (w:World) (o:Ow) (h:PsAt w o k P s) :
  Calls Tryz.prog 51 #[.pointer (some ⟨P,0,none⟩),.string (str l)] w (TurnsP k w o P (fldP s l)):=by
 have HE:=Lib.hid h
 have HQ:=Lib.hid (show fldP s l=(s,42) from by unfold fldP fldV; rw [if_neg hne,cutW_no hno])
 have CC:=Lib.hid (fun w=>Cut_no l 58 hno w)
 have CT:=Lib.hid (fun w=>show Calls Tryz.prog 79 #[.string ⟨#[]⟩] w (Gives (.string (str (trimL []))) w) from Trim_c [] (by decide) w)
 have e1:l.isEmpty=false:=by rw [List.isEmpty_eq_false_iff]; exact hne
 have e2:(str l).toList.isEmpty=false:=by rw [Lib.toList_data]; exact e1
 clear hno hne h
 go_enter Tryz.func51,Tryz.ntmps51
 go_wp2_with (first
  | (go_at_call 78; refine (CC.out _).mono ?_; rintro e w2 ⟨rfl,rfl⟩)
  | (go_at_call 79; refine (CT.out _).mono ?_; rintro e w3 ⟨rfl,hx3⟩)
  | (go_at_call 53; refine (demand_c _ _ _).mono ?_; rintro e w6 ⟨hy,hn,rfl⟩; first | (obtain rfl:=hy rfl; clear hy hn) | (obtain rfl:=hn rfl; clear hy hn)))
 simp only [bodyPost]
 rw [HQ.out]
 refine ⟨trivial,rfl,o,HE.out.ext (by (repeat first | exact Ex0 | assumption | refine Ex1 ?_ | refine Ex2 ?_ | refine Ex3 ?_ | refine Ex4 ?_ | refine Ex5 ?_)),Stp.ext (by (repeat first | exact Ex0 | assumption | refine Ex1 ?_ | refine Ex2 ?_ | refine Ex3 ?_ | refine Ex4 ?_ | refine Ex5 ?_))⟩
theorem hField_bad (k P:Nat) (s:Pst) (a r:List UInt8) (hno:58 ∉ a) (hl:(a ++ 58 :: r).length ≤ 8192) (hbad:(tokL a && vlL (trimL r))=false) (w:World) (o:Ow) (h:PsAt w o k P s) :
  Calls Tryz.prog 51 #[.pointer (some ⟨P,0,none⟩),.string (str (a ++ 58 :: r))] w (TurnsP k w o P (fldP s (a ++ 58 :: r))):=by
 obtain ⟨A,c,B,d,hr,h1,h2,hs,hm⟩:=h.row
 have HROW:=Lib.hid hr
 have HE:=Lib.hid h
 have HS:=Lib.hid hs
 have HQ:=Lib.hid (show fldP s (a ++ 58 :: r)=(s,42) from by unfold fldP fldV; rw [if_neg (by simp),cutW_at r hno]; dsimp only; rw [hbad]; rfl)
 clear hr h1 h2 hs h
 obtain ⟨sl,hsl⟩:∃ q,q=str (a ++ 58 :: r):=⟨_,rfl⟩
 have e2:sl.toList.isEmpty=false:=by rw [hsl,Lib.toList_data]; rw [List.isEmpty_eq_false_iff]; simp
 have htl:=trim_len r
 have CC:=fun w=>Cut_at a r 58 hno (by unfold maxLen; simp at hl; omega) w
 have CT:=Lib.hid (fun w=>Trim_c r (by unfold maxLen; simp at hl; omega) w)
 have CK:=fun w=>Token_h a (by unfold maxLen; simp at hl; omega) w
 have CV:=fun w=>Value_h (trimL r) (by unfold maxLen; simp at hl; omega) w
 rw [← hsl] at CC ⊢
 obtain ⟨v,hv⟩:∃ v,v=trimL r:=⟨_,rfl⟩
 have CT:Hid (∀ w,Calls Tryz.prog 79 #[.string (str r)] w (Gives (.string (str v)) w)):=by rw [hv]; exact CT
 rw [← hv] at CV
 have CC:=Lib.hid CC
 rw [← hv] at hbad
 obtain ⟨gt,hgt⟩:∃ g,g=tokL a:=⟨_,rfl⟩
 obtain ⟨gv,hgv⟩:∃ g,g=vlL v:=⟨_,rfl⟩
 rw [← hgt] at CK hbad
 rw [← hgv] at CV hbad
 have CK:=Lib.hid CK
 have CV:=Lib.hid CV
 obtain ⟨R,hR⟩:∃ R,R=fldP s (a ++ 58 :: r):=⟨_,rfl⟩
 rw [← hR] at HQ ⊢
 clear hgt hgv hv hno hl hsl htl hR
 cases gt with
 | false =>
  clear hbad
  go_enter Tryz.func51,Tryz.ntmps51
  go_wp2_with (first
   | (go_at_call 78; refine (CC.out _).mono ?_; rintro e w2 ⟨rfl,q,rfl⟩)
   | (go_at_call 79; refine (CT.out _).mono ?_; rintro e w3 ⟨rfl,hx3⟩)
   | (go_at_call 54; refine (CK.out _).mono ?_; rintro e w4 ⟨rfl,hx4⟩)
   | (go_at_call 80; refine (CV.out _).mono ?_; rintro e w5 ⟨rfl,hx5⟩; have hxa:Ext w w5:=(by (repeat first | exact Ex0 | assumption | refine Ex1 ?_ | refine Ex2 ?_ | refine Ex3 ?_ | refine Ex4 ?_ | refine Ex5 ?_)); have hr5:=HROW.out.ext hxa; have c15:=hr5.c15; have f15:=hr5.fz 15 (by decide))
   | (go_at_call 53; refine (demand_c _ _ _).mono ?_; rintro e w6 ⟨hy,hn,rfl⟩; first | (obtain rfl:=hy rfl; clear hy hn) | (obtain rfl:=hn rfl; clear hy hn) | (obtain rfl:=hy d9; clear hy hn) | (obtain rfl:=hn d9; clear hy hn))
   | (at_builtin; refine wpL_put slt_fld (.tmp 41) (.tmp 45) rfl rfl rfl rfl ((HS.out.ext hxa).ext (Ext.al (Ext.rfl' w5) _)) hm (Src.ofSlice (size:=2) _ Tryz.underlying34 ⟨w5.heap.size,0,none⟩ 1 1 [.string (str a),.string (str v)] (by simp) (new_cells w5 #[.string (str a),.string (str v)] 72) (by simp [Value.oneCell'])) (by omega) (by simp only [maxLen]; omega) ?_; intro A7 c7 w7 o7 hs7 hst7 hn7; have st7:Stp (fun i=>i=k + 2) w o w7 o7:=(Stp.ext (hxa.al _)).tr hst7; have hr7:Prow w7 P s A c B d:=(st7.keep P (row_lt HROW.out) (by rw [HE.out.own]; omega)).trans HROW.out; have k15:=hr7.c15; have g15:=hr7.fz 15 (by decide); clear c15 f15 hr5))
  simp only [bodyPost]
  rw [HQ.out]
  refine ⟨trivial,rfl,o,HE.out.ext (by (repeat first | exact Ex0 | assumption | refine Ex1 ?_ | refine Ex2 ?_ | refine Ex3 ?_ | refine Ex4 ?_ | refine Ex5 ?_)),Stp.ext (by (repeat first | exact Ex0 | assumption | refine Ex1 ?_ | refine Ex2 ?_ | refine Ex3 ?_ | refine Ex4 ?_ | refine Ex5 ?_))⟩
 | true =>
  rw [Bool.true_and] at hbad
  subst hbad
  go_enter Tryz.func51,Tryz.ntmps51
  go_wp2_with (first
   | (go_at_call 78; refine (CC.out _).mono ?_; rintro e w2 ⟨rfl,q,rfl⟩)
   | (go_at_call 79; refine (CT.out _).mono ?_; rintro e w3 ⟨rfl,hx3⟩)
   | (go_at_call 54; refine (CK.out _).mono ?_; rintro e w4 ⟨rfl,hx4⟩)
   | (go_at_call 80; refine (CV.out _).mono ?_; rintro e w5 ⟨rfl,hx5⟩; have hxa:Ext w w5:=(by (repeat first | exact Ex0 | assumption | refine Ex1 ?_ | refine Ex2 ?_ | refine Ex3 ?_ | refine Ex4 ?_ | refine Ex5 ?_)); have hr5:=HROW.out.ext hxa; have c15:=hr5.c15; have f15:=hr5.fz 15 (by decide))
   | (go_at_call 53; refine (demand_c _ _ _).mono ?_; rintro e w6 ⟨hy,hn,rfl⟩; first | (obtain rfl:=hy rfl; clear hy hn) | (obtain rfl:=hn rfl; clear hy hn) | (obtain rfl:=hy d9; clear hy hn) | (obtain rfl:=hn d9; clear hy hn))
   | (at_builtin; refine wpL_put slt_fld (.tmp 41) (.tmp 45) rfl rfl rfl rfl ((HS.out.ext hxa).ext (Ext.al (Ext.rfl' w5) _)) hm (Src.ofSlice (size:=2) _ Tryz.underlying34 ⟨w5.heap.size,0,none⟩ 1 1 [.string (str a),.string (str v)] (by simp) (new_cells w5 #[.string (str a),.string (str v)] 72) (by simp [Value.oneCell'])) (by omega) (by simp only [maxLen]; omega) ?_; intro A7 c7 w7 o7 hs7 hst7 hn7; have st7:Stp (fun i=>i=k + 2) w o w7 o7:=(Stp.ext (hxa.al _)).tr hst7; have hr7:Prow w7 P s A c B d:=(st7.keep P (row_lt HROW.out) (by rw [HE.out.own]; omega)).trans HROW.out; have k15:=hr7.c15; have g15:=hr7.fz 15 (by decide); clear c15 f15 hr5))
  simp only [bodyPost]
  rw [HQ.out]
  refine ⟨trivial,rfl,o,HE.out.ext (by (repeat first | exact Ex0 | assumption | refine Ex1 ?_ | refine Ex2 ?_ | refine Ex3 ?_ | refine Ex4 ?_ | refine Ex5 ?_)),Stp.ext (by (repeat first | exact Ex0 | assumption | refine Ex1 ?_ | refine Ex2 ?_ | refine Ex3 ?_ | refine Ex4 ?_ | refine Ex5 ?_))⟩
theorem hField_long (k P:Nat) (s:Pst) (a r:List UInt8) (hno:58 ∉ a) (hl:(a ++ 58 :: r).length ≤ 8192) (hgood:(tokL a && vlL (trimL r))=true) (hf:¬ s.fields.length < 100) (w:World) (o:Ow) (h:PsAt w o k P s) :
  Calls Tryz.prog 51 #[.pointer (some ⟨P,0,none⟩),.string (str (a ++ 58 :: r))] w (TurnsP k w o P (fldP s (a ++ 58 :: r))):=by
 obtain ⟨A,c,B,d,hr,h1,h2,hs,hm⟩:=h.row
 have HROW:=Lib.hid hr
 have HE:=Lib.hid h
 have HS:=Lib.hid hs
 have HQ:=Lib.hid (show fldP s (a ++ 58 :: r)=(s,44) from by unfold fldP fldV; rw [if_neg (by simp),cutW_at r hno]; dsimp only; rw [hgood]; exact if_neg hf)
 clear hr h1 h2 hs h
 obtain ⟨sl,hsl⟩:∃ q,q=str (a ++ 58 :: r):=⟨_,rfl⟩
 have e2:sl.toList.isEmpty=false:=by rw [hsl,Lib.toList_data]; rw [List.isEmpty_eq_false_iff]; simp
 have htl:=trim_len r
 have CC:=fun w=>Cut_at a r 58 hno (by unfold maxLen; simp at hl; omega) w
 have CT:=Lib.hid (fun w=>Trim_c r (by unfold maxLen; simp at hl; omega) w)
 have CK:=fun w=>Token_h a (by unfold maxLen; simp at hl; omega) w
 have CV:=fun w=>Value_h (trimL r) (by unfold maxLen; simp at hl; omega) w
 rw [← hsl] at CC ⊢
 obtain ⟨v,hv⟩:∃ v,v=trimL r:=⟨_,rfl⟩
 have CT:Hid (∀ w,Calls Tryz.prog 79 #[.string (str r)] w (Gives (.string (str v)) w)):=by rw [hv]; exact CT
 rw [← hv] at CV
 have CC:=Lib.hid CC
 rw [← hv] at hgood
 rw [Bool.and_eq_true] at hgood
 rw [hgood.1] at CK
 rw [hgood.2] at CV
 have CK:=Lib.hid CK
 have CV:=Lib.hid CV
 obtain ⟨R,hR⟩:∃ R,R=fldP s (a ++ 58 :: r):=⟨_,rfl⟩
 rw [← hR] at HQ ⊢
 have d9:decide ((s.fields.length:Int) < 100)=false:=decide_eq_false (by omega)
 clear hgood hv hno hl hsl htl hR
 go_enter Tryz.func51,Tryz.ntmps51
 go_wp2_with (first
  | (go_at_call 78; refine (CC.out _).mono ?_; rintro e w2 ⟨rfl,q,rfl⟩)
  | (go_at_call 79; refine (CT.out _).mono ?_; rintro e w3 ⟨rfl,hx3⟩)
  | (go_at_call 54; refine (CK.out _).mono ?_; rintro e w4 ⟨rfl,hx4⟩)
  | (go_at_call 80; refine (CV.out _).mono ?_; rintro e w5 ⟨rfl,hx5⟩; have hxa:Ext w w5:=(by (repeat first | exact Ex0 | assumption | refine Ex1 ?_ | refine Ex2 ?_ | refine Ex3 ?_ | refine Ex4 ?_ | refine Ex5 ?_)); have hr5:=HROW.out.ext hxa; have c15:=hr5.c15; have f15:=hr5.fz 15 (by decide))
  | (go_at_call 53; refine (demand_c _ _ _).mono ?_; rintro e w6 ⟨hy,hn,rfl⟩; first | (obtain rfl:=hy rfl; clear hy hn) | (obtain rfl:=hn rfl; clear hy hn) | (obtain rfl:=hy d9; clear hy hn) | (obtain rfl:=hn d9; clear hy hn))
  | (at_builtin; refine wpL_put slt_fld (.tmp 41) (.tmp 45) rfl rfl rfl rfl ((HS.out.ext hxa).ext (Ext.al (Ext.rfl' w5) _)) hm (Src.ofSlice (size:=2) _ Tryz.underlying34 ⟨w5.heap.size,0,none⟩ 1 1 [.string (str a),.string (str v)] (by simp) (new_cells w5 #[.string (str a),.string (str v)] 72) (by simp [Value.oneCell'])) (by omega) (by simp only [maxLen]; omega) ?_; intro A7 c7 w7 o7 hs7 hst7 hn7; have st7:Stp (fun i=>i=k + 2) w o w7 o7:=(Stp.ext (hxa.al _)).tr hst7; have hr7:Prow w7 P s A c B d:=(st7.keep P (row_lt HROW.out) (by rw [HE.out.own]; omega)).trans HROW.out; have k15:=hr7.c15; have g15:=hr7.fz 15 (by decide); clear c15 f15 hr5))
 simp only [bodyPost]
 rw [HQ.out]
 refine ⟨trivial,rfl,o,HE.out.ext (by (repeat first | exact Ex0 | assumption | refine Ex1 ?_ | refine Ex2 ?_ | refine Ex3 ?_ | refine Ex4 ?_ | refine Ex5 ?_)),Stp.ext (by (repeat first | exact Ex0 | assumption | refine Ex1 ?_ | refine Ex2 ?_ | refine Ex3 ?_ | refine Ex4 ?_ | refine Ex5 ?_))⟩
theorem hField_good (k P:Nat) (s:Pst) (a r:List UInt8) (hno:58 ∉ a) (hl:(a ++ 58 :: r).length ≤ 8192) (hgood:(tokL a && vlL (trimL r))=true) (hf:s.fields.length < 100) (w:World) (o:Ow) (h:PsAt w o k P s) :
  Calls Tryz.prog 51 #[.pointer (some ⟨P,0,none⟩),.string (str (a ++ 58 :: r))] w (TurnsP k w o P (fldP s (a ++ 58 :: r))):=by
 obtain ⟨A,c,B,d,hr,h1,h2,hs,hm⟩:=h.row
 have HROW:=Lib.hid hr
 have HE:=Lib.hid h
 have HS:=Lib.hid hs
 have HL:=Lib.hid (And.intro h1 h2)
 have HQ:=Lib.hid (show fldP s (a ++ 58 :: r)=({ s with fields:=s.fields ++ [(a,trimL r)] },0) from by unfold fldP fldV; rw [if_neg (by simp),cutW_at r hno]; dsimp only; rw [hgood]; exact if_pos hf)
 clear hr h1 h2 hs h
 obtain ⟨sl,hsl⟩:∃ q,q=str (a ++ 58 :: r):=⟨_,rfl⟩
 have e2:sl.toList.isEmpty=false:=by rw [hsl,Lib.toList_data]; rw [List.isEmpty_eq_false_iff]; simp
 have htl:=trim_len r
 have CC:=fun w=>Cut_at a r 58 hno (by unfold maxLen; simp at hl; omega) w
 have CT:=Lib.hid (fun w=>Trim_c r (by unfold maxLen; simp at hl; omega) w)
 have CK:=fun w=>Token_h a (by unfold maxLen; simp at hl; omega) w
 have CV:=fun w=>Value_h (trimL r) (by unfold maxLen; simp at hl; omega) w
 rw [← hsl] at CC ⊢
 obtain ⟨v,hv⟩:∃ v,v=trimL r:=⟨_,rfl⟩
 have CT:Hid (∀ w,Calls Tryz.prog 79 #[.string (str r)] w (Gives (.string (str v)) w)):=by rw [hv]; exact CT
 rw [← hv] at CV
 have CC:=Lib.hid CC
 rw [← hv] at hgood HQ
 rw [Bool.and_eq_true] at hgood
 rw [hgood.1] at CK
 rw [hgood.2] at CV
 have CK:=Lib.hid CK
 have CV:=Lib.hid CV
 obtain ⟨R,hR⟩:∃ R,R=fldP s (a ++ 58 :: r):=⟨_,rfl⟩
 rw [← hR] at HQ ⊢
 have d9:decide ((s.fields.length:Int) < 100)=true:=decide_eq_true (by omega)
 clear hgood hv hno hl hsl htl hR
 go_enter Tryz.func51,Tryz.ntmps51
 go_wp2_with (first
  | (go_at_call 78; refine (CC.out _).mono ?_; rintro e w2 ⟨rfl,q,rfl⟩)
  | (go_at_call 79; refine (CT.out _).mono ?_; rintro e w3 ⟨rfl,hx3⟩)
  | (go_at_call 54; refine (CK.out _).mono ?_; rintro e w4 ⟨rfl,hx4⟩)
  | (go_at_call 80; refine (CV.out _).mono ?_; rintro e w5 ⟨rfl,hx5⟩; have hxa:Ext w w5:=(by (repeat first | exact Ex0 | assumption | refine Ex1 ?_ | refine Ex2 ?_ | refine Ex3 ?_ | refine Ex4 ?_ | refine Ex5 ?_)); have hr5:=HROW.out.ext hxa; have c15:=hr5.c15; have f15:=hr5.fz 15 (by decide))
  | (go_at_call 53; refine (demand_c _ _ _).mono ?_; rintro e w6 ⟨hy,hn,rfl⟩; first | (obtain rfl:=hy rfl; clear hy hn) | (obtain rfl:=hn rfl; clear hy hn) | (obtain rfl:=hy d9; clear hy hn) | (obtain rfl:=hn d9; clear hy hn))
  | (at_builtin; refine wpL_put slt_fld (.tmp 41) (.tmp 45) rfl rfl rfl rfl ((HS.out.ext hxa).ext (Ext.al (Ext.rfl' w5) _)) hm (Src.ofSlice (size:=2) _ Tryz.underlying34 ⟨w5.heap.size,0,none⟩ 1 1 [.string (str a),.string (str v)] (by simp) (new_cells w5 #[.string (str a),.string (str v)] 72) (by simp [Value.oneCell'])) (by omega) (by simp only [maxLen]; omega) ?_; intro A7 c7 w7 o7 hs7 hst7 hn7; have st7:Stp (fun i=>i=k + 2) w o w7 o7:=(Stp.ext (hxa.al _)).tr hst7; have hr7:Prow w7 P s A c B d:=(st7.keep P (row_lt HROW.out) (by rw [HE.out.own]; omega)).trans HROW.out; have k15:=hr7.c15; have g15:=hr7.fz 15 (by decide); clear c15 f15 hr5))
 go_end0
 rw [HQ.out]
 have hp7:o7 P=k:=by rw [st7.own P (row_lt HROW.out)]; exact HE.out.own
 have stf:Stp (fun i=>i=k) w7 o7 (w7.setCell ⟨P,15,none⟩ (.slice A7 (s.fields.length + 1) c7)) o7:=Stp.set P 15 _ (fun _=>hp7)
 have hlen:(s.fields ++ [(a,v)]).length=s.fields.length + 1:=by simp
 refine ⟨rfl,o7,PsAt.of hp7 (A:=A) (c:=c) (B:=A7) (d:=c7) ?_ ((HL.out.1.stp st7 (by omega)).stp stf (by omega)) HL.out.2 ?_ hn7,(st7.mono fun i hi=>.inr (.inr hi)).tr (stf.mono fun i hi=>.inl hi)⟩
 ·exact hr7.set 15 _ (by simp [Pst.cells])
 ·rw [hlen,fc_app]
  exact hs7.stp stf (by omega)
theorem hField_c (k P:Nat) (s:Pst) (l:List UInt8) (hl:l.length ≤ 8192) (w:World) (o:Ow) (h:PsAt w o k P s) :
  Calls Tryz.prog 51 #[.pointer (some ⟨P,0,none⟩),.string (str l)] w (TurnsP k w o P (fldP s l)):=by
 by_cases hl0:l=[]
 ·subst hl0; exact hField_done k P s w o h
 ·rcases cut_cases l 58 with hno | ⟨a,r,rfl,hno⟩
  ·exact hField_nocut k P s l hl0 hno w o h
  ·cases hg:(tokL a && vlL (trimL r)) with
   | false=>exact hField_bad k P s a r hno hl hg w o h
   | true =>
    by_cases hf:s.fields.length < 100
    ·exact hField_good k P s a r hno hl hg hf w o h
    ·exact hField_long k P s a r hno hl hg hf w o h
end Go.Proofs.YthbofilcnpdghaaGreatDoor
end
section
namespace Go.Proofs.YthbofilcnpdghaaGreatDoor
open Go.RowKit
theorem line_c (k P:Nat) (hk:0 < k) (s:Pst) (hs:Pok s) (l:List UInt8) (hl:l.length ≤ 8192) (w:World) (o:Ow) (h:PsAt w o k P s) (hG:Gl w o) :
  Calls Tryz.prog s.nx #[.pointer (some ⟨P,0,none⟩),.string (str l)] w (TurnsP k w o P (lineP s l)):=by
 rcases hs.nx with e | e | e
 ·rw [e,show lineP s l=reqP s l from if_pos e]
  exact hRequest_c k P hk s l hl w o h hG
 ·rw [e,show lineP s l=rspP s l from by unfold lineP; rw [if_neg (by rw [e]; decide),if_pos e]]
  exact hResponse_c k P hk s l hl w o h hG
 ·rw [e,show lineP s l=fldP s l from by unfold lineP; rw [if_neg (by rw [e]; decide),if_neg (by rw [e]; decide)]]
  exact hField_c k P s l hl w o h
theorem PsAt.al {w:World} {o:Ow} {k P:Nat} {s:Pst} (h:PsAt w o k P s):PsAt (w.setCell ⟨P,5,none⟩ (.int .i64 ((s.all + 1:Nat):Int))) o k P { s with all:=s.all + 1 }:=by
 obtain ⟨A,c,B,d,hr,h1,h2,h3,h4⟩:=h.row
 exact PsAt.of h.own (hr.set 5 _ rfl) (h1.stp (Stp.set (K:=fun i=>i=k) P 5 _ (fun _=>h.own)) (by omega)) h2 (h3.stp (Stp.set (K:=fun i=>i=k) P 5 _ (fun _=>h.own)) (by omega)) h4
theorem PsAt.crs {w:World} {o:Ow} {k P:Nat} {s:Pst} (h:PsAt w o k P s) (b:Bool):PsAt (w.setCell ⟨P,3,none⟩ (.bool b)) o k P { s with cr:=b }:=by
 obtain ⟨A,c,B,d,hr,h1,h2,h3,h4⟩:=h.row
 exact PsAt.of h.own (hr.set 3 _ rfl) (h1.stp (Stp.set (K:=fun i=>i=k) P 3 _ (fun _=>h.own)) (by omega)) h2 (h3.stp (Stp.set (K:=fun i=>i=k) P 3 _ (fun _=>h.own)) (by omega)) h4
theorem PsAt.nol {w:World} {o:Ow} {k P:Nat} {s:Pst} {A B:Option Addr} {c d:Nat} (h:o P=k) (hr:Prow w P s A c B d) (h1:Sl w o (k + 1) 1 A s.line.length c (bc s.line)) (h2:A=none → c=0) (h3:Sl w o (k + 2) 2 B s.fields.length d (fc s.fields)) (h4:B=none → d=0) :
  PsAt (w.setCell ⟨P,2,none⟩ (.slice A 0 c)) o k P { s with line:=[] }:=by
 have st:Stp (fun i=>i=k) w o (w.setCell ⟨P,2,none⟩ (.slice A 0 c)) o:=Stp.set P 2 _ (fun _=>h)
 have h0:=h1.take 0 (Nat.zero_le _)
 exact PsAt.of h (hr.set 2 _ rfl) (by simpa [bc] using h0.stp st (by omega)) h2 (h3.stp st (by omega)) h4
end Go.Proofs.YthbofilcnpdghaaGreatDoor
end
section
namespace Go.Proofs.YthbofilcnpdghaaGreatDoor
open Go.RowKit
theorem hTake_long (k P:Nat) (s:Pst) (hs:Pok s) (c:UInt8) (hlong:32768 ≤ s.all) (w:World) (o:Ow) (h:PsAt w o k P s) :
  Calls Tryz.prog 47 #[.pointer (some ⟨P,0,none⟩),.int .u8 (c.toNat:Int)] w (TurnsP k w o P (takeP s c)):=by
 obtain ⟨A,m,B,d,hr,h1,h2,h3,h4⟩:=h.row
 have c2:=hr.c2
 have c3:=hr.c3
 have c5:=hr.c5
 have c8:=hr.c8
 have f2:=hr.fz 2 (by decide)
 have f3:=hr.fz 3 (by decide)
 have f5:=hr.fz 5 (by decide)
 have HE:=Lib.hid h
 have HR:=Lib.hid hr
 have HS:=Lib.hid h1
 have HN:=Lib.hid h2
 have HF:=Lib.hid (And.intro h3 h4)
 have hal:=hs.al
 have hln:=hs.ln
 have HOK:=Lib.hid hs
 obtain ⟨n1,hn1⟩:∃ n,n=s.all + 1:=⟨_,rfl⟩
 have s1:IntKind.i64.wrap ((s.all:Int) + 1)=(n1:Int):=by rw [IntKind.wrap_i64]; omega
 have HAL:=Lib.hid (show PsAt (w.setCell ⟨P,5,none⟩ (.int .i64 (n1:Int))) o k P { s with all:=n1 } from by rw [hn1]; exact h.al)
 obtain ⟨b,hb⟩:∃ b,b=c.toNat:=⟨_,rfl⟩
 have h256:=UInt8.toNat_lt c
 rw [← hb] at h256 ⊢
 clear hr h1 h2 h3 h4 h hs
 have HQ:=Lib.hid (show takeP s c=({ s with all:=n1 },44) from by unfold takeP; rw [if_pos hlong,hn1])
 have d9:decide ((n1:Int) ≤ 32768)=false:=decide_eq_false (by omega)
 clear hn1 hb
 go_enter Tryz.func47,Tryz.ntmps47
 go_wp2_with (first
  | (go_at_call 53; refine (demand_c _ _ _).mono ?_; rintro e w6 ⟨hy,hn,rfl⟩; first | (obtain rfl:=hy rfl; clear hy hn) | (obtain rfl:=hn rfl; clear hy hn) | (obtain rfl:=hy d9; clear hy hn) | (obtain rfl:=hn d9; clear hy hn)))
 simp only [bodyPost]
 rw [HQ.out]
 exact ⟨trivial,rfl,o,HAL.out,set_stp 5 _ HE.out.own⟩
theorem hTake_cr (k P:Nat) (s:Pst) (hs:Pok s) (c:UInt8) (hlong:¬ 32768 ≤ s.all) (hcr:s.cr=false) (hc:c=13) (w:World) (o:Ow) (h:PsAt w o k P s) :
  Calls Tryz.prog 47 #[.pointer (some ⟨P,0,none⟩),.int .u8 (c.toNat:Int)] w (TurnsP k w o P (takeP s c)):=by
 obtain ⟨A,m,B,d,hr,h1,h2,h3,h4⟩:=h.row
 have c2:=hr.c2
 have c3:=hr.c3
 have c5:=hr.c5
 have c8:=hr.c8
 have f2:=hr.fz 2 (by decide)
 have f3:=hr.fz 3 (by decide)
 have f5:=hr.fz 5 (by decide)
 have HE:=Lib.hid h
 have HR:=Lib.hid hr
 have HS:=Lib.hid h1
 have HN:=Lib.hid h2
 have HF:=Lib.hid (And.intro h3 h4)
 have hal:=hs.al
 have hln:=hs.ln
 have HOK:=Lib.hid hs
 obtain ⟨n1,hn1⟩:∃ n,n=s.all + 1:=⟨_,rfl⟩
 have s1:IntKind.i64.wrap ((s.all:Int) + 1)=(n1:Int):=by rw [IntKind.wrap_i64]; omega
 have HAL:=Lib.hid (show PsAt (w.setCell ⟨P,5,none⟩ (.int .i64 (n1:Int))) o k P { s with all:=n1 } from by rw [hn1]; exact h.al)
 obtain ⟨b,hb⟩:∃ b,b=c.toNat:=⟨_,rfl⟩
 have h256:=UInt8.toNat_lt c
 rw [← hb] at h256 ⊢
 clear hr h1 h2 h3 h4 h hs
 have HQ:=Lib.hid (show takeP s c=({ s with all:=n1,cr:=true },0) from by unfold takeP; rw [if_neg hlong,if_neg (by rw [hcr]; decide),if_pos hc,hn1])
 have d9:decide ((n1:Int) ≤ 32768)=true:=decide_eq_true (by omega)
 rw [hcr] at c3
 obtain rfl:b=13:=by rw [hb,hc]; rfl
 clear hn1 hb
 go_enter Tryz.func47,Tryz.ntmps47
 go_wp2_with (first
  | (go_at_call 53; refine (demand_c _ _ _).mono ?_; rintro e w6 ⟨hy,hn,rfl⟩; first | (obtain rfl:=hy rfl; clear hy hn) | (obtain rfl:=hn rfl; clear hy hn) | (obtain rfl:=hy d9; clear hy hn) | (obtain rfl:=hn d9; clear hy hn)))
 go_end0
 rw [HQ.out]
 exact ⟨rfl,o,HAL.out.crs true,(set_stp 5 _ HE.out.own).tr (set_stp 3 _ HE.out.own)⟩
theorem hTake_nolf (k P:Nat) (s:Pst) (hs:Pok s) (c:UInt8) (hlong:¬ 32768 ≤ s.all) (hcr:s.cr=true) (hc:c ≠ 10) (w:World) (o:Ow) (h:PsAt w o k P s) :
  Calls Tryz.prog 47 #[.pointer (some ⟨P,0,none⟩),.int .u8 (c.toNat:Int)] w (TurnsP k w o P (takeP s c)):=by
 obtain ⟨A,m,B,d,hr,h1,h2,h3,h4⟩:=h.row
 have c2:=hr.c2
 have c3:=hr.c3
 have c5:=hr.c5
 have c8:=hr.c8
 have f2:=hr.fz 2 (by decide)
 have f3:=hr.fz 3 (by decide)
 have f5:=hr.fz 5 (by decide)
 have HE:=Lib.hid h
 have HR:=Lib.hid hr
 have HS:=Lib.hid h1
 have HN:=Lib.hid h2
 have HF:=Lib.hid (And.intro h3 h4)
 have hal:=hs.al
 have hln:=hs.ln
 have HOK:=Lib.hid hs
 obtain ⟨n1,hn1⟩:∃ n,n=s.all + 1:=⟨_,rfl⟩
 have s1:IntKind.i64.wrap ((s.all:Int) + 1)=(n1:Int):=by rw [IntKind.wrap_i64]; omega
 have HAL:=Lib.hid (show PsAt (w.setCell ⟨P,5,none⟩ (.int .i64 (n1:Int))) o k P { s with all:=n1 } from by rw [hn1]; exact h.al)
 obtain ⟨b,hb⟩:∃ b,b=c.toNat:=⟨_,rfl⟩
 have h256:=UInt8.toNat_lt c
 rw [← hb] at h256 ⊢
 clear hr h1 h2 h3 h4 h hs
 have HQ:=Lib.hid (show takeP s c=({ s with all:=n1,cr:=false },22) from by unfold takeP; rw [if_neg hlong,if_pos hcr,if_neg hc,hn1])
 have d9:decide ((n1:Int) ≤ 32768)=true:=decide_eq_true (by omega)
 rw [hcr] at c3
 have d1:((b:Int) == 10)=false:=by rw [beq_eq_false_iff_ne]; intro e; exact hc (UInt8.toNat_inj.1 (by rw [← hb]; show b=10; omega))
 clear hn1 hb hc
 go_enter Tryz.func47,Tryz.ntmps47
 go_wp2_with (first
  | (go_at_call 53; refine (demand_c _ _ _).mono ?_; rintro e w6 ⟨hy,hn,rfl⟩; first | (obtain rfl:=hy rfl; clear hy hn) | (obtain rfl:=hn rfl; clear hy hn) | (obtain rfl:=hy d9; clear hy hn) | (obtain rfl:=hn d9; clear hy hn)))
 simp only [bodyPost]
 rw [HQ.out]
 exact ⟨trivial,rfl,o,HAL.out.crs false,(set_stp 5 _ HE.out.own).tr (set_stp 3 _ HE.out.own)⟩
theorem cut_none (A:Option Addr) (n c:Nat):∀ w',(Instr.slice 22 (.slice A n c) none (some (.int .i64 0)) none).run Tryz.prog w'=.ok (.slice A 0 c) w':=by
 intro w'
 have hz:∀ w',(Go.sizeOf 5).run Tryz.prog w'=.ok 1 w':=fun _=>rfl
 have hu:=Tryz.underlying22
 have h1:(0:Int) ≤ (c:Int):=by omega
 simp [Instr.slice,Instr.sliceBounds,Instr.sliceBound,asIntOf,run_underlying hu,go_sem,h1,hz]
end Go.Proofs.YthbofilcnpdghaaGreatDoor
end
section
namespace Go.Proofs.YthbofilcnpdghaaGreatDoor
open Go.RowKit
theorem hTake_lf (k P:Nat) (hk:0 < k) (s:Pst) (hs:Pok s) (c:UInt8) (hlong:¬ 32768 ≤ s.all) (hcr:s.cr=true) (hc:c=10) (w:World) (o:Ow) (h:PsAt w o k P s) (hG:Gl w o) :
  Calls Tryz.prog 47 #[.pointer (some ⟨P,0,none⟩),.int .u8 (c.toNat:Int)] w (TurnsP k w o P (takeP s c)):=by
 obtain ⟨A,m,B,d,hr,h1,h2,h3,h4⟩:=h.row
 have c2:=hr.c2
 have c3:=hr.c3
 have c5:=hr.c5
 have c8:=hr.c8
 have f2:=hr.fz 2 (by decide)
 have f3:=hr.fz 3 (by decide)
 have f5:=hr.fz 5 (by decide)
 have HE:=Lib.hid h
 have HR:=Lib.hid hr
 have HS:=Lib.hid h1
 have HN:=Lib.hid h2
 have HF:=Lib.hid (And.intro h3 h4)
 have hal:=hs.al
 have hln:=hs.ln
 have HOK:=Lib.hid hs
 obtain ⟨n1,hn1⟩:∃ n,n=s.all + 1:=⟨_,rfl⟩
 have s1:IntKind.i64.wrap ((s.all:Int) + 1)=(n1:Int):=by rw [IntKind.wrap_i64]; omega
 have HAL:=Lib.hid (show PsAt (w.setCell ⟨P,5,none⟩ (.int .i64 (n1:Int))) o k P { s with all:=n1 } from by rw [hn1]; exact h.al)
 obtain ⟨b,hb⟩:∃ b,b=c.toNat:=⟨_,rfl⟩
 have h256:=UInt8.toNat_lt c
 rw [← hb] at h256 ⊢
 clear hr h1 h2 h3 h4 h hs
 have HQ:=Lib.hid (show takeP s c=lineP { s with all:=n1,cr:=false,line:=[] } s.line from by unfold takeP; rw [if_neg hlong,if_pos hcr,if_pos hc,hn1])
 have d9:decide ((n1:Int) ≤ 32768)=true:=decide_eq_true (by omega)
 rw [hcr] at c3
 obtain rfl:b=10:=by rw [hb,hc]; rfl
 have hok3:Pok { s with all:=n1,cr:=false,line:=[] }:=⟨HOK.out.e0,HOK.out.d0,by dsimp only; omega,Nat.zero_le _,HOK.out.fl,HOK.out.em,HOK.out.nx⟩
 have t1:Stp (fun i=>i=k) w o (w.setCell ⟨P,5,none⟩ (.int .i64 (n1:Int))) o:=Stp.set P 5 _ (fun _=>HE.out.own)
 have t2:Stp (fun i=>i=k) w o ((w.setCell ⟨P,5,none⟩ (.int .i64 (n1:Int))).setCell ⟨P,3,none⟩ (.bool false)) o:=t1.tr (Stp.set P 3 _ (fun _=>HE.out.own))
 have hr2:Prow ((w.setCell ⟨P,5,none⟩ (.int .i64 (n1:Int))).setCell ⟨P,3,none⟩ (.bool false)) P { s with all:=n1,cr:=false } A m B d:=(HR.out.set 5 (.int .i64 (n1:Int)) (s':={ s with all:=n1 }) rfl).set 3 (.bool false) rfl
 have hp3:=Lib.hid (PsAt.nol (w:=(w.setCell ⟨P,5,none⟩ (.int .i64 (n1:Int))).setCell ⟨P,3,none⟩ (.bool false)) (s:={ s with all:=n1,cr:=false }) HE.out.own hr2 (HS.out.stp t2 (by omega)) HN.out (HF.out.1.stp t2 (by omega)) HF.out.2)
 have t3:=Lib.hid ((t2.mono (L:=KP k) fun i hi=>.inl hi).tr (set_stp 2 (.slice A 0 m) HE.out.own))
 have CL:=Lib.hid (line_c k P hk _ hok3 s.line hln _ o hp3.out (hG.stp t3.out (by unfold KP; omega)))
 have CV:=conv_bs 22 9 5 Tryz.underlying22 Tryz.underlying5 Tryz.underlying9 ((HS.out.stp t2 (by omega)).rd) s.line.length m rfl
 have CN:=cut_none A s.line.length m
 obtain ⟨sl,hsl⟩:∃ q,q=str s.line:=⟨_,rfl⟩
 rw [← hsl] at CL CV
 clear hn1 hb hr2 t1 t2 hok3 hsl hG hc
 obtain ⟨q,hq⟩:∃ q,q=lineP { s with all:=n1,cr:=false,line:=[] } s.line:=⟨_,rfl⟩
 rw [← hq] at CL HQ
 clear hq
 have T3:=t3
 obtain ⟨W3,hW3⟩:∃ W,W=((w.setCell ⟨P,5,none⟩ (.int .i64 (n1:Int))).setCell ⟨P,3,none⟩ (.bool false)).setCell ⟨P,2,none⟩ (.slice A 0 m):=⟨_,rfl⟩
 rw [← hW3] at T3
 have HW3:=Lib.hid hW3
 clear hW3 hp3
 by_cases h0:q.2=0
 ·have CL2:=Lib.hid (CL.out.mono (R':=fun r w'=>r=.returned (.tuple #[])∧∃ o',PsAt w' o' k P q.1∧Stp (KP k) W3 o w' o') (by rintro r w' ⟨rfl,h⟩; exact ⟨by rw [h0]; rfl,by rw [HW3.out]; exact h⟩))
  have H0:=Lib.hid h0
  clear h0 CL
  rcases HOK.out.nx with e | e | e
  ·rw [e] at c8 CL2
   clear e
   go_enter Tryz.func47,Tryz.ntmps47
   go_wp2_with (first
    | (go_at_call 37; refine (CL2.out).mono ?_; rintro e w4 ⟨rfl,o4,hp4,st4⟩)
    | (go_at_call 38; refine (CL2.out).mono ?_; rintro e w4 ⟨rfl,o4,hp4,st4⟩)
    | (go_at_call 51; refine (CL2.out).mono ?_; rintro e w4 ⟨rfl,o4,hp4,st4⟩)
    | (go_at_call 53; refine (demand_c _ _ _).mono ?_; rintro e w6 ⟨hy,hn,rfl⟩; first | (obtain rfl:=hy rfl; clear hy hn) | (obtain rfl:=hn rfl; clear hy hn) | (obtain rfl:=hy d9; clear hy hn) | (obtain rfl:=hn d9; clear hy hn)))
   go_end0
   rw [HQ.out]
   exact ⟨by rw [H0.out]; rfl,o4,hp4,T3.out.tr st4⟩
  ·rw [e] at c8 CL2
   clear e
   go_enter Tryz.func47,Tryz.ntmps47
   go_wp2_with (first
    | (go_at_call 37; refine (CL2.out).mono ?_; rintro e w4 ⟨rfl,o4,hp4,st4⟩)
    | (go_at_call 38; refine (CL2.out).mono ?_; rintro e w4 ⟨rfl,o4,hp4,st4⟩)
    | (go_at_call 51; refine (CL2.out).mono ?_; rintro e w4 ⟨rfl,o4,hp4,st4⟩)
    | (go_at_call 53; refine (demand_c _ _ _).mono ?_; rintro e w6 ⟨hy,hn,rfl⟩; first | (obtain rfl:=hy rfl; clear hy hn) | (obtain rfl:=hn rfl; clear hy hn) | (obtain rfl:=hy d9; clear hy hn) | (obtain rfl:=hn d9; clear hy hn)))
   go_end0
   rw [HQ.out]
   exact ⟨by rw [H0.out]; rfl,o4,hp4,T3.out.tr st4⟩
  ·rw [e] at c8 CL2
   clear e
   go_enter Tryz.func47,Tryz.ntmps47
   go_wp2_with (first
    | (go_at_call 37; refine (CL2.out).mono ?_; rintro e w4 ⟨rfl,o4,hp4,st4⟩)
    | (go_at_call 38; refine (CL2.out).mono ?_; rintro e w4 ⟨rfl,o4,hp4,st4⟩)
    | (go_at_call 51; refine (CL2.out).mono ?_; rintro e w4 ⟨rfl,o4,hp4,st4⟩)
    | (go_at_call 53; refine (demand_c _ _ _).mono ?_; rintro e w6 ⟨hy,hn,rfl⟩; first | (obtain rfl:=hy rfl; clear hy hn) | (obtain rfl:=hn rfl; clear hy hn) | (obtain rfl:=hy d9; clear hy hn) | (obtain rfl:=hn d9; clear hy hn)))
   go_end0
   rw [HQ.out]
   exact ⟨by rw [H0.out]; rfl,o4,hp4,T3.out.tr st4⟩
 ·have CL2:=Lib.hid (CL.out.mono (R':=fun r w'=>r=.panicked [{ v:=.iface 25 (.int .i64 q.2),recovered:=false }]∧∃ o',PsAt w' o' k P q.1∧Stp (KP k) W3 o w' o') (by rintro r w' ⟨rfl,h⟩; exact ⟨gone_no h0,by rw [HW3.out]; exact h⟩))
  have H0:=Lib.hid h0
  clear h0 CL
  rcases HOK.out.nx with e | e | e
  ·rw [e] at c8 CL2
   clear e
   go_enter Tryz.func47,Tryz.ntmps47
   go_wp2_with (first
    | (go_at_call 37; refine (CL2.out).mono ?_; rintro e w4 ⟨rfl,o4,hp4,st4⟩)
    | (go_at_call 38; refine (CL2.out).mono ?_; rintro e w4 ⟨rfl,o4,hp4,st4⟩)
    | (go_at_call 51; refine (CL2.out).mono ?_; rintro e w4 ⟨rfl,o4,hp4,st4⟩)
    | (go_at_call 53; refine (demand_c _ _ _).mono ?_; rintro e w6 ⟨hy,hn,rfl⟩; first | (obtain rfl:=hy rfl; clear hy hn) | (obtain rfl:=hn rfl; clear hy hn) | (obtain rfl:=hy d9; clear hy hn) | (obtain rfl:=hn d9; clear hy hn)))
   simp only [bodyPost]
   rw [HQ.out]
   exact ⟨trivial,(gone_no H0.out).symm,o4,hp4,T3.out.tr st4⟩
  ·rw [e] at c8 CL2
   clear e
   go_enter Tryz.func47,Tryz.ntmps47
   go_wp2_with (first
    | (go_at_call 37; refine (CL2.out).mono ?_; rintro e w4 ⟨rfl,o4,hp4,st4⟩)
    | (go_at_call 38; refine (CL2.out).mono ?_; rintro e w4 ⟨rfl,o4,hp4,st4⟩)
    | (go_at_call 51; refine (CL2.out).mono ?_; rintro e w4 ⟨rfl,o4,hp4,st4⟩)
    | (go_at_call 53; refine (demand_c _ _ _).mono ?_; rintro e w6 ⟨hy,hn,rfl⟩; first | (obtain rfl:=hy rfl; clear hy hn) | (obtain rfl:=hn rfl; clear hy hn) | (obtain rfl:=hy d9; clear hy hn) | (obtain rfl:=hn d9; clear hy hn)))
   simp only [bodyPost]
   rw [HQ.out]
   exact ⟨trivial,(gone_no H0.out).symm,o4,hp4,T3.out.tr st4⟩
  ·rw [e] at c8 CL2
   clear e
   go_enter Tryz.func47,Tryz.ntmps47
   go_wp2_with (first
    | (go_at_call 37; refine (CL2.out).mono ?_; rintro e w4 ⟨rfl,o4,hp4,st4⟩)
    | (go_at_call 38; refine (CL2.out).mono ?_; rintro e w4 ⟨rfl,o4,hp4,st4⟩)
    | (go_at_call 51; refine (CL2.out).mono ?_; rintro e w4 ⟨rfl,o4,hp4,st4⟩)
    | (go_at_call 53; refine (demand_c _ _ _).mono ?_; rintro e w6 ⟨hy,hn,rfl⟩; first | (obtain rfl:=hy rfl; clear hy hn) | (obtain rfl:=hn rfl; clear hy hn) | (obtain rfl:=hy d9; clear hy hn) | (obtain rfl:=hn d9; clear hy hn)))
   simp only [bodyPost]
   rw [HQ.out]
   exact ⟨trivial,(gone_no H0.out).symm,o4,hp4,T3.out.tr st4⟩
end Go.Proofs.YthbofilcnpdghaaGreatDoor
end
