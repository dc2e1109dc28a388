/-
Framing's trailer: a byte of a trailer's line.
-/
import Derived.Test.YthbofilcnpdghaaGreatDoorZaf
import Derived.Test.YthbofilcnpdghaaGreatDoorZag
set_option maxRecDepth 100000
set_option maxHeartbeats 8000000
set_option linter.unusedVariables false
set_option linter.unusedSimpArgs false
namespace Go.Proofs.YthbofilcnpdghaaGreatDoor
open Go.RowKit
theorem Token_f (l:List UInt8) (hs:l.length ≤ maxLen) (w:World):Calls Tryz.prog 54 #[.string (str l)] w (Gives (.bool (tokL12 l)) w):=by
 have h:=Token_c (str l) (by rw [str_size]; exact hs) w
 rw [str_data,str_size] at h
 exact h
theorem Value_f (l:List UInt8) (hs:l.length ≤ maxLen) (w:World):Calls Tryz.prog 80 #[.string (str l)] w (Gives (.bool (vlL12 l)) w):=Value_c l hs w
theorem text_some {s t:Rst} {c:UInt8} {l:List UInt8} {e:Int} (h:textF s c=(t,some l,e)):e=0∧l=s.line∧t={ s with cr:=false,line:=[] }:=by
 unfold textF at h
 split at h
 ·split at h
  ·cases h; exact ⟨rfl,rfl,rfl⟩
  ·cases h
 ·split at h
  ·cases h
  ·split at h
   ·split at h <;> cases h
   ·cases h
theorem txt_no {k P:Nat} {s t:Rst} {c:UInt8} {e:Int} (hl8:s.line.length ≤ 8192) (h:textF s c=(t,none,e)) (he:e ≠ 0) (w:World) (o:Ow) (hp:FsAt w o k P s) :
  Calls Tryz.prog 100 #[.pointer (some ⟨P,0,none⟩),.int .u8 (c.toNat:Int)] w fun r w'=>r=.panicked [{ v:=.iface 25 (.int .i64 e),recovered:=false }]∧∃ o',FsAt w' o' k P t∧Stp (KF k) w o w' o':=by
 refine (fText_c k P s c hl8 w o hp).mono ?_
 rw [h]
 rintro r w' ⟨rfl,hh⟩
 exact ⟨if_neg he,hh⟩
theorem txt_go {k P:Nat} {s t:Rst} {c:UInt8} (hl8:s.line.length ≤ 8192) (h:textF s c=(t,none,0)) (w:World) (o:Ow) (hp:FsAt w o k P s) :
  Calls Tryz.prog 100 #[.pointer (some ⟨P,0,none⟩),.int .u8 (c.toNat:Int)] w fun r w'=>r=.returned (.tuple #[.string ⟨#[]⟩,.bool false])∧∃ o',FsAt w' o' k P t∧Stp (KF k) w o w' o':=by
 refine (fText_c k P s c hl8 w o hp).mono ?_
 rw [h]
 rintro r w' ⟨rfl,hh⟩
 exact ⟨rfl,hh⟩
theorem txt_ln {k P:Nat} {s t:Rst} {c:UInt8} {l:List UInt8} {e:Int} (hl8:s.line.length ≤ 8192) (h:textF s c=(t,some l,e)) (w:World) (o:Ow) (hp:FsAt w o k P s) :
  Calls Tryz.prog 100 #[.pointer (some ⟨P,0,none⟩),.int .u8 (c.toNat:Int)] w fun r w'=>r=.returned (.tuple #[.string (str l),.bool true])∧∃ o',FsAt w' o' k P t∧Stp (KF k) w o w' o':=by
 refine (fText_c k P s c hl8 w o hp).mono ?_
 rw [h]
 rintro r w' ⟨rfl,hh⟩
 obtain ⟨rfl,_⟩:=text_some h
 exact ⟨rfl,hh⟩
theorem fTrailer_no (k P:Nat) (s t:Rst) (c:UInt8) (e:Int) (hl8:s.line.length ≤ 8192) (ht:textF s c=(t,none,e)) (he:e ≠ 0) (w:World) (o:Ow) (h:FsAt w o k P s) :
  Calls Tryz.prog 77 #[.pointer (some ⟨P,0,none⟩),.int .u8 (c.toNat:Int)] w (TurnsF k w o P (trailF s c)):=by
 have hq:trailF s c=(t,e):=by unfold trailF; rw [ht]
 have CX:=txt_no hl8 ht he w o h
 have HG:=Lib.hid (goneF_no he)
 have HQ:=Lib.hid hq
 obtain ⟨b,hb⟩:∃ b,b=c.toNat:=⟨_,rfl⟩
 have h256:=UInt8.toNat_lt c
 rw [← hb] at h256 CX ⊢
 obtain ⟨R,hR⟩:∃ R,R=trailF s c:=⟨_,rfl⟩
 rw [← hR] at HQ ⊢
 have CX:=Lib.hid CX
 clear hR hb hq h
 clear ht hl8 he
 go_enter Tryz.func77,Tryz.ntmps77
 go_wp2_with (first | (go_at_call 100; refine (CX.out).mono ?_; rintro e w2 ⟨rfl,o2,hp2,st2⟩; obtain ⟨A,m,B,d,C,g,hr,h1,h2,hs,hm,h5,h6⟩:=hp2.row; have c8:=hr.c8; have c10:=hr.c10; have f8:=hr.fz 8 (by decide); have f10:=hr.fz 10 (by decide); have HE:=Lib.hid hp2; have HR:=Lib.hid hr; have HS:=Lib.hid hs; have HM:=Lib.hid hm; have HL:=Lib.hid (And.intro h1 h2); have HB:=Lib.hid (And.intro h5 h6); have ST:=Lib.hid st2; clear hr h1 h2 hs h5 h6 hp2 st2))
 simp only [bodyPost]
 rw [HQ.out]
 exact ⟨trivial,HG.out.symm,o2,HE.out,ST.out⟩
theorem fTrailer_go (k P:Nat) (s t:Rst) (c:UInt8) (hl8:s.line.length ≤ 8192) (ht:textF s c=(t,none,0)) (w:World) (o:Ow) (h:FsAt w o k P s) :
  Calls Tryz.prog 77 #[.pointer (some ⟨P,0,none⟩),.int .u8 (c.toNat:Int)] w (TurnsF k w o P (trailF s c)):=by
 have hq:trailF s c=(t,0):=by unfold trailF; rw [ht]
 have CX:=txt_go hl8 ht w o h
 have HQ:=Lib.hid hq
 obtain ⟨b,hb⟩:∃ b,b=c.toNat:=⟨_,rfl⟩
 have h256:=UInt8.toNat_lt c
 rw [← hb] at h256 CX ⊢
 obtain ⟨R,hR⟩:∃ R,R=trailF s c:=⟨_,rfl⟩
 rw [← hR] at HQ ⊢
 have CX:=Lib.hid CX
 clear hR hb hq h
 clear ht hl8
 go_enter Tryz.func77,Tryz.ntmps77
 go_wp2_with (first | (go_at_call 100; refine (CX.out).mono ?_; rintro e w2 ⟨rfl,o2,hp2,st2⟩; obtain ⟨A,m,B,d,C,g,hr,h1,h2,hs,hm,h5,h6⟩:=hp2.row; have c8:=hr.c8; have c10:=hr.c10; have f8:=hr.fz 8 (by decide); have f10:=hr.fz 10 (by decide); have HE:=Lib.hid hp2; have HR:=Lib.hid hr; have HS:=Lib.hid hs; have HM:=Lib.hid hm; have HL:=Lib.hid (And.intro h1 h2); have HB:=Lib.hid (And.intro h5 h6); have ST:=Lib.hid st2; clear hr h1 h2 hs h5 h6 hp2 st2))
 go_end0
 rw [HQ.out]
 exact ⟨rfl,o2,HE.out,ST.out⟩
theorem fTrailer_done (k P:Nat) (s t:Rst) (c:UInt8) (e:Int) (hl8:s.line.length ≤ 8192) (ht:textF s c=(t,some [],e)) (w:World) (o:Ow) (h:FsAt w o k P s) :
  Calls Tryz.prog 77 #[.pointer (some ⟨P,0,none⟩),.int .u8 (c.toNat:Int)] w (TurnsF k w o P (trailF s c)):=by
 have hq:trailF s c=({ t with done:=true },0):=by unfold trailF; rw [ht]; exact if_pos rfl
 have CX:=txt_ln hl8 ht w o h
 rw [show str ([]:List UInt8)=⟨#[]⟩ from rfl] at CX
 have HQ:=Lib.hid hq
 obtain ⟨b,hb⟩:∃ b,b=c.toNat:=⟨_,rfl⟩
 have h256:=UInt8.toNat_lt c
 rw [← hb] at h256 CX ⊢
 obtain ⟨R,hR⟩:∃ R,R=trailF s c:=⟨_,rfl⟩
 rw [← hR] at HQ ⊢
 have CX:=Lib.hid CX
 clear hR hb hq h
 clear ht hl8
 go_enter Tryz.func77,Tryz.ntmps77
 go_wp2_with (first | (go_at_call 100; refine (CX.out).mono ?_; rintro e w2 ⟨rfl,o2,hp2,st2⟩; obtain ⟨A,m,B,d,C,g,hr,h1,h2,hs,hm,h5,h6⟩:=hp2.row; have c8:=hr.c8; have c10:=hr.c10; have f8:=hr.fz 8 (by decide); have f10:=hr.fz 10 (by decide); have HE:=Lib.hid hp2; have HR:=Lib.hid hr; have HS:=Lib.hid hs; have HM:=Lib.hid hm; have HL:=Lib.hid (And.intro h1 h2); have HB:=Lib.hid (And.intro h5 h6); have ST:=Lib.hid st2; clear hr h1 h2 hs h5 h6 hp2 st2))
 go_end0
 rw [HQ.out]
 exact ⟨rfl,o2,HE.out.put 10 _ rfl rfl rfl (fun _ _ _ _ _ _=>rfl),ST.out.tr (setF_stp 10 _ HE.out.own)⟩
theorem fTrailer_nocut (k P:Nat) (s t:Rst) (c:UInt8) (e:Int) (l:List UInt8) (hl8:s.line.length ≤ 8192) (ht:textF s c=(t,some l,e)) (hne:l ≠ []) (hno:58 ∉ l) (w:World) (o:Ow) (h:FsAt w o k P s) :
  Calls Tryz.prog 77 #[.pointer (some ⟨P,0,none⟩),.int .u8 (c.toNat:Int)] w (TurnsF k w o P (trailF s c)):=by
 have hq:trailF s c=(t,42):=by unfold trailF; rw [ht]; dsimp only; unfold tailL fldV12; rw [if_neg hne,cutW_no12 hno]
 have CX:=txt_ln hl8 ht w o h
 have CC:=Lib.hid (fun w=>Cut_no l 58 hno w)
 have CT:=Lib.hid (fun w=>show Calls Tryz.prog 79 #[.string ⟨#[]⟩] w (Gives (.string (str (trimL []))) w) from Trim_c [] (by decide) w)
 have e1:l.isEmpty=false:=by rw [List.isEmpty_eq_false_iff]; exact hne
 have e2:(str l).toList.isEmpty=false:=by rw [Lib.toList_data]; exact e1
 have HQ:=Lib.hid hq
 obtain ⟨b,hb⟩:∃ b,b=c.toNat:=⟨_,rfl⟩
 have h256:=UInt8.toNat_lt c
 rw [← hb] at h256 CX ⊢
 obtain ⟨R,hR⟩:∃ R,R=trailF s c:=⟨_,rfl⟩
 rw [← hR] at HQ ⊢
 have CX:=Lib.hid CX
 clear hR hb hq h
 clear ht hl8 hno hne
 go_enter Tryz.func77,Tryz.ntmps77
 go_wp2_with (first
  | (go_at_call 100; refine (CX.out).mono ?_; rintro e w2 ⟨rfl,o2,hp2,st2⟩; obtain ⟨A,m,B,d,C,g,hr,h1,h2,hs,hm,h5,h6⟩:=hp2.row; have c8:=hr.c8; have c10:=hr.c10; have f8:=hr.fz 8 (by decide); have f10:=hr.fz 10 (by decide); have HE:=Lib.hid hp2; have HR:=Lib.hid hr; have HS:=Lib.hid hs; have HM:=Lib.hid hm; have HL:=Lib.hid (And.intro h1 h2); have HB:=Lib.hid (And.intro h5 h6); have ST:=Lib.hid st2; clear hr h1 h2 hs h5 h6 hp2 st2)
  | (go_at_call 78; refine (CC.out _).mono ?_; rintro e w3 ⟨rfl,rfl⟩)
  | (go_at_call 79; refine (CT.out _).mono ?_; rintro e w4 ⟨rfl,hx3⟩)
  | (go_at_call 99; refine (fdemand_c _ _ _).mono ?_; rintro e w6 ⟨hy,hn,rfl⟩; first | (obtain rfl:=hy rfl; clear hy hn) | (obtain rfl:=hn rfl; clear hy hn)))
 simp only [bodyPost]
 rw [HQ.out]
 exact ⟨trivial,rfl,o2,HE.out.ext (by (repeat first | exact Ex0 | assumption | refine Ex1 ?_ | refine Ex2 ?_ | refine Ex3 ?_ | refine Ex4 ?_ | refine Ex5 ?_)),ST.out.tr (Stp.ext (by (repeat first | exact Ex0 | assumption | refine Ex1 ?_ | refine Ex2 ?_ | refine Ex3 ?_ | refine Ex4 ?_ | refine Ex5 ?_)))⟩
theorem fTrailer_bad (k P:Nat) (s t:Rst) (c:UInt8) (e:Int) (a r:List UInt8) (hl8:s.line.length ≤ 8192) (ht:textF s c=(t,some (a ++ 58 :: r),e)) (hno:58 ∉ a) (hl:(a ++ 58 :: r).length ≤ 8192) (hbad:(tokL12 a && vlL12 (trimL r))=false) (w:World) (o:Ow) (h:FsAt w o k P s) :
  Calls Tryz.prog 77 #[.pointer (some ⟨P,0,none⟩),.int .u8 (c.toNat:Int)] w (TurnsF k w o P (trailF s c)):=by
 have hq:trailF s c=(t,42):=by unfold trailF; rw [ht]; dsimp only; unfold tailL fldV12; rw [if_neg (by simp),cutW_at12 r hno]; dsimp only; rw [hbad]; rfl
 have CX:=txt_ln hl8 ht w o h
 obtain ⟨sl,hsl⟩:∃ q,q=str (a ++ 58 :: r):=⟨_,rfl⟩
 have e2:sl.toList.isEmpty=false:=by rw [hsl,Lib.toList_data]; rw [List.isEmpty_eq_false_iff]; simp
 have htl:=trim_len r
 have CC:=fun w=>Cut_at a r 58 hno (by unfold maxLen; simp at hl; omega) w
 have CT:=Lib.hid (fun w=>Trim_c r (by unfold maxLen; simp at hl; omega) w)
 have CK:=fun w=>Token_f a (by unfold maxLen; simp at hl; omega) w
 have CV:=fun w=>Value_f (trimL r) (by unfold maxLen; simp at hl; omega) w
 rw [← hsl] at CC CX
 obtain ⟨v,hv⟩:∃ v,v=trimL r:=⟨_,rfl⟩
 have CT:Hid (∀ w,Calls Tryz.prog 79 #[.string (str r)] w (Gives (.string (str v)) w)):=by rw [hv]; exact CT
 rw [← hv] at CV
 have CC:=Lib.hid CC
 rw [← hv] at hbad
 obtain ⟨gt,hgt⟩:∃ g,g=tokL12 a:=⟨_,rfl⟩
 obtain ⟨gv,hgv⟩:∃ g,g=vlL12 v:=⟨_,rfl⟩
 rw [← hgt] at CK hbad
 rw [← hgv] at CV hbad
 have CK:=Lib.hid CK
 have CV:=Lib.hid CV
 have HQ:=Lib.hid hq
 obtain ⟨b,hb⟩:∃ b,b=c.toNat:=⟨_,rfl⟩
 have h256:=UInt8.toNat_lt c
 rw [← hb] at h256 CX ⊢
 obtain ⟨R,hR⟩:∃ R,R=trailF s c:=⟨_,rfl⟩
 rw [← hR] at HQ ⊢
 have CX:=Lib.hid CX
 clear hR hb hq h
 clear hgt hgv hv hno hl hsl htl ht hl8
 cases gt with
 | false =>
  clear hbad
  go_enter Tryz.func77,Tryz.ntmps77
  go_wp2_with (first
   | (go_at_call 100; refine (CX.out).mono ?_; rintro e w2 ⟨rfl,o2,hp2,st2⟩; obtain ⟨A,m,B,d,C,g,hr,h1,h2,hs,hm,h5,h6⟩:=hp2.row; have c8:=hr.c8; have c10:=hr.c10; have f8:=hr.fz 8 (by decide); have f10:=hr.fz 10 (by decide); have HE:=Lib.hid hp2; have HR:=Lib.hid hr; have HS:=Lib.hid hs; have HM:=Lib.hid hm; have HL:=Lib.hid (And.intro h1 h2); have HB:=Lib.hid (And.intro h5 h6); have ST:=Lib.hid st2; clear hr h1 h2 hs h5 h6 hp2 st2)
   | (go_at_call 78; refine (CC.out _).mono ?_; rintro e w3 ⟨rfl,q,rfl⟩)
   | (go_at_call 79; refine (CT.out _).mono ?_; rintro e w4 ⟨rfl,hx3⟩)
   | (go_at_call 54; refine (CK.out _).mono ?_; rintro e w5 ⟨rfl,hx4⟩)
   | (go_at_call 80; refine (CV.out _).mono ?_; rintro e w6 ⟨rfl,hx5⟩; have hxa:Ext w2 w6:=(by (repeat first | exact Ex0 | assumption | refine Ex1 ?_ | refine Ex2 ?_ | refine Ex3 ?_ | refine Ex4 ?_ | refine Ex5 ?_)); have hr5:=HR.out.ext hxa; have k8:=hr5.c8; have g8:=hr5.fz 8 (by decide))
   | (go_at_call 99; refine (fdemand_c _ _ _).mono ?_; rintro e w7 ⟨hy,hn,rfl⟩; first | (obtain rfl:=hy rfl; clear hy hn) | (obtain rfl:=hn rfl; clear hy hn) | (obtain rfl:=hy d9; clear hy hn) | (obtain rfl:=hn d9; clear hy hn))
   | (at_builtin; refine wpL_put slt_fld (.tmp 52) (.tmp 56) rfl rfl rfl rfl ((HS.out.ext hxa).ext (Ext.al (Ext.rfl' w6) _)) HM.out (Src.ofSlice (size:=2) _ Tryz.underlying34 ⟨w6.heap.size,0,none⟩ 1 1 [.string (str a),.string (str v)] (by simp) (new_cells w6 #[.string (str a),.string (str v)] 72) (by simp [Value.oneCell'])) (by omega) (by simp only [maxLen]; omega) ?_; intro A7 c7 w7 o7 hs7 hst7 hn7; have st7:Stp (fun i=>i=k + 2) w2 o2 w7 o7:=(Stp.ext (hxa.al _)).tr hst7; have hr7:Frow w7 P t A m B d C g:=HR.out.stp st7 (by rw [HE.out.own]; omega); have j8:=hr7.c8; have i8:=hr7.fz 8 (by decide); clear k8 g8 hr5))
  simp only [bodyPost]
  rw [HQ.out]
  exact ⟨trivial,rfl,o2,HE.out.ext (by (repeat first | exact Ex0 | assumption | refine Ex1 ?_ | refine Ex2 ?_ | refine Ex3 ?_ | refine Ex4 ?_ | refine Ex5 ?_)),ST.out.tr (Stp.ext (by (repeat first | exact Ex0 | assumption | refine Ex1 ?_ | refine Ex2 ?_ | refine Ex3 ?_ | refine Ex4 ?_ | refine Ex5 ?_)))⟩
 | true =>
  rw [Bool.true_and] at hbad
  subst hbad
  go_enter Tryz.func77,Tryz.ntmps77
  go_wp2_with (first
   | (go_at_call 100; refine (CX.out).mono ?_; rintro e w2 ⟨rfl,o2,hp2,st2⟩; obtain ⟨A,m,B,d,C,g,hr,h1,h2,hs,hm,h5,h6⟩:=hp2.row; have c8:=hr.c8; have c10:=hr.c10; have f8:=hr.fz 8 (by decide); have f10:=hr.fz 10 (by decide); have HE:=Lib.hid hp2; have HR:=Lib.hid hr; have HS:=Lib.hid hs; have HM:=Lib.hid hm; have HL:=Lib.hid (And.intro h1 h2); have HB:=Lib.hid (And.intro h5 h6); have ST:=Lib.hid st2; clear hr h1 h2 hs h5 h6 hp2 st2)
   | (go_at_call 78; refine (CC.out _).mono ?_; rintro e w3 ⟨rfl,q,rfl⟩)
   | (go_at_call 79; refine (CT.out _).mono ?_; rintro e w4 ⟨rfl,hx3⟩)
   | (go_at_call 54; refine (CK.out _).mono ?_; rintro e w5 ⟨rfl,hx4⟩)
   | (go_at_call 80; refine (CV.out _).mono ?_; rintro e w6 ⟨rfl,hx5⟩; have hxa:Ext w2 w6:=(by (repeat first | exact Ex0 | assumption | refine Ex1 ?_ | refine Ex2 ?_ | refine Ex3 ?_ | refine Ex4 ?_ | refine Ex5 ?_)); have hr5:=HR.out.ext hxa; have k8:=hr5.c8; have g8:=hr5.fz 8 (by decide))
   | (go_at_call 99; refine (fdemand_c _ _ _).mono ?_; rintro e w7 ⟨hy,hn,rfl⟩; first | (obtain rfl:=hy rfl; clear hy hn) | (obtain rfl:=hn rfl; clear hy hn) | (obtain rfl:=hy d9; clear hy hn) | (obtain rfl:=hn d9; clear hy hn))
   | (at_builtin; refine wpL_put slt_fld (.tmp 52) (.tmp 56) rfl rfl rfl rfl ((HS.out.ext hxa).ext (Ext.al (Ext.rfl' w6) _)) HM.out (Src.ofSlice (size:=2) _ Tryz.underlying34 ⟨w6.heap.size,0,none⟩ 1 1 [.string (str a),.string (str v)] (by simp) (new_cells w6 #[.string (str a),.string (str v)] 72) (by simp [Value.oneCell'])) (by omega) (by simp only [maxLen]; omega) ?_; intro A7 c7 w7 o7 hs7 hst7 hn7; have st7:Stp (fun i=>i=k + 2) w2 o2 w7 o7:=(Stp.ext (hxa.al _)).tr hst7; have hr7:Frow w7 P t A m B d C g:=HR.out.stp st7 (by rw [HE.out.own]; omega); have j8:=hr7.c8; have i8:=hr7.fz 8 (by decide); clear k8 g8 hr5))
  simp only [bodyPost]
  rw [HQ.out]
  exact ⟨trivial,rfl,o2,HE.out.ext (by (repeat first | exact Ex0 | assumption | refine Ex1 ?_ | refine Ex2 ?_ | refine Ex3 ?_ | refine Ex4 ?_ | refine Ex5 ?_)),ST.out.tr (Stp.ext (by (repeat first | exact Ex0 | assumption | refine Ex1 ?_ | refine Ex2 ?_ | refine Ex3 ?_ | refine Ex4 ?_ | refine Ex5 ?_)))⟩
theorem fTrailer_long (k P:Nat) (s t:Rst) (c:UInt8) (e:Int) (a r:List UInt8) (hl8:s.line.length ≤ 8192) (ht:textF s c=(t,some (a ++ 58 :: r),e)) (hno:58 ∉ a) (hl:(a ++ 58 :: r).length ≤ 8192) (hgood:(tokL12 a && vlL12 (trimL r))=true) (hf:¬ t.tail.length < 100) (w:World) (o:Ow) (h:FsAt w o k P s) :
  Calls Tryz.prog 77 #[.pointer (some ⟨P,0,none⟩),.int .u8 (c.toNat:Int)] w (TurnsF k w o P (trailF s c)):=by
 have hq:trailF s c=(t,44):=by unfold trailF; rw [ht]; dsimp only; unfold tailL fldV12; rw [if_neg (by simp),cutW_at12 r hno]; dsimp only; rw [hgood]; exact if_neg hf
 have CX:=txt_ln hl8 ht w o h
 obtain ⟨sl,hsl⟩:∃ q,q=str (a ++ 58 :: r):=⟨_,rfl⟩
 have e2:sl.toList.isEmpty=false:=by rw [hsl,Lib.toList_data]; rw [List.isEmpty_eq_false_iff]; simp
 have htl:=trim_len r
 have CC:=fun w=>Cut_at a r 58 hno (by unfold maxLen; simp at hl; omega) w
 have CT:=Lib.hid (fun w=>Trim_c r (by unfold maxLen; simp at hl; omega) w)
 have CK:=fun w=>Token_f a (by unfold maxLen; simp at hl; omega) w
 have CV:=fun w=>Value_f (trimL r) (by unfold maxLen; simp at hl; omega) w
 rw [← hsl] at CC CX
 obtain ⟨v,hv⟩:∃ v,v=trimL r:=⟨_,rfl⟩
 have CT:Hid (∀ w,Calls Tryz.prog 79 #[.string (str r)] w (Gives (.string (str v)) w)):=by rw [hv]; exact CT
 rw [← hv] at CV
 have CC:=Lib.hid CC
 rw [← hv] at hgood
 rw [Bool.and_eq_true] at hgood
 rw [hgood.1] at CK
 rw [hgood.2] at CV
 have CK:=Lib.hid CK
 have CV:=Lib.hid CV
 have d9:decide ((t.tail.length:Int) < 100)=false:=decide_eq_false (by omega)
 have HQ:=Lib.hid hq
 obtain ⟨b,hb⟩:∃ b,b=c.toNat:=⟨_,rfl⟩
 have h256:=UInt8.toNat_lt c
 rw [← hb] at h256 CX ⊢
 obtain ⟨R,hR⟩:∃ R,R=trailF s c:=⟨_,rfl⟩
 rw [← hR] at HQ ⊢
 have CX:=Lib.hid CX
 clear hR hb hq h
 clear hgood hv hno hl hsl htl ht hl8
 go_enter Tryz.func77,Tryz.ntmps77
 go_wp2_with (first
  | (go_at_call 100; refine (CX.out).mono ?_; rintro e w2 ⟨rfl,o2,hp2,st2⟩; obtain ⟨A,m,B,d,C,g,hr,h1,h2,hs,hm,h5,h6⟩:=hp2.row; have c8:=hr.c8; have c10:=hr.c10; have f8:=hr.fz 8 (by decide); have f10:=hr.fz 10 (by decide); have HE:=Lib.hid hp2; have HR:=Lib.hid hr; have HS:=Lib.hid hs; have HM:=Lib.hid hm; have HL:=Lib.hid (And.intro h1 h2); have HB:=Lib.hid (And.intro h5 h6); have ST:=Lib.hid st2; clear hr h1 h2 hs h5 h6 hp2 st2)
  | (go_at_call 78; refine (CC.out _).mono ?_; rintro e w3 ⟨rfl,q,rfl⟩)
  | (go_at_call 79; refine (CT.out _).mono ?_; rintro e w4 ⟨rfl,hx3⟩)
  | (go_at_call 54; refine (CK.out _).mono ?_; rintro e w5 ⟨rfl,hx4⟩)
  | (go_at_call 80; refine (CV.out _).mono ?_; rintro e w6 ⟨rfl,hx5⟩; have hxa:Ext w2 w6:=(by (repeat first | exact Ex0 | assumption | refine Ex1 ?_ | refine Ex2 ?_ | refine Ex3 ?_ | refine Ex4 ?_ | refine Ex5 ?_)); have hr5:=HR.out.ext hxa; have k8:=hr5.c8; have g8:=hr5.fz 8 (by decide))
  | (go_at_call 99; refine (fdemand_c _ _ _).mono ?_; rintro e w7 ⟨hy,hn,rfl⟩; first | (obtain rfl:=hy rfl; clear hy hn) | (obtain rfl:=hn rfl; clear hy hn) | (obtain rfl:=hy d9; clear hy hn) | (obtain rfl:=hn d9; clear hy hn))
  | (at_builtin; refine wpL_put slt_fld (.tmp 52) (.tmp 56) rfl rfl rfl rfl ((HS.out.ext hxa).ext (Ext.al (Ext.rfl' w6) _)) HM.out (Src.ofSlice (size:=2) _ Tryz.underlying34 ⟨w6.heap.size,0,none⟩ 1 1 [.string (str a),.string (str v)] (by simp) (new_cells w6 #[.string (str a),.string (str v)] 72) (by simp [Value.oneCell'])) (by omega) (by simp only [maxLen]; omega) ?_; intro A7 c7 w7 o7 hs7 hst7 hn7; have st7:Stp (fun i=>i=k + 2) w2 o2 w7 o7:=(Stp.ext (hxa.al _)).tr hst7; have hr7:Frow w7 P t A m B d C g:=HR.out.stp st7 (by rw [HE.out.own]; omega); have j8:=hr7.c8; have i8:=hr7.fz 8 (by decide); clear k8 g8 hr5))
 simp only [bodyPost]
 rw [HQ.out]
 exact ⟨trivial,rfl,o2,HE.out.ext (by (repeat first | exact Ex0 | assumption | refine Ex1 ?_ | refine Ex2 ?_ | refine Ex3 ?_ | refine Ex4 ?_ | refine Ex5 ?_)),ST.out.tr (Stp.ext (by (repeat first | exact Ex0 | assumption | refine Ex1 ?_ | refine Ex2 ?_ | refine Ex3 ?_ | refine Ex4 ?_ | refine Ex5 ?_)))⟩
theorem fTrailer_good (k P:Nat) (s t:Rst) (c:UInt8) (e:Int) (a r:List UInt8) (hl8:s.line.length ≤ 8192) (ht:textF s c=(t,some (a ++ 58 :: r),e)) (hno:58 ∉ a) (hl:(a ++ 58 :: r).length ≤ 8192) (hgood:(tokL12 a && vlL12 (trimL r))=true) (hf:t.tail.length < 100) (w:World) (o:Ow) (h:FsAt w o k P s) :
  Calls Tryz.prog 77 #[.pointer (some ⟨P,0,none⟩),.int .u8 (c.toNat:Int)] w (TurnsF k w o P (trailF s c)):=by
 have hq:trailF s c=({ t with tail:=t.tail ++ [(a,trimL r)] },0):=by unfold trailF; rw [ht]; dsimp only; unfold tailL fldV12; rw [if_neg (by simp),cutW_at12 r hno]; dsimp only; rw [hgood]; exact if_pos hf
 have CX:=txt_ln hl8 ht w o h
 obtain ⟨sl,hsl⟩:∃ q,q=str (a ++ 58 :: r):=⟨_,rfl⟩
 have e2:sl.toList.isEmpty=false:=by rw [hsl,Lib.toList_data]; rw [List.isEmpty_eq_false_iff]; simp
 have htl:=trim_len r
 have CC:=fun w=>Cut_at a r 58 hno (by unfold maxLen; simp at hl; omega) w
 have CT:=Lib.hid (fun w=>Trim_c r (by unfold maxLen; simp at hl; omega) w)
 have CK:=fun w=>Token_f a (by unfold maxLen; simp at hl; omega) w
 have CV:=fun w=>Value_f (trimL r) (by unfold maxLen; simp at hl; omega) w
 rw [← hsl] at CC CX
 obtain ⟨v,hv⟩:∃ v,v=trimL r:=⟨_,rfl⟩
 have CT:Hid (∀ w,Calls Tryz.prog 79 #[.string (str r)] w (Gives (.string (str v)) w)):=by rw [hv]; exact CT
 rw [← hv] at CV
 have CC:=Lib.hid CC
 rw [← hv] at hgood hq
 rw [Bool.and_eq_true] at hgood
 rw [hgood.1] at CK
 rw [hgood.2] at CV
 have CK:=Lib.hid CK
 have CV:=Lib.hid CV
 have d9:decide ((t.tail.length:Int) < 100)=true:=decide_eq_true (by omega)
 have HQ:=Lib.hid hq
 obtain ⟨b,hb⟩:∃ b,b=c.toNat:=⟨_,rfl⟩
 have h256:=UInt8.toNat_lt c
 rw [← hb] at h256 CX ⊢
 obtain ⟨R,hR⟩:∃ R,R=trailF s c:=⟨_,rfl⟩
 rw [← hR] at HQ ⊢
 have CX:=Lib.hid CX
 clear hR hb hq h
 clear hgood hv hno hl hsl htl ht hl8
 go_enter Tryz.func77,Tryz.ntmps77
 go_wp2_with (first
  | (go_at_call 100; refine (CX.out).mono ?_; rintro e w2 ⟨rfl,o2,hp2,st2⟩; obtain ⟨A,m,B,d,C,g,hr,h1,h2,hs,hm,h5,h6⟩:=hp2.row; have c8:=hr.c8; have c10:=hr.c10; have f8:=hr.fz 8 (by decide); have f10:=hr.fz 10 (by decide); have HE:=Lib.hid hp2; have HR:=Lib.hid hr; have HS:=Lib.hid hs; have HM:=Lib.hid hm; have HL:=Lib.hid (And.intro h1 h2); have HB:=Lib.hid (And.intro h5 h6); have ST:=Lib.hid st2; clear hr h1 h2 hs h5 h6 hp2 st2)
  | (go_at_call 78; refine (CC.out _).mono ?_; rintro e w3 ⟨rfl,q,rfl⟩)
  | (go_at_call 79; refine (CT.out _).mono ?_; rintro e w4 ⟨rfl,hx3⟩)
  | (go_at_call 54; refine (CK.out _).mono ?_; rintro e w5 ⟨rfl,hx4⟩)
  | (go_at_call 80; refine (CV.out _).mono ?_; rintro e w6 ⟨rfl,hx5⟩; have hxa:Ext w2 w6:=(by (repeat first | exact Ex0 | assumption | refine Ex1 ?_ | refine Ex2 ?_ | refine Ex3 ?_ | refine Ex4 ?_ | refine Ex5 ?_)); have hr5:=HR.out.ext hxa; have k8:=hr5.c8; have g8:=hr5.fz 8 (by decide))
  | (go_at_call 99; refine (fdemand_c _ _ _).mono ?_; rintro e w7 ⟨hy,hn,rfl⟩; first | (obtain rfl:=hy rfl; clear hy hn) | (obtain rfl:=hn rfl; clear hy hn) | (obtain rfl:=hy d9; clear hy hn) | (obtain rfl:=hn d9; clear hy hn))
  | (at_builtin; refine wpL_put slt_fld (.tmp 52) (.tmp 56) rfl rfl rfl rfl ((HS.out.ext hxa).ext (Ext.al (Ext.rfl' w6) _)) HM.out (Src.ofSlice (size:=2) _ Tryz.underlying34 ⟨w6.heap.size,0,none⟩ 1 1 [.string (str a),.string (str v)] (by simp) (new_cells w6 #[.string (str a),.string (str v)] 72) (by simp [Value.oneCell'])) (by omega) (by simp only [maxLen]; omega) ?_; intro A7 c7 w7 o7 hs7 hst7 hn7; have st7:Stp (fun i=>i=k + 2) w2 o2 w7 o7:=(Stp.ext (hxa.al _)).tr hst7; have hr7:Frow w7 P t A m B d C g:=HR.out.stp st7 (by rw [HE.out.own]; omega); have j8:=hr7.c8; have i8:=hr7.fz 8 (by decide); clear k8 g8 hr5))
 go_end0
 rw [HQ.out]
 have hp7:o7 P=k:=by rw [st7.own P (row_lt HR.out)]; exact HE.out.own
 have stf:Stp (fun i=>i=k) w7 o7 (w7.setCell ⟨P,8,none⟩ (.slice A7 (t.tail.length + 1) c7)) o7:=Stp.set P 8 _ (fun _=>hp7)
 have hlen:(t.tail ++ [(a,v)]).length=t.tail.length + 1:=by simp
 refine ⟨rfl,o7,⟨hp7,A,m,A7,c7,C,g,?_,(HL.out.1.stp st7 (by omega)).stp stf (by omega),HL.out.2,?_,hn7,(HB.out.1.stp st7 (by omega)).stp stf (by omega),HB.out.2⟩,ST.out.tr ((st7.mono fun i hi=>.inr (.inr (.inl hi))).tr (stf.mono fun i hi=>.inl hi))⟩
 ·exact hr7.set 8 _ (by simp [Rst.cells])
 ·rw [hlen,fc_app]
  exact hs7.stp stf (by omega)
theorem fTrailer_c (k P:Nat) (s:Rst) (c:UInt8) (hl8:s.line.length ≤ 8192) (w:World) (o:Ow) (h:FsAt w o k P s) :
  Calls Tryz.prog 77 #[.pointer (some ⟨P,0,none⟩),.int .u8 (c.toNat:Int)] w (TurnsF k w o P (trailF s c)):=by
 obtain ⟨⟨t,ol,e⟩,hx⟩:∃ q,q=textF s c:=⟨_,rfl⟩
 cases ol with
 | none =>
  by_cases he:e=0
  ·subst he; exact fTrailer_go k P s t c hl8 hx.symm w o h
  ·exact fTrailer_no k P s t c e hl8 hx.symm he w o h
 | some l =>
  obtain ⟨_,rfl,_⟩:=text_some hx.symm
  by_cases hl0:s.line=[]
  ·exact fTrailer_done k P s t c e hl8 (by rw [← hx,hl0]) w o h
  ·rcases cut_cases s.line 58 with hno | ⟨a,r,hl,hno⟩
   ·exact fTrailer_nocut k P s t c e _ hl8 hx.symm hl0 hno w o h
   ·rw [hl] at hx
    cases hg:(tokL12 a && vlL12 (trimL r)) with
    | false=>exact fTrailer_bad k P s t c e a r hl8 hx.symm hno (by rw [← hl]; exact hl8) hg w o h
    | true =>
     by_cases hf:t.tail.length < 100
     ·exact fTrailer_good k P s t c e a r hl8 hx.symm hno (by rw [← hl]; exact hl8) hg hf w o h
     ·exact fTrailer_long k P s t c e a r hl8 hx.symm hno (by rw [← hl]; exact hl8) hg hf w o h
end Go.Proofs.YthbofilcnpdghaaGreatDoor
