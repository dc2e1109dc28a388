/-
Framing's size: a byte of a size's line.
-/
import Derived.Test.YthbofilcnpdghaaGreatDoorZag
import Derived.Test.YthbofilcnpdghaaGreatDoorZah
import Derived.RegionDies
import Derived.BigRegion
set_option maxRecDepth 100000
set_option maxHeartbeats 8000000
set_option linter.unusedVariables false
set_option linter.unusedSimpArgs false
namespace Go.Proofs.YthbofilcnpdghaaGreatDoor
open Go.RowKit
structure GlF (w:World) (o:Ow):Prop where
 er:ErrR w
 o2:o 7=0
theorem GlF.stp {K:Nat→Prop} {w w':World} {o o':Ow} (h:GlF w o) (s:Stp K w o w' o') (h0:¬ K 0):GlF w' o':=by
 obtain ⟨⟨t,p,he⟩,h2⟩:=h
 exact ⟨⟨t,p,s.cell (by rw [h2];exact h0) he⟩,(s.own _ (lt_of_cell he)).trans h2⟩
theorem str_take (l:List UInt8) (n:Nat):(str l).extract 0 n=str (l.take n):=by
 apply ByteArray.ext
 apply Array.ext'
 simp [str]
theorem str_drop (l:List UInt8) (n L:Nat) (h:L=l.length):(str l).extract n L=str (l.drop n):=by
 subst h
 apply ByteArray.ext
 apply Array.ext'
 simp [str]
 exact List.take_of_length_le (by simp)
theorem numL_nn (B M:Nat) (l:List UInt8):0≤(numL B M l).1:=by
 unfold numL
 repeat (first | split | simp | omega)
theorem szN_le (l:List UInt8):szN l≤l.length:=(List.takeWhile_prefix _).length_le
theorem fSize_no (k P:Nat) (hk:0<k) (s t:Rst) (c:UInt8) (e:Int) (hl8:s.line.length≤8192) (ht:textF s c=(t,none,e)) (he:e≠0) (w:World) (o:Ow) (h:FsAt w o k P s) (hG:GlF w o) :
  Calls Tryz.prog 74 #[.pointer (some ⟨P,0,none⟩),.int .u8 (c.toNat:Int)] w (TurnsF k w o P (sizeF s c)):=by
 have hq:sizeF s c=(t,e):=by unfold sizeF;rw [ht]
 have CX:=txt_no hl8 ht he w o h
 have HGN:=Hy (goneF_no he)
 have HQ:=Hy hq
 have HG:=Hy hG
 obtain ⟨b,hb⟩:∃ b,b=c.toNat:=⟨_,rfl⟩
 have h256:=UInt8.toNat_lt c
 rw [← hb] at h256 CX ⊢
 obtain ⟨R,hR⟩:∃ R,R=sizeF s c:=⟨_,rfl⟩
 rw [← hR] at HQ ⊢
 have CX:=Hy CX
 clear hR hb hq h hG
 clear ht hl8 he
 go_enter Tryz.func74,Tryz.ntmps74
 go_wp2_with (first | (go_at_call 100;refine (CX.out).mono ?_;rintro e w2 ⟨rfl,o2,hp2,st2⟩;obtain ⟨A,m,B,d,C,g,hr,h1,h2,h3,h4,h5,h6⟩:=hp2.row;have c1:=hr.c2;have c3:=hr.c3;have c4:=hr.c4;have c5:=hr.c5;have f4:=hr.fz 4 (by decide);have f5:=hr.fz 5 (by decide);have HE:=Hy hp2;have HR:=Hy hr;have ST:=Hy st2;have HER:=Hy ((HG.out.stp st2 (by unfold KF;omega)).er);clear hr h1 h2 h3 h4 h5 h6 hp2 st2))
 simp only [bodyPost]
 rw [HQ.out]
 exact ⟨trivial,HGN.out.symm,o2,HE.out,ST.out⟩
theorem fSize_go (k P:Nat) (hk:0<k) (s t:Rst) (c:UInt8) (hl8:s.line.length≤8192) (ht:textF s c=(t,none,0)) (w:World) (o:Ow) (h:FsAt w o k P s) (hG:GlF w o) :
  Calls Tryz.prog 74 #[.pointer (some ⟨P,0,none⟩),.int .u8 (c.toNat:Int)] w (TurnsF k w o P (sizeF s c)):=by
 have hq:sizeF s c=(t,0):=by unfold sizeF;rw [ht]
 have CX:=txt_go hl8 ht w o h
 have HQ:=Hy hq
 have HG:=Hy hG
 obtain ⟨b,hb⟩:∃ b,b=c.toNat:=⟨_,rfl⟩
 have h256:=UInt8.toNat_lt c
 rw [← hb] at h256 CX ⊢
 obtain ⟨R,hR⟩:∃ R,R=sizeF s c:=⟨_,rfl⟩
 rw [← hR] at HQ ⊢
 have CX:=Hy CX
 clear hR hb hq h hG
 clear ht hl8
 go_enter Tryz.func74,Tryz.ntmps74
 go_wp2_with (first | (go_at_call 100;refine (CX.out).mono ?_;rintro e w2 ⟨rfl,o2,hp2,st2⟩;obtain ⟨A,m,B,d,C,g,hr,h1,h2,h3,h4,h5,h6⟩:=hp2.row;have c1:=hr.c2;have c3:=hr.c3;have c4:=hr.c4;have c5:=hr.c5;have f4:=hr.fz 4 (by decide);have f5:=hr.fz 5 (by decide);have HE:=Hy hp2;have HR:=Hy hr;have ST:=Hy st2;have HER:=Hy ((HG.out.stp st2 (by unfold KF;omega)).er);clear hr h1 h2 h3 h4 h5 h6 hp2 st2))
 go_end0
 rw [HQ.out]
 exact ⟨rfl,o2,HE.out,ST.out⟩
theorem fSize_bad (k P:Nat) (hk:0<k) (s t:Rst) (c:UInt8) (e:Int) (l:List UInt8) (hl:l.length≤8192) (hl8:s.line.length≤8192) (ht:textF s c=(t,some l,e)) (hg:szG l=false) (w:World) (o:Ow) (h:FsAt w o k P s) (hG:GlF w o) :
  Calls Tryz.prog 74 #[.pointer (some ⟨P,0,none⟩),.int .u8 (c.toNat:Int)] w (TurnsF k w o P (sizeF s c)):=by
 have hq:sizeF s c=(t,45)∧szV l=szV l∧szG l=false:=⟨by unfold sizeF;rw [ht];dsimp only;unfold sizeL;rw [if_neg (by rw [hg];decide)],rfl,hg⟩
 have CX:=txt_ln hl8 ht w o h
 clear hg
 have hnl:=szN_le l
 have CI:=fun w=>IndexAny_c12 (l++[59]) (by simp;omega) w
 rw [ia_sz l] at CI
 have CH:=fun w hE=>Hex_c (l.take (szN l)) (by simp;omega) w hE
 have CT:=fun w=>Trim_c (l.drop (szN l)) (by unfold maxLen;simp;omega) w
 have hcat:=cat_ok (P:=Tryz.prog) (str l) ⟨#[59]⟩ (by rw [str_size];show l.length+1≤_;omega)
 have x0:str l++(⟨#[59]⟩:ByteArray)=str (l++[59]):=str_app_mk l #[59]
 rw [x0] at hcat
 have x1:=str_take l (szN l)
 have x2:=str_drop l (szN l) l.length rfl
 have x3:(str l).size=l.length:=str_size l
 obtain ⟨n,hn⟩:∃ n,n=szN l:=⟨_,rfl⟩
 obtain ⟨L,hL⟩:∃ n,n=l.length:=⟨_,rfl⟩
 have hv:(numL 16 1152921504606846976 (l.take (szN l))).1=szV l:=rfl
 obtain ⟨ev,hev⟩:∃ x,x=(numL 16 1152921504606846976 (l.take (szN l))).2:=⟨_,rfl⟩
 rw [hv,← hev] at CH
 obtain ⟨V,hV⟩:∃ x,x=szV l:=⟨_,rfl⟩
 rw [← hV] at CH hq
 obtain ⟨rs,hrs⟩:∃ x,x=trimL (l.drop (szN l)):=⟨_,rfl⟩
 rw [← hrs] at CT
 have hgg:szG l=(decide (ev=0) && decide (n≤15) && (rs.isEmpty || decide (rs[0]?=some 59))):=by rw [hev,hn,hrs];rfl
 rw [← hn] at CI CH CT x1 x2 hnl
 rw [← hL] at x2 x3 hnl
 rw [hgg] at hq
 obtain ⟨sl,hsl⟩:∃ x,x=str l:=⟨_,rfl⟩
 obtain ⟨s2,hs2⟩:∃ x,x=str (l++[59]):=⟨_,rfl⟩
 obtain ⟨s3,hs3⟩:∃ x,x=str (l.take n):=⟨_,rfl⟩
 obtain ⟨s4,hs4⟩:∃ x,x=str (l.drop n):=⟨_,rfl⟩
 rw [← hsl] at CX hcat x1 x2 x3
 rw [← hs2] at hcat CI
 rw [← hs3] at x1 CH
 rw [← hs4] at x2 CT
 have CI:=Hy CI
 have CH:=Hy CH
 clear hgg hsl hs2 hs3 hs4 hv x0 hn hL hev
 obtain ⟨hq,_,hg⟩:=hq
 clear hV ht hl8 hl
 have HQ:=Hy hq
 have HG:=Hy hG
 obtain ⟨b,hb⟩:∃ b,b=c.toNat:=⟨_,rfl⟩
 have h256:=UInt8.toNat_lt c
 rw [← hb] at h256 CX ⊢
 obtain ⟨R,hR⟩:∃ R,R=sizeF s c:=⟨_,rfl⟩
 rw [← hR] at HQ ⊢
 have CX:=Hy CX
 clear hR hb hq h hG
 by_cases h1:ev=0
 ·subst h1
  by_cases h2:n≤15
  ·rw [decide_eq_true h2] at hg
   cases rs with
   | nil=>cases hg
   | cons x rs =>
    have CT:=Hy CT
    have hx:¬ x=59:=by simpa using hg
    have d5:((x.toNat:Int) == 59)=false:=by rw [beq_eq_false_iff_ne];intro e;exact hx (UInt8.toNat_inj.1 (by show x.toNat=59;omega))
    have e5:(str (x::rs)).toList.isEmpty=false:=by rw [Lib.toList_data];rfl
    have h2':(n:Int)≤15:=by omega
    clear hrs hg hx h2
    go_enter Tryz.func74,Tryz.ntmps74
    go_wp2_with (first
     | (go_at_call 100;refine (CX.out).mono ?_;rintro e w2 ⟨rfl,o2,hp2,st2⟩;obtain ⟨A,m,B,d,C,g,hr,h1,h2,h3,h4,h5,h6⟩:=hp2.row;have c1:=hr.c2;have c3:=hr.c3;have c4:=hr.c4;have c5:=hr.c5;have f4:=hr.fz 4 (by decide);have f5:=hr.fz 5 (by decide);have HE:=Hy hp2;have HR:=Hy hr;have ST:=Hy st2;have HER:=Hy ((HG.out.stp st2 (by unfold KF;omega)).er);clear hr h1 h2 h3 h4 h5 h6 hp2 st2)
     | (go_at_call 86;refine (CI.out _).mono ?_;rintro e w3 ⟨rfl,hx3⟩)
     | (go_at_call 101;refine (CH.out _ (HER.out.ext hx3)).mono ?_;rintro e w4 ⟨rfl,hx4⟩)
     | (go_at_call 79;refine (CT.out _).mono ?_;rintro e w5 ⟨rfl,hx5⟩;have hxa:Ext w2 w5:=Xq;have hr5:=HR.out.ext hxa;have k2:=hr5.c2;have k3:=hr5.c3;have k4:=hr5.c4;have k5:=hr5.c5;have g4:=hr5.fz 4 (by decide);have g5:=hr5.fz 5 (by decide);clear c1 c3 c4 c5 f4 f5 hr5)
     | (go_at_call 99;refine (fdemand_c _ _ _).mono ?_;rintro e w6 ⟨hy,hn,rfl⟩;first | (obtain rfl:=hy rfl;clear hy hn) | (obtain rfl:=hn rfl;clear hy hn) | (obtain rfl:=hy d9;clear hy hn) | (obtain rfl:=hn d9;clear hy hn)))
    simp only [bodyPost]
    rw [HQ.out]
    exact ⟨trivial,rfl,o2,HE.out.ext Xq,ST.out.tr (Stp.ext Xq)⟩
  ·have CT:=Hy CT
   have h2':¬(n:Int)≤15:=by omega
   clear hrs hg h2
   go_enter Tryz.func74,Tryz.ntmps74
   go_wp2_with (first
    | (go_at_call 100;refine (CX.out).mono ?_;rintro e w2 ⟨rfl,o2,hp2,st2⟩;obtain ⟨A,m,B,d,C,g,hr,h1,h2,h3,h4,h5,h6⟩:=hp2.row;have c1:=hr.c2;have c3:=hr.c3;have c4:=hr.c4;have c5:=hr.c5;have f4:=hr.fz 4 (by decide);have f5:=hr.fz 5 (by decide);have HE:=Hy hp2;have HR:=Hy hr;have ST:=Hy st2;have HER:=Hy ((HG.out.stp st2 (by unfold KF;omega)).er);clear hr h1 h2 h3 h4 h5 h6 hp2 st2)
    | (go_at_call 86;refine (CI.out _).mono ?_;rintro e w3 ⟨rfl,hx3⟩)
    | (go_at_call 101;refine (CH.out _ (HER.out.ext hx3)).mono ?_;rintro e w4 ⟨rfl,hx4⟩)
    | (go_at_call 79;refine (CT.out _).mono ?_;rintro e w5 ⟨rfl,hx5⟩;have hxa:Ext w2 w5:=Xq;have hr5:=HR.out.ext hxa;have k2:=hr5.c2;have k3:=hr5.c3;have k4:=hr5.c4;have k5:=hr5.c5;have g4:=hr5.fz 4 (by decide);have g5:=hr5.fz 5 (by decide);clear c1 c3 c4 c5 f4 f5 hr5)
    | (go_at_call 99;refine (fdemand_c _ _ _).mono ?_;rintro e w6 ⟨hy,hn,rfl⟩;first | (obtain rfl:=hy rfl;clear hy hn) | (obtain rfl:=hn rfl;clear hy hn) | (obtain rfl:=hy d9;clear hy hn) | (obtain rfl:=hn d9;clear hy hn)))
   simp only [bodyPost]
   rw [HQ.out]
   exact ⟨trivial,rfl,o2,HE.out.ext Xq,ST.out.tr (Stp.ext Xq)⟩
 ·have CT:=Hy CT
  have d1:(ev == 0)=false:=by rw [beq_eq_false_iff_ne];exact h1
  clear hrs hg h1
  go_enter Tryz.func74,Tryz.ntmps74
  go_wp2_with (first
   | (go_at_call 100;refine (CX.out).mono ?_;rintro e w2 ⟨rfl,o2,hp2,st2⟩;obtain ⟨A,m,B,d,C,g,hr,h1,h2,h3,h4,h5,h6⟩:=hp2.row;have c1:=hr.c2;have c3:=hr.c3;have c4:=hr.c4;have c5:=hr.c5;have f4:=hr.fz 4 (by decide);have f5:=hr.fz 5 (by decide);have HE:=Hy hp2;have HR:=Hy hr;have ST:=Hy st2;have HER:=Hy ((HG.out.stp st2 (by unfold KF;omega)).er);clear hr h1 h2 h3 h4 h5 h6 hp2 st2)
   | (go_at_call 86;refine (CI.out _).mono ?_;rintro e w3 ⟨rfl,hx3⟩)
   | (go_at_call 101;refine (CH.out _ (HER.out.ext hx3)).mono ?_;rintro e w4 ⟨rfl,hx4⟩)
   | (go_at_call 79;refine (CT.out _).mono ?_;rintro e w5 ⟨rfl,hx5⟩;have hxa:Ext w2 w5:=Xq;have hr5:=HR.out.ext hxa;have k2:=hr5.c2;have k3:=hr5.c3;have k4:=hr5.c4;have k5:=hr5.c5;have g4:=hr5.fz 4 (by decide);have g5:=hr5.fz 5 (by decide);clear c1 c3 c4 c5 f4 f5 hr5)
   | (go_at_call 99;refine (fdemand_c _ _ _).mono ?_;rintro e w6 ⟨hy,hn,rfl⟩;first | (obtain rfl:=hy rfl;clear hy hn) | (obtain rfl:=hn rfl;clear hy hn) | (obtain rfl:=hy d9;clear hy hn) | (obtain rfl:=hn d9;clear hy hn)))
  simp only [bodyPost]
  rw [HQ.out]
  exact ⟨trivial,rfl,o2,HE.out.ext Xq,ST.out.tr (Stp.ext Xq)⟩
theorem fSize_big (k P:Nat) (hk:0<k) (s t:Rst) (c:UInt8) (e:Int) (l:List UInt8) (hl:l.length≤8192) (hl8:s.line.length≤8192) (ht:textF s c=(t,some l,e)) (hg:szG l=true) (hle:¬ szV l≤(t.most:Int)-t.all) (hta:t.all≤t.most) (htm:t.most≤1048576) (w:World) (o:Ow) (h:FsAt w o k P s) (hG:GlF w o) :
  Calls Tryz.prog 74 #[.pointer (some ⟨P,0,none⟩),.int .u8 (c.toNat:Int)] w (TurnsF k w o P (sizeF s c)):=by
 have hq:sizeF s c=(t,6)∧szV l=szV l∧szG l=true:=⟨by unfold sizeF;rw [ht];dsimp only;unfold sizeL;rw [if_pos hg,if_neg hle],rfl,hg⟩
 have CX:=txt_ln hl8 ht w o h
 have hVn:0≤szV l:=numL_nn 16 1152921504606846976 _
 clear hg
 have hnl:=szN_le l
 have CI:=fun w=>IndexAny_c12 (l++[59]) (by simp;omega) w
 rw [ia_sz l] at CI
 have CH:=fun w hE=>Hex_c (l.take (szN l)) (by simp;omega) w hE
 have CT:=fun w=>Trim_c (l.drop (szN l)) (by unfold maxLen;simp;omega) w
 have hcat:=cat_ok (P:=Tryz.prog) (str l) ⟨#[59]⟩ (by rw [str_size];show l.length+1≤_;omega)
 have x0:str l++(⟨#[59]⟩:ByteArray)=str (l++[59]):=str_app_mk l #[59]
 rw [x0] at hcat
 have x1:=str_take l (szN l)
 have x2:=str_drop l (szN l) l.length rfl
 have x3:(str l).size=l.length:=str_size l
 obtain ⟨n,hn⟩:∃ n,n=szN l:=⟨_,rfl⟩
 obtain ⟨L,hL⟩:∃ n,n=l.length:=⟨_,rfl⟩
 have hv:(numL 16 1152921504606846976 (l.take (szN l))).1=szV l:=rfl
 obtain ⟨ev,hev⟩:∃ x,x=(numL 16 1152921504606846976 (l.take (szN l))).2:=⟨_,rfl⟩
 rw [hv,← hev] at CH
 obtain ⟨V,hV⟩:∃ x,x=szV l:=⟨_,rfl⟩
 rw [← hV] at CH hq
 obtain ⟨rs,hrs⟩:∃ x,x=trimL (l.drop (szN l)):=⟨_,rfl⟩
 rw [← hrs] at CT
 have hgg:szG l=(decide (ev=0) && decide (n≤15) && (rs.isEmpty || decide (rs[0]?=some 59))):=by rw [hev,hn,hrs];rfl
 rw [← hn] at CI CH CT x1 x2 hnl
 rw [← hL] at x2 x3 hnl
 rw [hgg] at hq
 obtain ⟨sl,hsl⟩:∃ x,x=str l:=⟨_,rfl⟩
 obtain ⟨s2,hs2⟩:∃ x,x=str (l++[59]):=⟨_,rfl⟩
 obtain ⟨s3,hs3⟩:∃ x,x=str (l.take n):=⟨_,rfl⟩
 obtain ⟨s4,hs4⟩:∃ x,x=str (l.drop n):=⟨_,rfl⟩
 rw [← hsl] at CX hcat x1 x2 x3
 rw [← hs2] at hcat CI
 rw [← hs3] at x1 CH
 rw [← hs4] at x2 CT
 have CI:=Hy CI
 have CH:=Hy CH
 clear hgg hsl hs2 hs3 hs4 hv x0 hn hL hev
 obtain ⟨hq,_,hg⟩:=hq
 rw [← hV] at hVn hle
 obtain ⟨Vn,hVN⟩:∃ k:Nat,V=(k:Int):=⟨V.toNat,by omega⟩
 rw [hVN] at CH hle
 rw [Bool.and_eq_true,Bool.and_eq_true] at hg
 obtain ⟨⟨hg1,hg2⟩,hg3⟩:=hg
 obtain rfl:ev=0:=of_decide_eq_true hg1
 have h2':(n:Int)≤15:=by have:=of_decide_eq_true hg2;omega
 have sm:IntKind.i64.wrap ((t.most:Int)-(t.all:Int))=((t.most-t.all:Nat):Int):=by rw [IntKind.wrap_i64];omega
 have CH:=Hy CH.out
 have d9:decide (Vn≤t.most-t.all)=false:=decide_eq_false (by omega)
 have d8:decide ((Vn:Int)≤((t.most-t.all:Nat):Int))=false:=decide_eq_false (by omega)
 clear hV hVN ht hl8 hl hVn hle hta htm hg1 hg2
 have HQ:=Hy hq
 have HG:=Hy hG
 obtain ⟨b,hb⟩:∃ b,b=c.toNat:=⟨_,rfl⟩
 have h256:=UInt8.toNat_lt c
 rw [← hb] at h256 CX ⊢
 obtain ⟨R,hR⟩:∃ R,R=sizeF s c:=⟨_,rfl⟩
 rw [← hR] at HQ ⊢
 have CX:=Hy CX
 clear hR hb hq h hG
 cases rs with
 | nil =>
  have CT:=Hy CT
  rw [show str ([]:List UInt8)=⟨#[]⟩ from rfl] at CT
  clear hrs hg3
  go_enter Tryz.func74,Tryz.ntmps74
  go_wp2_with (first
   | (go_at_call 100;refine (CX.out).mono ?_;rintro e w2 ⟨rfl,o2,hp2,st2⟩;obtain ⟨A,m,B,d,C,g,hr,h1,h2,h3,h4,h5,h6⟩:=hp2.row;have c1:=hr.c2;have c3:=hr.c3;have c4:=hr.c4;have c5:=hr.c5;have f4:=hr.fz 4 (by decide);have f5:=hr.fz 5 (by decide);have HE:=Hy hp2;have HR:=Hy hr;have ST:=Hy st2;have HER:=Hy ((HG.out.stp st2 (by unfold KF;omega)).er);clear hr h1 h2 h3 h4 h5 h6 hp2 st2)
   | (go_at_call 86;refine (CI.out _).mono ?_;rintro e w3 ⟨rfl,hx3⟩)
   | (go_at_call 101;refine (CH.out _ (HER.out.ext hx3)).mono ?_;rintro e w4 ⟨rfl,hx4⟩)
   | (go_at_call 79;refine (CT.out _).mono ?_;rintro e w5 ⟨rfl,hx5⟩;have hxa:Ext w2 w5:=Xq;have hr5:=HR.out.ext hxa;have k2:=hr5.c2;have k3:=hr5.c3;have k4:=hr5.c4;have k5:=hr5.c5;have g4:=hr5.fz 4 (by decide);have g5:=hr5.fz 5 (by decide);clear c1 c3 c4 c5 f4 f5 hr5)
   | (go_at_call 99;refine (fdemand_c _ _ _).mono ?_;rintro e w6 ⟨hy,hn,rfl⟩;first | (obtain rfl:=hy rfl;clear hy hn) | (obtain rfl:=hn rfl;clear hy hn) | (obtain rfl:=hy d9;clear hy hn) | (obtain rfl:=hn d9;clear hy hn)))
  go_region_dies
  all_goals go_wp2_with (first | (go_at_call 99;refine (fdemand_c _ _ _).mono ?_;rintro e w6 ⟨hy,hn,rfl⟩;first | (obtain rfl:=hy rfl;clear hy hn) | (obtain rfl:=hn rfl;clear hy hn) | (obtain rfl:=hy d9;clear hy hn) | (obtain rfl:=hn d9;clear hy hn) | (obtain rfl:=hy d8;clear hy hn) | (obtain rfl:=hn d8;clear hy hn)))
  all_goals simp only [bodyPost]
  all_goals rw [HQ.out]
  all_goals exact ⟨trivial,rfl,o2,HE.out.ext Xq,ST.out.tr (Stp.ext Xq)⟩
 | cons x rs =>
  have CT:=Hy CT
  obtain rfl:x=59:=by simpa using hg3
  have e5:(str (59::rs)).toList.isEmpty=false:=by rw [Lib.toList_data];rfl
  clear hrs hg3
  go_enter Tryz.func74,Tryz.ntmps74
  go_wp2_with (first
   | (go_at_call 100;refine (CX.out).mono ?_;rintro e w2 ⟨rfl,o2,hp2,st2⟩;obtain ⟨A,m,B,d,C,g,hr,h1,h2,h3,h4,h5,h6⟩:=hp2.row;have c1:=hr.c2;have c3:=hr.c3;have c4:=hr.c4;have c5:=hr.c5;have f4:=hr.fz 4 (by decide);have f5:=hr.fz 5 (by decide);have HE:=Hy hp2;have HR:=Hy hr;have ST:=Hy st2;have HER:=Hy ((HG.out.stp st2 (by unfold KF;omega)).er);clear hr h1 h2 h3 h4 h5 h6 hp2 st2)
   | (go_at_call 86;refine (CI.out _).mono ?_;rintro e w3 ⟨rfl,hx3⟩)
   | (go_at_call 101;refine (CH.out _ (HER.out.ext hx3)).mono ?_;rintro e w4 ⟨rfl,hx4⟩)
   | (go_at_call 79;refine (CT.out _).mono ?_;rintro e w5 ⟨rfl,hx5⟩;have hxa:Ext w2 w5:=Xq;have hr5:=HR.out.ext hxa;have k2:=hr5.c2;have k3:=hr5.c3;have k4:=hr5.c4;have k5:=hr5.c5;have g4:=hr5.fz 4 (by decide);have g5:=hr5.fz 5 (by decide);clear c1 c3 c4 c5 f4 f5 hr5)
   | (go_at_call 99;refine (fdemand_c _ _ _).mono ?_;rintro e w6 ⟨hy,hn,rfl⟩;first | (obtain rfl:=hy rfl;clear hy hn) | (obtain rfl:=hn rfl;clear hy hn) | (obtain rfl:=hy d9;clear hy hn) | (obtain rfl:=hn d9;clear hy hn)))
  go_region_dies
  all_goals go_wp2_with (first | (go_at_call 99;refine (fdemand_c _ _ _).mono ?_;rintro e w6 ⟨hy,hn,rfl⟩;first | (obtain rfl:=hy rfl;clear hy hn) | (obtain rfl:=hn rfl;clear hy hn) | (obtain rfl:=hy d9;clear hy hn) | (obtain rfl:=hn d9;clear hy hn) | (obtain rfl:=hy d8;clear hy hn) | (obtain rfl:=hn d8;clear hy hn)))
  all_goals simp only [bodyPost]
  all_goals rw [HQ.out]
  all_goals exact ⟨trivial,rfl,o2,HE.out.ext Xq,ST.out.tr (Stp.ext Xq)⟩
theorem fSize_zero (k P:Nat) (hk:0<k) (s t:Rst) (c:UInt8) (e:Int) (l:List UInt8) (hl:l.length≤8192) (hl8:s.line.length≤8192) (ht:textF s c=(t,some l,e)) (hg:szG l=true) (hle:szV l≤(t.most:Int)-t.all) (h0:szV l=0) (hta:t.all≤t.most) (htm:t.most≤1048576) (w:World) (o:Ow) (h:FsAt w o k P s) (hG:GlF w o) :
  Calls Tryz.prog 74 #[.pointer (some ⟨P,0,none⟩),.int .u8 (c.toNat:Int)] w (TurnsF k w o P (sizeF s c)):=by
 have hq:sizeF s c=({ t with state:=4,left:=0 },0)∧szV l=szV l∧szG l=true:=⟨by unfold sizeF;rw [ht];dsimp only;unfold sizeL;rw [if_pos hg,if_pos hle,if_pos h0,h0];rfl,rfl,hg⟩
 have CX:=txt_ln hl8 ht w o h
 have hVn:0≤szV l:=numL_nn 16 1152921504606846976 _
 clear hg
 have hnl:=szN_le l
 have CI:=fun w=>IndexAny_c12 (l++[59]) (by simp;omega) w
 rw [ia_sz l] at CI
 have CH:=fun w hE=>Hex_c (l.take (szN l)) (by simp;omega) w hE
 have CT:=fun w=>Trim_c (l.drop (szN l)) (by unfold maxLen;simp;omega) w
 have hcat:=cat_ok (P:=Tryz.prog) (str l) ⟨#[59]⟩ (by rw [str_size];show l.length+1≤_;omega)
 have x0:str l++(⟨#[59]⟩:ByteArray)=str (l++[59]):=str_app_mk l #[59]
 rw [x0] at hcat
 have x1:=str_take l (szN l)
 have x2:=str_drop l (szN l) l.length rfl
 have x3:(str l).size=l.length:=str_size l
 obtain ⟨n,hn⟩:∃ n,n=szN l:=⟨_,rfl⟩
 obtain ⟨L,hL⟩:∃ n,n=l.length:=⟨_,rfl⟩
 have hv:(numL 16 1152921504606846976 (l.take (szN l))).1=szV l:=rfl
 obtain ⟨ev,hev⟩:∃ x,x=(numL 16 1152921504606846976 (l.take (szN l))).2:=⟨_,rfl⟩
 rw [hv,← hev] at CH
 obtain ⟨V,hV⟩:∃ x,x=szV l:=⟨_,rfl⟩
 rw [← hV] at CH hq
 obtain ⟨rs,hrs⟩:∃ x,x=trimL (l.drop (szN l)):=⟨_,rfl⟩
 rw [← hrs] at CT
 have hgg:szG l=(decide (ev=0) && decide (n≤15) && (rs.isEmpty || decide (rs[0]?=some 59))):=by rw [hev,hn,hrs];rfl
 rw [← hn] at CI CH CT x1 x2 hnl
 rw [← hL] at x2 x3 hnl
 rw [hgg] at hq
 obtain ⟨sl,hsl⟩:∃ x,x=str l:=⟨_,rfl⟩
 obtain ⟨s2,hs2⟩:∃ x,x=str (l++[59]):=⟨_,rfl⟩
 obtain ⟨s3,hs3⟩:∃ x,x=str (l.take n):=⟨_,rfl⟩
 obtain ⟨s4,hs4⟩:∃ x,x=str (l.drop n):=⟨_,rfl⟩
 rw [← hsl] at CX hcat x1 x2 x3
 rw [← hs2] at hcat CI
 rw [← hs3] at x1 CH
 rw [← hs4] at x2 CT
 have CI:=Hy CI
 have CH:=Hy CH
 clear hgg hsl hs2 hs3 hs4 hv x0 hn hL hev
 obtain ⟨hq,_,hg⟩:=hq
 rw [← hV] at hVn hle
 obtain ⟨Vn,hVN⟩:∃ k:Nat,V=(k:Int):=⟨V.toNat,by omega⟩
 rw [hVN] at CH hle
 rw [Bool.and_eq_true,Bool.and_eq_true] at hg
 obtain ⟨⟨hg1,hg2⟩,hg3⟩:=hg
 obtain rfl:ev=0:=of_decide_eq_true hg1
 have h2':(n:Int)≤15:=by have:=of_decide_eq_true hg2;omega
 have sm:IntKind.i64.wrap ((t.most:Int)-(t.all:Int))=((t.most-t.all:Nat):Int):=by rw [IntKind.wrap_i64];omega
 have CH:=Hy CH.out
 rw [← hV,hVN] at h0
 obtain rfl:Vn=0:=by omega
 have d9:decide (0≤t.most-t.all)=true:=decide_eq_true (by omega)
 have d8:decide ((0:Int)≤((t.most-t.all:Nat):Int))=true:=decide_eq_true (by omega)
 rw [show (((0:Nat):Int))=0 from rfl] at CH
 clear hV hVN ht hl8 hl hVn hle hta htm hg1 hg2 h0
 have HQ:=Hy hq
 have HG:=Hy hG
 obtain ⟨b,hb⟩:∃ b,b=c.toNat:=⟨_,rfl⟩
 have h256:=UInt8.toNat_lt c
 rw [← hb] at h256 CX ⊢
 obtain ⟨R,hR⟩:∃ R,R=sizeF s c:=⟨_,rfl⟩
 rw [← hR] at HQ ⊢
 have CX:=Hy CX
 clear hR hb hq h hG
 cases rs with
 | nil =>
  have CT:=Hy CT
  rw [show str ([]:List UInt8)=⟨#[]⟩ from rfl] at CT
  clear hrs hg3
  go_enter Tryz.func74,Tryz.ntmps74
  go_wp2_with (first
   | (go_at_call 100;refine (CX.out).mono ?_;rintro e w2 ⟨rfl,o2,hp2,st2⟩;obtain ⟨A,m,B,d,C,g,hr,h1,h2,h3,h4,h5,h6⟩:=hp2.row;have c1:=hr.c2;have c3:=hr.c3;have c4:=hr.c4;have c5:=hr.c5;have f4:=hr.fz 4 (by decide);have f5:=hr.fz 5 (by decide);have HE:=Hy hp2;have HR:=Hy hr;have ST:=Hy st2;have HER:=Hy ((HG.out.stp st2 (by unfold KF;omega)).er);clear hr h1 h2 h3 h4 h5 h6 hp2 st2)
   | (go_at_call 86;refine (CI.out _).mono ?_;rintro e w3 ⟨rfl,hx3⟩)
   | (go_at_call 101;refine (CH.out _ (HER.out.ext hx3)).mono ?_;rintro e w4 ⟨rfl,hx4⟩)
   | (go_at_call 79;refine (CT.out _).mono ?_;rintro e w5 ⟨rfl,hx5⟩;have hxa:Ext w2 w5:=Xq;have hr5:=HR.out.ext hxa;have k2:=hr5.c2;have k3:=hr5.c3;have k4:=hr5.c4;have k5:=hr5.c5;have g4:=hr5.fz 4 (by decide);have g5:=hr5.fz 5 (by decide);clear c1 c3 c4 c5 f4 f5 hr5)
   | (go_at_call 99;refine (fdemand_c _ _ _).mono ?_;rintro e w6 ⟨hy,hn,rfl⟩;first | (obtain rfl:=hy rfl;clear hy hn) | (obtain rfl:=hn rfl;clear hy hn) | (obtain rfl:=hy d9;clear hy hn) | (obtain rfl:=hn d9;clear hy hn)))
  go_region_with (first | (go_at_call 99;refine (fdemand_c _ _ _).mono ?_;rintro e w6 ⟨hy,hn,rfl⟩;first | (obtain rfl:=hy rfl;clear hy hn) | (obtain rfl:=hn rfl;clear hy hn) | (obtain rfl:=hy d9;clear hy hn) | (obtain rfl:=hn d9;clear hy hn) | (obtain rfl:=hy d8;clear hy hn) | (obtain rfl:=hn d8;clear hy hn)))
  all_goals go_wp2
  all_goals go_end0
  all_goals (
   rw [HQ.out]
   have e0:=HE.out.ext hxa
   have e1:=e0.put (s':={ t with state:=2 }) 4 (.int .i64 2) rfl rfl rfl (fun _ _ _ _ _ _=>rfl)
   have e2:=e1.put (s':={ t with state:=2,left:=0 }) 5 (.int .i64 0) rfl rfl rfl (fun _ _ _ _ _ _=>rfl)
   have e3:=e2.put (s':={ t with state:=4,left:=0 }) 4 (.int .i64 4) rfl rfl rfl (fun _ _ _ _ _ _=>rfl)
   have t1:=((ST.out.tr (Stp.ext hxa)).tr (setF_stp 4 (.int .i64 2) e0.own)).tr (setF_stp 5 (.int .i64 0) e0.own)
   exact ⟨rfl,o2,e3.ext Xq,(t1.tr (setF_stp 4 (.int .i64 4) e0.own)).tr (Stp.ext Xq)⟩)
 | cons x rs =>
  have CT:=Hy CT
  obtain rfl:x=59:=by simpa using hg3
  have e5:(str (59::rs)).toList.isEmpty=false:=by rw [Lib.toList_data];rfl
  clear hrs hg3
  go_enter Tryz.func74,Tryz.ntmps74
  go_wp2_with (first
   | (go_at_call 100;refine (CX.out).mono ?_;rintro e w2 ⟨rfl,o2,hp2,st2⟩;obtain ⟨A,m,B,d,C,g,hr,h1,h2,h3,h4,h5,h6⟩:=hp2.row;have c1:=hr.c2;have c3:=hr.c3;have c4:=hr.c4;have c5:=hr.c5;have f4:=hr.fz 4 (by decide);have f5:=hr.fz 5 (by decide);have HE:=Hy hp2;have HR:=Hy hr;have ST:=Hy st2;have HER:=Hy ((HG.out.stp st2 (by unfold KF;omega)).er);clear hr h1 h2 h3 h4 h5 h6 hp2 st2)
   | (go_at_call 86;refine (CI.out _).mono ?_;rintro e w3 ⟨rfl,hx3⟩)
   | (go_at_call 101;refine (CH.out _ (HER.out.ext hx3)).mono ?_;rintro e w4 ⟨rfl,hx4⟩)
   | (go_at_call 79;refine (CT.out _).mono ?_;rintro e w5 ⟨rfl,hx5⟩;have hxa:Ext w2 w5:=Xq;have hr5:=HR.out.ext hxa;have k2:=hr5.c2;have k3:=hr5.c3;have k4:=hr5.c4;have k5:=hr5.c5;have g4:=hr5.fz 4 (by decide);have g5:=hr5.fz 5 (by decide);clear c1 c3 c4 c5 f4 f5 hr5)
   | (go_at_call 99;refine (fdemand_c _ _ _).mono ?_;rintro e w6 ⟨hy,hn,rfl⟩;first | (obtain rfl:=hy rfl;clear hy hn) | (obtain rfl:=hn rfl;clear hy hn) | (obtain rfl:=hy d9;clear hy hn) | (obtain rfl:=hn d9;clear hy hn)))
  go_region_with (first | (go_at_call 99;refine (fdemand_c _ _ _).mono ?_;rintro e w6 ⟨hy,hn,rfl⟩;first | (obtain rfl:=hy rfl;clear hy hn) | (obtain rfl:=hn rfl;clear hy hn) | (obtain rfl:=hy d9;clear hy hn) | (obtain rfl:=hn d9;clear hy hn) | (obtain rfl:=hy d8;clear hy hn) | (obtain rfl:=hn d8;clear hy hn)))
  all_goals go_wp2
  all_goals go_end0
  all_goals (
   rw [HQ.out]
   have e0:=HE.out.ext hxa
   have e1:=e0.put (s':={ t with state:=2 }) 4 (.int .i64 2) rfl rfl rfl (fun _ _ _ _ _ _=>rfl)
   have e2:=e1.put (s':={ t with state:=2,left:=0 }) 5 (.int .i64 0) rfl rfl rfl (fun _ _ _ _ _ _=>rfl)
   have e3:=e2.put (s':={ t with state:=4,left:=0 }) 4 (.int .i64 4) rfl rfl rfl (fun _ _ _ _ _ _=>rfl)
   have t1:=((ST.out.tr (Stp.ext hxa)).tr (setF_stp 4 (.int .i64 2) e0.own)).tr (setF_stp 5 (.int .i64 0) e0.own)
   exact ⟨rfl,o2,e3.ext Xq,(t1.tr (setF_stp 4 (.int .i64 4) e0.own)).tr (Stp.ext Xq)⟩)
theorem fSize_more (k P:Nat) (hk:0<k) (s t:Rst) (c:UInt8) (e:Int) (l:List UInt8) (hl:l.length≤8192) (hl8:s.line.length≤8192) (ht:textF s c=(t,some l,e)) (hg:szG l=true) (hle:szV l≤(t.most:Int)-t.all) (h0:szV l≠0) (hta:t.all≤t.most) (htm:t.most≤1048576) (w:World) (o:Ow) (h:FsAt w o k P s) (hG:GlF w o) :
  Calls Tryz.prog 74 #[.pointer (some ⟨P,0,none⟩),.int .u8 (c.toNat:Int)] w (TurnsF k w o P (sizeF s c)):=by
 have hq:sizeF s c=({ t with state:=2,left:=(szV l).toNat },0)∧szV l=szV l∧szG l=true:=⟨by unfold sizeF;rw [ht];dsimp only;unfold sizeL;rw [if_pos hg,if_pos hle,if_neg h0],rfl,hg⟩
 have CX:=txt_ln hl8 ht w o h
 have hVn:0≤szV l:=numL_nn 16 1152921504606846976 _
 clear hg
 have hnl:=szN_le l
 have CI:=fun w=>IndexAny_c12 (l++[59]) (by simp;omega) w
 rw [ia_sz l] at CI
 have CH:=fun w hE=>Hex_c (l.take (szN l)) (by simp;omega) w hE
 have CT:=fun w=>Trim_c (l.drop (szN l)) (by unfold maxLen;simp;omega) w
 have hcat:=cat_ok (P:=Tryz.prog) (str l) ⟨#[59]⟩ (by rw [str_size];show l.length+1≤_;omega)
 have x0:str l++(⟨#[59]⟩:ByteArray)=str (l++[59]):=str_app_mk l #[59]
 rw [x0] at hcat
 have x1:=str_take l (szN l)
 have x2:=str_drop l (szN l) l.length rfl
 have x3:(str l).size=l.length:=str_size l
 obtain ⟨n,hn⟩:∃ n,n=szN l:=⟨_,rfl⟩
 obtain ⟨L,hL⟩:∃ n,n=l.length:=⟨_,rfl⟩
 have hv:(numL 16 1152921504606846976 (l.take (szN l))).1=szV l:=rfl
 obtain ⟨ev,hev⟩:∃ x,x=(numL 16 1152921504606846976 (l.take (szN l))).2:=⟨_,rfl⟩
 rw [hv,← hev] at CH
 obtain ⟨V,hV⟩:∃ x,x=szV l:=⟨_,rfl⟩
 rw [← hV] at CH hq
 obtain ⟨rs,hrs⟩:∃ x,x=trimL (l.drop (szN l)):=⟨_,rfl⟩
 rw [← hrs] at CT
 have hgg:szG l=(decide (ev=0) && decide (n≤15) && (rs.isEmpty || decide (rs[0]?=some 59))):=by rw [hev,hn,hrs];rfl
 rw [← hn] at CI CH CT x1 x2 hnl
 rw [← hL] at x2 x3 hnl
 rw [hgg] at hq
 obtain ⟨sl,hsl⟩:∃ x,x=str l:=⟨_,rfl⟩
 obtain ⟨s2,hs2⟩:∃ x,x=str (l++[59]):=⟨_,rfl⟩
 obtain ⟨s3,hs3⟩:∃ x,x=str (l.take n):=⟨_,rfl⟩
 obtain ⟨s4,hs4⟩:∃ x,x=str (l.drop n):=⟨_,rfl⟩
 rw [← hsl] at CX hcat x1 x2 x3
 rw [← hs2] at hcat CI
 rw [← hs3] at x1 CH
 rw [← hs4] at x2 CT
 have CI:=Hy CI
 have CH:=Hy CH
 clear hgg hsl hs2 hs3 hs4 hv x0 hn hL hev
 obtain ⟨hq,_,hg⟩:=hq
 rw [← hV] at hVn hle
 obtain ⟨Vn,hVN⟩:∃ k:Nat,V=(k:Int):=⟨V.toNat,by omega⟩
 rw [hVN] at CH hle
 rw [Bool.and_eq_true,Bool.and_eq_true] at hg
 obtain ⟨⟨hg1,hg2⟩,hg3⟩:=hg
 obtain rfl:ev=0:=of_decide_eq_true hg1
 have h2':(n:Int)≤15:=by have:=of_decide_eq_true hg2;omega
 have sm:IntKind.i64.wrap ((t.most:Int)-(t.all:Int))=((t.most-t.all:Nat):Int):=by rw [IntKind.wrap_i64];omega
 have CH:=Hy CH.out
 rw [← hV,hVN] at h0
 rw [hVN,Int.toNat_natCast] at hq
 have d9:decide (Vn≤t.most-t.all)=true:=decide_eq_true (by omega)
 have d8:decide ((Vn:Int)≤((t.most-t.all:Nat):Int))=true:=decide_eq_true (by omega)
 have d7:((Vn:Int) == 0)=false:=by rw [beq_eq_false_iff_ne];exact h0
 clear hV hVN ht hl8 hl hVn hle hta htm hg1 hg2 h0
 have HQ:=Hy hq
 have HG:=Hy hG
 obtain ⟨b,hb⟩:∃ b,b=c.toNat:=⟨_,rfl⟩
 have h256:=UInt8.toNat_lt c
 rw [← hb] at h256 CX ⊢
 obtain ⟨R,hR⟩:∃ R,R=sizeF s c:=⟨_,rfl⟩
 rw [← hR] at HQ ⊢
 have CX:=Hy CX
 clear hR hb hq h hG
 cases rs with
 | nil =>
  have CT:=Hy CT
  rw [show str ([]:List UInt8)=⟨#[]⟩ from rfl] at CT
  clear hrs hg3
  go_enter Tryz.func74,Tryz.ntmps74
  go_wp2_with (first
   | (go_at_call 100;refine (CX.out).mono ?_;rintro e w2 ⟨rfl,o2,hp2,st2⟩;obtain ⟨A,m,B,d,C,g,hr,h1,h2,h3,h4,h5,h6⟩:=hp2.row;have c1:=hr.c2;have c3:=hr.c3;have c4:=hr.c4;have c5:=hr.c5;have f4:=hr.fz 4 (by decide);have f5:=hr.fz 5 (by decide);have HE:=Hy hp2;have HR:=Hy hr;have ST:=Hy st2;have HER:=Hy ((HG.out.stp st2 (by unfold KF;omega)).er);clear hr h1 h2 h3 h4 h5 h6 hp2 st2)
   | (go_at_call 86;refine (CI.out _).mono ?_;rintro e w3 ⟨rfl,hx3⟩)
   | (go_at_call 101;refine (CH.out _ (HER.out.ext hx3)).mono ?_;rintro e w4 ⟨rfl,hx4⟩)
   | (go_at_call 79;refine (CT.out _).mono ?_;rintro e w5 ⟨rfl,hx5⟩;have hxa:Ext w2 w5:=Xq;have hr5:=HR.out.ext hxa;have k2:=hr5.c2;have k3:=hr5.c3;have k4:=hr5.c4;have k5:=hr5.c5;have g4:=hr5.fz 4 (by decide);have g5:=hr5.fz 5 (by decide);clear c1 c3 c4 c5 f4 f5 hr5)
   | (go_at_call 99;refine (fdemand_c _ _ _).mono ?_;rintro e w6 ⟨hy,hn,rfl⟩;first | (obtain rfl:=hy rfl;clear hy hn) | (obtain rfl:=hn rfl;clear hy hn) | (obtain rfl:=hy d9;clear hy hn) | (obtain rfl:=hn d9;clear hy hn)))
  go_region_with (first | (go_at_call 99;refine (fdemand_c _ _ _).mono ?_;rintro e w6 ⟨hy,hn,rfl⟩;first | (obtain rfl:=hy rfl;clear hy hn) | (obtain rfl:=hn rfl;clear hy hn) | (obtain rfl:=hy d9;clear hy hn) | (obtain rfl:=hn d9;clear hy hn) | (obtain rfl:=hy d8;clear hy hn) | (obtain rfl:=hn d8;clear hy hn)))
  all_goals go_wp2
  all_goals go_end0
  all_goals (
   rw [HQ.out]
   have e0:=HE.out.ext hxa
   have e1:=e0.put (s':={ t with state:=2 }) 4 (.int .i64 2) rfl rfl rfl (fun _ _ _ _ _ _=>rfl)
   have e2:=e1.put (s':={ t with state:=2,left:=Vn }) 5 (.int .i64 (Vn:Int)) rfl rfl rfl (fun _ _ _ _ _ _=>rfl)
   have t1:=((ST.out.tr (Stp.ext hxa)).tr (setF_stp 4 (.int .i64 2) e0.own)).tr (setF_stp 5 (.int .i64 (Vn:Int)) e0.own)
   exact ⟨rfl,o2,e2.ext Xq,t1.tr (Stp.ext Xq)⟩)
 | cons x rs =>
  have CT:=Hy CT
  obtain rfl:x=59:=by simpa using hg3
  have e5:(str (59::rs)).toList.isEmpty=false:=by rw [Lib.toList_data];rfl
  clear hrs hg3
  go_enter Tryz.func74,Tryz.ntmps74
  go_wp2_with (first
   | (go_at_call 100;refine (CX.out).mono ?_;rintro e w2 ⟨rfl,o2,hp2,st2⟩;obtain ⟨A,m,B,d,C,g,hr,h1,h2,h3,h4,h5,h6⟩:=hp2.row;have c1:=hr.c2;have c3:=hr.c3;have c4:=hr.c4;have c5:=hr.c5;have f4:=hr.fz 4 (by decide);have f5:=hr.fz 5 (by decide);have HE:=Hy hp2;have HR:=Hy hr;have ST:=Hy st2;have HER:=Hy ((HG.out.stp st2 (by unfold KF;omega)).er);clear hr h1 h2 h3 h4 h5 h6 hp2 st2)
   | (go_at_call 86;refine (CI.out _).mono ?_;rintro e w3 ⟨rfl,hx3⟩)
   | (go_at_call 101;refine (CH.out _ (HER.out.ext hx3)).mono ?_;rintro e w4 ⟨rfl,hx4⟩)
   | (go_at_call 79;refine (CT.out _).mono ?_;rintro e w5 ⟨rfl,hx5⟩;have hxa:Ext w2 w5:=Xq;have hr5:=HR.out.ext hxa;have k2:=hr5.c2;have k3:=hr5.c3;have k4:=hr5.c4;have k5:=hr5.c5;have g4:=hr5.fz 4 (by decide);have g5:=hr5.fz 5 (by decide);clear c1 c3 c4 c5 f4 f5 hr5)
   | (go_at_call 99;refine (fdemand_c _ _ _).mono ?_;rintro e w6 ⟨hy,hn,rfl⟩;first | (obtain rfl:=hy rfl;clear hy hn) | (obtain rfl:=hn rfl;clear hy hn) | (obtain rfl:=hy d9;clear hy hn) | (obtain rfl:=hn d9;clear hy hn)))
  go_region_with (first | (go_at_call 99;refine (fdemand_c _ _ _).mono ?_;rintro e w6 ⟨hy,hn,rfl⟩;first | (obtain rfl:=hy rfl;clear hy hn) | (obtain rfl:=hn rfl;clear hy hn) | (obtain rfl:=hy d9;clear hy hn) | (obtain rfl:=hn d9;clear hy hn) | (obtain rfl:=hy d8;clear hy hn) | (obtain rfl:=hn d8;clear hy hn)))
  all_goals go_wp2
  all_goals go_end0
  all_goals (
   rw [HQ.out]
   have e0:=HE.out.ext hxa
   have e1:=e0.put (s':={ t with state:=2 }) 4 (.int .i64 2) rfl rfl rfl (fun _ _ _ _ _ _=>rfl)
   have e2:=e1.put (s':={ t with state:=2,left:=Vn }) 5 (.int .i64 (Vn:Int)) rfl rfl rfl (fun _ _ _ _ _ _=>rfl)
   have t1:=((ST.out.tr (Stp.ext hxa)).tr (setF_stp 4 (.int .i64 2) e0.own)).tr (setF_stp 5 (.int .i64 (Vn:Int)) e0.own)
   exact ⟨rfl,o2,e2.ext Xq,t1.tr (Stp.ext Xq)⟩)
theorem fSize_c (k P:Nat) (hk:0<k) (s:Rst) (c:UInt8) (hl8:s.line.length≤8192) (hta:s.all≤s.most) (htm:s.most≤1048576) (w:World) (o:Ow) (h:FsAt w o k P s) (hG:GlF w o) :
  Calls Tryz.prog 74 #[.pointer (some ⟨P,0,none⟩),.int .u8 (c.toNat:Int)] w (TurnsF k w o P (sizeF s c)):=by
 obtain ⟨⟨t,ol,e⟩,hx⟩:∃ q,q=textF s c:=⟨_,rfl⟩
 cases ol with
 | none =>
  by_cases he:e=0
  ·subst he;exact fSize_go k P hk s t c hl8 hx.symm w o h hG
  ·exact fSize_no k P hk s t c e hl8 hx.symm he w o h hG
 | some l =>
  obtain ⟨_,rfl,ht⟩:=text_some hx.symm
  have hta':t.all≤t.most:=by rw [ht];exact hta
  have htm':t.most≤1048576:=by rw [ht];exact htm
  cases hg:szG s.line with
  | false=>exact fSize_bad k P hk s t c e _ hl8 hl8 hx.symm hg w o h hG
  | true =>
   by_cases hle:szV s.line≤(t.most:Int)-t.all
   ·by_cases h0:szV s.line=0
    ·exact fSize_zero k P hk s t c e _ hl8 hl8 hx.symm hg hle h0 hta' htm' w o h hG
    ·exact fSize_more k P hk s t c e _ hl8 hl8 hx.symm hg hle h0 hta' htm' w o h hG
   ·exact fSize_big k P hk s t c e _ hl8 hl8 hx.symm hg hle hta' htm' w o h hG
end Go.Proofs.YthbofilcnpdghaaGreatDoor
