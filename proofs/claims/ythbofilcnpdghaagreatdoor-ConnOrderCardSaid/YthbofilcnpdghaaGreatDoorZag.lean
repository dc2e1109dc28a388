/-
The program's numbers to the bases 10 and 16.
-/
import Derived.Test.YthbofilcnpdghaaGreatDoorZaf
import Derived.Test.YthbofilcnpdghaaGreatDoorProg
import Derived.Test.YthbofilcnpdghaaGreatDoorZab
import Derived.Test.YthbofilcnpdghaaGreatDoorShelf
import Derived.Test.YthbofilcnpdghaaGreatDoorZad
set_option maxRecDepth 100000
set_option maxHeartbeats 8000000
set_option linter.unusedVariables false
set_option linter.unusedSimpArgs false
section
namespace Go.Proofs.YthbofilcnpdghaaGreatDoor
open Go.RowKit
def digs:List UInt8:=[48,49,50,51,52,53,54,55,56,57,97,98,99,100,101,102]
theorem idx_dig0:∀ B:Fin 17,∀ c:Fin 256,(isDig B.val c.val.toUInt8=true∧Lib.indexByte digs c.val.toUInt8=(digV c.val.toUInt8:Int)∧digV c.val.toUInt8<B.val) ∨
  (isDig B.val c.val.toUInt8=false∧(Lib.indexByte digs c.val.toUInt8=-1∨(Lib.indexByte digs c.val.toUInt8=(digV c.val.toUInt8:Int)∧B.val≤digV c.val.toUInt8∧digV c.val.toUInt8<16))):=by decide +kernel
theorem idx_dig (B:Nat) (hB:B≤16) (b:UInt8):(isDig B b=true∧∃ d:Nat,Lib.indexByte digs b=(d:Int)∧d<B) ∨
  (isDig B b=false∧(Lib.indexByte digs b=-1∨∃ d:Nat,Lib.indexByte digs b=(d:Int)∧B≤d∧d<16)):=by
 have:=idx_dig0 ⟨B,by omega⟩ ⟨b.toNat,UInt8.toNat_lt b⟩
 simp only [Nat.toUInt8_eq,UInt8.ofNat_toNat] at this
 rcases this with ⟨h1,h2,h3⟩ | ⟨h1,h2 | ⟨h2,h3,h4⟩⟩
 ·exact .inl ⟨h1,_,h2,h3⟩
 ·exact .inr ⟨h1,.inl h2⟩
 ·exact .inr ⟨h1,.inr ⟨_,h2,h3,h4⟩⟩
theorem ixd_c (b:UInt8) (w:World):Calls Tryz.prog 109 #[.string ⟨#[48,49,50,51,52,53,54,55,56,57,97,98,99,100,101,102]⟩,.int .u8 (b.toNat:Int)] w fun e w'=>e=.returned (.int .i64 (Lib.indexByte digs b))∧w=w':=by
 have hu:(b.toNat:Int).toNat.toUInt8=b:=by simp
 refine (Tryz.strings_IndexByte _ _ w).mono ?_
 rintro e w' ⟨rfl,rfl⟩
 rw [hu]
 exact ⟨rfl,rfl⟩
theorem numL_m (B most:Nat) (l m:List UInt8) (hm:m=lowL l):numL B most l=if m=[]∨m.all (isDig B)=false then (0,21) else if valL B m≤most then ((valL B m:Int),0) else (0,11):=by
 subst hm
 have e:(l=[])=(lowL l=[]):=by unfold lowL;simp
 unfold numL
 simp only [e]
theorem number10_c (l:List UInt8) (hs:l.length≤140737488355328) (w:World) (hE:ErrR w) :
  Calls Tryz.prog 84 #[.string (str l),.int .i64 10,.int .i64 1000000000000000000] w (Gives (.tuple #[.int .i64 (numL 10 1000000000000000000 l).1,.int .i64 (numL 10 1000000000000000000 l).2]) w):=by
 obtain ⟨m,hm⟩:∃ m,m=lowL l:=⟨_,rfl⟩
 have hml:m.length≤140737488355328:=by rw [hm,low_length];exact hs
 have hnum:=numL_m 10 1000000000000000000 l m hm
 have CL:=Lower_c l (by unfold maxLen;omega)
 rw [← hm] at CL
 have CL:=Hy CL
 generalize numL 10 1000000000000000000 l=N at *
 have HN:=Hy hnum
 clear hnum hm
 have HE:=Hy hE
 clear hE
 go_enter Tryz.func84,Tryz.ntmps84
 go_wp2_with (go_at_call 89;refine (CL.out _).mono ?_;rintro e w1 ⟨rfl,hx1⟩)
 go_loopw [17] (fun i wr=>∃ k:Nat,k≤m.length∧i=.int .i64 k∧(m.take k).all (isDig 10)=true∧w1=wr) (fun i _=>m.length-(intOf i).toNat)
 case atStart=>exact ⟨0,Nat.zero_le _,rfl,rfl,rfl⟩
 case round =>
  obtain ⟨k,hk,rfl,hall,rfl⟩:=hrel
  have HA:=Hy hall
  clear hall
  by_cases hlt:k<m.length
  ·have hsucc:=all_succ_l m (isDig 10) k hlt
   rw [HA.out] at hsucc
   have HS:=Hy hsucc
   clear hsucc
   rcases idx_dig 10 (by omega) m[k] with ⟨hg,d,hv,hd⟩ | ⟨hg,hv⟩
   ·have HG:=Hy hg
    have HV:=Hy hv
    clear hg hv
    go_wp2_with (go_at_call 109;refine (ixd_c _ _).mono ?_;rintro e w2 ⟨rfl,rfl⟩;rw [HV.out])
    go_roundw
    case rel=>exact ⟨k+1,by omega,by go_num,by rw [HS.out,HG.out];rfl,by trivial⟩
    case measure=>simp [intOf];omega
   ·have hbad:N=(0,21):=by
     rw [HN.out]
     refine if_pos (.inr ?_)
     rw [Bool.eq_false_iff]
     intro ha
     have:=List.all_eq_true.1 ha m[k] (List.getElem_mem hlt)
     rw [hg] at this
     cases this
    have HB:=Hy hbad
    clear hbad hg
    rcases hv with hv | ⟨d,hv,hd,hd2⟩
    ·have HV:=Hy hv
     clear hv
     go_wp2_with (go_at_call 109;refine (ixd_c _ _).mono ?_;rintro e w2 ⟨rfl,rfl⟩;rw [HV.out])
     go_ret2
     exact ⟨ret_val (by rw [HB.out];rfl),hx1⟩
    ·have HV:=Hy hv
     clear hv
     go_wp2_with (go_at_call 109;refine (ixd_c _ _).mono ?_;rintro e w2 ⟨rfl,rfl⟩;rw [HV.out])
     all_goals go_ret2
     all_goals exact ⟨ret_val (by rw [HB.out];rfl),hx1⟩
  ·obtain rfl:k=m.length:=by omega
   rw [List.take_of_length_le (Nat.le_refl _)] at HA
   by_cases h0:m=[]
   ·rw [if_pos (.inl h0)] at HN
    have he:m.isEmpty=true:=by rw [h0];rfl
    clear h0
    go_wp2
    go_ret2
    exact ⟨ret_val (by rw [HN.out];rfl),hx1⟩
   ·rw [if_neg (by rw [HA.out];simp [h0])] at HN
    have he:m.isEmpty=false:=by cases m with | nil=>exact absurd rfl h0 | cons _ _=>rfl
    have hpos:0<m.length:=List.length_pos_iff.2 h0
    have hdall:∀ b∈m,isDig 10 b=true:=List.all_eq_true.1 HA.out
    have HDA:=Hy hdall
    clear h0 hdall
    by_cases hbig:9223372036854775808≤valL 10 m
    ·rw [if_neg (by omega)] at HN
     have HBG:=Hy hbig
     clear hbig
     go_wp2_with (go_at_call 110;refine (ParseUint10_range m hpos hml HDA.out HBG.out _ (HE.out.ext hx1)).mono ?_;rintro e w2 ⟨v,rfl,⟨Nn,rfl⟩,hx2⟩)
     go_ret2
     exact ⟨ret_val (by rw [HN.out];rfl),Xq⟩
    ·obtain ⟨n,hn⟩:∃ n,n=valL 10 m:=⟨_,rfl⟩
     rw [← hn] at HN hbig
     have hlt63:n<9223372036854775808:=by omega
     have C1:=ParseUint10_ok m hpos hml HDA.out n hn hlt63
     obtain ⟨a,ha⟩:∃ a:Int,a=(n:Int):=⟨_,rfl⟩
     rw [← ha] at C1
     have C1:=Hy C1
     have a0:0≤a:=by omega
     have a1:a<9223372036854775808:=by omega
     by_cases hle:n≤1000000000000000000
     ·rw [if_pos hle,← ha] at HN
      have hle':a≤1000000000000000000:=by omega
      clear hbig hn hle hlt63 ha
      go_wp2_with (go_at_call 110;refine (C1.out _).mono ?_;rintro e w2 ⟨rfl,hx2⟩)
      go_ret2
      exact ⟨ret_val (by rw [HN.out];rfl),Xq⟩
     ·rw [if_neg hle] at HN
      have hle':1000000000000000000<a:=by omega
      clear hbig hn hle hlt63 ha
      go_wp2_with (go_at_call 110;refine (C1.out _).mono ?_;rintro e w2 ⟨rfl,hx2⟩)
      go_ret2
      exact ⟨ret_val (by rw [HN.out];rfl),Xq⟩
theorem number16_c (l:List UInt8) (hs:l.length≤140737488355328) (w:World) (hE:ErrR w) :
  Calls Tryz.prog 84 #[.string (str l),.int .i64 16,.int .i64 1152921504606846976] w (Gives (.tuple #[.int .i64 (numL 16 1152921504606846976 l).1,.int .i64 (numL 16 1152921504606846976 l).2]) w):=by
 obtain ⟨m,hm⟩:∃ m,m=lowL l:=⟨_,rfl⟩
 have hml:m.length≤140737488355328:=by rw [hm,low_length];exact hs
 have hnum:=numL_m 16 1152921504606846976 l m hm
 have CL:=Lower_c l (by unfold maxLen;omega)
 rw [← hm] at CL
 have CL:=Hy CL
 generalize numL 16 1152921504606846976 l=N at *
 have HN:=Hy hnum
 clear hnum hm
 have HE:=Hy hE
 clear hE
 go_enter Tryz.func84,Tryz.ntmps84
 go_wp2_with (go_at_call 89;refine (CL.out _).mono ?_;rintro e w1 ⟨rfl,hx1⟩)
 go_loopw [17] (fun i wr=>∃ k:Nat,k≤m.length∧i=.int .i64 k∧(m.take k).all (isDig 16)=true∧w1=wr) (fun i _=>m.length-(intOf i).toNat)
 case atStart=>exact ⟨0,Nat.zero_le _,rfl,rfl,rfl⟩
 case round =>
  obtain ⟨k,hk,rfl,hall,rfl⟩:=hrel
  have HA:=Hy hall
  clear hall
  by_cases hlt:k<m.length
  ·have hsucc:=all_succ_l m (isDig 16) k hlt
   rw [HA.out] at hsucc
   have HS:=Hy hsucc
   clear hsucc
   rcases idx_dig 16 (by omega) m[k] with ⟨hg,d,hv,hd⟩ | ⟨hg,hv⟩
   ·have HG:=Hy hg
    have HV:=Hy hv
    clear hg hv
    go_wp2_with (go_at_call 109;refine (ixd_c _ _).mono ?_;rintro e w2 ⟨rfl,rfl⟩;rw [HV.out])
    go_roundw
    case rel=>exact ⟨k+1,by omega,by go_num,by rw [HS.out,HG.out];rfl,by trivial⟩
    case measure=>simp [intOf];omega
   ·have hbad:N=(0,21):=by
     rw [HN.out]
     refine if_pos (.inr ?_)
     rw [Bool.eq_false_iff]
     intro ha
     have:=List.all_eq_true.1 ha m[k] (List.getElem_mem hlt)
     rw [hg] at this
     cases this
    have HB:=Hy hbad
    clear hbad hg
    rcases hv with hv | ⟨d,hv,hd,hd2⟩
    ·have HV:=Hy hv
     clear hv
     go_wp2_with (go_at_call 109;refine (ixd_c _ _).mono ?_;rintro e w2 ⟨rfl,rfl⟩;rw [HV.out])
     go_ret2
     exact ⟨ret_val (by rw [HB.out];rfl),hx1⟩
    ·have HV:=Hy hv
     clear hv
     go_wp2_with (go_at_call 109;refine (ixd_c _ _).mono ?_;rintro e w2 ⟨rfl,rfl⟩;rw [HV.out])
     all_goals go_ret2
     all_goals exact ⟨ret_val (by rw [HB.out];rfl),hx1⟩
  ·obtain rfl:k=m.length:=by omega
   rw [List.take_of_length_le (Nat.le_refl _)] at HA
   by_cases h0:m=[]
   ·rw [if_pos (.inl h0)] at HN
    have he:m.isEmpty=true:=by rw [h0];rfl
    clear h0
    go_wp2
    go_ret2
    exact ⟨ret_val (by rw [HN.out];rfl),hx1⟩
   ·rw [if_neg (by rw [HA.out];simp [h0])] at HN
    have he:m.isEmpty=false:=by cases m with | nil=>exact absurd rfl h0 | cons _ _=>rfl
    have hpos:0<m.length:=List.length_pos_iff.2 h0
    have hdall:∀ b∈m,isDig 16 b=true:=List.all_eq_true.1 HA.out
    have HDA:=Hy hdall
    clear h0 hdall
    by_cases hbig:9223372036854775808≤valL 16 m
    ·rw [if_neg (by omega)] at HN
     have HBG:=Hy hbig
     clear hbig
     go_wp2_with (go_at_call 110;refine (ParseUint16_range m hpos hml HDA.out HBG.out _ (HE.out.ext hx1)).mono ?_;rintro e w2 ⟨v,rfl,⟨Nn,rfl⟩,hx2⟩)
     go_ret2
     exact ⟨ret_val (by rw [HN.out];rfl),Xq⟩
    ·obtain ⟨n,hn⟩:∃ n,n=valL 16 m:=⟨_,rfl⟩
     rw [← hn] at HN hbig
     have hlt63:n<9223372036854775808:=by omega
     have C1:=ParseUint16_ok m hpos hml HDA.out n hn hlt63
     obtain ⟨a,ha⟩:∃ a:Int,a=(n:Int):=⟨_,rfl⟩
     rw [← ha] at C1
     have C1:=Hy C1
     have a0:0≤a:=by omega
     have a1:a<9223372036854775808:=by omega
     by_cases hle:n≤1152921504606846976
     ·rw [if_pos hle,← ha] at HN
      have hle':a≤1152921504606846976:=by omega
      clear hbig hn hle hlt63 ha
      go_wp2_with (go_at_call 110;refine (C1.out _).mono ?_;rintro e w2 ⟨rfl,hx2⟩)
      go_ret2
      exact ⟨ret_val (by rw [HN.out];rfl),Xq⟩
     ·rw [if_neg hle] at HN
      have hle':1152921504606846976<a:=by omega
      clear hbig hn hle hlt63 ha
      go_wp2_with (go_at_call 110;refine (C1.out _).mono ?_;rintro e w2 ⟨rfl,hx2⟩)
      go_ret2
      exact ⟨ret_val (by rw [HN.out];rfl),Xq⟩
theorem Decimal_c (l:List UInt8) (hs:l.length≤140737488355328) (w:World) (hE:ErrR w) :
  Calls Tryz.prog 57 #[.string (str l)] w (Gives (.tuple #[.int .i64 (numL 10 1000000000000000000 l).1,.int .i64 (numL 10 1000000000000000000 l).2]) w):=by
 have C:=fun w hE=>number10_c l hs w hE
 generalize (numL 10 1000000000000000000 l).1=a at *
 generalize (numL 10 1000000000000000000 l).2=b at *
 have C:=Hy C
 go_enter Tryz.func57,Tryz.ntmps57
 go_wp2_with (go_at_call 84;refine (C.out _ hE).mono ?_;rintro e w1 ⟨rfl,hx⟩)
 go_ret2
 exact ⟨rfl,hx⟩
theorem Hex_c (l:List UInt8) (hs:l.length≤140737488355328) (w:World) (hE:ErrR w) :
  Calls Tryz.prog 101 #[.string (str l)] w (Gives (.tuple #[.int .i64 (numL 16 1152921504606846976 l).1,.int .i64 (numL 16 1152921504606846976 l).2]) w):=by
 have C:=fun w hE=>number16_c l hs w hE
 generalize (numL 16 1152921504606846976 l).1=a at *
 generalize (numL 16 1152921504606846976 l).2=b at *
 have C:=Hy C
 go_enter Tryz.func101,Tryz.ntmps101
 go_wp2_with (go_at_call 84;refine (C.out _ hE).mono ?_;rintro e w1 ⟨rfl,hx⟩)
 go_ret2
 exact ⟨rfl,hx⟩
theorem idx_no {l:List UInt8} {c:UInt8} (h:c∉l):Lib.indexByte l c=-1:=by
 have h1:=Lib.indexByte_ge l c
 refine Classical.byContradiction fun h0=>?_
 obtain ⟨k,hk⟩:∃ k:Nat,Lib.indexByte l c=(k:Int):=⟨(Lib.indexByte l c).toNat,by omega⟩
 exact h (List.mem_of_getElem? (Lib.indexByte_some hk).1)
theorem idx_at {a r:List UInt8} {c:UInt8} (h:c∉a):Lib.indexByte (a++c::r) c=(a.length:Int):=by
 have h1:=Lib.indexByte_ge (a++c::r) c
 by_cases h0:Lib.indexByte (a++c::r) c=-1
 ·exact absurd (Lib.indexByte_none h0 a.length) (by simp)
 ·obtain ⟨k,hk⟩:∃ k:Nat,Lib.indexByte (a++c::r) c=(k:Int):=⟨(Lib.indexByte (a++c::r) c).toNat,by omega⟩
  obtain ⟨k1,k2⟩:=Lib.indexByte_some hk
  rw [hk]
  have:k=a.length:=by
   rcases Nat.lt_trichotomy k a.length with h3 | h3 | h3
   ·rw [List.getElem?_append_left h3] at k1
    exact absurd (List.mem_of_getElem? k1) h
   ·exact h3
   ·exact absurd (by simp) (k2 a.length h3)
  rw [this]
theorem cut_cases (l:List UInt8) (c:UInt8):c∉l∨∃ a r,l=a++c::r∧c∉a:=by
 induction l with
 | nil=>exact .inl (by simp)
 | cons b l ih =>
  by_cases hb:b=c
  ·exact .inr ⟨[],l,by rw [hb];rfl,by simp⟩
  ·rcases ih with h | ⟨a,r,h1,h2⟩
   ·exact .inl (by simp only [List.mem_cons,not_or];exact ⟨fun e=>hb e.symm,h⟩)
   ·exact .inr ⟨b::a,r,by rw [h1];rfl,by simp only [List.mem_cons,not_or];exact ⟨fun e=>hb e.symm,h2⟩⟩
theorem iCut_no (l:List UInt8) (c:UInt8) (h:c∉l) (w:World) :
  Calls Tryz.prog 102 #[.string (str l),.string ⟨#[c]⟩] w fun e w'=>e=.returned (.tuple #[.string (str l),.string ⟨#[]⟩,.bool false])∧w=w':=by
 have HX:=Hy (idx_no h)
 clear h
 go_enter Tryz.func102,Tryz.ntmps102
 go_wp2_with (go_at_call 129;refine (Tryz.stringslite_Index_one _ _ _).mono ?_;rintro e w1 ⟨rfl,rfl⟩;rw [str_data,HX.out])
 go_ret3
 exact ⟨rfl,rfl⟩
theorem iCut_at (a r:List UInt8) (c:UInt8) (h:c∉a) (hs:a.length+r.length+1≤maxLen) (w:World) :
  Calls Tryz.prog 102 #[.string (str (a++c::r)),.string ⟨#[c]⟩] w fun e w'=>e=.returned (.tuple #[.string (str a),.string (str r),.bool true])∧∃ q,w'=w.drewN q:=by
 unfold maxLen at hs
 obtain ⟨l,hl⟩:∃ l,l=a++c::r:=⟨_,rfl⟩
 have HX:=Hy (show Lib.indexByte l c=(a.length:Int) from by rw [hl];exact idx_at h)
 have hll:l.length=a.length+r.length+1:=by rw [hl];simp;omega
 have e1:l.take a.length=a:=by rw [hl,List.take_left]
 have e2:l.drop (a.length+1)=r:=by rw [hl,List.drop_append];simp [List.drop_eq_nil_of_le]
 rw [← hl]
 have E1:=Hy e1
 have E2:=Hy e2
 clear h hl e1 e2
 have j1:(0:Int)≤(a.length:Int):=by omega
 have j2:(a.length:Int)≤(l.length:Int):=by omega
 have j3:IntKind.i64.wrap ((a.length:Int)+1)=(a.length:Int)+1:=by rw [IntKind.wrap_i64];omega
 have j4:(a.length:Int)+1≤(l.length:Int):=by omega
 have j5:((a.length:Int)+1).toNat=a.length+1:=by omega
 have j6:(0:Int)≤(a.length:Int)+1:=by omega
 clear hll hs
 go_enter Tryz.func102,Tryz.ntmps102
 go_wp2_with (go_at_call 129;refine (Tryz.stringslite_Index_one _ _ _).mono ?_;rintro e w1 ⟨rfl,rfl⟩;rw [str_data,HX.out])
 go_quiet (fail)
 go_wp2
 go_ret3
 refine ⟨ret_val ?_,_,rfl⟩
 show Value.tuple #[.string (str (l.take a.length)),.string (str (l.drop (a.length+1))),.bool true]=_
 rw [E1.out,E2.out]
theorem Cut_no (l:List UInt8) (c:UInt8) (h:c∉l) (w:World) :
  Calls Tryz.prog 78 #[.string (str l),.string ⟨#[c]⟩] w fun e w'=>e=.returned (.tuple #[.string (str l),.string ⟨#[]⟩,.bool false])∧w=w':=by
 have HX:=Hy h
 clear h
 go_enter Tryz.func78,Tryz.ntmps78
 go_wp2_with (go_at_call 102;refine (iCut_no _ _ HX.out _).mono ?_;rintro e w1 ⟨rfl,rfl⟩)
 go_ret3
 exact ⟨rfl,rfl⟩
theorem Cut_at (a r:List UInt8) (c:UInt8) (h:c∉a) (hs:a.length+r.length+1≤maxLen) (w:World) :
  Calls Tryz.prog 78 #[.string (str (a++c::r)),.string ⟨#[c]⟩] w fun e w'=>e=.returned (.tuple #[.string (str a),.string (str r),.bool true])∧∃ q,w'=w.drewN q:=by
 have HX:=Hy h
 have HS:=Hy hs
 obtain ⟨s,hs2⟩:∃ s,s=str (a++c::r):=⟨_,rfl⟩
 have CC:=fun w=>iCut_at a r c HX.out HS.out w
 rw [← hs2] at CC ⊢
 have CC:=Hy CC
 clear h hs hs2
 go_enter Tryz.func78,Tryz.ntmps78
 go_wp2_with (go_at_call 102;refine (CC.out _).mono ?_;rintro e w1 ⟨rfl,q,rfl⟩)
 go_ret3
 exact ⟨rfl,q,rfl⟩
theorem HasPrefix_c (l p:List UInt8) (b:Bool) (hb:Lib.hasPrefix l p=b) (w:World) :
  Calls Tryz.prog 111 #[.string (str l),.string ⟨p.toArray⟩] w fun e w'=>e=.returned (.bool b)∧w=w' :=
 (Tryz.strings_HasPrefix _ _ w).mono fun e w' ⟨he,hw⟩=>⟨by rw [he,← hb];rfl,hw.symm⟩
theorem IndexByteS_c (l:List UInt8) (k z:Int) (h:Lib.indexByte l k.toNat.toUInt8=z) (w:World) :
  Calls Tryz.prog 109 #[.string (str l),.int .u8 k] w fun e w'=>e=.returned (.int .i64 z)∧w=w' :=
 (Tryz.strings_IndexByte _ _ w).mono fun e w' ⟨he,hw⟩=>⟨by rw [he,← h];rfl,hw.symm⟩
theorem pre_one (l:List UInt8) (c:UInt8):Lib.hasPrefix l [c]=decide (l.head?=some c):=by
 cases l with
 | nil=>simp [Lib.hasPrefix,List.isPrefixOf]
 | cons b l =>
  by_cases h:b=c
  ·subst h;simp [Lib.hasPrefix,List.isPrefixOf]
  ·have h2:(c == b)=false:=by rw [beq_eq_false_iff_ne];exact fun e=>h e.symm
   simp [Lib.hasPrefix,List.isPrefixOf,h,h2]
theorem pre_yes {l:List UInt8} {c:UInt8} (h:l.head?=some c):Lib.hasPrefix l [c]=true:=by rw [pre_one];simp [h]
theorem pre_no {l:List UInt8} {c:UInt8} (h:¬ l.head?=some c):Lib.hasPrefix l [c]=false:=by rw [pre_one];simp [h]
theorem Token_f (l:List UInt8) (hs:l.length≤maxLen) (w:World):Calls Tryz.prog 54 #[.string (str l)] w (Gives (.bool (tokL12 l)) w):=by
 have h:=Token_c (str l) (by rw [str_size];exact hs) w
 rw [str_data,str_size] at h
 exact h
theorem Value_f (l:List UInt8) (hs:l.length≤maxLen) (w:World):Calls Tryz.prog 80 #[.string (str l)] w (Gives (.bool (vlL12 l)) w):=Value_c l hs w
theorem text_some {s t:Rst} {c:UInt8} {l:List UInt8} {e:Int} (h:textF s c=(t,some l,e)):e=0∧l=s.line∧t={ s with cr:=false,line:=[] }:=by
 unfold textF at h
 split at h
 ·split at h
  ·cases h;exact ⟨rfl,rfl,rfl⟩
  ·cases h
 ·split at h
  ·cases h
  ·split at h
   ·split at h <;> cases h
   ·cases h
theorem txt_no {k P:Nat} {s t:Rst} {c:UInt8} {e:Int} (hl8:s.line.length≤8192) (h:textF s c=(t,none,e)) (he:e≠0) (w:World) (o:Ow) (hp:FsAt w o k P s) :
  Calls Tryz.prog 100 #[.pointer (some ⟨P,0,none⟩),.int .u8 (c.toNat:Int)] w fun r w'=>r=.panicked [{ v:=.iface 25 (.int .i64 e),recovered:=false }]∧∃ o',FsAt w' o' k P t∧Stp (KF k) w o w' o':=by
 refine (fText_c k P s c hl8 w o hp).mono ?_
 rw [h]
 rintro r w' ⟨rfl,hh⟩
 exact ⟨if_neg he,hh⟩
theorem txt_go {k P:Nat} {s t:Rst} {c:UInt8} (hl8:s.line.length≤8192) (h:textF s c=(t,none,0)) (w:World) (o:Ow) (hp:FsAt w o k P s) :
  Calls Tryz.prog 100 #[.pointer (some ⟨P,0,none⟩),.int .u8 (c.toNat:Int)] w fun r w'=>r=.returned (.tuple #[.string ⟨#[]⟩,.bool false])∧∃ o',FsAt w' o' k P t∧Stp (KF k) w o w' o':=by
 refine (fText_c k P s c hl8 w o hp).mono ?_
 rw [h]
 rintro r w' ⟨rfl,hh⟩
 exact ⟨rfl,hh⟩
theorem txt_ln {k P:Nat} {s t:Rst} {c:UInt8} {l:List UInt8} {e:Int} (hl8:s.line.length≤8192) (h:textF s c=(t,some l,e)) (w:World) (o:Ow) (hp:FsAt w o k P s) :
  Calls Tryz.prog 100 #[.pointer (some ⟨P,0,none⟩),.int .u8 (c.toNat:Int)] w fun r w'=>r=.returned (.tuple #[.string (str l),.bool true])∧∃ o',FsAt w' o' k P t∧Stp (KF k) w o w' o':=by
 refine (fText_c k P s c hl8 w o hp).mono ?_
 rw [h]
 rintro r w' ⟨rfl,hh⟩
 obtain ⟨rfl,_⟩:=text_some h
 exact ⟨rfl,hh⟩
theorem fTrailer_no (k P:Nat) (s t:Rst) (c:UInt8) (e:Int) (hl8:s.line.length≤8192) (ht:textF s c=(t,none,e)) (he:e≠0) (w:World) (o:Ow) (h:FsAt w o k P s) :
  Calls Tryz.prog 77 #[.pointer (some ⟨P,0,none⟩),.int .u8 (c.toNat:Int)] w (TurnsF k w o P (trailF s c)):=by
 have hq:trailF s c=(t,e):=by unfold trailF;rw [ht]
 have CX:=txt_no hl8 ht he w o h
 have HG:=Hy (goneF_no he)
 have HQ:=Hy hq
 obtain ⟨b,hb⟩:∃ b,b=c.toNat:=⟨_,rfl⟩
 have h256:=UInt8.toNat_lt c
 rw [← hb] at h256 CX ⊢
 obtain ⟨R,hR⟩:∃ R,R=trailF s c:=⟨_,rfl⟩
 rw [← hR] at HQ ⊢
 have CX:=Hy CX
 clear hR hb hq h
 clear ht hl8 he
 go_enter Tryz.func77,Tryz.ntmps77
 go_wp2_with (first | (go_at_call 100;refine (CX.out).mono ?_;rintro e w2 ⟨rfl,o2,hp2,st2⟩;obtain ⟨A,m,B,d,C,g,hr,h1,h2,hs,hm,h5,h6⟩:=hp2.row;have c8:=hr.c8;have c10:=hr.c10;have f8:=hr.fz 8 (by decide);have f10:=hr.fz 10 (by decide);have HE:=Hy hp2;have HR:=Hy hr;have HS:=Hy hs;have HM:=Hy hm;have HL:=Hy (And.intro h1 h2);have HB:=Hy (And.intro h5 h6);have ST:=Hy st2;clear hr h1 h2 hs h5 h6 hp2 st2))
 simp only [bodyPost]
 rw [HQ.out]
 exact ⟨trivial,HG.out.symm,o2,HE.out,ST.out⟩
theorem fTrailer_go (k P:Nat) (s t:Rst) (c:UInt8) (hl8:s.line.length≤8192) (ht:textF s c=(t,none,0)) (w:World) (o:Ow) (h:FsAt w o k P s) :
  Calls Tryz.prog 77 #[.pointer (some ⟨P,0,none⟩),.int .u8 (c.toNat:Int)] w (TurnsF k w o P (trailF s c)):=by
 have hq:trailF s c=(t,0):=by unfold trailF;rw [ht]
 have CX:=txt_go hl8 ht w o h
 have HQ:=Hy hq
 obtain ⟨b,hb⟩:∃ b,b=c.toNat:=⟨_,rfl⟩
 have h256:=UInt8.toNat_lt c
 rw [← hb] at h256 CX ⊢
 obtain ⟨R,hR⟩:∃ R,R=trailF s c:=⟨_,rfl⟩
 rw [← hR] at HQ ⊢
 have CX:=Hy CX
 clear hR hb hq h
 clear ht hl8
 go_enter Tryz.func77,Tryz.ntmps77
 go_wp2_with (first | (go_at_call 100;refine (CX.out).mono ?_;rintro e w2 ⟨rfl,o2,hp2,st2⟩;obtain ⟨A,m,B,d,C,g,hr,h1,h2,hs,hm,h5,h6⟩:=hp2.row;have c8:=hr.c8;have c10:=hr.c10;have f8:=hr.fz 8 (by decide);have f10:=hr.fz 10 (by decide);have HE:=Hy hp2;have HR:=Hy hr;have HS:=Hy hs;have HM:=Hy hm;have HL:=Hy (And.intro h1 h2);have HB:=Hy (And.intro h5 h6);have ST:=Hy st2;clear hr h1 h2 hs h5 h6 hp2 st2))
 go_end0
 rw [HQ.out]
 exact ⟨rfl,o2,HE.out,ST.out⟩
theorem fTrailer_done (k P:Nat) (s t:Rst) (c:UInt8) (e:Int) (hl8:s.line.length≤8192) (ht:textF s c=(t,some [],e)) (w:World) (o:Ow) (h:FsAt w o k P s) :
  Calls Tryz.prog 77 #[.pointer (some ⟨P,0,none⟩),.int .u8 (c.toNat:Int)] w (TurnsF k w o P (trailF s c)):=by
 have hq:trailF s c=({ t with done:=true },0):=by unfold trailF;rw [ht];exact if_pos rfl
 have CX:=txt_ln hl8 ht w o h
 rw [show str ([]:List UInt8)=⟨#[]⟩ from rfl] at CX
 have HQ:=Hy hq
 obtain ⟨b,hb⟩:∃ b,b=c.toNat:=⟨_,rfl⟩
 have h256:=UInt8.toNat_lt c
 rw [← hb] at h256 CX ⊢
 obtain ⟨R,hR⟩:∃ R,R=trailF s c:=⟨_,rfl⟩
 rw [← hR] at HQ ⊢
 have CX:=Hy CX
 clear hR hb hq h
 clear ht hl8
 go_enter Tryz.func77,Tryz.ntmps77
 go_wp2_with (first | (go_at_call 100;refine (CX.out).mono ?_;rintro e w2 ⟨rfl,o2,hp2,st2⟩;obtain ⟨A,m,B,d,C,g,hr,h1,h2,hs,hm,h5,h6⟩:=hp2.row;have c8:=hr.c8;have c10:=hr.c10;have f8:=hr.fz 8 (by decide);have f10:=hr.fz 10 (by decide);have HE:=Hy hp2;have HR:=Hy hr;have HS:=Hy hs;have HM:=Hy hm;have HL:=Hy (And.intro h1 h2);have HB:=Hy (And.intro h5 h6);have ST:=Hy st2;clear hr h1 h2 hs h5 h6 hp2 st2))
 go_end0
 rw [HQ.out]
 exact ⟨rfl,o2,HE.out.put 10 _ rfl rfl rfl (fun _ _ _ _ _ _=>rfl),ST.out.tr (setF_stp 10 _ HE.out.own)⟩
theorem fTrailer_nocut (k P:Nat) (s t:Rst) (c:UInt8) (e:Int) (l:List UInt8) (hl8:s.line.length≤8192) (ht:textF s c=(t,some l,e)) (hne:l≠[]) (hno:58∉l) (w:World) (o:Ow) (h:FsAt w o k P s) :
  Calls Tryz.prog 77 #[.pointer (some ⟨P,0,none⟩),.int .u8 (c.toNat:Int)] w (TurnsF k w o P (trailF s c)):=by
 have hq:trailF s c=(t,42):=by unfold trailF;rw [ht];dsimp only;unfold tailL fldV12;rw [if_neg hne,cutW_no12 hno]
 have CX:=txt_ln hl8 ht w o h
 have CC:=Hy (fun w=>Cut_no l 58 hno w)
 have CT:=Hy (fun w=>show Calls Tryz.prog 79 #[.string ⟨#[]⟩] w (Gives (.string (str (trimL []))) w) from Trim_c [] (by decide) w)
 have e1:l.isEmpty=false:=by rw [List.isEmpty_eq_false_iff];exact hne
 have e2:(str l).toList.isEmpty=false:=by rw [Lib.toList_data];exact e1
 have HQ:=Hy hq
 obtain ⟨b,hb⟩:∃ b,b=c.toNat:=⟨_,rfl⟩
 have h256:=UInt8.toNat_lt c
 rw [← hb] at h256 CX ⊢
 obtain ⟨R,hR⟩:∃ R,R=trailF s c:=⟨_,rfl⟩
 rw [← hR] at HQ ⊢
 have CX:=Hy CX
 clear hR hb hq h
 clear ht hl8 hno hne
 go_enter Tryz.func77,Tryz.ntmps77
 go_wp2_with (first
  | (go_at_call 100;refine (CX.out).mono ?_;rintro e w2 ⟨rfl,o2,hp2,st2⟩;obtain ⟨A,m,B,d,C,g,hr,h1,h2,hs,hm,h5,h6⟩:=hp2.row;have c8:=hr.c8;have c10:=hr.c10;have f8:=hr.fz 8 (by decide);have f10:=hr.fz 10 (by decide);have HE:=Hy hp2;have HR:=Hy hr;have HS:=Hy hs;have HM:=Hy hm;have HL:=Hy (And.intro h1 h2);have HB:=Hy (And.intro h5 h6);have ST:=Hy st2;clear hr h1 h2 hs h5 h6 hp2 st2)
  | (go_at_call 78;refine (CC.out _).mono ?_;rintro e w3 ⟨rfl,rfl⟩)
  | (go_at_call 79;refine (CT.out _).mono ?_;rintro e w4 ⟨rfl,hx3⟩)
  | (go_at_call 99;refine (fdemand_c _ _ _).mono ?_;rintro e w6 ⟨hy,hn,rfl⟩;first | (obtain rfl:=hy rfl;clear hy hn) | (obtain rfl:=hn rfl;clear hy hn)))
 simp only [bodyPost]
 rw [HQ.out]
 exact ⟨trivial,rfl,o2,HE.out.ext Xq,ST.out.tr (Stp.ext Xq)⟩
theorem fTrailer_bad (k P:Nat) (s t:Rst) (c:UInt8) (e:Int) (a r:List UInt8) (hl8:s.line.length≤8192) (ht:textF s c=(t,some (a++58::r),e)) (hno:58∉a) (hl:(a++58::r).length≤8192) (hbad:(tokL12 a && vlL12 (trimL r))=false) (w:World) (o:Ow) (h:FsAt w o k P s) :
  Calls Tryz.prog 77 #[.pointer (some ⟨P,0,none⟩),.int .u8 (c.toNat:Int)] w (TurnsF k w o P (trailF s c)):=by
 have hq:trailF s c=(t,42):=by unfold trailF;rw [ht];dsimp only;unfold tailL fldV12;rw [if_neg (by simp),cutW_at12 r hno];dsimp only;rw [hbad];rfl
 have CX:=txt_ln hl8 ht w o h
 obtain ⟨sl,hsl⟩:∃ q,q=str (a++58::r):=⟨_,rfl⟩
 have e2:sl.toList.isEmpty=false:=by rw [hsl,Lib.toList_data];rw [List.isEmpty_eq_false_iff];simp
 have htl:=trim_len r
 have CC:=fun w=>Cut_at a r 58 hno (by unfold maxLen;simp at hl;omega) w
 have CT:=Hy (fun w=>Trim_c r (by unfold maxLen;simp at hl;omega) w)
 have CK:=fun w=>Token_f a (by unfold maxLen;simp at hl;omega) w
 have CV:=fun w=>Value_f (trimL r) (by unfold maxLen;simp at hl;omega) w
 rw [← hsl] at CC CX
 obtain ⟨v,hv⟩:∃ v,v=trimL r:=⟨_,rfl⟩
 have CT:Hid (∀ w,Calls Tryz.prog 79 #[.string (str r)] w (Gives (.string (str v)) w)):=by rw [hv];exact CT
 rw [← hv] at CV
 have CC:=Hy CC
 rw [← hv] at hbad
 obtain ⟨gt,hgt⟩:∃ g,g=tokL12 a:=⟨_,rfl⟩
 obtain ⟨gv,hgv⟩:∃ g,g=vlL12 v:=⟨_,rfl⟩
 rw [← hgt] at CK hbad
 rw [← hgv] at CV hbad
 have CK:=Hy CK
 have CV:=Hy CV
 have HQ:=Hy hq
 obtain ⟨b,hb⟩:∃ b,b=c.toNat:=⟨_,rfl⟩
 have h256:=UInt8.toNat_lt c
 rw [← hb] at h256 CX ⊢
 obtain ⟨R,hR⟩:∃ R,R=trailF s c:=⟨_,rfl⟩
 rw [← hR] at HQ ⊢
 have CX:=Hy CX
 clear hR hb hq h
 clear hgt hgv hv hno hl hsl htl ht hl8
 cases gt with
 | false =>
  clear hbad
  go_enter Tryz.func77,Tryz.ntmps77
  go_wp2_with (first
   | (go_at_call 100;refine (CX.out).mono ?_;rintro e w2 ⟨rfl,o2,hp2,st2⟩;obtain ⟨A,m,B,d,C,g,hr,h1,h2,hs,hm,h5,h6⟩:=hp2.row;have c8:=hr.c8;have c10:=hr.c10;have f8:=hr.fz 8 (by decide);have f10:=hr.fz 10 (by decide);have HE:=Hy hp2;have HR:=Hy hr;have HS:=Hy hs;have HM:=Hy hm;have HL:=Hy (And.intro h1 h2);have HB:=Hy (And.intro h5 h6);have ST:=Hy st2;clear hr h1 h2 hs h5 h6 hp2 st2)
   | (go_at_call 78;refine (CC.out _).mono ?_;rintro e w3 ⟨rfl,q,rfl⟩)
   | (go_at_call 79;refine (CT.out _).mono ?_;rintro e w4 ⟨rfl,hx3⟩)
   | (go_at_call 54;refine (CK.out _).mono ?_;rintro e w5 ⟨rfl,hx4⟩)
   | (go_at_call 80;refine (CV.out _).mono ?_;rintro e w6 ⟨rfl,hx5⟩;have hxa:Ext w2 w6:=Xq;have hr5:=HR.out.ext hxa;have k8:=hr5.c8;have g8:=hr5.fz 8 (by decide))
   | (go_at_call 99;refine (fdemand_c _ _ _).mono ?_;rintro e w7 ⟨hy,hn,rfl⟩;first | (obtain rfl:=hy rfl;clear hy hn) | (obtain rfl:=hn rfl;clear hy hn) | (obtain rfl:=hy d9;clear hy hn) | (obtain rfl:=hn d9;clear hy hn))
   | (at_builtin;refine wpL_put slt_fld (.tmp 52) (.tmp 56) rfl rfl rfl rfl ((HS.out.ext hxa).ext (Ext.al (Ext.rfl' w6) _)) HM.out (Src.ofSlice (size:=2) _ Tryz.underlying34 ⟨w6.heap.size,0,none⟩ 1 1 [.string (str a),.string (str v)] (by simp) (new_cells w6 #[.string (str a),.string (str v)] 72) (by simp [Value.oneCell'])) (by omega) (by simp only [maxLen];omega) ?_;intro A7 c7 w7 o7 hs7 hst7 hn7;have st7:Stp (fun i=>i=k+2) w2 o2 w7 o7:=(Stp.ext (hxa.al _)).tr hst7;have hr7:Frow w7 P t A m B d C g:=HR.out.stp st7 (by rw [HE.out.own];omega);have j8:=hr7.c8;have i8:=hr7.fz 8 (by decide);clear k8 g8 hr5))
  simp only [bodyPost]
  rw [HQ.out]
  exact ⟨trivial,rfl,o2,HE.out.ext Xq,ST.out.tr (Stp.ext Xq)⟩
 | true =>
  rw [Bool.true_and] at hbad
  subst hbad
  go_enter Tryz.func77,Tryz.ntmps77
  go_wp2_with (first
   | (go_at_call 100;refine (CX.out).mono ?_;rintro e w2 ⟨rfl,o2,hp2,st2⟩;obtain ⟨A,m,B,d,C,g,hr,h1,h2,hs,hm,h5,h6⟩:=hp2.row;have c8:=hr.c8;have c10:=hr.c10;have f8:=hr.fz 8 (by decide);have f10:=hr.fz 10 (by decide);have HE:=Hy hp2;have HR:=Hy hr;have HS:=Hy hs;have HM:=Hy hm;have HL:=Hy (And.intro h1 h2);have HB:=Hy (And.intro h5 h6);have ST:=Hy st2;clear hr h1 h2 hs h5 h6 hp2 st2)
   | (go_at_call 78;refine (CC.out _).mono ?_;rintro e w3 ⟨rfl,q,rfl⟩)
   | (go_at_call 79;refine (CT.out _).mono ?_;rintro e w4 ⟨rfl,hx3⟩)
   | (go_at_call 54;refine (CK.out _).mono ?_;rintro e w5 ⟨rfl,hx4⟩)
   | (go_at_call 80;refine (CV.out _).mono ?_;rintro e w6 ⟨rfl,hx5⟩;have hxa:Ext w2 w6:=Xq;have hr5:=HR.out.ext hxa;have k8:=hr5.c8;have g8:=hr5.fz 8 (by decide))
   | (go_at_call 99;refine (fdemand_c _ _ _).mono ?_;rintro e w7 ⟨hy,hn,rfl⟩;first | (obtain rfl:=hy rfl;clear hy hn) | (obtain rfl:=hn rfl;clear hy hn) | (obtain rfl:=hy d9;clear hy hn) | (obtain rfl:=hn d9;clear hy hn))
   | (at_builtin;refine wpL_put slt_fld (.tmp 52) (.tmp 56) rfl rfl rfl rfl ((HS.out.ext hxa).ext (Ext.al (Ext.rfl' w6) _)) HM.out (Src.ofSlice (size:=2) _ Tryz.underlying34 ⟨w6.heap.size,0,none⟩ 1 1 [.string (str a),.string (str v)] (by simp) (new_cells w6 #[.string (str a),.string (str v)] 72) (by simp [Value.oneCell'])) (by omega) (by simp only [maxLen];omega) ?_;intro A7 c7 w7 o7 hs7 hst7 hn7;have st7:Stp (fun i=>i=k+2) w2 o2 w7 o7:=(Stp.ext (hxa.al _)).tr hst7;have hr7:Frow w7 P t A m B d C g:=HR.out.stp st7 (by rw [HE.out.own];omega);have j8:=hr7.c8;have i8:=hr7.fz 8 (by decide);clear k8 g8 hr5))
  simp only [bodyPost]
  rw [HQ.out]
  exact ⟨trivial,rfl,o2,HE.out.ext Xq,ST.out.tr (Stp.ext Xq)⟩
theorem fTrailer_long (k P:Nat) (s t:Rst) (c:UInt8) (e:Int) (a r:List UInt8) (hl8:s.line.length≤8192) (ht:textF s c=(t,some (a++58::r),e)) (hno:58∉a) (hl:(a++58::r).length≤8192) (hgood:(tokL12 a && vlL12 (trimL r))=true) (hf:¬ t.tail.length<100) (w:World) (o:Ow) (h:FsAt w o k P s) :
  Calls Tryz.prog 77 #[.pointer (some ⟨P,0,none⟩),.int .u8 (c.toNat:Int)] w (TurnsF k w o P (trailF s c)):=by
 have hq:trailF s c=(t,44):=by unfold trailF;rw [ht];dsimp only;unfold tailL fldV12;rw [if_neg (by simp),cutW_at12 r hno];dsimp only;rw [hgood];exact if_neg hf
 have CX:=txt_ln hl8 ht w o h
 obtain ⟨sl,hsl⟩:∃ q,q=str (a++58::r):=⟨_,rfl⟩
 have e2:sl.toList.isEmpty=false:=by rw [hsl,Lib.toList_data];rw [List.isEmpty_eq_false_iff];simp
 have htl:=trim_len r
 have CC:=fun w=>Cut_at a r 58 hno (by unfold maxLen;simp at hl;omega) w
 have CT:=Hy (fun w=>Trim_c r (by unfold maxLen;simp at hl;omega) w)
 have CK:=fun w=>Token_f a (by unfold maxLen;simp at hl;omega) w
 have CV:=fun w=>Value_f (trimL r) (by unfold maxLen;simp at hl;omega) w
 rw [← hsl] at CC CX
 obtain ⟨v,hv⟩:∃ v,v=trimL r:=⟨_,rfl⟩
 have CT:Hid (∀ w,Calls Tryz.prog 79 #[.string (str r)] w (Gives (.string (str v)) w)):=by rw [hv];exact CT
 rw [← hv] at CV
 have CC:=Hy CC
 rw [← hv] at hgood
 rw [Bool.and_eq_true] at hgood
 rw [hgood.1] at CK
 rw [hgood.2] at CV
 have CK:=Hy CK
 have CV:=Hy CV
 have d9:decide ((t.tail.length:Int)<100)=false:=decide_eq_false (by omega)
 have HQ:=Hy hq
 obtain ⟨b,hb⟩:∃ b,b=c.toNat:=⟨_,rfl⟩
 have h256:=UInt8.toNat_lt c
 rw [← hb] at h256 CX ⊢
 obtain ⟨R,hR⟩:∃ R,R=trailF s c:=⟨_,rfl⟩
 rw [← hR] at HQ ⊢
 have CX:=Hy CX
 clear hR hb hq h
 clear hgood hv hno hl hsl htl ht hl8
 go_enter Tryz.func77,Tryz.ntmps77
 go_wp2_with (first
  | (go_at_call 100;refine (CX.out).mono ?_;rintro e w2 ⟨rfl,o2,hp2,st2⟩;obtain ⟨A,m,B,d,C,g,hr,h1,h2,hs,hm,h5,h6⟩:=hp2.row;have c8:=hr.c8;have c10:=hr.c10;have f8:=hr.fz 8 (by decide);have f10:=hr.fz 10 (by decide);have HE:=Hy hp2;have HR:=Hy hr;have HS:=Hy hs;have HM:=Hy hm;have HL:=Hy (And.intro h1 h2);have HB:=Hy (And.intro h5 h6);have ST:=Hy st2;clear hr h1 h2 hs h5 h6 hp2 st2)
  | (go_at_call 78;refine (CC.out _).mono ?_;rintro e w3 ⟨rfl,q,rfl⟩)
  | (go_at_call 79;refine (CT.out _).mono ?_;rintro e w4 ⟨rfl,hx3⟩)
  | (go_at_call 54;refine (CK.out _).mono ?_;rintro e w5 ⟨rfl,hx4⟩)
  | (go_at_call 80;refine (CV.out _).mono ?_;rintro e w6 ⟨rfl,hx5⟩;have hxa:Ext w2 w6:=Xq;have hr5:=HR.out.ext hxa;have k8:=hr5.c8;have g8:=hr5.fz 8 (by decide))
  | (go_at_call 99;refine (fdemand_c _ _ _).mono ?_;rintro e w7 ⟨hy,hn,rfl⟩;first | (obtain rfl:=hy rfl;clear hy hn) | (obtain rfl:=hn rfl;clear hy hn) | (obtain rfl:=hy d9;clear hy hn) | (obtain rfl:=hn d9;clear hy hn))
  | (at_builtin;refine wpL_put slt_fld (.tmp 52) (.tmp 56) rfl rfl rfl rfl ((HS.out.ext hxa).ext (Ext.al (Ext.rfl' w6) _)) HM.out (Src.ofSlice (size:=2) _ Tryz.underlying34 ⟨w6.heap.size,0,none⟩ 1 1 [.string (str a),.string (str v)] (by simp) (new_cells w6 #[.string (str a),.string (str v)] 72) (by simp [Value.oneCell'])) (by omega) (by simp only [maxLen];omega) ?_;intro A7 c7 w7 o7 hs7 hst7 hn7;have st7:Stp (fun i=>i=k+2) w2 o2 w7 o7:=(Stp.ext (hxa.al _)).tr hst7;have hr7:Frow w7 P t A m B d C g:=HR.out.stp st7 (by rw [HE.out.own];omega);have j8:=hr7.c8;have i8:=hr7.fz 8 (by decide);clear k8 g8 hr5))
 simp only [bodyPost]
 rw [HQ.out]
 exact ⟨trivial,rfl,o2,HE.out.ext Xq,ST.out.tr (Stp.ext Xq)⟩
theorem fTrailer_good (k P:Nat) (s t:Rst) (c:UInt8) (e:Int) (a r:List UInt8) (hl8:s.line.length≤8192) (ht:textF s c=(t,some (a++58::r),e)) (hno:58∉a) (hl:(a++58::r).length≤8192) (hgood:(tokL12 a && vlL12 (trimL r))=true) (hf:t.tail.length<100) (w:World) (o:Ow) (h:FsAt w o k P s) :
  Calls Tryz.prog 77 #[.pointer (some ⟨P,0,none⟩),.int .u8 (c.toNat:Int)] w (TurnsF k w o P (trailF s c)):=by
 have hq:trailF s c=({ t with tail:=t.tail++[(a,trimL r)] },0):=by unfold trailF;rw [ht];dsimp only;unfold tailL fldV12;rw [if_neg (by simp),cutW_at12 r hno];dsimp only;rw [hgood];exact if_pos hf
 have CX:=txt_ln hl8 ht w o h
 obtain ⟨sl,hsl⟩:∃ q,q=str (a++58::r):=⟨_,rfl⟩
 have e2:sl.toList.isEmpty=false:=by rw [hsl,Lib.toList_data];rw [List.isEmpty_eq_false_iff];simp
 have htl:=trim_len r
 have CC:=fun w=>Cut_at a r 58 hno (by unfold maxLen;simp at hl;omega) w
 have CT:=Hy (fun w=>Trim_c r (by unfold maxLen;simp at hl;omega) w)
 have CK:=fun w=>Token_f a (by unfold maxLen;simp at hl;omega) w
 have CV:=fun w=>Value_f (trimL r) (by unfold maxLen;simp at hl;omega) w
 rw [← hsl] at CC CX
 obtain ⟨v,hv⟩:∃ v,v=trimL r:=⟨_,rfl⟩
 have CT:Hid (∀ w,Calls Tryz.prog 79 #[.string (str r)] w (Gives (.string (str v)) w)):=by rw [hv];exact CT
 rw [← hv] at CV
 have CC:=Hy CC
 rw [← hv] at hgood hq
 rw [Bool.and_eq_true] at hgood
 rw [hgood.1] at CK
 rw [hgood.2] at CV
 have CK:=Hy CK
 have CV:=Hy CV
 have d9:decide ((t.tail.length:Int)<100)=true:=decide_eq_true (by omega)
 have HQ:=Hy hq
 obtain ⟨b,hb⟩:∃ b,b=c.toNat:=⟨_,rfl⟩
 have h256:=UInt8.toNat_lt c
 rw [← hb] at h256 CX ⊢
 obtain ⟨R,hR⟩:∃ R,R=trailF s c:=⟨_,rfl⟩
 rw [← hR] at HQ ⊢
 have CX:=Hy CX
 clear hR hb hq h
 clear hgood hv hno hl hsl htl ht hl8
 go_enter Tryz.func77,Tryz.ntmps77
 go_wp2_with (first
  | (go_at_call 100;refine (CX.out).mono ?_;rintro e w2 ⟨rfl,o2,hp2,st2⟩;obtain ⟨A,m,B,d,C,g,hr,h1,h2,hs,hm,h5,h6⟩:=hp2.row;have c8:=hr.c8;have c10:=hr.c10;have f8:=hr.fz 8 (by decide);have f10:=hr.fz 10 (by decide);have HE:=Hy hp2;have HR:=Hy hr;have HS:=Hy hs;have HM:=Hy hm;have HL:=Hy (And.intro h1 h2);have HB:=Hy (And.intro h5 h6);have ST:=Hy st2;clear hr h1 h2 hs h5 h6 hp2 st2)
  | (go_at_call 78;refine (CC.out _).mono ?_;rintro e w3 ⟨rfl,q,rfl⟩)
  | (go_at_call 79;refine (CT.out _).mono ?_;rintro e w4 ⟨rfl,hx3⟩)
  | (go_at_call 54;refine (CK.out _).mono ?_;rintro e w5 ⟨rfl,hx4⟩)
  | (go_at_call 80;refine (CV.out _).mono ?_;rintro e w6 ⟨rfl,hx5⟩;have hxa:Ext w2 w6:=Xq;have hr5:=HR.out.ext hxa;have k8:=hr5.c8;have g8:=hr5.fz 8 (by decide))
  | (go_at_call 99;refine (fdemand_c _ _ _).mono ?_;rintro e w7 ⟨hy,hn,rfl⟩;first | (obtain rfl:=hy rfl;clear hy hn) | (obtain rfl:=hn rfl;clear hy hn) | (obtain rfl:=hy d9;clear hy hn) | (obtain rfl:=hn d9;clear hy hn))
  | (at_builtin;refine wpL_put slt_fld (.tmp 52) (.tmp 56) rfl rfl rfl rfl ((HS.out.ext hxa).ext (Ext.al (Ext.rfl' w6) _)) HM.out (Src.ofSlice (size:=2) _ Tryz.underlying34 ⟨w6.heap.size,0,none⟩ 1 1 [.string (str a),.string (str v)] (by simp) (new_cells w6 #[.string (str a),.string (str v)] 72) (by simp [Value.oneCell'])) (by omega) (by simp only [maxLen];omega) ?_;intro A7 c7 w7 o7 hs7 hst7 hn7;have st7:Stp (fun i=>i=k+2) w2 o2 w7 o7:=(Stp.ext (hxa.al _)).tr hst7;have hr7:Frow w7 P t A m B d C g:=HR.out.stp st7 (by rw [HE.out.own];omega);have j8:=hr7.c8;have i8:=hr7.fz 8 (by decide);clear k8 g8 hr5))
 go_end0
 rw [HQ.out]
 have hp7:o7 P=k:=by rw [st7.own P (row_lt HR.out)];exact HE.out.own
 have stf:Stp (fun i=>i=k) w7 o7 (w7.setCell ⟨P,8,none⟩ (.slice A7 (t.tail.length+1) c7)) o7:=Stp.set P 8 _ (fun _=>hp7)
 have hlen:(t.tail++[(a,v)]).length=t.tail.length+1:=by simp
 refine ⟨rfl,o7,⟨hp7,A,m,A7,c7,C,g,?_,(HL.out.1.stp st7 (by omega)).stp stf (by omega),HL.out.2,?_,hn7,(HB.out.1.stp st7 (by omega)).stp stf (by omega),HB.out.2⟩,ST.out.tr ((st7.mono fun i hi=>.inr (.inr (.inl hi))).tr (stf.mono fun i hi=>.inl hi))⟩
 ·exact hr7.set 8 _ (by simp [Rst.cells])
 ·rw [hlen,fc_app]
  exact hs7.stp stf (by omega)
theorem fTrailer_c (k P:Nat) (s:Rst) (c:UInt8) (hl8:s.line.length≤8192) (w:World) (o:Ow) (h:FsAt w o k P s) :
  Calls Tryz.prog 77 #[.pointer (some ⟨P,0,none⟩),.int .u8 (c.toNat:Int)] w (TurnsF k w o P (trailF s c)):=by
 obtain ⟨⟨t,ol,e⟩,hx⟩:∃ q,q=textF s c:=⟨_,rfl⟩
 cases ol with
 | none =>
  by_cases he:e=0
  ·subst he;exact fTrailer_go k P s t c hl8 hx.symm w o h
  ·exact fTrailer_no k P s t c e hl8 hx.symm he w o h
 | some l =>
  obtain ⟨_,rfl,_⟩:=text_some hx.symm
  by_cases hl0:s.line=[]
  ·exact fTrailer_done k P s t c e hl8 (by rw [← hx,hl0]) w o h
  ·rcases cut_cases s.line 58 with hno | ⟨a,r,hl,hno⟩
   ·exact fTrailer_nocut k P s t c e _ hl8 hx.symm hl0 hno w o h
   ·rw [hl] at hx
    cases hg:(tokL12 a && vlL12 (trimL r)) with
    | false=>exact fTrailer_bad k P s t c e a r hl8 hx.symm hno (by rw [← hl];exact hl8) hg w o h
    | true =>
     by_cases hf:t.tail.length<100
     ·exact fTrailer_good k P s t c e a r hl8 hx.symm hno (by rw [← hl];exact hl8) hg hf w o h
     ·exact fTrailer_long k P s t c e a r hl8 hx.symm hno (by rw [← hl];exact hl8) hg hf w o h
end Go.Proofs.YthbofilcnpdghaaGreatDoor
end
