/-
The reference's in, bytes, segment.
-/
import Derived.Test.YtmnohicojefhfaaGreatDoorCFb
import Derived.Test.YtmnohicojefhfaaGreatDoorASa
import Derived.Test.YtmnohicojefhfaaGreatDoorUHb
import Derived.Test.YtmnohicojefhfaaGreatDoorUHc
import Derived.Test.YtmnohicojefhfaaGreatDoorCHb
set_option maxRecDepth 100000
set_option maxHeartbeats 8000000
set_option linter.unusedVariables false
set_option linter.unusedSimpArgs false
section
namespace Go.Proofs.YtmnohicojefhfaaGreatDoor
open Go.RowKit
theorem rinB_c (n a b:Int) (w:World):Calls Tryz.prog 66 #[.int .i64 n,.int .i64 a,.int .i64 b] w fun e w'=>e=.returned (.bool (inB n a b))∧w'=w:=by
 unfold inB
 by_cases h1:a ≤ n
 ·have d1:decide (a ≤ n)=true:=decide_eq_true h1
  by_cases h2:n ≤ b
  ·have d2:decide (n ≤ b)=true:=decide_eq_true h2
   rw [d1,d2]
   go_enter Tryz.func66,Tryz.ntmps66
   go_wp2
   go_ret
   exact ⟨rfl,rfl⟩
  ·have d2:decide (n ≤ b)=false:=decide_eq_false h2
   rw [d1,d2]
   go_enter Tryz.func66,Tryz.ntmps66
   go_wp2
   go_ret
   exact ⟨rfl,rfl⟩
 ·have d1:decide (a ≤ n)=false:=decide_eq_false h1
  rw [d1]
  go_enter Tryz.func66,Tryz.ntmps66
  go_wp2
  go_ret
  exact ⟨by simp,rfl⟩
theorem rng_cases (a n:Nat):(rngB a n=true∧a ≤ n∧n ≤ 126∧n ≠ 34) ∨ (rngB a n=false∧(n < a ∨ 126 < n ∨ n=34)):=by
 unfold rngB
 by_cases h1:a ≤ n
 ·by_cases h2:n ≤ 126
  ·by_cases h3:n=34
   ·right; exact ⟨by simp [h3],by omega⟩
   ·left; exact ⟨by simp [h1,h2,h3],h1,h2,h3⟩
  ·right; exact ⟨by simp [h2],by omega⟩
 ·right; exact ⟨by simp [h1],by omega⟩
theorem rbytes_s (a:Nat) (ha:a < 256) (s:ByteArray) (hs:s.size ≤ maxLen) (w:World) :
  Calls Tryz.prog 142 #[.string s,.int .u8 (a:Int)] w (Gives (.bool (s.data.toList.all fun b=>rngB a b.toNat)) w):=by
 unfold maxLen at hs
 obtain ⟨R,hR⟩:∃ b,b=s.data.toList.all fun b=>rngB a b.toNat:=⟨_,rfl⟩
 rw [← hR]
 have HR:=Lib.hid hR
 clear hR
 go_enter Tryz.func142,Tryz.ntmps142
 go_wp2
 go_loopw [5] (fun i wr=>∃ k:Nat,k ≤ s.size∧i=.int .i64 k∧Hid (((s.data.toList.take k).all fun b=>rngB a b.toNat)=true)∧w=wr) (fun i _=>s.size - (intOf i).toNat)
 case atStart=>exact ⟨0,Nat.zero_le _,rfl,Lib.hid rfl,rfl⟩
 case round =>
  obtain ⟨k,hk,rfl,HA,rfl⟩:=hrel
  by_cases hlt:k < s.size
  ·have hsucc:=all_take s (rngB a) k hlt
   rw [HA.out] at hsucc
   have HS:=Lib.hid hsucc
   clear hsucc
   have hbt:=bt_get s k hlt
   have hlt2:=bt_lt s k
   rcases rng_cases a (bt s k) with ⟨hv,h1,h2,h3⟩ | ⟨hv,hb⟩
   ·have HV:=Lib.hid hv
    have q3:((bt s k:Int) == 34)=false:=by rw [beq_eq_false_iff_ne]; omega
    clear hv
    go_wp2
    exact ⟨⟨k + 1,by omega,by go_num,Lib.hid (by rw [HS.out,HV.out]; rfl),by trivial⟩,by simp [intOf]; omega⟩
   ·have HF:=Lib.hid (all_false s (rngB a) k hlt hv)
    clear hv
    rcases hb with hb | hb | hb
    ·go_wp2
     go_ret
     exact ⟨ret_bool (by rw [HR.out,HF.out]),Ext.rfl' _⟩
    ·by_cases h4:bt s k < a
     ·go_wp2
      go_ret
      exact ⟨ret_bool (by rw [HR.out,HF.out]),Ext.rfl' _⟩
     ·go_wp2
      go_ret
      exact ⟨ret_bool (by rw [HR.out,HF.out]),Ext.rfl' _⟩
    ·by_cases h4:bt s k < a
     ·go_wp2
      go_ret
      exact ⟨ret_bool (by rw [HR.out,HF.out]),Ext.rfl' _⟩
     ·go_wp2
      go_ret
      exact ⟨ret_bool (by rw [HR.out,HF.out]),Ext.rfl' _⟩
  ·obtain rfl:k=s.size:=by omega
   rw [List.take_of_length_le (by simp)] at HA
   go_wp2
   go_ret
   exact ⟨ret_bool (by rw [HR.out,HA.out]),Ext.rfl' _⟩
theorem rbytes_c (a:Nat) (ha:a < 256) (l:List UInt8) (hs:l.length ≤ maxLen) (w:World) :
  Calls Tryz.prog 142 #[.string (str l),.int .u8 (a:Int)] w (Gives (.bool (bytesC a l)) w):=by
 have:=rbytes_s a ha (str l) (by rw [str_size]; exact hs) w
 rw [bytesC_rng]
 simpa using this
def segC (l:List UInt8):Bool:=(l.all fun b=>!(b.toNat == 47)) && bytesC 33 l && !(decide (l=[46])) && !(decide (l=[46,46]))
theorem rsegment_c (l:List UInt8) (hs:l.length ≤ maxLen) (w:World):Calls Tryz.prog 141 #[.string (str l)] w (Gives (.bool (segC l)) w):=by
 unfold maxLen at hs
 have CB:=Lib.hid (fun w=>rbytes_c 33 (by omega) l (by unfold maxLen; exact hs) w)
 have HR:=Lib.hid (show segC l=((l.all fun b=>!(b.toNat == 47)) && bytesC 33 l && !(decide (l=[46])) && !(decide (l=[46,46]))) from rfl)
 obtain ⟨s,hsl⟩:∃ s,s=str l:=⟨_,rfl⟩
 have hsz:s.size=l.length:=by rw [hsl,str_size]
 have hdl:s.data.toList=l:=by rw [hsl]; simp [str]
 have htl:s.toList=l:=by rw [hsl,str_tl]
 rw [← hsl] at CB ⊢
 have hs:s.size ≤ 9223372036854775807:=by omega
 go_enter Tryz.func141,Tryz.ntmps141
 go_wp2
 go_loopw [3] (fun i wr=>∃ k:Nat,k ≤ s.size∧i=.int .i64 k∧Hid (((s.data.toList.take k).all fun b=>!(b.toNat == 47))=true)∧w=wr) (fun i _=>s.size - (intOf i).toNat)
 case atStart=>exact ⟨0,Nat.zero_le _,rfl,Lib.hid rfl,rfl⟩
 case round =>
  obtain ⟨k,hk,rfl,HA,rfl⟩:=hrel
  by_cases hlt:k < s.size
  ·have hsucc:=all_take s (fun n=>!(n == 47)) k hlt
   rw [HA.out] at hsucc
   have HS:=Lib.hid hsucc
   clear hsucc
   have hbt:=bt_get s k hlt
   have hlt2:=bt_lt s k
   have HDL:=Lib.hid hdl
   clear htl hdl hsl hsz
   by_cases h:bt s k=47
   ·have HF:=Lib.hid (all_false s (fun n=>!(n == 47)) k hlt (by rw [h]; rfl))
    rw [HDL.out] at HF
    go_wp2
    go_ret
    exact ⟨ret_bool (by rw [HR.out,HF.out]; rfl),Ext.rfl' _⟩
   ·have HN:=Lib.hid (show (!(bt s k == 47))=true by simp [h])
    go_wp2
    go_roundw
    case rel=>exact ⟨k + 1,by omega,by go_num,Lib.hid (by rw [HS.out,HN.out]; rfl),by trivial⟩
    case measure=>simp [intOf]; omega
  ·obtain rfl:k=s.size:=by omega
   rw [List.take_of_length_le (by simp),hdl] at HA
   rw [HA.out] at HR
   obtain ⟨b,hb⟩:∃ b,b=bytesC 33 l:=⟨_,rfl⟩
   rw [← hb] at HR CB
   clear HA hb
   by_cases h1:l=[46]
   ·rw [decide_eq_true h1] at HR
    have g1:s.toList=[46]:=by rw [htl,h1]
    have g2:(s.toList == [46])=true:=by rw [g1]; rfl
    clear h1 htl hdl hsl hsz
    cases b
    ·go_wp2_with (go_at_call 142; refine (CB.out _).mono ?_; rintro e w2 ⟨rfl,hx2⟩)
     go_ret
     exact ⟨ret_bool (by rw [HR.out]; simp),hx2⟩
    ·go_wp2_with (go_at_call 142; refine (CB.out _).mono ?_; rintro e w2 ⟨rfl,hx2⟩)
     go_ret
     exact ⟨ret_bool (by rw [HR.out]; simp),hx2⟩
   ·rw [decide_eq_false h1] at HR
    have g1:¬ s.toList=[46]:=by rw [htl]; exact h1
    have g2:(s.toList == [46])=false:=beq_eq_false_iff_ne.2 g1
    by_cases h3:l=[46,46]
    ·rw [decide_eq_true h3] at HR
     have g3:s.toList=[46,46]:=by rw [htl,h3]
     have g4:(s.toList == [46,46])=true:=by rw [g3]; rfl
     clear h1 h3 htl hdl hsl hsz
     cases b
     ·go_wp2_with (go_at_call 142; refine (CB.out _).mono ?_; rintro e w2 ⟨rfl,hx2⟩)
      go_ret
      exact ⟨ret_bool (by rw [HR.out]; simp),hx2⟩
     ·go_wp2_with (go_at_call 142; refine (CB.out _).mono ?_; rintro e w2 ⟨rfl,hx2⟩)
      go_ret
      exact ⟨ret_bool (by rw [HR.out]; simp),hx2⟩
    ·rw [decide_eq_false h3] at HR
     have g3:¬ s.toList=[46,46]:=by rw [htl]; exact h3
     have g4:(s.toList == [46,46])=false:=beq_eq_false_iff_ne.2 g3
     clear h1 h3 htl hdl hsl hsz
     cases b
     ·go_wp2_with (go_at_call 142; refine (CB.out _).mono ?_; rintro e w2 ⟨rfl,hx2⟩)
      go_ret
      exact ⟨ret_bool (by rw [HR.out]; simp),hx2⟩
     ·go_wp2_with (go_at_call 142; refine (CB.out _).mono ?_; rintro e w2 ⟨rfl,hx2⟩)
      go_ret
      exact ⟨ret_bool (by rw [HR.out]; simp),hx2⟩
end Go.Proofs.YtmnohicojefhfaaGreatDoor
end
section
namespace Go.Proofs.YtmnohicojefhfaaGreatDoor
open Go.RowKit
theorem str_tk (l:List UInt8) (n:Nat):(str l).extract 0 n=str (l.take n):=by
 apply ByteArray.ext
 apply Array.ext'
 simp [str]
theorem str_dr (l:List UInt8) (n L:Nat) (h:L=l.length):(str l).extract n L=str (l.drop n):=by
 subst h
 apply ByteArray.ext
 apply Array.ext'
 simp [str]
 exact List.take_of_length_le (by simp)
theorem num_nonneg (B M:Nat) (l:List UInt8):0 ≤ (numL B M l).1:=by
 unfold numL
 split
 ·exact Int.le_refl _
 ·split
  ·exact Int.natCast_nonneg _
  ·exact Int.le_refl _
theorem pathC_eq2 (l:List UInt8):pathC l=(decide ((cleanL l).2=0) && decide ((cleanL l).1=l) && bytesC 33 l):=by
 unfold pathC
 congr 1
 rw [← Bool.decide_and]
 apply decide_eq_decide.2
 constructor
 ·intro h; rw [h]; exact ⟨rfl,rfl⟩
 ·rintro ⟨h1,h2⟩; exact Prod.ext h2 h1
theorem rpath_c (l:List UInt8) (hs:l.length ≤ 140737488355328) (w:World):Calls Tryz.prog 140 #[.string (str l)] w (Gives (.bool (pathC l)) w):=by
 rw [pathC_eq2]
 have CC:=Lib.hid (fun w=>rClean_c l hs w)
 have CB:=Lib.hid (fun w=>rbytes_c 33 (by omega) l (by unfold maxLen; omega) w)
 obtain ⟨s,hsl⟩:∃ s,s=str l:=⟨_,rfl⟩
 obtain ⟨e,hev⟩:∃ e,e=(cleanL l).2:=⟨_,rfl⟩
 obtain ⟨t,htv⟩:∃ t,t=str (cleanL l).1:=⟨_,rfl⟩
 obtain ⟨b,hbv⟩:∃ b,b=bytesC 33 l:=⟨_,rfl⟩
 rw [← hev,← htv,← hsl] at CC
 rw [← hsl,← hbv] at CB
 rw [← hsl,← hev,← hbv]
 by_cases he:e=0
 ·subst he
  by_cases h2:(cleanL l).1=l
  ·obtain rfl:t=s:=by rw [htv,hsl,h2]
   rw [decide_eq_true h2]
   clear htv hsl hev hbv h2
   go_enter Tryz.func140,Tryz.ntmps140
   go_wp2_with (first
    | (go_at_call 170; refine (CC.out _).mono ?_; rintro e w1 ⟨rfl,hx1⟩)
    | (go_at_call 142; refine (CB.out _).mono ?_; rintro e w2 ⟨rfl,hx2⟩))
   go_ret
   exact ⟨ret_bool (by simp),hx1.tr hx2⟩
  ·have g1:¬ t.toList=s.toList:=by rw [htv,hsl,str_tl,str_tl]; exact h2
   have g2:(t.toList == s.toList)=false:=beq_eq_false_iff_ne.2 g1
   rw [decide_eq_false h2]
   clear htv hsl hev hbv h2
   go_enter Tryz.func140,Tryz.ntmps140
   go_wp2_with (first
    | (go_at_call 170; refine (CC.out _).mono ?_; rintro e w1 ⟨rfl,hx1⟩)
    | (go_at_call 142; refine (CB.out _).mono ?_; rintro e w2 ⟨rfl,hx2⟩))
   go_ret
   exact ⟨ret_bool (by simp),hx1⟩
 ·have g2:(e == 0)=false:=beq_eq_false_iff_ne.2 he
  rw [decide_eq_false he]
  clear htv hsl hev hbv
  go_enter Tryz.func140,Tryz.ntmps140
  go_wp2_with (first
   | (go_at_call 170; refine (CC.out _).mono ?_; rintro e w1 ⟨rfl,hx1⟩)
   | (go_at_call 142; refine (CB.out _).mono ?_; rintro e w2 ⟨rfl,hx2⟩))
  go_ret
  exact ⟨ret_bool (by simp),hx1⟩
theorem port_neg (h r:List UInt8) (h0:(portL h r).2.2=0):(portL h r).2.1=-1 ∨ 0 ≤ (portL h r).2.1:=by
 unfold portL at h0 ⊢
 split
 ·exact .inl rfl
 ·split
  ·exact .inr (num_nonneg _ _ _)
  ·right; simp
theorem host_neg (l:List UInt8) (h0:(hostL l).2.2=0):(hostL l).2.1=-1 ∨ 0 ≤ (hostL l).2.1:=by
 unfold hostL at h0 ⊢
 split
 ·right; simp
 ·rw [if_neg (by assumption)] at h0
  exact port_neg _ _ h0
theorem rhost_c (l:List UInt8) (hs:l.length ≤ 140737488355328) (w:World):Calls Tryz.prog 111 #[.string (str l)] w (Gives (.bool (hostC l)) w):=by
 have CH:=Lib.hid (fun w'=>urHost_c (bareL l) (Nat.le_trans (bareL_len l) hs) w')
 have hneg:=host_neg (bareL l)
 unfold hostV at CH
 unfold hostC
 obtain ⟨e,hev⟩:∃ e,e=(hostL (bareL l)).2.2:=⟨_,rfl⟩
 obtain ⟨p,hpv⟩:∃ p,p=(hostL (bareL l)).2.1:=⟨_,rfl⟩
 obtain ⟨h,hhv⟩:∃ t,t=str (hostL (bareL l)).1:=⟨_,rfl⟩
 rw [← hev,← hpv,← hhv] at CH
 rw [← hev,← hpv] at hneg ⊢
 obtain ⟨sb,hsb⟩:∃ s,s=str (bareL l):=⟨_,rfl⟩
 rw [← hsb] at CH
 by_cases hl:2 < l.length
 ·obtain ⟨s,hsl⟩:∃ s,s=str l:=⟨_,rfl⟩
  have hsz2:decide ((2:Int) < (s.size:Int))=true:=by rw [hsl,str_size]; exact decide_eq_true (by omega)
  have hb2:(2:Int) ≤ (s.size:Int):=by rw [hsl,str_size]; omega
  have hp2:s.extract 0 2=str (l.take 2):=by rw [hsl]; exact str_tk l 2
  by_cases h2:l.take 2=[42,46]
  ·have hsbv:s.extract 2 s.size=sb:=by
    rw [hsb,hsl]
    unfold bareL
    rw [if_pos ⟨hl,h2⟩]
    exact str_dr l 2 _ (by rw [str_size])
   obtain ⟨t,ht⟩:∃ t,t=str (l.take 2):=⟨_,rfl⟩
   have g3:t.toList=[42,46]:=by rw [ht,str_tl]; exact h2
   have g4:(t.toList == [42,46])=true:=by rw [g3]; rfl
   rw [← ht] at hp2
   rw [← hsl]
   clear h2 hl ht
   by_cases he:e=0
   ·by_cases hp:p < 0
    ·obtain rfl:p=-1:=by
      rcases hneg he with h1 | h1
      ·exact h1
      ·omega
     by_cases hh:(hostL (bareL l)).1=bareL l
     ·obtain rfl:h=sb:=by rw [hhv,hsb,hh]
      subst he
      rw [decide_eq_true hh]
      clear hev hpv hhv hsb hsl hh hneg
      go_enter Tryz.func111,Tryz.ntmps111
      go_wp2_with (go_at_call 139; refine (CH.out _).mono ?_; rintro e' w1 ⟨rfl,hx1⟩)
      go_ret
      exact ⟨ret_bool (by simp),hx1⟩
     ·have g1:¬ h.toList=sb.toList:=by rw [hhv,hsb,str_tl,str_tl]; exact hh
      have g2:(h.toList == sb.toList)=false:=beq_eq_false_iff_ne.2 g1
      subst he
      rw [decide_eq_false hh]
      clear hev hpv hhv hsb hsl hh hneg
      go_enter Tryz.func111,Tryz.ntmps111
      go_wp2_with (go_at_call 139; refine (CH.out _).mono ?_; rintro e' w1 ⟨rfl,hx1⟩)
      go_ret
      exact ⟨ret_bool (by simp),hx1⟩
    ·subst he
     have d2:(p == -1)=false:=by rw [beq_eq_false_iff_ne]; omega
     rw [decide_eq_false hp]
     clear hev hpv hhv hsb hsl hneg
     go_enter Tryz.func111,Tryz.ntmps111
     go_wp2_with (go_at_call 139; refine (CH.out _).mono ?_; rintro e' w1 ⟨rfl,hx1⟩)
     go_ret
     exact ⟨ret_bool (by simp),hx1⟩
   ·have g2:(e == 0)=false:=beq_eq_false_iff_ne.2 he
    rw [decide_eq_false he]
    clear hev hpv hhv hsb hsl hneg
    go_enter Tryz.func111,Tryz.ntmps111
    go_wp2_with (go_at_call 139; refine (CH.out _).mono ?_; rintro e' w1 ⟨rfl,hx1⟩)
    go_ret
    exact ⟨ret_bool (by simp),hx1⟩
  ·have hsbv:sb=s:=by
    rw [hsb,hsl]
    unfold bareL
    rw [if_neg (fun h=>h2 h.2)]
   obtain ⟨t,ht⟩:∃ t,t=str (l.take 2):=⟨_,rfl⟩
   have g3:¬ t.toList=[42,46]:=by rw [ht,str_tl]; exact h2
   have g4:(t.toList == [42,46])=false:=beq_eq_false_iff_ne.2 g3
   rw [← ht] at hp2
   rw [← hsl]
   subst hsbv
   clear h2 hl ht
   by_cases he:e=0
   ·by_cases hp:p < 0
    ·obtain rfl:p=-1:=by
      rcases hneg he with h1 | h1
      ·exact h1
      ·omega
     by_cases hh:(hostL (bareL l)).1=bareL l
     ·obtain rfl:h=sb:=by rw [hhv,hsb,hh]
      subst he
      rw [decide_eq_true hh]
      clear hev hpv hhv hsb hsl hh hneg
      go_enter Tryz.func111,Tryz.ntmps111
      go_wp2_with (go_at_call 139; refine (CH.out _).mono ?_; rintro e' w1 ⟨rfl,hx1⟩)
      go_ret
      exact ⟨ret_bool (by simp),hx1⟩
     ·have g1:¬ h.toList=sb.toList:=by rw [hhv,hsb,str_tl,str_tl]; exact hh
      have g2:(h.toList == sb.toList)=false:=beq_eq_false_iff_ne.2 g1
      subst he
      rw [decide_eq_false hh]
      clear hev hpv hhv hsb hsl hh hneg
      go_enter Tryz.func111,Tryz.ntmps111
      go_wp2_with (go_at_call 139; refine (CH.out _).mono ?_; rintro e' w1 ⟨rfl,hx1⟩)
      go_ret
      exact ⟨ret_bool (by simp),hx1⟩
    ·subst he
     have d2:(p == -1)=false:=by rw [beq_eq_false_iff_ne]; omega
     rw [decide_eq_false hp]
     clear hev hpv hhv hsb hsl hneg
     go_enter Tryz.func111,Tryz.ntmps111
     go_wp2_with (go_at_call 139; refine (CH.out _).mono ?_; rintro e' w1 ⟨rfl,hx1⟩)
     go_ret
     exact ⟨ret_bool (by simp),hx1⟩
   ·have g2:(e == 0)=false:=beq_eq_false_iff_ne.2 he
    rw [decide_eq_false he]
    clear hev hpv hhv hsb hsl hneg
    go_enter Tryz.func111,Tryz.ntmps111
    go_wp2_with (go_at_call 139; refine (CH.out _).mono ?_; rintro e' w1 ⟨rfl,hx1⟩)
    go_ret
    exact ⟨ret_bool (by simp),hx1⟩
 ·have hb:=bareL_short l hl
  rw [hb] at hsb
  have hsz2:decide ((2:Int) < (sb.size:Int))=false:=by rw [hsb,str_size]; exact decide_eq_false (by omega)
  rw [← hsb]
  rw [← hb] at hsb
  have hsl:True:=trivial
  clear hl hb
  by_cases he:e=0
  ·by_cases hp:p < 0
   ·obtain rfl:p=-1:=by
     rcases hneg he with h1 | h1
     ·exact h1
     ·omega
    by_cases hh:(hostL (bareL l)).1=bareL l
    ·obtain rfl:h=sb:=by rw [hhv,hsb,hh]
     subst he
     rw [decide_eq_true hh]
     clear hev hpv hhv hsb hsl hh hneg
     go_enter Tryz.func111,Tryz.ntmps111
     go_wp2_with (go_at_call 139; refine (CH.out _).mono ?_; rintro e' w1 ⟨rfl,hx1⟩)
     go_ret
     exact ⟨ret_bool (by simp),hx1⟩
    ·have g1:¬ h.toList=sb.toList:=by rw [hhv,hsb,str_tl,str_tl]; exact hh
     have g2:(h.toList == sb.toList)=false:=beq_eq_false_iff_ne.2 g1
     subst he
     rw [decide_eq_false hh]
     clear hev hpv hhv hsb hsl hh hneg
     go_enter Tryz.func111,Tryz.ntmps111
     go_wp2_with (go_at_call 139; refine (CH.out _).mono ?_; rintro e' w1 ⟨rfl,hx1⟩)
     go_ret
     exact ⟨ret_bool (by simp),hx1⟩
   ·subst he
    have d2:(p == -1)=false:=by rw [beq_eq_false_iff_ne]; omega
    rw [decide_eq_false hp]
    clear hev hpv hhv hsb hsl hneg
    go_enter Tryz.func111,Tryz.ntmps111
    go_wp2_with (go_at_call 139; refine (CH.out _).mono ?_; rintro e' w1 ⟨rfl,hx1⟩)
    go_ret
    exact ⟨ret_bool (by simp),hx1⟩
  ·have g2:(e == 0)=false:=beq_eq_false_iff_ne.2 he
   rw [decide_eq_false he]
   clear hev hpv hhv hsb hsl hneg
   go_enter Tryz.func111,Tryz.ntmps111
   go_wp2_with (go_at_call 139; refine (CH.out _).mono ?_; rintro e' w1 ⟨rfl,hx1⟩)
   go_ret
   exact ⟨ret_bool (by simp),hx1⟩
end Go.Proofs.YtmnohicojefhfaaGreatDoor
end
section
namespace Go.Proofs.YtmnohicojefhfaaGreatDoor
open Go.RowKit
theorem rToken_g (l:List UInt8) (hs:l.length ≤ maxLen) (w:World):Calls Tryz.prog 110 #[.string (str l)] w (Gives (.bool (tokC l)) w):=by
 have h:=rToken_c (str l) (by rw [str_size]; exact hs) w
 rw [str_data,str_size] at h
 have e:((l.all fun b=>tokB b.toNat) && decide (0 < l.length))=tokC l:=by
  unfold tokC
  cases l with
  | nil=>rfl
  | cons x r=>simp
 rw [e] at h
 exact h
theorem nodup_snoc {α β:Type} (f:α → β) (l:List α) (i:Nat) (hi:i < l.length) (h:((l.take i).map f).Nodup) (h2:∀ j (hj:j < l.length),j < i → f l[j] ≠ f l[i]):((l.take (i + 1)).map f).Nodup:=by
 rw [List.take_succ_eq_append_getElem hi,List.map_append,List.nodup_append]
 refine ⟨h,by simp,fun a ha b hb e=>?_⟩
 simp only [List.map_cons,List.map_nil,List.mem_singleton] at hb
 subst hb
 subst e
 obtain ⟨x,hx,he⟩:=List.mem_map.1 ha
 obtain ⟨j,hj,rfl⟩:=List.getElem_of_mem hx
 rw [List.length_take] at hj
 rw [List.getElem_take] at he
 exact h2 j (by omega) (by omega) he
theorem nodup_not {α β:Type} (f:α → β) (l:List α) (i j:Nat) (hi:i < l.length) (hj:j < i) (h:f (l[j]'(by omega))=f l[i]):¬ (l.map f).Nodup:=by
 intro hn
 rw [List.nodup_iff_pairwise_ne] at hn
 have:=(List.pairwise_iff_getElem.1 hn) j i (by rw [List.length_map]; omega) (by rw [List.length_map]; exact hi) hj
 simp only [List.getElem_map] at this
 exact this h
theorem all_not {α:Type} (P:α → Bool) (l:List α) (i:Nat) (hi:i < l.length) (h:P l[i]=false):l.all P=false:=by
 rw [List.all_eq_false]
 exact ⟨l[i],List.getElem_mem hi,by rw [h]; simp⟩
theorem all_snoc {α:Type} (P:α → Bool) (l:List α) (i:Nat) (hi:i < l.length) (h:(l.take i).all P=true) (h2:P l[i]=true):(l.take (i + 1)).all P=true:=by
 rw [List.take_succ_eq_append_getElem hi,List.all_append,h]
 simp [h2]
def AllN {α β:Type} (P:α → Bool) (f:α → β) (l:List α) (i:Nat):Prop:=(l.take i).all P=true∧((l.take i).map f).Nodup
def AllT {α:Type} (P:α → Bool) (l:List α) (i:Nat):Prop:=(l.take i).all P=true
def Dif {α β:Type} (f:α → β) (l:List α) (k:Nat) (y:β):Prop:=∀ j (hj:j < l.length),j < k → f l[j] ≠ y
theorem AllN.zero {α β:Type} (P:α → Bool) (f:α → β) (l:List α):AllN P f l 0:=⟨rfl,List.nodup_nil⟩
theorem Dif.zero {α β:Type} (f:α → β) (l:List α) (y:β):Dif f l 0 y:=fun _ _ h=>by omega
theorem Dif.succ {α β:Type} {f:α → β} {l:List α} {k:Nat} {y:β} (h:Dif f l k y) (hk:k < l.length) (h2:f l[k] ≠ y):Dif f l (k + 1) y:=fun j hj hjk=>by
 by_cases e:j=k
 ·subst e; exact h2
 ·exact h j hj (by omega)
theorem AllN.succ {α β:Type} {P:α → Bool} {f:α → β} {l:List α} {i:Nat} (h:AllN P f l i) (hi:i < l.length) (h1:P l[i]=true) (h2:Dif f l i (f l[i])):AllN P f l (i + 1):=⟨all_snoc P l i hi h.1 h1,nodup_snoc f l i hi h.2 fun j hj hji=>h2 j hj hji⟩
theorem AllN.all {α β:Type} {P:α → Bool} {f:α → β} {l:List α} {i:Nat} (h:AllN P f l i) (hi:l.length ≤ i):l.all P=true∧(l.map f).Nodup:=by
 have:=h
 unfold AllN at this
 rwa [List.take_of_length_le hi] at this
theorem AllT.succ {α:Type} {P:α → Bool} {l:List α} {i:Nat} (h:AllT P l i) (hi:i < l.length) (h1:P l[i]=true):AllT P l (i + 1):=all_snoc P l i hi h h1
theorem AllT.all {α:Type} {P:α → Bool} {l:List α} {i:Nat} (h:AllT P l i) (hi:l.length ≤ i):l.all P=true:=by
 have:=h
 unfold AllT at this
 rwa [List.take_of_length_le hi] at this
theorem rupstream_c (u:Up14) (B:Option Addr) (d:Nat) (w:World) (hn:u.name.length ≤ 140737488355328) (hl:u.peers.length ≤ 1099511627776) (hrd:Rd w B (u.peers.flatMap peV)) :
  Calls Tryz.prog 67 #[.agg #[.string (str u.name),.slice B u.peers.length d,.int .i64 u.timeout,.int .i64 u.retries]] w (Gives (.bool (upC u)) w):=by
 have CT:=Lib.hid (fun w=>rToken_g u.name (by unfold maxLen; omega) w)
 have HP:=Lib.hid (show upC u=(tokC u.name && inB u.peers.length 1 16 && inB u.timeout 1 3600 && inB u.retries 0 8 && u.peers.all peC && decide ((u.peers.map (·.id)).Nodup)) from rfl)
 have HRD:=Lib.hid (fun w' (hx:Ext w w')=>hrd.ext hx)
 obtain ⟨b1,h1⟩:∃ b,b=tokC u.name:=⟨_,rfl⟩
 obtain ⟨s,hs⟩:∃ s,s=str u.name:=⟨_,rfl⟩
 rw [← hs,← h1] at CT
 rw [← h1] at HP
 rw [← hs]
 clear h1 hs hrd hn
 have z0:=fun j v=>new_at w #[.string s,.slice B u.peers.length d,.int .i64 u.timeout,.int .i64 u.retries] 84 j v
 obtain ⟨W1,hW1⟩:∃ W,W=w.alloc (.cells #[.string s,.slice B u.peers.length d,.int .i64 u.timeout,.int .i64 u.retries] 84):=⟨_,rfl⟩
 have hx1:Ext w W1:=by rw [hW1]; exact (Ext.rfl' _).al _
 obtain ⟨g,hg⟩:∃ g,g=w.heap.size:=⟨_,rfl⟩
 rw [← hW1,← hg] at z0
 have ZX:=Lib.hid (fun wx (hx:Ext W1 wx) j v h=>(hx.cell (lt_of_cell (z0 j v h))).trans (z0 j v h))
 have p0:=z0 0 _ rfl
 have p1:=z0 1 _ rfl
 have p2:=z0 2 _ rfl
 have p3:=z0 3 _ rfl
 clear z0
 go_enter Tryz.func67,Tryz.ntmps67
 go_upto_region 1 with (fail)
 rw [← hW1,← hg]
 clear hW1 hg
 have hxw:=hx1
 cases b1 with
 | false =>
  go_wp2_with (first
   | (go_at_call 110; refine (CT.out _).mono ?_; rintro e' w1 ⟨rfl,hx2⟩; have k1:=ZX.out _ hx2 1 _ rfl; have k2:=ZX.out _ hx2 2 _ rfl; have k3:=ZX.out _ hx2 3 _ rfl)
   | (go_at_call 66; refine (rinB_c _ _ _ _).mono ?_; rintro e' w2 ⟨rfl,rfl⟩))
  go_ret
  exact ⟨ret_bool (by rw [HP.out]; simp [*]),by (repeat first | exact Ex0 | assumption | refine Ex1 ?_ | refine Ex2 ?_ | refine Ex3 ?_ | refine Ex4 ?_ | refine Ex5 ?_)⟩
 | true =>
 cases h2:inB u.peers.length 1 16 with
 | false =>
  go_wp2_with (first
   | (go_at_call 110; refine (CT.out _).mono ?_; rintro e' w1 ⟨rfl,hx2⟩; have k1:=ZX.out _ hx2 1 _ rfl; have k2:=ZX.out _ hx2 2 _ rfl; have k3:=ZX.out _ hx2 3 _ rfl)
   | (go_at_call 66; refine (rinB_c _ _ _ _).mono ?_; rintro e' w2 ⟨rfl,rfl⟩))
  go_ret
  exact ⟨ret_bool (by rw [HP.out]; simp [*]),by (repeat first | exact Ex0 | assumption | refine Ex1 ?_ | refine Ex2 ?_ | refine Ex3 ?_ | refine Ex4 ?_ | refine Ex5 ?_)⟩
 | true =>
 cases h3:inB u.timeout 1 3600 with
 | false =>
  go_wp2_with (first
   | (go_at_call 110; refine (CT.out _).mono ?_; rintro e' w1 ⟨rfl,hx2⟩; have k1:=ZX.out _ hx2 1 _ rfl; have k2:=ZX.out _ hx2 2 _ rfl; have k3:=ZX.out _ hx2 3 _ rfl)
   | (go_at_call 66; refine (rinB_c _ _ _ _).mono ?_; rintro e' w2 ⟨rfl,rfl⟩))
  go_ret
  exact ⟨ret_bool (by rw [HP.out]; simp [*]),by (repeat first | exact Ex0 | assumption | refine Ex1 ?_ | refine Ex2 ?_ | refine Ex3 ?_ | refine Ex4 ?_ | refine Ex5 ?_)⟩
 | true =>
 cases h4:inB u.retries 0 8 with
 | false =>
  go_wp2_with (first
   | (go_at_call 110; refine (CT.out _).mono ?_; rintro e' w1 ⟨rfl,hx2⟩; have k1:=ZX.out _ hx2 1 _ rfl; have k2:=ZX.out _ hx2 2 _ rfl; have k3:=ZX.out _ hx2 3 _ rfl)
   | (go_at_call 66; refine (rinB_c _ _ _ _).mono ?_; rintro e' w2 ⟨rfl,rfl⟩))
  go_ret
  exact ⟨ret_bool (by rw [HP.out]; simp [*]),by (repeat first | exact Ex0 | assumption | refine Ex1 ?_ | refine Ex2 ?_ | refine Ex3 ?_ | refine Ex4 ?_ | refine Ex5 ?_)⟩
 | true =>
 go_upto_region 3 with (first
  | (go_at_call 110; refine (CT.out _).mono ?_; rintro e' w1 ⟨rfl,hx2⟩; have k1:=ZX.out _ hx2 1 _ rfl; have k2:=ZX.out _ hx2 2 _ rfl; have k3:=ZX.out _ hx2 3 _ rfl)
  | (go_at_call 66; refine (rinB_c _ _ _ _).mono ?_; rintro e' w2 ⟨rfl,rfl⟩))
 clear p0 p1 p2 p3 k1 k2 k3 CT
 have HP:Hid (upC u=(u.peers.all peC && decide ((u.peers.map (·.id)).Nodup))):=Lib.hid (by rw [HP.out,h2,h3,h4]; rfl)
 clear h2 h3 h4
 go_wp2
 go_loopw [3] (fun v3 wr=>∃ i:Nat,v3=.int .i64 (i:Int)∧i ≤ u.peers.length∧Hid (AllN peC (fun p:Pe14=>p.id) u.peers i)∧Ext W1 wr) (fun v3 _=>u.peers.length - (intOf v3).toNat)
 case atStart=>exact ⟨0,rfl,Nat.zero_le _,Lib.hid (AllN.zero _ _ _),hx2⟩
 case round =>
  clear hx2
  obtain ⟨i,rfl,hi,HA,hxr⟩:=hrel
  have q1:=ZX.out _ hxr 1 _ rfl
  by_cases hlt:i < u.peers.length
  ·obtain ⟨bp,gp,hB,_,hc⟩:=(HRD.out _ (hx1.tr hxr)).row (sz:=2) (fun _=>rfl) (by omega) hlt
   have m0:wr.cell? ⟨bp,gp + i * 2,none⟩=some (.int .i64 u.peers[i].id):=hc 0 _ rfl
   have m1:wr.cell? ⟨bp,gp + i * 2 + 1,none⟩=some (.int .i64 u.peers[i].most):=hc 1 _ rfl
   have i0:(0:Int) ≤ (i:Int):=by omega
   have i1:(i:Int) < (u.peers.length:Int):=by omega
   have hkk:IntKind.i64.wrap ((i:Int) + 1)=((i + 1:Nat):Int):=by rw [IntKind.wrap_i64]; omega
   have HM0:=Lib.hid (fun w' (e:Ext wr w')=>(e.cell (lt_of_cell m0)).trans m0)
   have HPE:Hid (peC u.peers[i]=(inB u.peers[i].id 0 999 && inB u.peers[i].most 1 64)):=Lib.hid rfl
   have HAS:=Lib.hid (fun h h2=>HA.out.succ hlt h h2)
   have HAN:=Lib.hid (fun h=>all_not peC u.peers i hlt h)
   have HNN:=Lib.hid (fun j hj h=>nodup_not (fun p:Pe14=>p.id) u.peers i j hlt hj h)
   try dsimp only at HNN
   rw [hB] at q1
   have HQ1:=Lib.hid (fun w' (e:Ext wr w')=>(e.cell (lt_of_cell q1)).trans q1)
   obtain ⟨yi,hyi⟩:∃ y,y=u.peers[i].id:=⟨_,rfl⟩
   obtain ⟨ym,hym⟩:∃ y,y=u.peers[i].most:=⟨_,rfl⟩
   rw [← hyi] at m0 HM0 HNN HAS
   rw [← hym] at m1
   rw [← hyi,← hym] at HPE
   clear hc hyi hym
   cases h5:inB yi 0 999 with
   | false =>
    have HF:=HAN.out (by rw [HPE.out,h5]; rfl)
    clear HAS HAN HNN
    go_wp2_with (go_at_call 66; refine (rinB_c _ _ _ _).mono ?_; rintro e' w2 ⟨rfl,rfl⟩)
    go_ret
    exact ⟨ret_bool (by rw [HP.out,HF]; rfl),hx1.tr hxr⟩
   | true =>
   cases h6:inB ym 1 64 with
   | false =>
    have HF:=Lib.hid (HAN.out (by rw [HPE.out,h5,h6]; rfl))
    clear HAS HAN HNN
    go_wp2_with (go_at_call 66; refine (rinB_c _ _ _ _).mono ?_; rintro e' w2 ⟨rfl,rfl⟩)
    go_ret
    exact ⟨ret_bool (by rw [HP.out,HF.out]; rfl),hx1.tr hxr⟩
   | true =>
   have HAS:=Lib.hid (HAS.out (by rw [HPE.out,h5,h6]; rfl))
   go_upto_region 8 with (go_at_call 66; refine (rinB_c _ _ _ _).mono ?_; rintro e' w2 ⟨rfl,rfl⟩)
   clear h5 h6 m0 m1 q1 HAN HPE
   go_wp2
   obtain ⟨wi,hwi⟩:∃ x,x=w2:=⟨_,rfl⟩
   rw [← hwi] at hxr HM0 HQ1 ⊢
   have hxs:Ext wi wi:=Ext.rfl' _
   clear hwi
   go_loopw [4] (fun v4 wx=>∃ k:Nat,v4=.int .i64 (k:Int)∧k ≤ i∧Hid (Dif (fun p:Pe14=>p.id) u.peers k yi)∧Ext wi wx) (fun v4 _=>i - (intOf v4).toNat)
   case atStart=>exact ⟨0,rfl,Nat.zero_le _,Lib.hid (Dif.zero _ _ _),hxs⟩
   case round =>
    clear hxs
    obtain ⟨k,rfl,hk,HD,hxk⟩:=hrel
    have hxq:=hxr.tr hxk
    by_cases hkt:k < i
    ·have hkl:k < u.peers.length:=by omega
     obtain ⟨bp2,gp2,hB2,_,hc⟩:=(HRD.out _ (hx1.tr hxq)).row (sz:=2) (fun _=>rfl) (by omega) hkl
     rw [hB] at hB2
     cases hB2
     have n0:wr.cell? ⟨bp,gp + k * 2,none⟩=some (.int .i64 u.peers[k].id):=hc 0 _ rfl
     have m0:=HM0.out _ hxk
     have q1:=HQ1.out _ hxk
     have k0:(0:Int) ≤ (k:Int):=by omega
     have k1:(k:Int) < (u.peers.length:Int):=by omega
     have k2:(k:Int) < (i:Int):=by omega
     have hkj:IntKind.i64.wrap ((k:Int) + 1)=((k + 1:Nat):Int):=by rw [IntKind.wrap_i64]; omega
     have HDS:Hid (u.peers[k].id ≠ yi → Dif (fun p:Pe14=>p.id) u.peers (k + 1) yi):=Lib.hid (fun h=>HD.out.succ hkl h)
     have HNK:=Lib.hid (HNN.out k hkt)
     obtain ⟨yk,hyk⟩:∃ y,y=u.peers[k].id:=⟨_,rfl⟩
     rw [← hyk] at n0 HDS HNK
     clear hc hyk
     have hks:Hid (∀ w',Ext wr w' → w'.cell? ⟨g,1,none⟩=some (.slice (some ⟨bp,gp,none⟩) u.peers.length d)∧w'.cell? ⟨bp,gp + k * 2,none⟩=some (.int .i64 yk)∧w'.cell? ⟨bp,gp + i * 2,none⟩=some (.int .i64 yi)):=Lib.hid (fun w' e=>⟨(e.cell (lt_of_cell q1)).trans q1,(e.cell (lt_of_cell n0)).trans n0,(e.cell (lt_of_cell m0)).trans m0⟩)
     go_upto_region 11 with (fail)
     go_region_held3 (fun w'=>w'.cell? ⟨g,1,none⟩=some (.slice (some ⟨bp,gp,none⟩) u.peers.length d)∧w'.cell? ⟨bp,gp + k * 2,none⟩=some (.int .i64 yk)∧w'.cell? ⟨bp,gp + i * 2,none⟩=some (.int .i64 yi)) (exact hks.out _ (by (repeat first | exact Ex0 | assumption | refine Ex1 ?_ | refine Ex2 ?_ | refine Ex3 ?_ | refine Ex4 ?_ | refine Ex5 ?_))) (fail)
     clear hks n0 m0 q1
     by_cases he:yk=yi
     ·have HF:=Lib.hid (HNK.out he)
      subst he
      go_wp2
      go_ret
      exact ⟨ret_bool (by rw [HP.out,decide_eq_false HF.out]; simp),hx1.tr (by (repeat first | exact Ex0 | assumption | refine Ex1 ?_ | refine Ex2 ?_ | refine Ex3 ?_ | refine Ex4 ?_ | refine Ex5 ?_))⟩
     ·have hef:(yk == yi)=false:=beq_eq_false_iff_ne.2 he
      have HDT:=Lib.hid (HDS.out he)
      go_wp2
      go_roundw
      case rel=>exact ⟨k + 1,by simp,by omega,HDT,by (repeat first | exact Ex0 | assumption | refine Ex1 ?_ | refine Ex2 ?_ | refine Ex3 ?_ | refine Ex4 ?_ | refine Ex5 ?_)⟩
      case measure=>simp [intOf]; omega
    ·have k2:¬ (k:Int) < (i:Int):=by omega
     have hki:k=i:=by omega
     subst hki
     have HND:=Lib.hid (HAS.out HD.out)
     go_wp2
     go_roundw
     case rel=>first | exact ⟨k + 1,by simp,by omega,HND,hxq⟩ | exact ⟨k + 1,by simp,by omega,HND⟩
     case measure=>simp [intOf]; omega
  ·have i1:¬ (i:Int) < (u.peers.length:Int):=by omega
   have HZ:=Lib.hid (HA.out.all (by omega))
   go_wp2
   go_ret
   exact ⟨ret_bool (by rw [HP.out,HZ.out.1,decide_eq_true HZ.out.2]; rfl),hx1.tr hxr⟩
end Go.Proofs.YtmnohicojefhfaaGreatDoor
end
