/-
internal/strconv.ParseUint at a row of digits, to the bases 10 and 16, at 63 bits.
-/
import Derived.Test.YthbofilcnpdghaaGreatDoorZae
import Derived.Test.YthbofilcnpdghaaGreatDoorShelfPu
import Derived.Test.YthbofilcnpdghaaGreatDoorZaf
import Derived.Test.YthbofilcnpdghaaGreatDoorProg
import Derived.Test.YthbofilcnpdghaaGreatDoorZab
import Derived.Test.YthbofilcnpdghaaGreatDoorShelf
import Derived.Test.YthbofilcnpdghaaGreatDoorZad
set_option maxRecDepth 100000
set_option maxHeartbeats 8000000
set_option linter.unusedVariables false
set_option linter.unusedSimpArgs false
section
namespace Go.Proofs.YthbofilcnpdghaaGreatDoor
open Go.RowKit
theorem iParseUint10_c (l:List UInt8) (hne:0 < l.length) (hs:l.length ≤ 140737488355328) (hd:∀ b ∈ l,isDig 10 b=true) (w:World) :
  Calls Tryz.prog 141 #[.string (str l),.int .i64 10,.int .i64 63] w (Gives (puV 195 (valL 10 l)) w):=by
 have kc:=cv_run (P:=Tryz.prog) (src:=9) (dst:=22) (e:=5) (str l) Tryz.underlying9 Tryz.underlying22 Tryz.underlying5 w
 have hemp:l.isEmpty=false:=by cases l with | nil=>simp at hne | cons _ _=>rfl
 have ho:=cv_own w 5 l
 have hx:=cv_ext w 5 (str l)
 obtain ⟨hc1,hc2⟩:=cv_cap w 5 l.length (by unfold maxLen; omega)
 rw [str_size] at kc
 generalize cvW w 5 (str l)=w1 at *
 generalize cvC w 5 l.length=cc at *
 have HO:=Lib.hid ho
 have HD:=Lib.hid hd
 clear ho hd
 have hmv:IntKind.u64.wrap (IntKind.u64.wrap 9223372036854775808 - 1)=9223372036854775807:=by
  rw [IntKind.wrap_u64,IntKind.wrap_u64]
  decide
 go_enter Tryz.func141,Tryz.ntmps141
 go_wp2
 go_loop [12,13,101] (fun vu vn vi=>∃ (k acc:Nat) (a:Int),vu=.bool false∧vn=.int .u64 a∧vi=.int .i64 k∧k ≤ l.length∧Hid (a=(acc:Int)∧acc < 9223372036854775808∧valL 10 l=valF 10 acc (l.drop k)))
  (fun _ _ vi=>l.length - (intOf vi).toNat)
 case atStart=>exact ⟨0,0,0,rfl,rfl,rfl,by omega,rfl,by omega,rfl⟩
 case round =>
  obtain ⟨k,acc,a,rfl,rfl,rfl,hk,hh⟩:=hrel
  obtain ⟨ha,hacc,hval⟩:=hh.out
  clear hh
  have a0:0 ≤ a:=by omega
  have a1:a < 9223372036854775808:=by omega
  by_cases hkn:k < l.length
  ·have hc:=HO.out.cell k hkn
   have hdig:=HD.out l[k] (List.getElem_mem hkn)
   rw [List.drop_eq_getElem_cons hkn,valF_cons] at hval
   generalize l[k]=c at *
   have hc256:c.toNat < 256:=c.toNat_lt
   simp only [isDig,Bool.and_eq_true,Bool.or_eq_true,decide_eq_true_eq] at hdig
   obtain ⟨hdig,hdB⟩:=hdig
   rcases hdig with ⟨d0,d1⟩ | ⟨d0,d1⟩
   ·have HDV:Hid (digV c=c.toNat - 48):=Lib.hid (by unfold digV; rw [if_pos d1])
    rw [HDV.out] at hdB
    ·by_cases hcut:1844674407370955162 ≤ acc
     ·have icut:(1844674407370955162:Int) ≤ a:=by omega
      have hge:9223372036854775808 ≤ valL 10 l:=by rw [hval]; exact Nat.le_trans (by omega) (valF_ge 10 (by omega) _ _)
      rw [puV_ge hge]
      clear hcut hacc ha hval hge
      go_wp2
      go_ret2
      exact ⟨rfl,hx⟩
     ·have hdv:((((c.toNat:Int) - 48):Int))=(digV c:Int):=by rw [HDV.out]; omega
      have hd0:(0:Int) ≤ (((c.toNat:Int) - 48):Int):=by omega
      have hd1:(((c.toNat:Int) - 48):Int) < 10:=by omega
      by_cases hov:18446744073709551616 ≤ a * 10 + ((c.toNat:Int) - 48)
      ·have icut:a < 1844674407370955162:=by omega
       have hwr:IntKind.u64.wrap (a * 10 + ((c.toNat:Int) - 48))=a * 10 + ((c.toNat:Int) - 48) - 18446744073709551616:=by
        rw [IntKind.wrap_u64]; omega
       have hge:9223372036854775808 ≤ valL 10 l:=by rw [hval]; exact Nat.le_trans (by omega) (valF_ge 10 (by omega) _ _)
       rw [puV_ge hge]
       clear hcut hacc hval hge ha hdv
       go_wp2
       all_goals go_ret2
       all_goals exact ⟨rfl,hx⟩
      ·by_cases hbig:9223372036854775808 ≤ a * 10 + ((c.toNat:Int) - 48)
       ·have icut:a < 1844674407370955162:=by omega
        have hge:9223372036854775808 ≤ valL 10 l:=by rw [hval]; exact Nat.le_trans (by omega) (valF_ge 10 (by omega) _ _)
        rw [puV_ge hge]
        clear hcut hacc hval hge ha hdv
        go_wp2
        go_ret2
        exact ⟨rfl,hx⟩
       ·have HN:Hid (a * 10 + ((c.toNat:Int) - 48)=((acc * 10 + digV c:Nat):Int)∧acc * 10 + digV c < 9223372036854775808∧valL 10 l=valF 10 (acc * 10 + digV c) (l.drop (k + 1))):=Lib.hid ⟨by push_cast; rw [← hdv,ha],by omega,hval⟩
        have icut:a < 1844674407370955162:=by omega
        clear hcut hacc hval ha hdv
        go_wp2
        refine ⟨⟨k + 1,acc * 10 + digV c,a * 10 + ((c.toNat:Int) - 48),rfl,(by first | rfl | (congr 1; omega)),(by first | rfl | (congr 1; omega)),by omega,HN⟩,by simp [intOf]; omega⟩
   ·have HDV:Hid (digV c=c.toNat - 87):=Lib.hid (by unfold digV; rw [if_neg (by omega)])
    rw [HDV.out] at hdB
    exfalso; omega
  ·obtain rfl:k=l.length:=by omega
   rw [List.drop_of_length_le (Nat.le_refl _)] at hval
   have hv:valL 10 l=acc:=hval
   have hr:puV 195 (valL 10 l)=.tuple #[.int .u64 a,.nilIface]:=by rw [hv,puV_lt hacc,ha]
   have HR:=Lib.hid hr
   clear hacc hv hval ha hr
   go_wp2
   go_ret2
   exact ⟨by rw [HR.out]; rfl,hx⟩
theorem iParseUint16_c (l:List UInt8) (hne:0 < l.length) (hs:l.length ≤ 140737488355328) (hd:∀ b ∈ l,isDig 16 b=true) (w:World) :
  Calls Tryz.prog 141 #[.string (str l),.int .i64 16,.int .i64 63] w (Gives (puV 195 (valL 16 l)) w):=by
 have kc:=cv_run (P:=Tryz.prog) (src:=9) (dst:=22) (e:=5) (str l) Tryz.underlying9 Tryz.underlying22 Tryz.underlying5 w
 have hemp:l.isEmpty=false:=by cases l with | nil=>simp at hne | cons _ _=>rfl
 have ho:=cv_own w 5 l
 have hx:=cv_ext w 5 (str l)
 obtain ⟨hc1,hc2⟩:=cv_cap w 5 l.length (by unfold maxLen; omega)
 rw [str_size] at kc
 generalize cvW w 5 (str l)=w1 at *
 generalize cvC w 5 l.length=cc at *
 have HO:=Lib.hid ho
 have HD:=Lib.hid hd
 clear ho hd
 have hmv:IntKind.u64.wrap (IntKind.u64.wrap 9223372036854775808 - 1)=9223372036854775807:=by
  rw [IntKind.wrap_u64,IntKind.wrap_u64]
  decide
 go_enter Tryz.func141,Tryz.ntmps141
 go_wp2
 go_loop [12,13,101] (fun vu vn vi=>∃ (k acc:Nat) (a:Int),vu=.bool false∧vn=.int .u64 a∧vi=.int .i64 k∧k ≤ l.length∧Hid (a=(acc:Int)∧acc < 9223372036854775808∧valL 16 l=valF 16 acc (l.drop k)))
  (fun _ _ vi=>l.length - (intOf vi).toNat)
 case atStart=>exact ⟨0,0,0,rfl,rfl,rfl,by omega,rfl,by omega,rfl⟩
 case round =>
  obtain ⟨k,acc,a,rfl,rfl,rfl,hk,hh⟩:=hrel
  obtain ⟨ha,hacc,hval⟩:=hh.out
  clear hh
  have a0:0 ≤ a:=by omega
  have a1:a < 9223372036854775808:=by omega
  by_cases hkn:k < l.length
  ·have hc:=HO.out.cell k hkn
   have hdig:=HD.out l[k] (List.getElem_mem hkn)
   rw [List.drop_eq_getElem_cons hkn,valF_cons] at hval
   generalize l[k]=c at *
   have hc256:c.toNat < 256:=c.toNat_lt
   simp only [isDig,Bool.and_eq_true,Bool.or_eq_true,decide_eq_true_eq] at hdig
   obtain ⟨hdig,hdB⟩:=hdig
   rcases hdig with ⟨d0,d1⟩ | ⟨d0,d1⟩
   ·have HDV:Hid (digV c=c.toNat - 48):=Lib.hid (by unfold digV; rw [if_pos d1])
    rw [HDV.out] at hdB
    ·by_cases hcut:1152921504606846976 ≤ acc
     ·have icut:(1152921504606846976:Int) ≤ a:=by omega
      have hge:9223372036854775808 ≤ valL 16 l:=by rw [hval]; exact Nat.le_trans (by omega) (valF_ge 16 (by omega) _ _)
      rw [puV_ge hge]
      clear hcut hacc ha hval hge
      go_wp2
      go_ret2
      exact ⟨rfl,hx⟩
     ·have hdv:((((c.toNat:Int) - 48):Int))=(digV c:Int):=by rw [HDV.out]; omega
      have hd0:(0:Int) ≤ (((c.toNat:Int) - 48):Int):=by omega
      have hd1:(((c.toNat:Int) - 48):Int) < 16:=by omega
      by_cases hov:18446744073709551616 ≤ a * 16 + ((c.toNat:Int) - 48)
      ·have icut:a < 1152921504606846976:=by omega
       have hwr:IntKind.u64.wrap (a * 16 + ((c.toNat:Int) - 48))=a * 16 + ((c.toNat:Int) - 48) - 18446744073709551616:=by
        rw [IntKind.wrap_u64]; omega
       have hge:9223372036854775808 ≤ valL 16 l:=by rw [hval]; exact Nat.le_trans (by omega) (valF_ge 16 (by omega) _ _)
       rw [puV_ge hge]
       clear hcut hacc hval hge ha hdv
       go_wp2
       all_goals go_ret2
       all_goals exact ⟨rfl,hx⟩
      ·by_cases hbig:9223372036854775808 ≤ a * 16 + ((c.toNat:Int) - 48)
       ·have icut:a < 1152921504606846976:=by omega
        have hge:9223372036854775808 ≤ valL 16 l:=by rw [hval]; exact Nat.le_trans (by omega) (valF_ge 16 (by omega) _ _)
        rw [puV_ge hge]
        clear hcut hacc hval hge ha hdv
        go_wp2
        go_ret2
        exact ⟨rfl,hx⟩
       ·have HN:Hid (a * 16 + ((c.toNat:Int) - 48)=((acc * 16 + digV c:Nat):Int)∧acc * 16 + digV c < 9223372036854775808∧valL 16 l=valF 16 (acc * 16 + digV c) (l.drop (k + 1))):=Lib.hid ⟨by push_cast; rw [← hdv,ha],by omega,hval⟩
        have icut:a < 1152921504606846976:=by omega
        clear hcut hacc hval ha hdv
        go_wp2
        refine ⟨⟨k + 1,acc * 16 + digV c,a * 16 + ((c.toNat:Int) - 48),rfl,(by first | rfl | (congr 1; omega)),(by first | rfl | (congr 1; omega)),by omega,HN⟩,by simp [intOf]; omega⟩
   ·have HDV:Hid (digV c=c.toNat - 87):=Lib.hid (by unfold digV; rw [if_neg (by omega)])
    rw [HDV.out] at hdB
    have hor:=or32 c.toNat hc256 d0 d1
    ·by_cases hcut:1152921504606846976 ≤ acc
     ·have icut:(1152921504606846976:Int) ≤ a:=by omega
      have hge:9223372036854775808 ≤ valL 16 l:=by rw [hval]; exact Nat.le_trans (by omega) (valF_ge 16 (by omega) _ _)
      rw [puV_ge hge]
      clear hcut hacc ha hval hge
      go_wp2_with (go_at_call 156; refine (pulow_c _ _).mono ?_; rintro e w2 ⟨rfl,rfl⟩; rw [hor])
      go_ret2
      exact ⟨rfl,hx⟩
     ·have hdv:((((c.toNat:Int) - 87):Int))=(digV c:Int):=by rw [HDV.out]; omega
      have hd0:(0:Int) ≤ (((c.toNat:Int) - 87):Int):=by omega
      have hd1:(((c.toNat:Int) - 87):Int) < 16:=by omega
      by_cases hov:18446744073709551616 ≤ a * 16 + ((c.toNat:Int) - 87)
      ·have icut:a < 1152921504606846976:=by omega
       have hwr:IntKind.u64.wrap (a * 16 + ((c.toNat:Int) - 87))=a * 16 + ((c.toNat:Int) - 87) - 18446744073709551616:=by
        rw [IntKind.wrap_u64]; omega
       have hge:9223372036854775808 ≤ valL 16 l:=by rw [hval]; exact Nat.le_trans (by omega) (valF_ge 16 (by omega) _ _)
       rw [puV_ge hge]
       clear hcut hacc hval hge ha hdv
       go_wp2_with (go_at_call 156; refine (pulow_c _ _).mono ?_; rintro e w2 ⟨rfl,rfl⟩; rw [hor])
       all_goals go_ret2
       all_goals exact ⟨rfl,hx⟩
      ·by_cases hbig:9223372036854775808 ≤ a * 16 + ((c.toNat:Int) - 87)
       ·have icut:a < 1152921504606846976:=by omega
        have hge:9223372036854775808 ≤ valL 16 l:=by rw [hval]; exact Nat.le_trans (by omega) (valF_ge 16 (by omega) _ _)
        rw [puV_ge hge]
        clear hcut hacc hval hge ha hdv
        go_wp2_with (go_at_call 156; refine (pulow_c _ _).mono ?_; rintro e w2 ⟨rfl,rfl⟩; rw [hor])
        go_ret2
        exact ⟨rfl,hx⟩
       ·have HN:Hid (a * 16 + ((c.toNat:Int) - 87)=((acc * 16 + digV c:Nat):Int)∧acc * 16 + digV c < 9223372036854775808∧valL 16 l=valF 16 (acc * 16 + digV c) (l.drop (k + 1))):=Lib.hid ⟨by push_cast; rw [← hdv,ha],by omega,hval⟩
        have icut:a < 1152921504606846976:=by omega
        clear hcut hacc hval ha hdv
        go_wp2_with (go_at_call 156; refine (pulow_c _ _).mono ?_; rintro e w2 ⟨rfl,rfl⟩; rw [hor])
        refine ⟨⟨k + 1,acc * 16 + digV c,a * 16 + ((c.toNat:Int) - 87),rfl,(by first | rfl | (congr 1; omega)),(by first | rfl | (congr 1; omega)),by omega,HN⟩,by simp [intOf]; omega⟩
  ·obtain rfl:k=l.length:=by omega
   rw [List.drop_of_length_le (Nat.le_refl _)] at hval
   have hv:valL 16 l=acc:=hval
   have hr:puV 195 (valL 16 l)=.tuple #[.int .u64 a,.nilIface]:=by rw [hv,puV_lt hacc,ha]
   have HR:=Lib.hid hr
   clear hacc hv hval ha hr
   go_wp2
   go_ret2
   exact ⟨by rw [HR.out]; rfl,hx⟩
end Go.Proofs.YthbofilcnpdghaaGreatDoor
end
section
namespace Go.Proofs.YthbofilcnpdghaaGreatDoor
open Go.RowKit
def ErrR (w:World):Prop:=∃ te pe,w.cell? ⟨7,0,none⟩=some (.iface te pe)
theorem ErrR.ext {w w':World} (h:ErrR w) (x:Ext w w'):ErrR w':=by
 obtain ⟨te,pe,hc⟩:=h
 exact ⟨te,pe,(x.cell (lt_of_cell hc)).trans hc⟩
theorem toErr_c (fn s:ByteArray) (base bits:Int) (w:World) (hlim:s.size ≤ 281474976710656) (h:ErrR w) :
  Calls Tryz.prog 142 #[.string fn,.string s,.int .i64 base,.int .i64 bits,.iface 195 (.int .i64 1)] w fun e w'=>∃ N,e=.returned (.iface 197 (.pointer (some ⟨N,0,none⟩)))∧Ext w w':=by
 obtain ⟨te,pe,hc⟩:=h
 have hn:Go.Proofs.LaysPu.n17 Tryz.prog Tryz.laysPu14_ren:={ Tryz.laysPu14 with }
 have:=AnyPu.strconv_toError_range (P:=Tryz.prog) (ρ:=Tryz.laysPu14_ren) hn fn s base bits (.iface te pe) w hlim hc (.inr ⟨te,pe,rfl⟩)
 refine Calls.mono this ?_
 rintro e w' ⟨N,rfl,h1,h2,h3⟩
 exact ⟨N,rfl,h3⟩
def IsErr2 (v:Value) (_:World):Prop:=∃ N,v=.tuple #[.int .u64 9223372036854775807,.iface 197 (.pointer (some ⟨N,0,none⟩))]
theorem ParseUint10_ok (l:List UInt8) (hne:0 < l.length) (hs:l.length ≤ 140737488355328) (hd:∀ b ∈ l,isDig 10 b=true) (n:Nat) (hn:n=valL 10 l) (hlt:n < 9223372036854775808) (w:World) :
  Calls Tryz.prog 110 #[.string (str l),.int .i64 10,.int .i64 63] w (Gives (.tuple #[.int .u64 (n:Int),.nilIface]) w):=by
 have C:=iParseUint10_c l hne hs hd
 rw [← hn,puV_lt hlt] at C
 have C:=Lib.hid C
 clear hd hn hlt
 go_enter Tryz.func110,Tryz.ntmps110
 go_wp2_with (go_at_call 141; refine (C.out _).mono ?_; rintro e w1 ⟨rfl,hx⟩)
 go_ret2
 exact ⟨rfl,hx⟩
theorem ParseUint10_range (l:List UInt8) (hne:0 < l.length) (hs:l.length ≤ 140737488355328) (hd:∀ b ∈ l,isDig 10 b=true) (hge:9223372036854775808 ≤ valL 10 l) (w:World) (hE:ErrR w) :
  Calls Tryz.prog 110 #[.string (str l),.int .i64 10,.int .i64 63] w (Ret IsErr2 w):=by
 have C:=iParseUint10_c l hne hs hd
 rw [puV_ge hge] at C
 have C:=Lib.hid C
 clear hd hge
 go_enter Tryz.func110,Tryz.ntmps110
 go_wp2_with (first
  | (go_at_call 141; refine (C.out _).mono ?_; rintro e w1 ⟨rfl,hx⟩)
  | (go_at_call 142; refine (toErr_c _ _ _ _ _ (by rw [str_size]; omega) (hE.ext hx)).mono ?_; rintro e w2 ⟨N,rfl,hx2⟩))
 go_ret2
 exact Ret.is rfl ⟨N,rfl⟩ (by (repeat first | exact Ex0 | assumption | refine Ex1 ?_ | refine Ex2 ?_ | refine Ex3 ?_ | refine Ex4 ?_ | refine Ex5 ?_))
theorem ParseUint16_ok (l:List UInt8) (hne:0 < l.length) (hs:l.length ≤ 140737488355328) (hd:∀ b ∈ l,isDig 16 b=true) (n:Nat) (hn:n=valL 16 l) (hlt:n < 9223372036854775808) (w:World) :
  Calls Tryz.prog 110 #[.string (str l),.int .i64 16,.int .i64 63] w (Gives (.tuple #[.int .u64 (n:Int),.nilIface]) w):=by
 have C:=iParseUint16_c l hne hs hd
 rw [← hn,puV_lt hlt] at C
 have C:=Lib.hid C
 clear hd hn hlt
 go_enter Tryz.func110,Tryz.ntmps110
 go_wp2_with (go_at_call 141; refine (C.out _).mono ?_; rintro e w1 ⟨rfl,hx⟩)
 go_ret2
 exact ⟨rfl,hx⟩
theorem ParseUint16_range (l:List UInt8) (hne:0 < l.length) (hs:l.length ≤ 140737488355328) (hd:∀ b ∈ l,isDig 16 b=true) (hge:9223372036854775808 ≤ valL 16 l) (w:World) (hE:ErrR w) :
  Calls Tryz.prog 110 #[.string (str l),.int .i64 16,.int .i64 63] w (Ret IsErr2 w):=by
 have C:=iParseUint16_c l hne hs hd
 rw [puV_ge hge] at C
 have C:=Lib.hid C
 clear hd hge
 go_enter Tryz.func110,Tryz.ntmps110
 go_wp2_with (first
  | (go_at_call 141; refine (C.out _).mono ?_; rintro e w1 ⟨rfl,hx⟩)
  | (go_at_call 142; refine (toErr_c _ _ _ _ _ (by rw [str_size]; omega) (hE.ext hx)).mono ?_; rintro e w2 ⟨N,rfl,hx2⟩))
 go_ret2
 exact Ret.is rfl ⟨N,rfl⟩ (by (repeat first | exact Ex0 | assumption | refine Ex1 ?_ | refine Ex2 ?_ | refine Ex3 ?_ | refine Ex4 ?_ | refine Ex5 ?_))
end Go.Proofs.YthbofilcnpdghaaGreatDoor
end
section
namespace Go.Proofs.YthbofilcnpdghaaGreatDoor
open Go.RowKit
def digs:List UInt8:=[48,49,50,51,52,53,54,55,56,57,97,98,99,100,101,102]
theorem idx_dig0:∀ B:Fin 17,∀ c:Fin 256,(isDig B.val c.val.toUInt8=true∧Lib.indexByte digs c.val.toUInt8=(digV c.val.toUInt8:Int)∧digV c.val.toUInt8 < B.val) ∨
  (isDig B.val c.val.toUInt8=false∧(Lib.indexByte digs c.val.toUInt8=-1 ∨ (Lib.indexByte digs c.val.toUInt8=(digV c.val.toUInt8:Int)∧B.val ≤ digV c.val.toUInt8∧digV c.val.toUInt8 < 16))):=by decide +kernel
theorem idx_dig (B:Nat) (hB:B ≤ 16) (b:UInt8):(isDig B b=true∧∃ d:Nat,Lib.indexByte digs b=(d:Int)∧d < B) ∨
  (isDig B b=false∧(Lib.indexByte digs b=-1 ∨ ∃ d:Nat,Lib.indexByte digs b=(d:Int)∧B ≤ d∧d < 16)):=by
 have:=idx_dig0 ⟨B,by omega⟩ ⟨b.toNat,UInt8.toNat_lt b⟩
 simp only [Nat.toUInt8_eq,UInt8.ofNat_toNat] at this
 rcases this with ⟨h1,h2,h3⟩ | ⟨h1,h2 | ⟨h2,h3,h4⟩⟩
 ·exact .inl ⟨h1,_,h2,h3⟩
 ·exact .inr ⟨h1,.inl h2⟩
 ·exact .inr ⟨h1,.inr ⟨_,h2,h3,h4⟩⟩
theorem ixd_c (b:UInt8) (w:World):Calls Tryz.prog 109 #[.string ⟨#[48,49,50,51,52,53,54,55,56,57,97,98,99,100,101,102]⟩,.int .u8 (b.toNat:Int)] w fun e w'=>e=.returned (.int .i64 (Lib.indexByte digs b))∧w=w':=by
 have hu:(b.toNat:Int).toNat.toUInt8=b:=by simp
 refine (Tryz.strings_IndexByte _ _ w).mono ?_
 rintro e w' ⟨rfl,rfl⟩
 rw [hu]
 exact ⟨rfl,rfl⟩
theorem numL_m (B most:Nat) (l m:List UInt8) (hm:m=lowL l):numL B most l=if m=[] ∨ m.all (isDig B)=false then (0,21) else if valL B m ≤ most then ((valL B m:Int),0) else (0,11):=by
 subst hm
 have e:(l=[])=(lowL l=[]):=by unfold lowL; simp
 unfold numL
 simp only [e]
theorem number10_c (l:List UInt8) (hs:l.length ≤ 140737488355328) (w:World) (hE:ErrR w) :
  Calls Tryz.prog 84 #[.string (str l),.int .i64 10,.int .i64 1000000000000000000] w (Gives (.tuple #[.int .i64 (numL 10 1000000000000000000 l).1,.int .i64 (numL 10 1000000000000000000 l).2]) w):=by
 obtain ⟨m,hm⟩:∃ m,m=lowL l:=⟨_,rfl⟩
 have hml:m.length ≤ 140737488355328:=by rw [hm,low_length]; exact hs
 have hnum:=numL_m 10 1000000000000000000 l m hm
 have CL:=Lower_c l (by unfold maxLen; omega)
 rw [← hm] at CL
 have CL:=Lib.hid CL
 generalize numL 10 1000000000000000000 l=N at *
 have HN:=Lib.hid hnum
 clear hnum hm
 have HE:=Lib.hid hE
 clear hE
 go_enter Tryz.func84,Tryz.ntmps84
 go_wp2_with (go_at_call 89; refine (CL.out _).mono ?_; rintro e w1 ⟨rfl,hx1⟩)
 go_loopw [17] (fun i wr=>∃ k:Nat,k ≤ m.length∧i=.int .i64 k∧(m.take k).all (isDig 10)=true∧w1=wr) (fun i _=>m.length - (intOf i).toNat)
 case atStart=>exact ⟨0,Nat.zero_le _,rfl,rfl,rfl⟩
 case round =>
  obtain ⟨k,hk,rfl,hall,rfl⟩:=hrel
  have HA:=Lib.hid hall
  clear hall
  by_cases hlt:k < m.length
  ·have hsucc:=all_succ_l m (isDig 10) k hlt
   rw [HA.out] at hsucc
   have HS:=Lib.hid hsucc
   clear hsucc
   rcases idx_dig 10 (by omega) m[k] with ⟨hg,d,hv,hd⟩ | ⟨hg,hv⟩
   ·have HG:=Lib.hid hg
    have HV:=Lib.hid hv
    clear hg hv
    go_wp2_with (go_at_call 109; refine (ixd_c _ _).mono ?_; rintro e w2 ⟨rfl,rfl⟩; rw [HV.out])
    go_roundw
    case rel=>exact ⟨k + 1,by omega,by go_num,by rw [HS.out,HG.out]; rfl,by trivial⟩
    case measure=>simp [intOf]; omega
   ·have hbad:N=(0,21):=by
     rw [HN.out]
     refine if_pos (.inr ?_)
     rw [Bool.eq_false_iff]
     intro ha
     have:=List.all_eq_true.1 ha m[k] (List.getElem_mem hlt)
     rw [hg] at this
     cases this
    have HB:=Lib.hid hbad
    clear hbad hg
    rcases hv with hv | ⟨d,hv,hd,hd2⟩
    ·have HV:=Lib.hid hv
     clear hv
     go_wp2_with (go_at_call 109; refine (ixd_c _ _).mono ?_; rintro e w2 ⟨rfl,rfl⟩; rw [HV.out])
     go_ret2
     exact ⟨ret_val (by rw [HB.out]; rfl),hx1⟩
    ·have HV:=Lib.hid hv
     clear hv
     go_wp2_with (go_at_call 109; refine (ixd_c _ _).mono ?_; rintro e w2 ⟨rfl,rfl⟩; rw [HV.out])
     all_goals go_ret2
     all_goals exact ⟨ret_val (by rw [HB.out]; rfl),hx1⟩
  ·obtain rfl:k=m.length:=by omega
   rw [List.take_of_length_le (Nat.le_refl _)] at HA
   by_cases h0:m=[]
   ·rw [if_pos (.inl h0)] at HN
    have he:m.isEmpty=true:=by rw [h0]; rfl
    clear h0
    go_wp2
    go_ret2
    exact ⟨ret_val (by rw [HN.out]; rfl),hx1⟩
   ·rw [if_neg (by rw [HA.out]; simp [h0])] at HN
    have he:m.isEmpty=false:=by cases m with | nil=>exact absurd rfl h0 | cons _ _=>rfl
    have hpos:0 < m.length:=List.length_pos_iff.2 h0
    have hdall:∀ b ∈ m,isDig 10 b=true:=List.all_eq_true.1 HA.out
    have HDA:=Lib.hid hdall
    clear h0 hdall
    by_cases hbig:9223372036854775808 ≤ valL 10 m
    ·rw [if_neg (by omega)] at HN
     have HBG:=Lib.hid hbig
     clear hbig
     go_wp2_with (go_at_call 110; refine (ParseUint10_range m hpos hml HDA.out HBG.out _ (HE.out.ext hx1)).mono ?_; rintro e w2 ⟨v,rfl,⟨Nn,rfl⟩,hx2⟩)
     go_ret2
     exact ⟨ret_val (by rw [HN.out]; rfl),by (repeat first | exact Ex0 | assumption | refine Ex1 ?_ | refine Ex2 ?_ | refine Ex3 ?_ | refine Ex4 ?_ | refine Ex5 ?_)⟩
    ·obtain ⟨n,hn⟩:∃ n,n=valL 10 m:=⟨_,rfl⟩
     rw [← hn] at HN hbig
     have hlt63:n < 9223372036854775808:=by omega
     have C1:=ParseUint10_ok m hpos hml HDA.out n hn hlt63
     obtain ⟨a,ha⟩:∃ a:Int,a=(n:Int):=⟨_,rfl⟩
     rw [← ha] at C1
     have C1:=Lib.hid C1
     have a0:0 ≤ a:=by omega
     have a1:a < 9223372036854775808:=by omega
     by_cases hle:n ≤ 1000000000000000000
     ·rw [if_pos hle,← ha] at HN
      have hle':a ≤ 1000000000000000000:=by omega
      clear hbig hn hle hlt63 ha
      go_wp2_with (go_at_call 110; refine (C1.out _).mono ?_; rintro e w2 ⟨rfl,hx2⟩)
      go_ret2
      exact ⟨ret_val (by rw [HN.out]; rfl),by (repeat first | exact Ex0 | assumption | refine Ex1 ?_ | refine Ex2 ?_ | refine Ex3 ?_ | refine Ex4 ?_ | refine Ex5 ?_)⟩
     ·rw [if_neg hle] at HN
      have hle':1000000000000000000 < a:=by omega
      clear hbig hn hle hlt63 ha
      go_wp2_with (go_at_call 110; refine (C1.out _).mono ?_; rintro e w2 ⟨rfl,hx2⟩)
      go_ret2
      exact ⟨ret_val (by rw [HN.out]; rfl),by (repeat first | exact Ex0 | assumption | refine Ex1 ?_ | refine Ex2 ?_ | refine Ex3 ?_ | refine Ex4 ?_ | refine Ex5 ?_)⟩
theorem number16_c (l:List UInt8) (hs:l.length ≤ 140737488355328) (w:World) (hE:ErrR w) :
  Calls Tryz.prog 84 #[.string (str l),.int .i64 16,.int .i64 1152921504606846976] w (Gives (.tuple #[.int .i64 (numL 16 1152921504606846976 l).1,.int .i64 (numL 16 1152921504606846976 l).2]) w):=by
 obtain ⟨m,hm⟩:∃ m,m=lowL l:=⟨_,rfl⟩
 have hml:m.length ≤ 140737488355328:=by rw [hm,low_length]; exact hs
 have hnum:=numL_m 16 1152921504606846976 l m hm
 have CL:=Lower_c l (by unfold maxLen; omega)
 rw [← hm] at CL
 have CL:=Lib.hid CL
 generalize numL 16 1152921504606846976 l=N at *
 have HN:=Lib.hid hnum
 clear hnum hm
 have HE:=Lib.hid hE
 clear hE
 go_enter Tryz.func84,Tryz.ntmps84
 go_wp2_with (go_at_call 89; refine (CL.out _).mono ?_; rintro e w1 ⟨rfl,hx1⟩)
 go_loopw [17] (fun i wr=>∃ k:Nat,k ≤ m.length∧i=.int .i64 k∧(m.take k).all (isDig 16)=true∧w1=wr) (fun i _=>m.length - (intOf i).toNat)
 case atStart=>exact ⟨0,Nat.zero_le _,rfl,rfl,rfl⟩
 case round =>
  obtain ⟨k,hk,rfl,hall,rfl⟩:=hrel
  have HA:=Lib.hid hall
  clear hall
  by_cases hlt:k < m.length
  ·have hsucc:=all_succ_l m (isDig 16) k hlt
   rw [HA.out] at hsucc
   have HS:=Lib.hid hsucc
   clear hsucc
   rcases idx_dig 16 (by omega) m[k] with ⟨hg,d,hv,hd⟩ | ⟨hg,hv⟩
   ·have HG:=Lib.hid hg
    have HV:=Lib.hid hv
    clear hg hv
    go_wp2_with (go_at_call 109; refine (ixd_c _ _).mono ?_; rintro e w2 ⟨rfl,rfl⟩; rw [HV.out])
    go_roundw
    case rel=>exact ⟨k + 1,by omega,by go_num,by rw [HS.out,HG.out]; rfl,by trivial⟩
    case measure=>simp [intOf]; omega
   ·have hbad:N=(0,21):=by
     rw [HN.out]
     refine if_pos (.inr ?_)
     rw [Bool.eq_false_iff]
     intro ha
     have:=List.all_eq_true.1 ha m[k] (List.getElem_mem hlt)
     rw [hg] at this
     cases this
    have HB:=Lib.hid hbad
    clear hbad hg
    rcases hv with hv | ⟨d,hv,hd,hd2⟩
    ·have HV:=Lib.hid hv
     clear hv
     go_wp2_with (go_at_call 109; refine (ixd_c _ _).mono ?_; rintro e w2 ⟨rfl,rfl⟩; rw [HV.out])
     go_ret2
     exact ⟨ret_val (by rw [HB.out]; rfl),hx1⟩
    ·have HV:=Lib.hid hv
     clear hv
     go_wp2_with (go_at_call 109; refine (ixd_c _ _).mono ?_; rintro e w2 ⟨rfl,rfl⟩; rw [HV.out])
     all_goals go_ret2
     all_goals exact ⟨ret_val (by rw [HB.out]; rfl),hx1⟩
  ·obtain rfl:k=m.length:=by omega
   rw [List.take_of_length_le (Nat.le_refl _)] at HA
   by_cases h0:m=[]
   ·rw [if_pos (.inl h0)] at HN
    have he:m.isEmpty=true:=by rw [h0]; rfl
    clear h0
    go_wp2
    go_ret2
    exact ⟨ret_val (by rw [HN.out]; rfl),hx1⟩
   ·rw [if_neg (by rw [HA.out]; simp [h0])] at HN
    have he:m.isEmpty=false:=by cases m with | nil=>exact absurd rfl h0 | cons _ _=>rfl
    have hpos:0 < m.length:=List.length_pos_iff.2 h0
    have hdall:∀ b ∈ m,isDig 16 b=true:=List.all_eq_true.1 HA.out
    have HDA:=Lib.hid hdall
    clear h0 hdall
    by_cases hbig:9223372036854775808 ≤ valL 16 m
    ·rw [if_neg (by omega)] at HN
     have HBG:=Lib.hid hbig
     clear hbig
     go_wp2_with (go_at_call 110; refine (ParseUint16_range m hpos hml HDA.out HBG.out _ (HE.out.ext hx1)).mono ?_; rintro e w2 ⟨v,rfl,⟨Nn,rfl⟩,hx2⟩)
     go_ret2
     exact ⟨ret_val (by rw [HN.out]; rfl),by (repeat first | exact Ex0 | assumption | refine Ex1 ?_ | refine Ex2 ?_ | refine Ex3 ?_ | refine Ex4 ?_ | refine Ex5 ?_)⟩
    ·obtain ⟨n,hn⟩:∃ n,n=valL 16 m:=⟨_,rfl⟩
     rw [← hn] at HN hbig
     have hlt63:n < 9223372036854775808:=by omega
     have C1:=ParseUint16_ok m hpos hml HDA.out n hn hlt63
     obtain ⟨a,ha⟩:∃ a:Int,a=(n:Int):=⟨_,rfl⟩
     rw [← ha] at C1
     have C1:=Lib.hid C1
     have a0:0 ≤ a:=by omega
     have a1:a < 9223372036854775808:=by omega
     by_cases hle:n ≤ 1152921504606846976
     ·rw [if_pos hle,← ha] at HN
      have hle':a ≤ 1152921504606846976:=by omega
      clear hbig hn hle hlt63 ha
      go_wp2_with (go_at_call 110; refine (C1.out _).mono ?_; rintro e w2 ⟨rfl,hx2⟩)
      go_ret2
      exact ⟨ret_val (by rw [HN.out]; rfl),by (repeat first | exact Ex0 | assumption | refine Ex1 ?_ | refine Ex2 ?_ | refine Ex3 ?_ | refine Ex4 ?_ | refine Ex5 ?_)⟩
     ·rw [if_neg hle] at HN
      have hle':1152921504606846976 < a:=by omega
      clear hbig hn hle hlt63 ha
      go_wp2_with (go_at_call 110; refine (C1.out _).mono ?_; rintro e w2 ⟨rfl,hx2⟩)
      go_ret2
      exact ⟨ret_val (by rw [HN.out]; rfl),by (repeat first | exact Ex0 | assumption | refine Ex1 ?_ | refine Ex2 ?_ | refine Ex3 ?_ | refine Ex4 ?_ | refine Ex5 ?_)⟩
theorem Decimal_c (l:List UInt8) (hs:l.length ≤ 140737488355328) (w:World) (hE:ErrR w) :
  Calls Tryz.prog 57 #[.string (str l)] w (Gives (.tuple #[.int .i64 (numL 10 1000000000000000000 l).1,.int .i64 (numL 10 1000000000000000000 l).2]) w):=by
 have C:=fun w hE=>number10_c l hs w hE
 generalize (numL 10 1000000000000000000 l).1=a at *
 generalize (numL 10 1000000000000000000 l).2=b at *
 have C:=Lib.hid C
 go_enter Tryz.func57,Tryz.ntmps57
 go_wp2_with (go_at_call 84; refine (C.out _ hE).mono ?_; rintro e w1 ⟨rfl,hx⟩)
 go_ret2
 exact ⟨rfl,hx⟩
theorem Hex_c (l:List UInt8) (hs:l.length ≤ 140737488355328) (w:World) (hE:ErrR w) :
  Calls Tryz.prog 101 #[.string (str l)] w (Gives (.tuple #[.int .i64 (numL 16 1152921504606846976 l).1,.int .i64 (numL 16 1152921504606846976 l).2]) w):=by
 have C:=fun w hE=>number16_c l hs w hE
 generalize (numL 16 1152921504606846976 l).1=a at *
 generalize (numL 16 1152921504606846976 l).2=b at *
 have C:=Lib.hid C
 go_enter Tryz.func101,Tryz.ntmps101
 go_wp2_with (go_at_call 84; refine (C.out _ hE).mono ?_; rintro e w1 ⟨rfl,hx⟩)
 go_ret2
 exact ⟨rfl,hx⟩
end Go.Proofs.YthbofilcnpdghaaGreatDoor
end
section
namespace Go.Proofs.YthbofilcnpdghaaGreatDoor
open Go.RowKit
theorem idx_no {l:List UInt8} {c:UInt8} (h:c ∉ l):Lib.indexByte l c=-1:=by
 have h1:=Lib.indexByte_ge l c
 refine Classical.byContradiction fun h0=>?_
 obtain ⟨k,hk⟩:∃ k:Nat,Lib.indexByte l c=(k:Int):=⟨(Lib.indexByte l c).toNat,by omega⟩
 exact h (List.mem_of_getElem? (Lib.indexByte_some hk).1)
theorem idx_at {a r:List UInt8} {c:UInt8} (h:c ∉ a):Lib.indexByte (a ++ c :: r) c=(a.length:Int):=by
 have h1:=Lib.indexByte_ge (a ++ c :: r) c
 by_cases h0:Lib.indexByte (a ++ c :: r) c=-1
 ·exact absurd (Lib.indexByte_none h0 a.length) (by simp)
 ·obtain ⟨k,hk⟩:∃ k:Nat,Lib.indexByte (a ++ c :: r) c=(k:Int):=⟨(Lib.indexByte (a ++ c :: r) c).toNat,by omega⟩
  obtain ⟨k1,k2⟩:=Lib.indexByte_some hk
  rw [hk]
  have:k=a.length:=by
   rcases Nat.lt_trichotomy k a.length with h3 | h3 | h3
   ·rw [List.getElem?_append_left h3] at k1
    exact absurd (List.mem_of_getElem? k1) h
   ·exact h3
   ·exact absurd (by simp) (k2 a.length h3)
  rw [this]
theorem cut_cases (l:List UInt8) (c:UInt8):c ∉ l ∨ ∃ a r,l=a ++ c :: r∧c ∉ a:=by
 induction l with
 | nil=>exact .inl (by simp)
 | cons b l ih =>
  by_cases hb:b=c
  ·exact .inr ⟨[],l,by rw [hb]; rfl,by simp⟩
  ·rcases ih with h | ⟨a,r,h1,h2⟩
   ·exact .inl (by simp only [List.mem_cons,not_or]; exact ⟨fun e=>hb e.symm,h⟩)
   ·exact .inr ⟨b :: a,r,by rw [h1]; rfl,by simp only [List.mem_cons,not_or]; exact ⟨fun e=>hb e.symm,h2⟩⟩
theorem iCut_no (l:List UInt8) (c:UInt8) (h:c ∉ l) (w:World) :
  Calls Tryz.prog 102 #[.string (str l),.string ⟨#[c]⟩] w fun e w'=>e=.returned (.tuple #[.string (str l),.string ⟨#[]⟩,.bool false])∧w=w':=by
 have HX:=Lib.hid (idx_no h)
 clear h
 go_enter Tryz.func102,Tryz.ntmps102
 go_wp2_with (go_at_call 129; refine (Tryz.stringslite_Index_one _ _ _).mono ?_; rintro e w1 ⟨rfl,rfl⟩; rw [str_data,HX.out])
 go_ret3
 exact ⟨rfl,rfl⟩
theorem iCut_at (a r:List UInt8) (c:UInt8) (h:c ∉ a) (hs:a.length + r.length + 1 ≤ maxLen) (w:World) :
  Calls Tryz.prog 102 #[.string (str (a ++ c :: r)),.string ⟨#[c]⟩] w fun e w'=>e=.returned (.tuple #[.string (str a),.string (str r),.bool true])∧∃ q,w'=w.drewN q:=by
 unfold maxLen at hs
 obtain ⟨l,hl⟩:∃ l,l=a ++ c :: r:=⟨_,rfl⟩
 have HX:=Lib.hid (show Lib.indexByte l c=(a.length:Int) from by rw [hl]; exact idx_at h)
 have hll:l.length=a.length + r.length + 1:=by rw [hl]; simp; omega
 have e1:l.take a.length=a:=by rw [hl,List.take_left]
 have e2:l.drop (a.length + 1)=r:=by rw [hl,List.drop_append]; simp [List.drop_eq_nil_of_le]
 rw [← hl]
 have E1:=Lib.hid e1
 have E2:=Lib.hid e2
 clear h hl e1 e2
 have j1:(0:Int) ≤ (a.length:Int):=by omega
 have j2:(a.length:Int) ≤ (l.length:Int):=by omega
 have j3:IntKind.i64.wrap ((a.length:Int) + 1)=(a.length:Int) + 1:=by rw [IntKind.wrap_i64]; omega
 have j4:(a.length:Int) + 1 ≤ (l.length:Int):=by omega
 have j5:((a.length:Int) + 1).toNat=a.length + 1:=by omega
 have j6:(0:Int) ≤ (a.length:Int) + 1:=by omega
 clear hll hs
 go_enter Tryz.func102,Tryz.ntmps102
 go_wp2_with (go_at_call 129; refine (Tryz.stringslite_Index_one _ _ _).mono ?_; rintro e w1 ⟨rfl,rfl⟩; rw [str_data,HX.out])
 go_quiet (fail)
 go_wp2
 go_ret3
 refine ⟨ret_val ?_,_,rfl⟩
 show Value.tuple #[.string (str (l.take a.length)),.string (str (l.drop (a.length + 1))),.bool true]=_
 rw [E1.out,E2.out]
theorem Cut_no (l:List UInt8) (c:UInt8) (h:c ∉ l) (w:World) :
  Calls Tryz.prog 78 #[.string (str l),.string ⟨#[c]⟩] w fun e w'=>e=.returned (.tuple #[.string (str l),.string ⟨#[]⟩,.bool false])∧w=w':=by
 have HX:=Lib.hid h
 clear h
 go_enter Tryz.func78,Tryz.ntmps78
 go_wp2_with (go_at_call 102; refine (iCut_no _ _ HX.out _).mono ?_; rintro e w1 ⟨rfl,rfl⟩)
 go_ret3
 exact ⟨rfl,rfl⟩
theorem Cut_at (a r:List UInt8) (c:UInt8) (h:c ∉ a) (hs:a.length + r.length + 1 ≤ maxLen) (w:World) :
  Calls Tryz.prog 78 #[.string (str (a ++ c :: r)),.string ⟨#[c]⟩] w fun e w'=>e=.returned (.tuple #[.string (str a),.string (str r),.bool true])∧∃ q,w'=w.drewN q:=by
 have HX:=Lib.hid h
 have HS:=Lib.hid hs
 obtain ⟨s,hs2⟩:∃ s,s=str (a ++ c :: r):=⟨_,rfl⟩
 have CC:=fun w=>iCut_at a r c HX.out HS.out w
 rw [← hs2] at CC ⊢
 have CC:=Lib.hid CC
 clear h hs hs2
 go_enter Tryz.func78,Tryz.ntmps78
 go_wp2_with (go_at_call 102; refine (CC.out _).mono ?_; rintro e w1 ⟨rfl,q,rfl⟩)
 go_ret3
 exact ⟨rfl,q,rfl⟩
theorem HasPrefix_c (l p:List UInt8) (b:Bool) (hb:Lib.hasPrefix l p=b) (w:World) :
  Calls Tryz.prog 111 #[.string (str l),.string ⟨p.toArray⟩] w fun e w'=>e=.returned (.bool b)∧w=w' :=
 (Tryz.strings_HasPrefix _ _ w).mono fun e w' ⟨he,hw⟩=>⟨by rw [he,← hb]; rfl,hw.symm⟩
theorem IndexByteS_c (l:List UInt8) (k z:Int) (h:Lib.indexByte l k.toNat.toUInt8=z) (w:World) :
  Calls Tryz.prog 109 #[.string (str l),.int .u8 k] w fun e w'=>e=.returned (.int .i64 z)∧w=w' :=
 (Tryz.strings_IndexByte _ _ w).mono fun e w' ⟨he,hw⟩=>⟨by rw [he,← h]; rfl,hw.symm⟩
theorem pre_one (l:List UInt8) (c:UInt8):Lib.hasPrefix l [c]=decide (l.head?=some c):=by
 cases l with
 | nil=>simp [Lib.hasPrefix,List.isPrefixOf]
 | cons b l =>
  by_cases h:b=c
  ·subst h; simp [Lib.hasPrefix,List.isPrefixOf]
  ·have h2:(c == b)=false:=by rw [beq_eq_false_iff_ne]; exact fun e=>h e.symm
   simp [Lib.hasPrefix,List.isPrefixOf,h,h2]
theorem pre_yes {l:List UInt8} {c:UInt8} (h:l.head?=some c):Lib.hasPrefix l [c]=true:=by rw [pre_one]; simp [h]
theorem pre_no {l:List UInt8} {c:UInt8} (h:¬ l.head?=some c):Lib.hasPrefix l [c]=false:=by rw [pre_one]; simp [h]
end Go.Proofs.YthbofilcnpdghaaGreatDoor
end
