/-
strings.IndexAny at the three bytes that end a size: texts of whatever bytes.
-/
import Derived.Test.YthbofilcnpdghaaGreatDoorFc1
import Derived.Test.YthbofilcnpdghaaGreatDoorZag
import Derived.Deep.LoopGhost
import Derived.WalkMore
import Derived.Lib.OthersKept
import Derived.Shelf.Strings.IndexAnyAll
set_option maxRecDepth 100000
set_option maxHeartbeats 8000000
set_option linter.unusedVariables false
set_option linter.unusedSimpArgs false
namespace Go.Proofs.YthbofilcnpdghaaGreatDoor
open Go.RowKit
theorem Ext.it12 {a b:World} (h:Ext a b) (s:ByteArray) (p:Nat):Ext a (b.iter s p):=h.al _
theorem IndexRune_err12 (w:World) :
  Calls Tryz.prog 114 #[.string ⟨#[59,32,9]⟩,.int .i32 65533] w fun e w'=>e=.returned (.int .i64 (-1))∧Ext w w':=by
 obtain ⟨s,hs⟩:∃ s:ByteArray,s=⟨#[59,32,9]⟩:=⟨_,rfl⟩
 have h2:s.size=3:=by rw [hs]; rfl
 have HS:=Lib.hid (show ∀ i (h:i < s.size),(s[i]'h).toNat=59 ∨ (s[i]'h).toNat=32 ∨ (s[i]'h).toNat=9 by
  subst hs
  intro i h
  have:i=0 ∨ i=1 ∨ i=2:=by have:i < 3:=h; omega
  rcases this with rfl | rfl | rfl
  ·exact .inl rfl
  ·exact .inr (.inl rfl)
  ·exact .inr (.inr rfl))
 rw [← hs]
 clear hs
 go_enter Tryz.func114,Tryz.ntmps114
 go_wp2
 go_loopg [176,177] s.size (fun g _ _ wx=>∃ i:Nat,i + g=s.size∧wx=w.iter s i)
 case atStart=>exact ⟨0,by omega,rfl⟩
 case round =>
  obtain ⟨i,hig,rfl⟩:=hrel
  cases gk with
  | zero =>
   obtain rfl:i=3:=by omega
   have hnx:=fun ty=>run_next_end (P:=Tryz.prog) w s 3 ty (by omega)
   go_wp2
   go_ret
   exact ⟨rfl,(Ext.rfl' w).it12 _ _⟩
  | succ g =>
   have hi:i < s.size:=by omega
   have hx:=HS.out i hi
   obtain ⟨x,hx0⟩:∃ x:Int,x=((s[i]'hi).toNat:Int):=⟨_,rfl⟩
   have hnx:=fun ty=>run_next_ascii (P:=Tryz.prog) w s i ty hi (by omega)
   rw [← hx0] at hnx
   have hne:(x == 65533)=false:=by rw [beq_eq_false_iff_ne]; omega
   clear hx hx0
   go_wp2
   go_roundg g
   case measure=>omega
   case rel=>exact ⟨i + 1,by omega,rfl⟩
theorem ValidRune_yes12 (r:Nat) (hv:Utf8.valid (r:Int)=true) (w:World) :
  Calls Tryz.prog 143 #[.int .i32 (r:Int)] w fun e w'=>e=.returned (.bool true)∧w=w':=by
 have h:r < 55296 ∨ (57343 < r∧r ≤ 1114111):=by
  simp only [Utf8.valid,Bool.or_eq_true,Bool.and_eq_true,decide_eq_true_eq] at hv; omega
 clear hv
 rcases h with h | ⟨h1,h2⟩
 ·have c1:(r:Int) < 55296:=by omega
  go_enter Tryz.func143,Tryz.ntmps143
  go_wp2
  go_ret
  exact ⟨rfl,rfl⟩
 ·have c1:¬ (r:Int) < 55296:=by omega
  have c2:(57343:Int) < (r:Int):=by omega
  have c3:(r:Int) ≤ 1114111:=by omega
  go_enter Tryz.func143,Tryz.ntmps143
  go_wp2
  go_ret
  exact ⟨rfl,rfl⟩
theorem IndexRune_hi12 (r:Nat) (h:128 ≤ r) (hv:Utf8.valid (r:Int)=true) (h9:r ≠ 65533) (w:World) :
  Calls Tryz.prog 114 #[.string ⟨#[59,32,9]⟩,.int .i32 (r:Int)] w fun e w'=>e=.returned (.int .i64 (-1))∧Ext w w':=by
 obtain ⟨l,hl,l2,l4,lall⟩:=enc_hi12 r h hv
 have HV:=Lib.hid (fun w=>ValidRune_yes12 r hv w)
 have IB:=Lib.hid (fun (k:Int) (w:World)=>IndexByteS_c [] k (-1) rfl w)
 have c1:(0:Int) ≤ (r:Int):=by omega
 have c2:¬ (r:Int) < 128:=by omega
 have c3:((r:Int) == 65533)=false:=by rw [beq_eq_false_iff_ne]; omega
 have x1:ByteArray.extract ⟨#[59,32,9]⟩ 2 3=⟨#[9]⟩:=by decide
 have x2:ByteArray.extract ⟨#[59,32,9]⟩ 3 3=⟨#[]⟩:=by decide
 have hcv:∀ w,(convert 21 9 (.int .i32 (r:Int))).run Tryz.prog w=.ok (.string ⟨l.toArray⟩) w:=fun w=>by
  rw [← hl]; exact run_convert_int_string w _ _ _ _ (by kernel_rfl) (by kernel_rfl)
 clear hv h h9 hl
 match l,l2,l4,lall with
 | [a,b],_,_,lall =>
  have hb:=lall b (by simp)
  have c5:((32:Int) != (b.toNat:Int))=true:=by rw [bne_iff_ne]; omega
  have c4:((((⟨#[59,32,9]⟩:ByteArray)[1]'(by decide)).toNat:Int) != (((⟨#[a,b]⟩:ByteArray)[1]'(Nat.lt_succ_self 1)).toNat:Int))=true:=c5
  have IB2:=Lib.hid (fun (w:World)=>show Calls Tryz.prog 109 #[.string ⟨#[9]⟩,.int .u8 (((⟨#[a,b]⟩:ByteArray)[1]'(Nat.lt_succ_self 1)).toNat:Int)] w _ from IndexByteS_c [9] (b.toNat:Int) (-1) (by
   have e:((b.toNat:Int)).toNat.toUInt8=b:=by simp
   rw [e]
   exact idx_no (fun hm=>by rw [List.mem_singleton] at hm; rw [hm] at hb; exact absurd hb (by decide))) w)
  clear c5
  clear lall hb IB
  go_enter Tryz.func114,Tryz.ntmps114
  go_wp2_with (first
   | (go_at_call 143; refine (HV.out _).mono ?_; rintro e w1 ⟨rfl,rfl⟩))
  go_step3
  go_wp2
  go_loopw [9] (fun i wr=>i=.int .i64 1∧w=wr) (fun i _=>0)
  case atStart=>exact ⟨rfl,rfl⟩
  case round =>
   obtain ⟨rfl,rfl⟩:=hrel
   go_wp2
   (go_step3; go_wp2; go_quiet (fail); go_wp2; go_region_with (go_at_call 109; refine (IB2.out _).mono ?_; rintro e w1 ⟨rfl,rfl⟩); go_wp2)
   all_goals (
    first | (go_ret; exact ⟨rfl,by (repeat first | exact Ex0 | assumption | refine Ex1 ?_ | refine Ex2 ?_ | refine Ex3 ?_ | refine Ex4 ?_ | refine Ex5 ?_)⟩) | (simp (zetaDelta:=true) only [Exit.noGoto_ret,Exit.inBlock,Exit.then]; go_ret; exact ⟨rfl,by (repeat first | exact Ex0 | assumption | refine Ex1 ?_ | refine Ex2 ?_ | refine Ex3 ?_ | refine Ex4 ?_ | refine Ex5 ?_)⟩))
 | [a,b,c],_,_,lall =>
  have hb:=lall c (by simp)
  have c5:((9:Int) != (c.toNat:Int))=true:=by rw [bne_iff_ne]; omega
  have c4:((((⟨#[59,32,9]⟩:ByteArray)[2]'(by decide)).toNat:Int) != (((⟨#[a,b,c]⟩:ByteArray)[2]'(Nat.lt_succ_self 2)).toNat:Int))=true:=c5
  clear c5
  clear lall hb
  go_enter Tryz.func114,Tryz.ntmps114
  go_wp2_with (first
   | (go_at_call 143; refine (HV.out _).mono ?_; rintro e w1 ⟨rfl,rfl⟩))
  go_step3
  go_wp2
  go_loopw [9] (fun i wr=>i=.int .i64 2∧w=wr) (fun i _=>0)
  case atStart=>exact ⟨rfl,rfl⟩
  case round =>
   obtain ⟨rfl,rfl⟩:=hrel
   go_wp2
   (go_step3; go_wp2; go_quiet (fail); go_wp2; go_region_with (go_at_call 109; refine (IB.out _ _).mono ?_; rintro e w1 ⟨rfl,rfl⟩); go_wp2)
   all_goals (
    first | (go_ret; exact ⟨rfl,by (repeat first | exact Ex0 | assumption | refine Ex1 ?_ | refine Ex2 ?_ | refine Ex3 ?_ | refine Ex4 ?_ | refine Ex5 ?_)⟩) | (simp (zetaDelta:=true) only [Exit.noGoto_ret,Exit.inBlock,Exit.then]; go_ret; exact ⟨rfl,by (repeat first | exact Ex0 | assumption | refine Ex1 ?_ | refine Ex2 ?_ | refine Ex3 ?_ | refine Ex4 ?_ | refine Ex5 ?_)⟩))
 | [a,b,c,d],_,_,lall =>
  clear lall
  go_enter Tryz.func114,Tryz.ntmps114
  go_wp2_with (first
   | (go_at_call 143; refine (HV.out _).mono ?_; rintro e w1 ⟨rfl,rfl⟩))
  go_step3
  go_wp2
  go_loopw [9] (fun i wr=>i=.int .i64 3∧w=wr) (fun i _=>0)
  case atStart=>exact ⟨rfl,rfl⟩
  case round =>
   obtain ⟨rfl,rfl⟩:=hrel
   go_wp2
   skip
   all_goals (
    first | (go_ret; exact ⟨rfl,by (repeat first | exact Ex0 | assumption | refine Ex1 ?_ | refine Ex2 ?_ | refine Ex3 ?_ | refine Ex4 ?_ | refine Ex5 ?_)⟩) | (simp (zetaDelta:=true) only [Exit.noGoto_ret,Exit.inBlock,Exit.then]; go_ret; exact ⟨rfl,by (repeat first | exact Ex0 | assumption | refine Ex1 ?_ | refine Ex2 ?_ | refine Ex3 ?_ | refine Ex4 ?_ | refine Ex5 ?_)⟩))
theorem IndexAny_short12 (s:ByteArray) (hr:s.size ≤ 8) (w:World) :
  Calls Tryz.prog 86 #[.string s,.string ⟨#[59,32,9]⟩] w (Gives (.int .i64 (Lib.indexAny s.data.toList [59,32,9])) w):=by
 have h8z:decide ((8:Int) < (s.size:Int))=false:=decide_eq_false (by omega)
 obtain ⟨R,hR⟩:∃ R,R=Lib.indexAny s.data.toList [59,32,9]:=⟨_,rfl⟩
 rw [← hR]
 have HR:=Lib.hid hR
 clear hR
 go_enter Tryz.func86,Tryz.ntmps86
 go_wp2_with (go_at_call 115; refine (Tryz.strings_shouldUseASCIISet _ _).mono ?_; rintro e w' ⟨rfl,hw⟩; rw [hw,h8z])
 go_loopg [9,10] s.size (fun g _ _ wx=>∃ i:Nat,i ≤ s.size∧i + g=s.size∧wx.heap[w.heap.size]?=some (.stringIter s i)∧Ext w wx∧Lib.NoAny s.data.toList [59,32,9] i)
 case atStart=>exact ⟨0,by omega,by omega,World.iter_heap w s 0,(Ext.rfl' w).it12 s 0,Lib.NoAny.zero _ _⟩
 case round =>
  obtain ⟨i,hi,hig,hk,hxx,hno⟩:=hrel
  have HN:=Lib.hid hno
  clear hno
  by_cases hlt:i < s.size
  ·obtain ⟨x,hx⟩:∃ x:UInt8,s.get! i=x:=⟨_,rfl⟩
   have hxl:s.data.toList[i]?=some x:=by
    have h1:i < s.data.size:=hlt
    have h2:s.data.toList[i]?=some (s.data[i]):=by simp [h1]
    rw [h2,← hx]
    exact congrArg some (getElem!_pos s.data i h1).symm
   have hxi:s[i]'hlt=x:=by
    rw [← hx]; exact (get_at s i hlt).symm
   by_cases ha:x.toNat < 128
   ·have hnx:=fun ty=>Lib.run_next_ascii_at (P:=Tryz.prog) _ w.heap.size s i ty hk hlt (by rw [hxi]; exact ha)
    rw [hxi] at hnx
    have hk2:=Lib.iterAt_heap _ w.heap.size s i (i + 1) hk
    have hxm:=Lib.below_iterAt hxx (Nat.le_refl _) s (i + 1)
    have Hx:=Lib.hid hxl
    have hcon:=Lib.contains_iff_indexByte [59,32,9] x
    have IR:=Lib.hid (fun w=>Tryz.strings_IndexRune_ascii ⟨#[59,32,9]⟩ (x.toNat:Int) w (by omega) (by omega))
    obtain ⟨z,hz⟩:∃ z,z=Lib.indexByte [59,32,9] x:=⟨_,rfl⟩
    rw [← hz] at hcon
    have HZ:=Lib.hid (show Lib.indexByte (⟨#[59,32,9]⟩:ByteArray).data.toList ((x.toNat:Int)).toNat.toUInt8=z by rw [hz]; simp)
    clear hxl hx hxi hz
    by_cases hin:([59,32,9]:List UInt8).contains x=true
    ·rw [hin] at hcon
     have hge:(0:Int) ≤ z:=of_decide_eq_true hcon.symm
     have HE:=Lib.hid (show R=(i:Int) by rw [HR.out]; exact Lib.indexAny_hit HN.out Hx.out hin)
     clear hcon hin
     go_wp2_with (go_at_call 114; refine (IR.out _).mono ?_; rintro e w2 ⟨rfl,hw⟩; rw [hw,HZ.out])
     go_ret
     exact ⟨ret_int (by rw [HE.out]),hxm⟩
    ·have hin:([59,32,9]:List UInt8).contains x=false:=by simpa using hin
     rw [hin] at hcon
     have hge:¬ (0:Int) ≤ z:=of_decide_eq_false hcon.symm
     have HI:=Lib.hid hin
     clear hcon hin
     go_wp2_with (go_at_call 114; refine (IR.out _).mono ?_; rintro e w2 ⟨rfl,hw⟩; rw [hw,HZ.out])
     go_roundg (gk - 1)
     case measure=>omega
     case rel=>exact ⟨i + 1,by omega,by omega,hk2,hxm,HN.out.succ Hx.out HI.out⟩
   ·have hd:=dec_hi12 s i hlt (by rw [hx]; omega)
    have hnx:=fun ty=>Lib.run_next_any_at (P:=Tryz.prog) _ w.heap.size s i ty hk hlt
    obtain ⟨rr,hrr⟩:∃ r,r=(Utf8.decode s i).1:=⟨_,rfl⟩
    obtain ⟨nn,hnn⟩:∃ n,n=(Utf8.decode s i).2:=⟨_,rfl⟩
    rw [← hrr,← hnn] at hnx hd
    have hk2:=Lib.iterAt_heap _ w.heap.size s i (i + nn) hk
    have hxm:=Lib.below_iterAt hxx (Nat.le_refl _) s (i + nn)
    have HG:=Lib.hid hd.1
    have hn1:=hd.1.1
    have hn2:=hd.1.2.1
    have hc:=hd.2
    clear hrr hnn hd hx hxl hxi ha
    by_cases h9:rr=65533
    ·subst h9
     clear hc
     go_wp2_with (go_at_call 114; refine (IndexRune_err12 _).mono ?_; rintro e w2 ⟨rfl,hx2⟩)
     go_roundg (gk - nn)
     case measure=>omega
     case rel =>
      refine ⟨i + nn,by omega,by omega,?_,Ext.tr hxm (hx2),noAny_hi12 HN.out HG.out c59⟩
      exact ((hx2).block _ (Array.getElem?_eq_some_iff.1 hk2).1).trans hk2
    ·have hc:=hc.resolve_left h9
     have IR:=Lib.hid (fun w=>IndexRune_hi12 rr hc.1 hc.2 h9 w)
     clear hc h9
     go_wp2_with (go_at_call 114; refine (IR.out _).mono ?_; rintro e w2 ⟨rfl,hx2⟩)
     go_roundg (gk - nn)
     case measure=>omega
     case rel =>
      refine ⟨i + nn,by omega,by omega,?_,Ext.tr hxm (hx2),noAny_hi12 HN.out HG.out c59⟩
      exact ((hx2).block _ (Array.getElem?_eq_some_iff.1 hk2).1).trans hk2
  ·obtain rfl:i=s.size:=by omega
   have hnx:=fun ty=>Lib.run_next_end_at (P:=Tryz.prog) _ w.heap.size s s.size ty hk hlt
   have HE:=Lib.hid (show R=-1 by rw [HR.out]; exact Lib.indexAny_none (by rw [← Lib.size_eq]; exact HN.out))
   go_wp2
   go_ret
   exact ⟨ret_int (by rw [HE.out]),hxx⟩
theorem IndexAny_c12 (r:List UInt8) (hr:r.length ≤ 10000) (w:World) :
  Calls Tryz.prog 86 #[.string (str r),.string ⟨#[59,32,9]⟩] w (Gives (.int .i64 (Lib.indexAny r [59,32,9])) w):=by
 by_cases h8:r.length ≤ 8
 ·exact IndexAny_short12 (str r) (by simpa using h8) w
 ·refine (Tryz.strings_IndexAny_long (zero_of_info (n:=256) (by kernel_rfl)).1 (str r) ⟨#[59,32,9]⟩ w (by decide) (by simp; omega) (by simp; omega) (by decide) (fun j b h=>?_)).mono ?_
  ·have hm:=List.mem_of_getElem? h
   revert hm
   exact (by decide:∀ b ∈ ([59,32,9]:List UInt8),b.toNat < 128) b
  ·rintro e w' ⟨rfl,hw⟩
   exact ⟨rfl,by rw [hw]; exact ((Ext.rfl' w).al _).al _⟩
end Go.Proofs.YthbofilcnpdghaaGreatDoor
