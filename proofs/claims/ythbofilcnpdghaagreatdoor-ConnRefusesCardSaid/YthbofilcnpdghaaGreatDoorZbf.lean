/-
Runes beyond ASCII; the first of two bytes: plain laws. No program in sight.
-/
import Derived.Test.YthbofilcnpdghaaGreatDoorZbe
import Derived.Laws.RangeAny
import Derived.Lib.IndexAny
import Derived.Test.YthbofilcnpdghaaGreatDoorZag
import Derived.Deep.LoopGhost
import Derived.WalkMore
import Derived.Lib.OthersKept
import Derived.Shelf.Strings.IndexAnyAll
set_option maxRecDepth 100000
set_option maxHeartbeats 8000000
set_option linter.unusedVariables false
set_option linter.unusedSimpArgs false
section
namespace Go.Proofs.YthbofilcnpdghaaGreatDoor
open Go.RowKit
theorem get_of (s:ByteArray) (p:Nat) (b:UInt8) (h:s.data.toList[p]?=some b):s.get! p=b:=by
 have hp:p < s.data.size:=by
  rcases Nat.lt_or_ge p s.data.size with h1 | h1
  ·exact h1
  ·rw [List.getElem?_eq_none (by simpa using h1)] at h; cases h
 have:s.data.toList[p]?=some (s.data[p]):=by simp
 rw [this] at h
 have hb:=Option.some.inj h
 show s.data[p]! =b
 rw [← hb]
 exact getElem!_pos s.data p hp
def hiG (s:ByteArray) (pos n:Nat):Prop:=pos + n ≤ s.size∧1 ≤ n∧∀ k,k < n → 128 ≤ (s.get! (pos + k)).toNat
theorem dec_hi (s:ByteArray) (pos:Nat) (h:pos < s.size) (ha:128 ≤ (s.get! pos).toNat) :
  hiG s pos (Utf8.decode s pos).2∧((Utf8.decode s pos).1=65533 ∨ (128 ≤ (Utf8.decode s pos).1∧Utf8.valid (Utf8.decode s pos).1=true)):=by
 have one:hiG s pos 1:=⟨by omega,Nat.le_refl _,fun k hk=>by obtain rfl:k=0:=(by omega); exact ha⟩
 have hb:∀ k,(s.get! (pos + k)).toNat < 256:=fun k=>(s.get! (pos + k)).toNat_lt
 have h0:=hb 0; have h1:=hb 1; have h2:=hb 2; have h3:=hb 3
 have hn:¬ (s.get! (pos + 0)).toNat < 128:=by rw [Nat.add_zero]; omega
 have ha0:128 ≤ (s.get! (pos + 0)).toNat:=by omega
 simp only [Utf8.decode,hn,if_false]
 obtain ⟨x0,e0⟩:∃ x,(s.get! (pos + 0)).toNat=x:=⟨_,rfl⟩
 obtain ⟨x1,e1⟩:∃ x,(s.get! (pos + 1)).toNat=x:=⟨_,rfl⟩
 obtain ⟨x2,e2⟩:∃ x,(s.get! (pos + 2)).toNat=x:=⟨_,rfl⟩
 obtain ⟨x3,e3⟩:∃ x,(s.get! (pos + 3)).toNat=x:=⟨_,rfl⟩
 rw [e0] at h0 hn ha0; rw [e1] at h1; rw [e2] at h2; rw [e3] at h3
 simp only [e0,e1,e2,e3]
 split
 ·rename_i hc
  simp only [Bool.and_eq_true,beq_iff_eq,decide_eq_true_eq] at hc
  split
  ·refine ⟨⟨by omega,by omega,fun k hk=>?_⟩,.inr ⟨by omega,?_⟩⟩
   ·have:k=0 ∨ k=1:=by omega
    rcases this with rfl | rfl <;> omega
   ·simp only [Utf8.valid,Bool.or_eq_true,Bool.and_eq_true,decide_eq_true_eq]; omega
  ·exact ⟨one,.inl rfl⟩
 ·split
  ·rename_i hc
   simp only [Bool.and_eq_true,beq_iff_eq,decide_eq_true_eq] at hc
   split
   ·rename_i hv
    simp only [Bool.and_eq_true,decide_eq_true_eq] at hv
    refine ⟨⟨by omega,by omega,fun k hk=>?_⟩,.inr ⟨by omega,hv.2⟩⟩
    have:k=0 ∨ k=1 ∨ k=2:=by omega
    rcases this with rfl | rfl | rfl <;> omega
   ·exact ⟨one,.inl rfl⟩
  ·split
   ·rename_i hc
    simp only [Bool.and_eq_true,beq_iff_eq,decide_eq_true_eq] at hc
    split
    ·rename_i hv
     simp only [Bool.and_eq_true,decide_eq_true_eq] at hv
     refine ⟨⟨by omega,by omega,fun k hk=>?_⟩,.inr ⟨by omega,hv.2⟩⟩
     have:k=0 ∨ k=1 ∨ k=2 ∨ k=3:=by omega
     rcases this with rfl | rfl | rfl | rfl <;> omega
    ·exact ⟨one,.inl rfl⟩
   ·exact ⟨one,.inl rfl⟩
theorem enc_hi (r:Nat) (h:128 ≤ r) (hv:Utf8.valid (r:Int)=true) :
  ∃ l:List UInt8,Utf8.encode (r:Int)=⟨l.toArray⟩∧2 ≤ l.length∧l.length ≤ 4∧∀ b ∈ l,128 ≤ b.toNat:=by
 have hr:r ≤ 1114111:=by
  simp only [Utf8.valid,Bool.or_eq_true,Bool.and_eq_true,decide_eq_true_eq] at hv; omega
 have hn:¬ r < 128:=by omega
 simp only [Utf8.encode,hv,if_true,Int.toNat_natCast,hn,if_false]
 split
 ·refine ⟨[_,_],rfl,by simp,by simp,?_⟩
  intro b hb
  simp only [List.mem_cons,List.mem_nil_iff,or_false] at hb
  rcases hb with rfl | rfl <;> (rw [UInt8.toNat_ofNat']; omega)
 ·split
  ·refine ⟨[_,_,_],rfl,by simp,by simp,?_⟩
   intro b hb
   simp only [List.mem_cons,List.mem_nil_iff,or_false] at hb
   rcases hb with rfl | rfl | rfl <;> (rw [UInt8.toNat_ofNat']; omega)
  ·refine ⟨[_,_,_,_],rfl,by simp,by simp,?_⟩
   intro b hb
   simp only [List.mem_cons,List.mem_nil_iff,or_false] at hb
   rcases hb with rfl | rfl | rfl | rfl <;> (rw [UInt8.toNat_ofNat']; omega)
theorem noAny_hi {s:ByteArray} {c:List UInt8} {pos n:Nat} (h:Lib.NoAny s.data.toList c pos) (hn:hiG s pos n) (hc:∀ b:UInt8,128 ≤ b.toNat → c.contains b=false):Lib.NoAny s.data.toList c (pos + n):=by
 intro j b hj hb
 rcases Nat.lt_or_ge j pos with h1 | h1
 ·exact h j b h1 hb
 ·have h2:=hn.2.2 (j - pos) (by omega)
  rw [show pos + (j - pos)=j by omega,get_of s j b hb] at h2
  exact hc b h2
theorem c47:∀ b:UInt8,128 ≤ b.toNat → ([47,63]:List UInt8).contains b=false:=fun b h=>by
 rw [List.contains_eq_any_beq]
 simp only [List.any_cons,List.any_nil,Bool.or_false,Bool.or_eq_false_iff,beq_eq_false_iff_ne]
 exact ⟨fun e=>by rw [e] at h; exact absurd h (by decide),fun e=>by rw [e] at h; exact absurd h (by decide)⟩
theorem aut_c (b:UInt8):([47,63]:List UInt8).contains b=!autB b:=by
 unfold autB
 rw [List.contains_eq_any_beq]
 simp
theorem ia_auth (r:List UInt8):Lib.indexAny r [47,63]=if authL r < r.length then (authL r:Int) else -1:=by
 have hle:(r.takeWhile autB).length ≤ r.length:=tw_len autB r
 have hno:Lib.NoAny r [47,63] (r.takeWhile autB).length:=by
  intro j b hj hb
  have h1:(r.takeWhile autB)[j]?=some b:=by
   rw [← tw_take autB r,List.getElem?_take,if_pos hj]; exact hb
  have h2:=List.all_eq_true.1 (tw_all autB r) b (List.mem_of_getElem? h1)
  rw [aut_c,h2]; rfl
 show _=if (r.takeWhile autB).length < r.length then ((r.takeWhile autB).length:Int) else -1
 split
 ·rename_i hlt
  have h1:=tw_stop autB r hlt
  exact Lib.indexAny_hit hno (List.getElem?_eq_getElem hlt) (by rw [aut_c,h1]; rfl)
 ·rename_i hlt
  have he:(r.takeWhile autB).length=r.length:=by omega
  rw [he] at hno
  exact Lib.indexAny_none hno
end Go.Proofs.YthbofilcnpdghaaGreatDoor
end
section
namespace Go.Proofs.YthbofilcnpdghaaGreatDoor
open Go.RowKit
theorem Ext.it {a b:World} (h:Ext a b) (s:ByteArray) (p:Nat):Ext a (b.iter s p):=h.al _
theorem IndexRune_err (w:World) :
  Calls Tryz.prog 114 #[.string ⟨#[47,63]⟩,.int .i32 65533] w fun e w'=>e=.returned (.int .i64 (-1))∧Ext w w':=by
 obtain ⟨s,hs⟩:∃ s:ByteArray,s=⟨#[47,63]⟩:=⟨_,rfl⟩
 have h2:s.size=2:=by rw [hs]; rfl
 have HS:=Lib.hid (show ∀ i (h:i < s.size),(s[i]'h).toNat=47 ∨ (s[i]'h).toNat=63 by
  subst hs
  intro i h
  have:i=0 ∨ i=1:=by have:i < 2:=h; omega
  rcases this with rfl | rfl
  ·exact .inl rfl
  ·exact .inr rfl)
 rw [← hs]
 clear hs
 go_enter Tryz.func114,Tryz.ntmps114
 go_wp2
 go_loopg [176,177] s.size (fun g _ _ wx=>∃ i:Nat,i + g=s.size∧wx=w.iter s i)
 case atStart=>exact ⟨0,by omega,rfl⟩
 case round =>
  obtain ⟨i,hig,rfl⟩:=hrel
  cases gk with
  | zero =>
   obtain rfl:i=2:=by omega
   have hnx:=fun ty=>run_next_end (P:=Tryz.prog) w s 2 ty (by omega)
   go_wp2
   go_ret
   exact ⟨rfl,(Ext.rfl' w).it _ _⟩
  | succ g =>
   have hi:i < s.size:=by omega
   have hx:=HS.out i hi
   obtain ⟨x,hx0⟩:∃ x:Int,x=((s[i]'hi).toNat:Int):=⟨_,rfl⟩
   have hnx:=fun ty=>run_next_ascii (P:=Tryz.prog) w s i ty hi (by omega)
   rw [← hx0] at hnx
   have hne:(x == 65533)=false:=by rw [beq_eq_false_iff_ne]; omega
   clear hx hx0
   go_wp2
   go_roundg g
   case measure=>omega
   case rel=>exact ⟨i + 1,by omega,rfl⟩
theorem ValidRune_yes (r:Nat) (hv:Utf8.valid (r:Int)=true) (w:World) :
  Calls Tryz.prog 143 #[.int .i32 (r:Int)] w fun e w'=>e=.returned (.bool true)∧w=w':=by
 have h:r < 55296 ∨ (57343 < r∧r ≤ 1114111):=by
  simp only [Utf8.valid,Bool.or_eq_true,Bool.and_eq_true,decide_eq_true_eq] at hv; omega
 clear hv
 rcases h with h | ⟨h1,h2⟩
 ·have c1:(r:Int) < 55296:=by omega
  go_enter Tryz.func143,Tryz.ntmps143
  go_wp2
  go_ret
  exact ⟨rfl,rfl⟩
 ·have c1:¬ (r:Int) < 55296:=by omega
  have c2:(57343:Int) < (r:Int):=by omega
  have c3:(r:Int) ≤ 1114111:=by omega
  go_enter Tryz.func143,Tryz.ntmps143
  go_wp2
  go_ret
  exact ⟨rfl,rfl⟩
theorem IndexRune_hi (r:Nat) (h:128 ≤ r) (hv:Utf8.valid (r:Int)=true) (h9:r ≠ 65533) (w:World) :
  Calls Tryz.prog 114 #[.string ⟨#[47,63]⟩,.int .i32 (r:Int)] w fun e w'=>e=.returned (.int .i64 (-1))∧Ext w w':=by
 obtain ⟨l,hl,l2,l4,lall⟩:=enc_hi r h hv
 have HV:=Lib.hid (fun w=>ValidRune_yes r hv w)
 have IB:=Lib.hid (fun (k:Int) (w:World)=>IndexByteS_c [] k (-1) rfl w)
 have c1:(0:Int) ≤ (r:Int):=by omega
 have c2:¬ (r:Int) < 128:=by omega
 have c3:((r:Int) == 65533)=false:=by rw [beq_eq_false_iff_ne]; omega
 have x1:ByteArray.extract ⟨#[47,63]⟩ 2 2=⟨#[]⟩:=by decide
 have hcv:∀ w,(convert 21 9 (.int .i32 (r:Int))).run Tryz.prog w=.ok (.string ⟨l.toArray⟩) w:=fun w=>by
  rw [← hl]; exact run_convert_int_string w _ _ _ _ (by kernel_rfl) (by kernel_rfl)
 clear hv h h9 hl
 match l,l2,l4,lall with
 | [a,b],_,_,lall =>
  have hb:=lall b (by simp)
  have c5:((63:Int) != (b.toNat:Int))=true:=by rw [bne_iff_ne]; omega
  have c4:((((⟨#[47,63]⟩:ByteArray)[1]'(by decide)).toNat:Int) != (((⟨#[a,b]⟩:ByteArray)[1]'(Nat.lt_succ_self 1)).toNat:Int))=true:=c5
  clear c5
  clear lall hb
  go_enter Tryz.func114,Tryz.ntmps114
  go_wp2_with (first
   | (go_at_call 143; refine (HV.out _).mono ?_; rintro e w1 ⟨rfl,rfl⟩))
  go_step3
  go_wp2
  go_loopw [9] (fun i wr=>i=.int .i64 1∧w=wr) (fun i _=>0)
  case atStart=>exact ⟨rfl,rfl⟩
  case round =>
   obtain ⟨rfl,rfl⟩:=hrel
   go_wp2
   (go_step3; go_wp2; go_quiet (fail); go_wp2; go_region_with (go_at_call 109; refine (IB.out _ _).mono ?_; rintro e w1 ⟨rfl,rfl⟩); go_wp2)
   all_goals (
    first | (go_ret; exact ⟨rfl,by (repeat first | exact Ex0 | assumption | refine Ex1 ?_ | refine Ex2 ?_ | refine Ex3 ?_ | refine Ex4 ?_ | refine Ex5 ?_)⟩) | (simp (zetaDelta:=true) only [Exit.noGoto_ret,Exit.inBlock,Exit.then]; go_ret; exact ⟨rfl,by (repeat first | exact Ex0 | assumption | refine Ex1 ?_ | refine Ex2 ?_ | refine Ex3 ?_ | refine Ex4 ?_ | refine Ex5 ?_)⟩))
 | [a,b,c],_,_,lall =>
  clear lall
  go_enter Tryz.func114,Tryz.ntmps114
  go_wp2_with (first
   | (go_at_call 143; refine (HV.out _).mono ?_; rintro e w1 ⟨rfl,rfl⟩))
  go_step3
  go_wp2
  go_loopw [9] (fun i wr=>i=.int .i64 2∧w=wr) (fun i _=>0)
  case atStart=>exact ⟨rfl,rfl⟩
  case round =>
   obtain ⟨rfl,rfl⟩:=hrel
   go_wp2
   skip
   all_goals (
    first | (go_ret; exact ⟨rfl,by (repeat first | exact Ex0 | assumption | refine Ex1 ?_ | refine Ex2 ?_ | refine Ex3 ?_ | refine Ex4 ?_ | refine Ex5 ?_)⟩) | (simp (zetaDelta:=true) only [Exit.noGoto_ret,Exit.inBlock,Exit.then]; go_ret; exact ⟨rfl,by (repeat first | exact Ex0 | assumption | refine Ex1 ?_ | refine Ex2 ?_ | refine Ex3 ?_ | refine Ex4 ?_ | refine Ex5 ?_)⟩))
 | [a,b,c,d],_,_,lall =>
  clear lall
  go_enter Tryz.func114,Tryz.ntmps114
  go_wp2_with (first
   | (go_at_call 143; refine (HV.out _).mono ?_; rintro e w1 ⟨rfl,rfl⟩))
  go_step3
  go_wp2
  go_loopw [9] (fun i wr=>i=.int .i64 3∧w=wr) (fun i _=>0)
  case atStart=>exact ⟨rfl,rfl⟩
  case round =>
   obtain ⟨rfl,rfl⟩:=hrel
   go_wp2
   skip
   all_goals (
    first | (go_ret; exact ⟨rfl,by (repeat first | exact Ex0 | assumption | refine Ex1 ?_ | refine Ex2 ?_ | refine Ex3 ?_ | refine Ex4 ?_ | refine Ex5 ?_)⟩) | (simp (zetaDelta:=true) only [Exit.noGoto_ret,Exit.inBlock,Exit.then]; go_ret; exact ⟨rfl,by (repeat first | exact Ex0 | assumption | refine Ex1 ?_ | refine Ex2 ?_ | refine Ex3 ?_ | refine Ex4 ?_ | refine Ex5 ?_)⟩))
theorem IndexAny_short (s:ByteArray) (hr:s.size ≤ 8) (w:World) :
  Calls Tryz.prog 86 #[.string s,.string ⟨#[47,63]⟩] w (Gives (.int .i64 (Lib.indexAny s.data.toList [47,63])) w):=by
 have h8z:decide ((8:Int) < (s.size:Int))=false:=decide_eq_false (by omega)
 obtain ⟨R,hR⟩:∃ R,R=Lib.indexAny s.data.toList [47,63]:=⟨_,rfl⟩
 rw [← hR]
 have HR:=Lib.hid hR
 clear hR
 go_enter Tryz.func86,Tryz.ntmps86
 go_wp2_with (go_at_call 115; refine (Tryz.strings_shouldUseASCIISet _ _).mono ?_; rintro e w' ⟨rfl,hw⟩; rw [hw,h8z])
 go_loopg [9,10] s.size (fun g _ _ wx=>∃ i:Nat,i ≤ s.size∧i + g=s.size∧wx.heap[w.heap.size]?=some (.stringIter s i)∧Ext w wx∧Lib.NoAny s.data.toList [47,63] i)
 case atStart=>exact ⟨0,by omega,by omega,World.iter_heap w s 0,(Ext.rfl' w).it s 0,Lib.NoAny.zero _ _⟩
 case round =>
  obtain ⟨i,hi,hig,hk,hxx,hno⟩:=hrel
  have HN:=Lib.hid hno
  clear hno
  by_cases hlt:i < s.size
  ·obtain ⟨x,hx⟩:∃ x:UInt8,s.get! i=x:=⟨_,rfl⟩
   have hxl:s.data.toList[i]?=some x:=by
    have h1:i < s.data.size:=hlt
    have h2:s.data.toList[i]?=some (s.data[i]):=by simp [h1]
    rw [h2,← hx]
    exact congrArg some (getElem!_pos s.data i h1).symm
   have hxi:s[i]'hlt=x:=by
    rw [← hx]; exact (get_at s i hlt).symm
   by_cases ha:x.toNat < 128
   ·have hnx:=fun ty=>Lib.run_next_ascii_at (P:=Tryz.prog) _ w.heap.size s i ty hk hlt (by rw [hxi]; exact ha)
    rw [hxi] at hnx
    have hk2:=Lib.iterAt_heap _ w.heap.size s i (i + 1) hk
    have hxm:=Lib.below_iterAt hxx (Nat.le_refl _) s (i + 1)
    have Hx:=Lib.hid hxl
    have hcon:=Lib.contains_iff_indexByte [47,63] x
    have IR:=Lib.hid (fun w=>Tryz.strings_IndexRune_ascii ⟨#[47,63]⟩ (x.toNat:Int) w (by omega) (by omega))
    obtain ⟨z,hz⟩:∃ z,z=Lib.indexByte [47,63] x:=⟨_,rfl⟩
    rw [← hz] at hcon
    have HZ:=Lib.hid (show Lib.indexByte (⟨#[47,63]⟩:ByteArray).data.toList ((x.toNat:Int)).toNat.toUInt8=z by rw [hz]; simp)
    clear hxl hx hxi hz
    by_cases hin:([47,63]:List UInt8).contains x=true
    ·rw [hin] at hcon
     have hge:(0:Int) ≤ z:=of_decide_eq_true hcon.symm
     have HE:=Lib.hid (show R=(i:Int) by rw [HR.out]; exact Lib.indexAny_hit HN.out Hx.out hin)
     clear hcon hin
     go_wp2_with (go_at_call 114; refine (IR.out _).mono ?_; rintro e w2 ⟨rfl,hw⟩; rw [hw,HZ.out])
     go_ret
     exact ⟨ret_int (by rw [HE.out]),hxm⟩
    ·have hin:([47,63]:List UInt8).contains x=false:=by simpa using hin
     rw [hin] at hcon
     have hge:¬ (0:Int) ≤ z:=of_decide_eq_false hcon.symm
     have HI:=Lib.hid hin
     clear hcon hin
     go_wp2_with (go_at_call 114; refine (IR.out _).mono ?_; rintro e w2 ⟨rfl,hw⟩; rw [hw,HZ.out])
     go_roundg (gk - 1)
     case measure=>omega
     case rel=>exact ⟨i + 1,by omega,by omega,hk2,hxm,HN.out.succ Hx.out HI.out⟩
   ·have hd:=dec_hi s i hlt (by rw [hx]; omega)
    have hnx:=fun ty=>Lib.run_next_any_at (P:=Tryz.prog) _ w.heap.size s i ty hk hlt
    obtain ⟨rr,hrr⟩:∃ r,r=(Utf8.decode s i).1:=⟨_,rfl⟩
    obtain ⟨nn,hnn⟩:∃ n,n=(Utf8.decode s i).2:=⟨_,rfl⟩
    rw [← hrr,← hnn] at hnx hd
    have hk2:=Lib.iterAt_heap _ w.heap.size s i (i + nn) hk
    have hxm:=Lib.below_iterAt hxx (Nat.le_refl _) s (i + nn)
    have HG:=Lib.hid hd.1
    have hn1:=hd.1.1
    have hn2:=hd.1.2.1
    have hc:=hd.2
    clear hrr hnn hd hx hxl hxi ha
    by_cases h9:rr=65533
    ·subst h9
     clear hc
     go_wp2_with (go_at_call 114; refine (IndexRune_err _).mono ?_; rintro e w2 ⟨rfl,hx2⟩)
     go_roundg (gk - nn)
     case measure=>omega
     case rel =>
      refine ⟨i + nn,by omega,by omega,?_,Ext.tr hxm (hx2),noAny_hi HN.out HG.out c47⟩
      exact ((hx2).block _ (Array.getElem?_eq_some_iff.1 hk2).1).trans hk2
    ·have hc:=hc.resolve_left h9
     have IR:=Lib.hid (fun w=>IndexRune_hi rr hc.1 hc.2 h9 w)
     clear hc h9
     go_wp2_with (go_at_call 114; refine (IR.out _).mono ?_; rintro e w2 ⟨rfl,hx2⟩)
     go_roundg (gk - nn)
     case measure=>omega
     case rel =>
      refine ⟨i + nn,by omega,by omega,?_,Ext.tr hxm (hx2),noAny_hi HN.out HG.out c47⟩
      exact ((hx2).block _ (Array.getElem?_eq_some_iff.1 hk2).1).trans hk2
  ·obtain rfl:i=s.size:=by omega
   have hnx:=fun ty=>Lib.run_next_end_at (P:=Tryz.prog) _ w.heap.size s s.size ty hk hlt
   have HE:=Lib.hid (show R=-1 by rw [HR.out]; exact Lib.indexAny_none (by rw [← Lib.size_eq]; exact HN.out))
   go_wp2
   go_ret
   exact ⟨ret_int (by rw [HE.out]),hxx⟩
theorem IndexAny_c (r:List UInt8) (hr:r.length ≤ 8192) (w:World) :
  Calls Tryz.prog 86 #[.string (str r),.string ⟨#[47,63]⟩] w (Gives (.int .i64 (Lib.indexAny r [47,63])) w):=by
 by_cases h8:r.length ≤ 8
 ·exact IndexAny_short (str r) (by simpa using h8) w
 ·refine (Tryz.strings_IndexAny_long (zero_of_info (n:=256) (by kernel_rfl)).1 (str r) ⟨#[47,63]⟩ w (by decide) (by simp; omega) (by simp; omega) (by decide) (fun j b h=>?_)).mono ?_
  ·have hm:=List.mem_of_getElem? h
   revert hm
   exact (by decide:∀ b ∈ ([47,63]:List UInt8),b.toNat < 128) b
  ·rintro e w' ⟨rfl,hw⟩
   exact ⟨rfl,by rw [hw]; exact ((Ext.rfl' w).al _).al _⟩
end Go.Proofs.YthbofilcnpdghaaGreatDoor
end
section
namespace Go.Proofs.YthbofilcnpdghaaGreatDoor
open Go.RowKit
theorem two_p (w:World) (o1 o2:Obj):((w.alloc o1).alloc o2).heap[w.heap.size]?=some o1:=(two w o1 o2).1
theorem three_m (w:World) (o1 o2 o3:Obj):(((w.alloc o1).alloc o2).alloc o3).heap[w.heap.size + 1]?=some o2:=by
 rw [Below.heap_alloc _ _ _ (by simp)]; exact (two w o1 o2).2
theorem uParse_long (m l:List UInt8) (h:8192 < l.length) (w:World) :
  Calls Tryz.prog 59 #[.string (str m),.string (str l)] w (Gives (tgtV badT) w):=by
 have d1:decide ((8192:Int) < (l.length:Int))=true:=by rw [decide_eq_true_eq]; omega
 clear h
 go_enter Tryz.func59,Tryz.ntmps59
 go_wp2
 obtain ⟨w1,hW1⟩:∃ w1,w1=(w.alloc (.cells #[.int .i64 0,.string ⟨#[]⟩,.int .i64 0,.string ⟨#[]⟩,.string ⟨#[]⟩,.bool false] 107)).alloc (.cells #[.int .i64 0,.string ⟨#[]⟩,.int .i64 0,.string ⟨#[]⟩,.string ⟨#[]⟩,.bool false] 107):=⟨_,rfl⟩
 rw [← hW1]
 have HB:=Lib.hid (show w1.heap[w.heap.size]?=some (.cells #[.int .i64 0,.string ⟨#[]⟩,.int .i64 0,.string ⟨#[]⟩,.string ⟨#[]⟩,.bool false] 107 (0,0)) by rw [hW1]; exact two_p w _ _)
 have hw1:Ext w w1:=by rw [hW1]; (repeat first | exact Ex0 | assumption | refine Ex1 ?_ | refine Ex2 ?_ | refine Ex3 ?_ | refine Ex4 ?_ | refine Ex5 ?_)
 clear hW1
 obtain ⟨⟨r0,r1,r2,r3,r4,r5⟩,_⟩:=six HB.out (Ext.rfl' _)
 exact bodyPost_ret (v:=tgtV badT) (by simp [results,Tryz.results59,go_sem,tgtV,badT,str,r0,r1,r2,r3,r4,r5]) rfl ⟨rfl,hw1⟩
theorem uParse_nil (m:List UInt8) (w:World) :
  Calls Tryz.prog 59 #[.string (str m),.string (str [])] w (Gives (tgtV badT) w):=by
 rw [show str ([]:List UInt8)=⟨#[]⟩ from rfl]
 go_enter Tryz.func59,Tryz.ntmps59
 go_wp2
 obtain ⟨w1,hW1⟩:∃ w1,w1=(w.alloc (.cells #[.int .i64 0,.string ⟨#[]⟩,.int .i64 0,.string ⟨#[]⟩,.string ⟨#[]⟩,.bool false] 107)).alloc (.cells #[.int .i64 0,.string ⟨#[]⟩,.int .i64 0,.string ⟨#[]⟩,.string ⟨#[]⟩,.bool false] 107):=⟨_,rfl⟩
 rw [← hW1]
 have HB:=Lib.hid (show w1.heap[w.heap.size]?=some (.cells #[.int .i64 0,.string ⟨#[]⟩,.int .i64 0,.string ⟨#[]⟩,.string ⟨#[]⟩,.bool false] 107 (0,0)) by rw [hW1]; exact two_p w _ _)
 have hw1:Ext w w1:=by rw [hW1]; (repeat first | exact Ex0 | assumption | refine Ex1 ?_ | refine Ex2 ?_ | refine Ex3 ?_ | refine Ex4 ?_ | refine Ex5 ?_)
 clear hW1
 obtain ⟨⟨r0,r1,r2,r3,r4,r5⟩,_⟩:=six HB.out (Ext.rfl' _)
 exact bodyPost_ret (v:=tgtV badT) (by simp [results,Tryz.results59,go_sem,tgtV,badT,str,r0,r1,r2,r3,r4,r5]) rfl ⟨rfl,hw1⟩
theorem uParse_con (l:List UInt8) (h1:l ≠ []) (h2:l.length ≤ 8192) (w:World) (hE:ErrR w) :
  Calls Tryz.prog 59 #[.string (str conL),.string (str l)] w (Gives (tgtV (if (hostL l).2.2=0∧0 ≤ (hostL l).2.1 then ((3,(hostL l).1,(hostL l).2.1,[],[],false),0) else badT)) w):=by
 have d1:decide ((8192:Int) < (l.length:Int))=false:=by rw [decide_eq_false_iff_not]; omega
 have e1:l.isEmpty=false:=by rw [List.isEmpty_eq_false_iff]; exact h1
 have e2:(str l).toList.isEmpty=false:=by rw [Lib.toList_data]; exact e1
 have C:=fun w hE=>uHost_c l (by omega) w hE
 unfold hostV at C
 obtain ⟨H,hH⟩:∃ H,H=(hostL l).1:=⟨_,rfl⟩
 obtain ⟨p,hp⟩:∃ p,p=(hostL l).2.1:=⟨_,rfl⟩
 obtain ⟨e,he⟩:∃ e,e=(hostL l).2.2:=⟨_,rfl⟩
 rw [← hH,← hp,← he] at C ⊢
 have C:=Lib.hid C
 have HE:=Lib.hid hE
 rw [show str conL=⟨#[67,79,78,78,69,67,84]⟩ from rfl]
 clear hH hp he h2 hE
 by_cases c1:e=0
 ·subst c1
  by_cases c2:0 ≤ p
  ·have d2:decide (p < 0)=false:=by rw [decide_eq_false_iff_not]; omega
   rw [if_pos ⟨rfl,c2⟩]
   go_enter Tryz.func59,Tryz.ntmps59
   go_wp2_with (go_at_call 85; refine (C.out _ (HE.out.ext (by (repeat first | exact Ex0 | assumption | refine Ex1 ?_ | refine Ex2 ?_ | refine Ex3 ?_ | refine Ex4 ?_ | refine Ex5 ?_)))).mono ?_; rintro e w1 ⟨rfl,hx1⟩; have hq:Ext (((w.alloc (.cells #[.int .i64 0,.string ⟨#[]⟩,.int .i64 0,.string ⟨#[]⟩,.string ⟨#[]⟩,.bool false] 107)).alloc (.cells #[.int .i64 0,.string ⟨#[]⟩,.int .i64 0,.string ⟨#[]⟩,.string ⟨#[]⟩,.bool false] 107)).alloc (.cells #[.int .i64 1,.string ⟨#[]⟩,.int .i64 (-1),.string ⟨#[]⟩,.string ⟨#[]⟩,.bool false] 107)) w1:=(by (repeat first | exact Ex0 | assumption | refine Ex1 ?_ | refine Ex2 ?_ | refine Ex3 ?_ | refine Ex4 ?_ | refine Ex5 ?_)); have HB:=Lib.hid ((hq.block w.heap.size (by first | (simp; done) | (simp; omega))).trans (three w _ _ _).1); have HN:=Lib.hid ((hq.block (w.heap.size + 1) (by first | (simp; done) | (simp; omega))).trans (three_m w _ _ _)); have HT:=Lib.hid ((hq.block (w.heap.size + 1 + 1) (by simp)).trans (three w _ _ _).2); have hw1:Ext w w1:=(by (repeat first | exact Ex0 | assumption | refine Ex1 ?_ | refine Ex2 ?_ | refine Ex3 ?_ | refine Ex4 ?_ | refine Ex5 ?_)); clear hq; obtain ⟨⟨r0,r1,r2,r3,r4,r5⟩,f0,f1,f2,f3,f4,f5⟩:=six HB.out (Ext.rfl' _); obtain ⟨⟨n0,n1,n2,n3,n4,n5⟩,m0,m1,m2,m3,m4,m5⟩:=six HN.out (Ext.rfl' _); obtain ⟨⟨t0,t1,t2,t3,t4,t5⟩,g0,g1,g2,g3,g4,g5⟩:=six HT.out (Ext.rfl' _))
   clear r0 r1 r2 r3 r4 r5 f0 f1 f2 f3 f4 f5 n0 n1 n2 n3 n4 n5 m0 m1 m2 m3 m4 m5 t0 t1 t2 t3 t4 t5 g0 g1 g2 g3 g4 g5
   have hx9:Ext w _:=ext6 hw1 (.int .i64 3) (.string (str H)) (.int .i64 p) (.string (str [])) (.string (str [])) (.bool false)
   have hp9:=put6 HB.out (.int .i64 3) (.string (str H)) (.int .i64 p) (.string (str [])) (.string (str [])) (.bool false)
   obtain ⟨W9,hW9⟩:∃ W9,W9=((((((w1.setCell ⟨w.heap.size,0,none⟩ (.int .i64 3)).setCell ⟨w.heap.size,1,none⟩ (.string (str H))).setCell ⟨w.heap.size,2,none⟩ (.int .i64 p)).setCell ⟨w.heap.size,3,none⟩ (.string (str []))).setCell ⟨w.heap.size,4,none⟩ (.string (str []))).setCell ⟨w.heap.size,5,none⟩ (.bool false)):=⟨_,rfl⟩
   rw [← hW9] at hx9 hp9
   try simp only [show str ([]:List UInt8)=⟨#[]⟩ from rfl,show str ([47]:List UInt8)=⟨#[47]⟩ from rfl] at hW9
   rw [← hW9]
   clear hW9
   obtain ⟨⟨r0,r1,r2,r3,r4,r5⟩,_⟩:=six hp9 (Ext.rfl' _)
   exact bodyPost_ret (v:=tgtV ((3,H,p,[],[],false),0)) (by simp [results,Tryz.results59,go_sem,tgtV,r0,r1,r2,r3,r4,r5]) rfl ⟨by first | rfl | exact ret_val (by rw [HV.out]; try rfl),hx9⟩
  ·have d2:decide (p < 0)=true:=by rw [decide_eq_true_eq]; omega
   rw [if_neg (fun h=>c2 h.2)]
   go_enter Tryz.func59,Tryz.ntmps59
   go_wp2_with (go_at_call 85; refine (C.out _ (HE.out.ext (by (repeat first | exact Ex0 | assumption | refine Ex1 ?_ | refine Ex2 ?_ | refine Ex3 ?_ | refine Ex4 ?_ | refine Ex5 ?_)))).mono ?_; rintro e w1 ⟨rfl,hx1⟩; have hq:Ext (((w.alloc (.cells #[.int .i64 0,.string ⟨#[]⟩,.int .i64 0,.string ⟨#[]⟩,.string ⟨#[]⟩,.bool false] 107)).alloc (.cells #[.int .i64 0,.string ⟨#[]⟩,.int .i64 0,.string ⟨#[]⟩,.string ⟨#[]⟩,.bool false] 107)).alloc (.cells #[.int .i64 1,.string ⟨#[]⟩,.int .i64 (-1),.string ⟨#[]⟩,.string ⟨#[]⟩,.bool false] 107)) w1:=(by (repeat first | exact Ex0 | assumption | refine Ex1 ?_ | refine Ex2 ?_ | refine Ex3 ?_ | refine Ex4 ?_ | refine Ex5 ?_)); have HB:=Lib.hid ((hq.block w.heap.size (by first | (simp; done) | (simp; omega))).trans (three w _ _ _).1); have HN:=Lib.hid ((hq.block (w.heap.size + 1) (by first | (simp; done) | (simp; omega))).trans (three_m w _ _ _)); have HT:=Lib.hid ((hq.block (w.heap.size + 1 + 1) (by simp)).trans (three w _ _ _).2); have hw1:Ext w w1:=(by (repeat first | exact Ex0 | assumption | refine Ex1 ?_ | refine Ex2 ?_ | refine Ex3 ?_ | refine Ex4 ?_ | refine Ex5 ?_)); clear hq; obtain ⟨⟨r0,r1,r2,r3,r4,r5⟩,f0,f1,f2,f3,f4,f5⟩:=six HB.out (Ext.rfl' _); obtain ⟨⟨n0,n1,n2,n3,n4,n5⟩,m0,m1,m2,m3,m4,m5⟩:=six HN.out (Ext.rfl' _); obtain ⟨⟨t0,t1,t2,t3,t4,t5⟩,g0,g1,g2,g3,g4,g5⟩:=six HT.out (Ext.rfl' _))
   clear r0 r1 r2 r3 r4 r5 f0 f1 f2 f3 f4 f5 n0 n1 n2 n3 n4 n5 m0 m1 m2 m3 m4 m5 t0 t1 t2 t3 t4 t5 g0 g1 g2 g3 g4 g5
   have hx9:Ext w _:=ext6 hw1 (.int .i64 0) (.string (str [])) (.int .i64 0) (.string (str [])) (.string (str [])) (.bool false)
   have hp9:=put6 HB.out (.int .i64 0) (.string (str [])) (.int .i64 0) (.string (str [])) (.string (str [])) (.bool false)
   obtain ⟨W9,hW9⟩:∃ W9,W9=((((((w1.setCell ⟨w.heap.size,0,none⟩ (.int .i64 0)).setCell ⟨w.heap.size,1,none⟩ (.string (str []))).setCell ⟨w.heap.size,2,none⟩ (.int .i64 0)).setCell ⟨w.heap.size,3,none⟩ (.string (str []))).setCell ⟨w.heap.size,4,none⟩ (.string (str []))).setCell ⟨w.heap.size,5,none⟩ (.bool false)):=⟨_,rfl⟩
   rw [← hW9] at hx9 hp9
   try simp only [show str ([]:List UInt8)=⟨#[]⟩ from rfl,show str ([47]:List UInt8)=⟨#[47]⟩ from rfl] at hW9
   rw [← hW9]
   clear hW9
   obtain ⟨⟨r0,r1,r2,r3,r4,r5⟩,_⟩:=six hp9 (Ext.rfl' _)
   exact bodyPost_ret (v:=tgtV ((0,[],0,[],[],false),40)) (by simp [results,Tryz.results59,go_sem,tgtV,r0,r1,r2,r3,r4,r5]) rfl ⟨by first | rfl | exact ret_val (by rw [HV.out]; try rfl),hx9⟩
 ·have d2:(e != 0)=true:=by rw [bne_iff_ne]; exact c1
  rw [if_neg (fun h=>c1 h.1)]
  clear c1
  go_enter Tryz.func59,Tryz.ntmps59
  go_wp2_with (go_at_call 85; refine (C.out _ (HE.out.ext (by (repeat first | exact Ex0 | assumption | refine Ex1 ?_ | refine Ex2 ?_ | refine Ex3 ?_ | refine Ex4 ?_ | refine Ex5 ?_)))).mono ?_; rintro e w1 ⟨rfl,hx1⟩; have hq:Ext (((w.alloc (.cells #[.int .i64 0,.string ⟨#[]⟩,.int .i64 0,.string ⟨#[]⟩,.string ⟨#[]⟩,.bool false] 107)).alloc (.cells #[.int .i64 0,.string ⟨#[]⟩,.int .i64 0,.string ⟨#[]⟩,.string ⟨#[]⟩,.bool false] 107)).alloc (.cells #[.int .i64 1,.string ⟨#[]⟩,.int .i64 (-1),.string ⟨#[]⟩,.string ⟨#[]⟩,.bool false] 107)) w1:=(by (repeat first | exact Ex0 | assumption | refine Ex1 ?_ | refine Ex2 ?_ | refine Ex3 ?_ | refine Ex4 ?_ | refine Ex5 ?_)); have HB:=Lib.hid ((hq.block w.heap.size (by first | (simp; done) | (simp; omega))).trans (three w _ _ _).1); have HN:=Lib.hid ((hq.block (w.heap.size + 1) (by first | (simp; done) | (simp; omega))).trans (three_m w _ _ _)); have HT:=Lib.hid ((hq.block (w.heap.size + 1 + 1) (by simp)).trans (three w _ _ _).2); have hw1:Ext w w1:=(by (repeat first | exact Ex0 | assumption | refine Ex1 ?_ | refine Ex2 ?_ | refine Ex3 ?_ | refine Ex4 ?_ | refine Ex5 ?_)); clear hq; obtain ⟨⟨r0,r1,r2,r3,r4,r5⟩,f0,f1,f2,f3,f4,f5⟩:=six HB.out (Ext.rfl' _); obtain ⟨⟨n0,n1,n2,n3,n4,n5⟩,m0,m1,m2,m3,m4,m5⟩:=six HN.out (Ext.rfl' _); obtain ⟨⟨t0,t1,t2,t3,t4,t5⟩,g0,g1,g2,g3,g4,g5⟩:=six HT.out (Ext.rfl' _))
  clear r0 r1 r2 r3 r4 r5 f0 f1 f2 f3 f4 f5 n0 n1 n2 n3 n4 n5 m0 m1 m2 m3 m4 m5 t0 t1 t2 t3 t4 t5 g0 g1 g2 g3 g4 g5
  have hx9:Ext w _:=ext6 hw1 (.int .i64 0) (.string (str [])) (.int .i64 0) (.string (str [])) (.string (str [])) (.bool false)
  have hp9:=put6 HB.out (.int .i64 0) (.string (str [])) (.int .i64 0) (.string (str [])) (.string (str [])) (.bool false)
  obtain ⟨W9,hW9⟩:∃ W9,W9=((((((w1.setCell ⟨w.heap.size,0,none⟩ (.int .i64 0)).setCell ⟨w.heap.size,1,none⟩ (.string (str []))).setCell ⟨w.heap.size,2,none⟩ (.int .i64 0)).setCell ⟨w.heap.size,3,none⟩ (.string (str []))).setCell ⟨w.heap.size,4,none⟩ (.string (str []))).setCell ⟨w.heap.size,5,none⟩ (.bool false)):=⟨_,rfl⟩
  rw [← hW9] at hx9 hp9
  try simp only [show str ([]:List UInt8)=⟨#[]⟩ from rfl,show str ([47]:List UInt8)=⟨#[47]⟩ from rfl] at hW9
  rw [← hW9]
  clear hW9
  obtain ⟨⟨r0,r1,r2,r3,r4,r5⟩,_⟩:=six hp9 (Ext.rfl' _)
  exact bodyPost_ret (v:=tgtV ((0,[],0,[],[],false),40)) (by simp [results,Tryz.results59,go_sem,tgtV,r0,r1,r2,r3,r4,r5]) rfl ⟨by first | rfl | exact ret_val (by rw [HV.out]; try rfl),hx9⟩
theorem uParse_opt (w:World) :
  Calls Tryz.prog 59 #[.string (str optL),.string (str [42])] w (Gives (tgtV ((4,[],-1,[],[],false),0)) w):=by
 rw [show str optL=⟨#[79,80,84,73,79,78,83]⟩ from rfl,show str ([42]:List UInt8)=⟨#[42]⟩ from rfl]
 go_enter Tryz.func59,Tryz.ntmps59
 go_wp2
 obtain ⟨⟨r0,r1,r2,r3,r4,r5⟩,_⟩:=six (three w (.cells #[.int .i64 4,.string ⟨#[]⟩,.int .i64 (-1),.string ⟨#[]⟩,.string ⟨#[]⟩,.bool false] 107) (.cells #[.int .i64 0,.string ⟨#[]⟩,.int .i64 0,.string ⟨#[]⟩,.string ⟨#[]⟩,.bool false] 107) (.cells #[.int .i64 4,.string ⟨#[]⟩,.int .i64 (-1),.string ⟨#[]⟩,.string ⟨#[]⟩,.bool false] 107)).1 (Ext.rfl' _)
 exact bodyPost_ret (v:=tgtV ((4,[],-1,[],[],false),0)) (by simp [results,Tryz.results59,go_sem,tgtV,str] at r0 r1 r2 r3 r4 r5 ⊢) rfl ⟨rfl,by (repeat first | exact Ex0 | assumption | refine Ex1 ?_ | refine Ex2 ?_ | refine Ex3 ?_ | refine Ex4 ?_ | refine Ex5 ?_)⟩
end Go.Proofs.YthbofilcnpdghaaGreatDoor
end
