/-
Runes beyond ASCII; the first of three bytes that end a size: plain laws.
-/
import Derived.Test.YthbofilcnpdghaaGreatDoorZae
import Derived.Test.YthbofilcnpdghaaGreatDoorZag
import Derived.Laws.RangeAny
import Derived.Lib.IndexAny
import Derived.Deep.LoopGhost
import Derived.WalkMore
import Derived.Lib.OthersKept
import Derived.Shelf.Strings.IndexAnyAll
set_option maxRecDepth 100000
set_option maxHeartbeats 8000000
set_option linter.unusedVariables false
set_option linter.unusedSimpArgs false
section
namespace Go.Proofs.YthbofilcnpdghaaGreatDoor
open Go.RowKit
theorem tw_all12 (p:UInt8→Bool) (l:List UInt8):(l.takeWhile p).all p=true:=by
 induction l with
 | nil=>rfl
 | cons b l ih =>
  rw [List.takeWhile_cons]
  split
  ·rename_i h;simp only [List.all_cons,h,ih,Bool.and_self]
  ·rfl
theorem tw_len12 (p:UInt8→Bool) (l:List UInt8):(l.takeWhile p).length≤l.length:=(List.takeWhile_prefix p).length_le
theorem tw_take12 (p:UInt8→Bool) (l:List UInt8):l.take (l.takeWhile p).length=l.takeWhile p:=(List.prefix_iff_eq_take.1 (List.takeWhile_prefix p)).symm
theorem tw_stop12 (p:UInt8→Bool):∀ (l:List UInt8) (h:(l.takeWhile p).length<l.length),p l[(l.takeWhile p).length]=false
 | [],h=>by simp at h
 | b::l,h=>by
  by_cases hb:p b=true
  ·have e:(b::l).takeWhile p=b::l.takeWhile p:=by rw [List.takeWhile_cons,if_pos hb]
   simp only [e,List.length_cons,List.getElem_cons_succ] at h ⊢
   exact tw_stop12 p l (by simpa using h)
  ·have e:(b::l).takeWhile p=[]:=by rw [List.takeWhile_cons,if_neg hb]
   simp only [e,List.length_nil,List.getElem_cons_zero]
   simpa using hb
theorem get_of12 (s:ByteArray) (p:Nat) (b:UInt8) (h:s.data.toList[p]?=some b):s.get! p=b:=by
 have hp:p<s.data.size:=by
  rcases Nat.lt_or_ge p s.data.size with h1 | h1
  ·exact h1
  ·rw [List.getElem?_eq_none (by simpa using h1)] at h;cases h
 have:s.data.toList[p]?=some (s.data[p]):=by simp
 rw [this] at h
 have hb:=Option.some.inj h
 show s.data[p]! = b
 rw [← hb]
 exact getElem!_pos s.data p hp
def hiG12 (s:ByteArray) (pos n:Nat):Prop:=pos+n≤s.size∧1≤n∧∀ k,k<n→128≤(s.get! (pos+k)).toNat
theorem dec_hi12 (s:ByteArray) (pos:Nat) (h:pos<s.size) (ha:128≤(s.get! pos).toNat) :
  hiG12 s pos (Utf8.decode s pos).2∧((Utf8.decode s pos).1=65533∨(128≤(Utf8.decode s pos).1∧Utf8.valid (Utf8.decode s pos).1=true)):=by
 have one:hiG12 s pos 1:=⟨by omega,Nat.le_refl _,fun k hk=>by obtain rfl:k=0:=(by omega);exact ha⟩
 have hb:∀ k,(s.get! (pos+k)).toNat<256:=fun k=>(s.get! (pos+k)).toNat_lt
 have h0:=hb 0;have h1:=hb 1;have h2:=hb 2;have h3:=hb 3
 have hn:¬(s.get! (pos+0)).toNat<128:=by rw [Nat.add_zero];omega
 have ha0:128≤(s.get! (pos+0)).toNat:=by omega
 simp only [Utf8.decode,hn,if_false]
 obtain ⟨x0,e0⟩:∃ x,(s.get! (pos+0)).toNat=x:=⟨_,rfl⟩
 obtain ⟨x1,e1⟩:∃ x,(s.get! (pos+1)).toNat=x:=⟨_,rfl⟩
 obtain ⟨x2,e2⟩:∃ x,(s.get! (pos+2)).toNat=x:=⟨_,rfl⟩
 obtain ⟨x3,e3⟩:∃ x,(s.get! (pos+3)).toNat=x:=⟨_,rfl⟩
 rw [e0] at h0 hn ha0;rw [e1] at h1;rw [e2] at h2;rw [e3] at h3
 simp only [e0,e1,e2,e3]
 split
 ·rename_i hc
  simp only [Bool.and_eq_true,beq_iff_eq,decide_eq_true_eq] at hc
  split
  ·refine ⟨⟨by omega,by omega,fun k hk=>?_⟩,.inr ⟨by omega,?_⟩⟩
   ·have:k=0∨k=1:=by omega
    rcases this with rfl | rfl <;> omega
   ·simp only [Utf8.valid,Bool.or_eq_true,Bool.and_eq_true,decide_eq_true_eq];omega
  ·exact ⟨one,.inl rfl⟩
 ·split
  ·rename_i hc
   simp only [Bool.and_eq_true,beq_iff_eq,decide_eq_true_eq] at hc
   split
   ·rename_i hv
    simp only [Bool.and_eq_true,decide_eq_true_eq] at hv
    refine ⟨⟨by omega,by omega,fun k hk=>?_⟩,.inr ⟨by omega,hv.2⟩⟩
    have:k=0∨k=1∨k=2:=by omega
    rcases this with rfl | rfl | rfl <;> omega
   ·exact ⟨one,.inl rfl⟩
  ·split
   ·rename_i hc
    simp only [Bool.and_eq_true,beq_iff_eq,decide_eq_true_eq] at hc
    split
    ·rename_i hv
     simp only [Bool.and_eq_true,decide_eq_true_eq] at hv
     refine ⟨⟨by omega,by omega,fun k hk=>?_⟩,.inr ⟨by omega,hv.2⟩⟩
     have:k=0∨k=1∨k=2∨k=3:=by omega
     rcases this with rfl | rfl | rfl | rfl <;> omega
    ·exact ⟨one,.inl rfl⟩
   ·exact ⟨one,.inl rfl⟩
theorem enc_hi12 (r:Nat) (h:128≤r) (hv:Utf8.valid (r:Int)=true) :
  ∃ l:List UInt8,Utf8.encode (r:Int)=⟨l.toArray⟩∧2≤l.length∧l.length≤4∧∀ b∈l,128≤b.toNat:=by
 have hr:r≤1114111:=by
  simp only [Utf8.valid,Bool.or_eq_true,Bool.and_eq_true,decide_eq_true_eq] at hv;omega
 have hn:¬ r<128:=by omega
 simp only [Utf8.encode,hv,if_true,Int.toNat_natCast,hn,if_false]
 split
 ·refine ⟨[_,_],rfl,by simp,by simp,?_⟩
  intro b hb
  simp only [List.mem_cons,List.mem_nil_iff,or_false] at hb
  rcases hb with rfl | rfl <;> (rw [UInt8.toNat_ofNat'];omega)
 ·split
  ·refine ⟨[_,_,_],rfl,by simp,by simp,?_⟩
   intro b hb
   simp only [List.mem_cons,List.mem_nil_iff,or_false] at hb
   rcases hb with rfl | rfl | rfl <;> (rw [UInt8.toNat_ofNat'];omega)
  ·refine ⟨[_,_,_,_],rfl,by simp,by simp,?_⟩
   intro b hb
   simp only [List.mem_cons,List.mem_nil_iff,or_false] at hb
   rcases hb with rfl | rfl | rfl | rfl <;> (rw [UInt8.toNat_ofNat'];omega)
theorem noAny_hi12 {s:ByteArray} {c:List UInt8} {pos n:Nat} (h:Lib.NoAny s.data.toList c pos) (hn:hiG12 s pos n) (hc:∀ b:UInt8,128≤b.toNat→c.contains b=false):Lib.NoAny s.data.toList c (pos+n):=by
 intro j b hj hb
 rcases Nat.lt_or_ge j pos with h1 | h1
 ·exact h j b h1 hb
 ·have h2:=hn.2.2 (j-pos) (by omega)
  rw [show pos+(j-pos)=j by omega,get_of12 s j b hb] at h2
  exact hc b h2
theorem c59:∀ b:UInt8,128≤b.toNat→([59,32,9]:List UInt8).contains b=false:=fun b h=>by
 rw [List.contains_eq_any_beq]
 simp only [List.any_cons,List.any_nil,Bool.or_false,Bool.or_eq_false_iff,beq_eq_false_iff_ne]
 exact ⟨fun e=>by rw [e] at h;exact absurd h (by decide),fun e=>by rw [e] at h;exact absurd h (by decide),fun e=>by rw [e] at h;exact absurd h (by decide)⟩
def szB (b:UInt8):Bool:=!(b == 59 || b == 32 || b == 9)
theorem szB_c (b:UInt8):([59,32,9]:List UInt8).contains b=!szB b:=by
 unfold szB
 rw [List.contains_eq_any_beq]
 simp [Bool.or_assoc]
theorem ia_sz (l:List UInt8):Lib.indexAny (l++[59]) [59,32,9]=(szN l:Int):=by
 have hle:(l.takeWhile szB).length≤l.length:=tw_len12 szB l
 have hno:Lib.NoAny (l++[59]) [59,32,9] (l.takeWhile szB).length:=by
  intro j b hj hb
  have h1:(l.takeWhile szB)[j]?=some b:=by
   rw [← tw_take12 szB l,List.getElem?_take,if_pos hj]
   rw [List.getElem?_append_left (by omega)] at hb
   exact hb
  have h2:=List.all_eq_true.1 (tw_all12 szB l) b (List.mem_of_getElem? h1)
  rw [szB_c,h2];rfl
 show _=((l.takeWhile szB).length:Int)
 rcases Nat.lt_or_ge (l.takeWhile szB).length l.length with hlt | hge
 ·have h1:=tw_stop12 szB l hlt
  exact Lib.indexAny_hit hno (by rw [List.getElem?_append_left hlt];exact List.getElem?_eq_getElem hlt) (by rw [szB_c,h1];rfl)
 ·have he:(l.takeWhile szB).length=l.length:=by omega
  rw [he] at hno ⊢
  exact Lib.indexAny_hit (x:=59) hno (by simp) (by decide)
theorem Ext.it12 {a b:World} (h:Ext a b) (s:ByteArray) (p:Nat):Ext a (b.iter s p):=h.al _
theorem IndexRune_err12 (w:World) :
  Calls Tryz.prog 114 #[.string ⟨#[59,32,9]⟩,.int .i32 65533] w fun e w'=>e=.returned (.int .i64 (-1))∧Ext w w':=by
 obtain ⟨s,hs⟩:∃ s:ByteArray,s=⟨#[59,32,9]⟩:=⟨_,rfl⟩
 have h2:s.size=3:=by rw [hs];rfl
 have HS:=Hy (show ∀ i (h:i<s.size),(s[i]'h).toNat=59∨(s[i]'h).toNat=32∨(s[i]'h).toNat=9 by
  subst hs
  intro i h
  have:i=0∨i=1∨i=2:=by have:i<3:=h;omega
  rcases this with rfl | rfl | rfl
  ·exact .inl rfl
  ·exact .inr (.inl rfl)
  ·exact .inr (.inr rfl))
 rw [← hs]
 clear hs
 go_enter Tryz.func114,Tryz.ntmps114
 go_wp2
 go_loopg [176,177] s.size (fun g _ _ wx=>∃ i:Nat,i+g=s.size∧wx=w.iter s i)
 case atStart=>exact ⟨0,by omega,rfl⟩
 case round =>
  obtain ⟨i,hig,rfl⟩:=hrel
  cases gk with
  | zero =>
   obtain rfl:i=3:=by omega
   have hnx:=fun ty=>run_next_end (P:=Tryz.prog) w s 3 ty (by omega)
   go_wp2
   go_ret
   exact ⟨rfl,(Ext.rfl' w).it12 _ _⟩
  | succ g =>
   have hi:i<s.size:=by omega
   have hx:=HS.out i hi
   obtain ⟨x,hx0⟩:∃ x:Int,x=((s[i]'hi).toNat:Int):=⟨_,rfl⟩
   have hnx:=fun ty=>run_next_ascii (P:=Tryz.prog) w s i ty hi (by omega)
   rw [← hx0] at hnx
   have hne:(x == 65533)=false:=by rw [beq_eq_false_iff_ne];omega
   clear hx hx0
   go_wp2
   go_roundg g
   case measure=>omega
   case rel=>exact ⟨i+1,by omega,rfl⟩
theorem ValidRune_yes12 (r:Nat) (hv:Utf8.valid (r:Int)=true) (w:World) :
  Calls Tryz.prog 143 #[.int .i32 (r:Int)] w fun e w'=>e=.returned (.bool true)∧w=w':=by
 have h:r<55296∨(57343<r∧r≤1114111):=by
  simp only [Utf8.valid,Bool.or_eq_true,Bool.and_eq_true,decide_eq_true_eq] at hv;omega
 clear hv
 rcases h with h | ⟨h1,h2⟩
 ·have c1:(r:Int)<55296:=by omega
  go_enter Tryz.func143,Tryz.ntmps143
  go_wp2
  go_ret
  exact ⟨rfl,rfl⟩
 ·have c1:¬(r:Int)<55296:=by omega
  have c2:(57343:Int)<(r:Int):=by omega
  have c3:(r:Int)≤1114111:=by omega
  go_enter Tryz.func143,Tryz.ntmps143
  go_wp2
  go_ret
  exact ⟨rfl,rfl⟩
theorem IndexRune_hi12 (r:Nat) (h:128≤r) (hv:Utf8.valid (r:Int)=true) (h9:r≠65533) (w:World) :
  Calls Tryz.prog 114 #[.string ⟨#[59,32,9]⟩,.int .i32 (r:Int)] w fun e w'=>e=.returned (.int .i64 (-1))∧Ext w w':=by
 obtain ⟨l,hl,l2,l4,lall⟩:=enc_hi12 r h hv
 have HV:=Hy (fun w=>ValidRune_yes12 r hv w)
 have IB:=Hy (fun (k:Int) (w:World)=>IndexByteS_c [] k (-1) rfl w)
 have c1:(0:Int)≤(r:Int):=by omega
 have c2:¬(r:Int)<128:=by omega
 have c3:((r:Int) == 65533)=false:=by rw [beq_eq_false_iff_ne];omega
 have x1:ByteArray.extract ⟨#[59,32,9]⟩ 2 3=⟨#[9]⟩:=by decide
 have x2:ByteArray.extract ⟨#[59,32,9]⟩ 3 3=⟨#[]⟩:=by decide
 have hcv:∀ w,(convert 21 9 (.int .i32 (r:Int))).run Tryz.prog w=.ok (.string ⟨l.toArray⟩) w:=fun w=>by
  rw [← hl];exact run_convert_int_string w _ _ _ _ (by kernel_rfl) (by kernel_rfl)
 clear hv h h9 hl
 match l,l2,l4,lall with
 | [a,b],_,_,lall =>
  have hb:=lall b (by simp)
  have c5:((32:Int) != (b.toNat:Int))=true:=by rw [bne_iff_ne];omega
  have c4:((((⟨#[59,32,9]⟩:ByteArray)[1]'(by decide)).toNat:Int) != (((⟨#[a,b]⟩:ByteArray)[1]'(Nat.lt_succ_self 1)).toNat:Int))=true:=c5
  have IB2:=Hy (fun (w:World)=>show Calls Tryz.prog 109 #[.string ⟨#[9]⟩,.int .u8 (((⟨#[a,b]⟩:ByteArray)[1]'(Nat.lt_succ_self 1)).toNat:Int)] w _ from IndexByteS_c [9] (b.toNat:Int) (-1) (by
   have e:((b.toNat:Int)).toNat.toUInt8=b:=by simp
   rw [e]
   exact idx_no (fun hm=>by rw [List.mem_singleton] at hm;rw [hm] at hb;exact absurd hb (by decide))) w)
  clear c5
  clear lall hb IB
  go_enter Tryz.func114,Tryz.ntmps114
  go_wp2_with (first
   | (go_at_call 143;refine (HV.out _).mono ?_;rintro e w1 ⟨rfl,rfl⟩))
  go_step3
  go_wp2
  go_loopw [9] (fun i wr=>i=.int .i64 1∧w=wr) (fun i _=>0)
  case atStart=>exact ⟨rfl,rfl⟩
  case round =>
   obtain ⟨rfl,rfl⟩:=hrel
   go_wp2
   (go_step3;go_wp2;go_quiet (fail);go_wp2;go_region_with (go_at_call 109;refine (IB2.out _).mono ?_;rintro e w1 ⟨rfl,rfl⟩);go_wp2)
   all_goals (
    first | (go_ret;exact ⟨rfl,Xq⟩) | (simp (zetaDelta:=true) only [Exit.noGoto_ret,Exit.inBlock,Exit.then];go_ret;exact ⟨rfl,Xq⟩))
 | [a,b,c],_,_,lall =>
  have hb:=lall c (by simp)
  have c5:((9:Int) != (c.toNat:Int))=true:=by rw [bne_iff_ne];omega
  have c4:((((⟨#[59,32,9]⟩:ByteArray)[2]'(by decide)).toNat:Int) != (((⟨#[a,b,c]⟩:ByteArray)[2]'(Nat.lt_succ_self 2)).toNat:Int))=true:=c5
  clear c5
  clear lall hb
  go_enter Tryz.func114,Tryz.ntmps114
  go_wp2_with (first
   | (go_at_call 143;refine (HV.out _).mono ?_;rintro e w1 ⟨rfl,rfl⟩))
  go_step3
  go_wp2
  go_loopw [9] (fun i wr=>i=.int .i64 2∧w=wr) (fun i _=>0)
  case atStart=>exact ⟨rfl,rfl⟩
  case round =>
   obtain ⟨rfl,rfl⟩:=hrel
   go_wp2
   (go_step3;go_wp2;go_quiet (fail);go_wp2;go_region_with (go_at_call 109;refine (IB.out _ _).mono ?_;rintro e w1 ⟨rfl,rfl⟩);go_wp2)
   all_goals (
    first | (go_ret;exact ⟨rfl,Xq⟩) | (simp (zetaDelta:=true) only [Exit.noGoto_ret,Exit.inBlock,Exit.then];go_ret;exact ⟨rfl,Xq⟩))
 | [a,b,c,d],_,_,lall =>
  clear lall
  go_enter Tryz.func114,Tryz.ntmps114
  go_wp2_with (first
   | (go_at_call 143;refine (HV.out _).mono ?_;rintro e w1 ⟨rfl,rfl⟩))
  go_step3
  go_wp2
  go_loopw [9] (fun i wr=>i=.int .i64 3∧w=wr) (fun i _=>0)
  case atStart=>exact ⟨rfl,rfl⟩
  case round =>
   obtain ⟨rfl,rfl⟩:=hrel
   go_wp2
   skip
   all_goals (
    first | (go_ret;exact ⟨rfl,Xq⟩) | (simp (zetaDelta:=true) only [Exit.noGoto_ret,Exit.inBlock,Exit.then];go_ret;exact ⟨rfl,Xq⟩))
theorem IndexAny_short12 (s:ByteArray) (hr:s.size≤8) (w:World) :
  Calls Tryz.prog 86 #[.string s,.string ⟨#[59,32,9]⟩] w (Gives (.int .i64 (Lib.indexAny s.data.toList [59,32,9])) w):=by
 have h8z:decide ((8:Int)<(s.size:Int))=false:=decide_eq_false (by omega)
 obtain ⟨R,hR⟩:∃ R,R=Lib.indexAny s.data.toList [59,32,9]:=⟨_,rfl⟩
 rw [← hR]
 have HR:=Hy hR
 clear hR
 go_enter Tryz.func86,Tryz.ntmps86
 go_wp2_with (go_at_call 115;refine (Tryz.strings_shouldUseASCIISet _ _).mono ?_;rintro e w' ⟨rfl,hw⟩;rw [hw,h8z])
 go_loopg [9,10] s.size (fun g _ _ wx=>∃ i:Nat,i≤s.size∧i+g=s.size∧wx.heap[w.heap.size]?=some (.stringIter s i)∧Ext w wx∧Lib.NoAny s.data.toList [59,32,9] i)
 case atStart=>exact ⟨0,by omega,by omega,World.iter_heap w s 0,(Ext.rfl' w).it12 s 0,Lib.NoAny.zero _ _⟩
 case round =>
  obtain ⟨i,hi,hig,hk,hxx,hno⟩:=hrel
  have HN:=Hy hno
  clear hno
  by_cases hlt:i<s.size
  ·obtain ⟨x,hx⟩:∃ x:UInt8,s.get! i=x:=⟨_,rfl⟩
   have hxl:s.data.toList[i]?=some x:=by
    have h1:i<s.data.size:=hlt
    have h2:s.data.toList[i]?=some (s.data[i]):=by simp [h1]
    rw [h2,← hx]
    exact congrArg some (getElem!_pos s.data i h1).symm
   have hxi:s[i]'hlt=x:=by
    rw [← hx];exact (get_at s i hlt).symm
   by_cases ha:x.toNat<128
   ·have hnx:=fun ty=>Lib.run_next_ascii_at (P:=Tryz.prog) _ w.heap.size s i ty hk hlt (by rw [hxi];exact ha)
    rw [hxi] at hnx
    have hk2:=Lib.iterAt_heap _ w.heap.size s i (i+1) hk
    have hxm:=Lib.below_iterAt hxx (Nat.le_refl _) s (i+1)
    have Hx:=Hy hxl
    have hcon:=Lib.contains_iff_indexByte [59,32,9] x
    have IR:=Hy (fun w=>Tryz.strings_IndexRune_ascii ⟨#[59,32,9]⟩ (x.toNat:Int) w (by omega) (by omega))
    obtain ⟨z,hz⟩:∃ z,z=Lib.indexByte [59,32,9] x:=⟨_,rfl⟩
    rw [← hz] at hcon
    have HZ:=Hy (show Lib.indexByte (⟨#[59,32,9]⟩:ByteArray).data.toList ((x.toNat:Int)).toNat.toUInt8=z by rw [hz];simp)
    clear hxl hx hxi hz
    by_cases hin:([59,32,9]:List UInt8).contains x=true
    ·rw [hin] at hcon
     have hge:(0:Int)≤z:=of_decide_eq_true hcon.symm
     have HE:=Hy (show R=(i:Int) by rw [HR.out];exact Lib.indexAny_hit HN.out Hx.out hin)
     clear hcon hin
     go_wp2_with (go_at_call 114;refine (IR.out _).mono ?_;rintro e w2 ⟨rfl,hw⟩;rw [hw,HZ.out])
     go_ret
     exact ⟨ret_int (by rw [HE.out]),hxm⟩
    ·have hin:([59,32,9]:List UInt8).contains x=false:=by simpa using hin
     rw [hin] at hcon
     have hge:¬(0:Int)≤z:=of_decide_eq_false hcon.symm
     have HI:=Hy hin
     clear hcon hin
     go_wp2_with (go_at_call 114;refine (IR.out _).mono ?_;rintro e w2 ⟨rfl,hw⟩;rw [hw,HZ.out])
     go_roundg (gk-1)
     case measure=>omega
     case rel=>exact ⟨i+1,by omega,by omega,hk2,hxm,HN.out.succ Hx.out HI.out⟩
   ·have hd:=dec_hi12 s i hlt (by rw [hx];omega)
    have hnx:=fun ty=>Lib.run_next_any_at (P:=Tryz.prog) _ w.heap.size s i ty hk hlt
    obtain ⟨rr,hrr⟩:∃ r,r=(Utf8.decode s i).1:=⟨_,rfl⟩
    obtain ⟨nn,hnn⟩:∃ n,n=(Utf8.decode s i).2:=⟨_,rfl⟩
    rw [← hrr,← hnn] at hnx hd
    have hk2:=Lib.iterAt_heap _ w.heap.size s i (i+nn) hk
    have hxm:=Lib.below_iterAt hxx (Nat.le_refl _) s (i+nn)
    have HG:=Hy hd.1
    have hn1:=hd.1.1
    have hn2:=hd.1.2.1
    have hc:=hd.2
    clear hrr hnn hd hx hxl hxi ha
    by_cases h9:rr=65533
    ·subst h9
     clear hc
     go_wp2_with (go_at_call 114;refine (IndexRune_err12 _).mono ?_;rintro e w2 ⟨rfl,hx2⟩)
     go_roundg (gk-nn)
     case measure=>omega
     case rel =>
      refine ⟨i+nn,by omega,by omega,?_,Ext.tr hxm (hx2),noAny_hi12 HN.out HG.out c59⟩
      exact ((hx2).block _ (Array.getElem?_eq_some_iff.1 hk2).1).trans hk2
    ·have hc:=hc.resolve_left h9
     have IR:=Hy (fun w=>IndexRune_hi12 rr hc.1 hc.2 h9 w)
     clear hc h9
     go_wp2_with (go_at_call 114;refine (IR.out _).mono ?_;rintro e w2 ⟨rfl,hx2⟩)
     go_roundg (gk-nn)
     case measure=>omega
     case rel =>
      refine ⟨i+nn,by omega,by omega,?_,Ext.tr hxm (hx2),noAny_hi12 HN.out HG.out c59⟩
      exact ((hx2).block _ (Array.getElem?_eq_some_iff.1 hk2).1).trans hk2
  ·obtain rfl:i=s.size:=by omega
   have hnx:=fun ty=>Lib.run_next_end_at (P:=Tryz.prog) _ w.heap.size s s.size ty hk hlt
   have HE:=Hy (show R=-1 by rw [HR.out];exact Lib.indexAny_none (by rw [← Lib.size_eq];exact HN.out))
   go_wp2
   go_ret
   exact ⟨ret_int (by rw [HE.out]),hxx⟩
theorem IndexAny_c12 (r:List UInt8) (hr:r.length≤10000) (w:World) :
  Calls Tryz.prog 86 #[.string (str r),.string ⟨#[59,32,9]⟩] w (Gives (.int .i64 (Lib.indexAny r [59,32,9])) w):=by
 by_cases h8:r.length≤8
 ·exact IndexAny_short12 (str r) (by simpa using h8) w
 ·refine (Tryz.strings_IndexAny_long (zero_of_info (n:=256) (by kernel_rfl)).1 (str r) ⟨#[59,32,9]⟩ w (by decide) (by simp;omega) (by simp;omega) (by decide) (fun j b h=>?_)).mono ?_
  ·have hm:=List.mem_of_getElem? h
   revert hm
   exact (by decide:∀ b∈([59,32,9]:List UInt8),b.toNat<128) b
  ·rintro e w' ⟨rfl,hw⟩
   exact ⟨rfl,by rw [hw];exact ((Ext.rfl' w).al _).al _⟩
end Go.Proofs.YthbofilcnpdghaaGreatDoor
end
