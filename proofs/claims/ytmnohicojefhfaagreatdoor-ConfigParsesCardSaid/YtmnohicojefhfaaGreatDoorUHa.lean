/-
Numbers written to the base 10: the program's Digits and the reference's give the same text.
-/
import Derived.Test.YtmnohicojefhfaaGreatDoorProg
import Derived.Test.YtmnohicojefhfaaGreatDoorBytes
import Derived.Test.YtmnohicojefhfaaGreatDoorShelf
import Derived.Lib.AppendIntMem
import Derived.Lib.ItoaLen
import Derived.Lib.ItoaMem
import Derived.Test.YtmnohicojefhfaaGreatDoorOWa
import Derived.Test.YtmnohicojefhfaaGreatDoorSGa
import Derived.Test.YtmnohicojefhfaaGreatDoorNUa
import Derived.Test.YtmnohicojefhfaaGreatDoorPUa
set_option maxRecDepth 100000
set_option maxHeartbeats 8000000
set_option linter.unusedVariables false
set_option linter.unusedSimpArgs false
section
namespace Go.Proofs.YtmnohicojefhfaaGreatDoor
open Go.RowKit
def Pow (w : World) : Prop := Lib.TabIs Tryz.prog w "internal/strconv.uint64pow10" .u64 Lib.pow10Tab
theorem gPow : Tryz.prog.globalNamed "internal/strconv.uint64pow10" = some 1 := by kernel_rfl
theorem Pow.ext {w w':World} (h:Pow w) (e:Ext w w'):Pow w':=by
 have h0:=h.cell gPow 0 (by rw [Lib.pow10Tab_length]; omega)
 exact var?_below e gPow (lt_of_cell h0) h
end Go.Proofs.YtmnohicojefhfaaGreatDoor
end
section
namespace Go.Proofs.YtmnohicojefhfaaGreatDoor
open Go.RowKit
structure QAt (T:TypeId) (w:World) (o:Ow) (k p:Nat) (l:List UInt8) (lim:Nat):Prop where
 own:o p=k
 lo:1 ≤ lim
 hi:lim ≤ 1048576
 le:l.length ≤ lim
 at_:∃ A c,w.heap[p]?=some (.cells #[.slice A l.length c,.int .i64 (lim:Int)] T (0,0))∧Sl w o (k + 1) 1 A l.length c (bc l)∧(A=none → c=0)
def KQ (k:Nat) (i:Nat):Prop:=i=k ∨ i=k + 1
theorem QAt.put {T:TypeId} {w w':World} {o o':Ow} {k p lim n c:Nat} {l l':List UInt8} {A:Option Addr} (h:QAt T w o k p l lim) (s:Stp (fun i=>i=k + 1) w o w' o') (hl:l'.length ≤ lim) (hn:n=l'.length) (hs:Sl w' o' (k + 1) 1 A n c (bc l')) (ha:A=none → c=0) :
  QAt T (w'.setCell ⟨p,0,none⟩ (.slice A n c)) o' k p l' lim∧Stp (KQ k) w o (w'.setCell ⟨p,0,none⟩ (.slice A n c)) o':=by
 subst hn
 obtain ⟨A0,c0,hh,_,_⟩:=h.at_
 have hp:o' p=k:=by rw [s.own p (row_lt hh)]; exact h.own
 have hh':w'.heap[p]?=_:=(s.keep p (row_lt hh) (by rw [h.own]; omega)).trans hh
 have st:Stp (fun i=>i=k) w' o' (w'.setCell ⟨p,0,none⟩ (.slice A l'.length c)) o':=Stp.set p 0 _ (fun _=>hp)
 exact ⟨⟨hp,h.lo,h.hi,hl,A,c,row_set hh' 0 _,hs.stp st (by omega),ha⟩,(s.mono fun i hi=>.inr hi).tr (st.mono fun i hi=>.inl hi)⟩
theorem QAt.stp {T:TypeId} {K:Nat → Prop} {w w':World} {o o':Ow} {k p lim:Nat} {l:List UInt8} (h:QAt T w o k p l lim) (s:Stp K w o w' o') (h0:¬ K k) (h1:¬ K (k + 1)):QAt T w' o' k p l lim:=by
 obtain ⟨A,c,hh,hs,hn⟩:=h.at_
 exact ⟨by rw [s.own p (row_lt hh)]; exact h.own,h.lo,h.hi,h.le,A,c,by rw [s.keep p (row_lt hh) (by rw [h.own]; exact h0)]; exact hh,hs.stp s h1,hn⟩
theorem QAt.ext {T:TypeId} {w w':World} {o:Ow} {k p lim:Nat} {l:List UInt8} (h:QAt T w o k p l lim) (e:Ext w w'):QAt T w' o k p l lim:=h.stp (K:=fun _=>False) (Stp.ext e) (fun x=>x) (fun x=>x)
def putL (lim:Nat) (l m:List UInt8):List UInt8:=if m.length ≤ lim - l.length then l ++ m else l
end Go.Proofs.YtmnohicojefhfaaGreatDoor
end
section
namespace Go.Proofs.YtmnohicojefhfaaGreatDoor
open Go.RowKit
theorem idx_pln0:∀ b:Fin 256,decide (0 ≤ Lib.indexByte [45,46,95,126] b.val.toUInt8)=(b.val.toUInt8 == 45 || b.val.toUInt8 == 46 || b.val.toUInt8 == 95 || b.val.toUInt8 == 126):=by decide +kernel
theorem idx_pln (b:UInt8):decide (0 ≤ Lib.indexByte [45,46,95,126] b)=(b == 45 || b == 46 || b == 95 || b == 126):=by
 have:=idx_pln0 ⟨b.toNat,UInt8.toNat_lt b⟩; simpa using this
def adrT:List UInt8:=[48,49,50,51,52,53,54,55,56,57,97,98,99,100,101,102,65,66,67,68,69,70,58,46]
theorem idx_adr0:∀ b:Fin 256,decide (0 ≤ Lib.indexByte adrT b.val.toUInt8)=adrB b.val.toUInt8:=by decide +kernel
theorem idx_adr (b:UInt8):decide (0 ≤ Lib.indexByte adrT b)=adrB b:=by
 have:=idx_adr0 ⟨b.toNat,UInt8.toNat_lt b⟩; simpa using this
theorem IndexByteK_c (l:List UInt8) (b:UInt8) (z:Int) (h:Lib.indexByte l b=z) (w:World) :
  Calls Tryz.prog 104 #[.string ⟨l.toArray⟩,.int .u8 (b.toNat:Int)] w fun e w'=>e=.returned (.int .i64 z)∧w=w' :=
 IndexByteS_c l (b.toNat:Int) z (by simpa using h) w
theorem uplain_c (b:UInt8) (w:World):Calls Tryz.prog 152 #[.int .u8 (b.toNat:Int)] w fun e w'=>e=.returned (.bool (plnB b))∧w=w':=by
 obtain ⟨z,hz⟩:∃ z,Lib.indexByte [45,46,95,126] b=z:=⟨_,rfl⟩
 have HZ:=Lib.hid hz
 clear hz
 obtain ⟨x,hx⟩:∃ x:Int,x=(b.toNat:Int):=⟨_,rfl⟩
 have hc:=al_cases b.toNat
 obtain ⟨v,hv⟩:∃ v,v=alB b.toNat:=⟨_,rfl⟩
 rw [← hv] at hc
 have HV:=Lib.hid hv
 clear hv hx x
 go_enter Tryz.func152,Tryz.ntmps152
 rcases hc with ⟨rfl,c1,c2,c3⟩ | ⟨rfl,c1,c2,c3,c4⟩ | ⟨rfl,c1,c2,c3,c4⟩ | ⟨rfl,c1,c2,c3⟩ | ⟨rfl,c1,c2,c3,c4,c5⟩ | ⟨rfl,c1,c2⟩ | ⟨rfl,c1,c2,c3,c4,c5,c6⟩
 ·go_wp2_with (go_at_call 104; refine (IndexByteK_c _ _ _ HZ.out _).mono ?_; rintro e w1 ⟨rfl,rfl⟩)
  go_ret
  exact ⟨ret_bool (by unfold plnB; rw [← HV.out,← idx_pln,HZ.out]; rfl),rfl⟩
 ·go_wp2
  go_ret
  exact ⟨ret_bool (by unfold plnB; rw [← HV.out]; rfl),rfl⟩
 ·go_wp2_with (go_at_call 104; refine (IndexByteK_c _ _ _ HZ.out _).mono ?_; rintro e w1 ⟨rfl,rfl⟩)
  go_ret
  exact ⟨ret_bool (by unfold plnB; rw [← HV.out,← idx_pln,HZ.out]; rfl),rfl⟩
 ·go_wp2
  go_ret
  exact ⟨ret_bool (by unfold plnB; rw [← HV.out]; rfl),rfl⟩
 ·go_wp2_with (go_at_call 104; refine (IndexByteK_c _ _ _ HZ.out _).mono ?_; rintro e w1 ⟨rfl,rfl⟩)
  go_ret
  exact ⟨ret_bool (by unfold plnB; rw [← HV.out,← idx_pln,HZ.out]; rfl),rfl⟩
 ·go_wp2
  go_ret
  exact ⟨ret_bool (by unfold plnB; rw [← HV.out]; rfl),rfl⟩
 ·go_wp2_with (go_at_call 104; refine (IndexByteK_c _ _ _ HZ.out _).mono ?_; rintro e w1 ⟨rfl,rfl⟩)
  go_ret
  exact ⟨ret_bool (by unfold plnB; rw [← HV.out,← idx_pln,HZ.out]; rfl),rfl⟩
theorem uaddress_c (b:UInt8) (w:World):Calls Tryz.prog 151 #[.int .u8 (b.toNat:Int)] w fun e w'=>e=.returned (.bool (adrB b))∧w=w':=by
 obtain ⟨z,hz⟩:∃ z,Lib.indexByte adrT b=z:=⟨_,rfl⟩
 have HZ:=Lib.hid hz
 clear hz
 go_enter Tryz.func151,Tryz.ntmps151
 go_wp2_with (go_at_call 104; refine (IndexByteK_c _ _ _ HZ.out _).mono ?_; rintro e w1 ⟨rfl,rfl⟩)
 go_ret
 exact ⟨ret_bool (by rw [← idx_adr,HZ.out]),rfl⟩
theorem uralnum_c (b:UInt8) (w:World):Calls Tryz.prog 209 #[.int .u8 (b.toNat:Int)] w fun e w'=>e=.returned (.bool (alB b.toNat))∧w=w':=by
 have hc:=al_cases b.toNat
 obtain ⟨v,hv⟩:∃ v,v=alB b.toNat:=⟨_,rfl⟩
 rw [← hv] at hc ⊢
 clear hv
 go_enter Tryz.func209,Tryz.ntmps209
 rcases hc with ⟨rfl,c1,c2,c3⟩ | ⟨rfl,c1,c2,c3,c4⟩ | ⟨rfl,c1,c2,c3,c4⟩ | ⟨rfl,c1,c2,c3⟩ | ⟨rfl,c1,c2,c3,c4,c5⟩ | ⟨rfl,c1,c2⟩ | ⟨rfl,c1,c2,c3,c4,c5,c6⟩
 ·go_wp2
  go_ret
  exact ⟨rfl,rfl⟩
 ·go_wp2
  go_ret
  exact ⟨rfl,rfl⟩
 ·go_wp2
  go_ret
  exact ⟨rfl,rfl⟩
 ·go_wp2
  go_ret
  exact ⟨rfl,rfl⟩
 ·go_wp2
  go_ret
  exact ⟨rfl,rfl⟩
 ·go_wp2
  go_ret
  exact ⟨rfl,rfl⟩
 ·go_wp2
  go_ret
  exact ⟨rfl,rfl⟩
theorem urplain_c (b:UInt8) (w:World):Calls Tryz.prog 190 #[.int .u8 (b.toNat:Int)] w fun e w'=>e=.returned (.bool (plnB b))∧w=w':=by
 have CA:=uralnum_c b
 obtain ⟨v,hv⟩:∃ v,v=alB b.toNat:=⟨_,rfl⟩
 rw [← hv] at CA
 have CA:=Lib.hid CA
 have HV:=Lib.hid hv
 clear hv
 have q:∀ c:UInt8,((b.toNat:Int) == (c.toNat:Int))=(b == c):=fun c=>by
  rw [Bool.eq_iff_iff]
  simp only [beq_iff_eq]
  exact ⟨fun h=>UInt8.toNat_inj.1 (by omega),fun h=>by rw [h]⟩
 have q1:((b.toNat:Int) == 45)=(b == 45):=q 45
 have q2:((b.toNat:Int) == 46)=(b == 46):=q 46
 have q3:((b.toNat:Int) == 95)=(b == 95):=q 95
 have q4:((b.toNat:Int) == 126)=(b == 126):=q 126
 obtain ⟨b1,hb1⟩:∃ b1,b1=(b == 45):=⟨_,rfl⟩
 obtain ⟨b2,hb2⟩:∃ b2,b2=(b == 46):=⟨_,rfl⟩
 obtain ⟨b3,hb3⟩:∃ b3,b3=(b == 95):=⟨_,rfl⟩
 obtain ⟨b4,hb4⟩:∃ b4,b4=(b == 126):=⟨_,rfl⟩
 rw [← hb1] at q1
 rw [← hb2] at q2
 rw [← hb3] at q3
 rw [← hb4] at q4
 have HR:=Lib.hid (show plnB b=(v || (b1 || b2 || b3 || b4)) by unfold plnB; rw [← HV.out,hb1,hb2,hb3,hb4])
 clear hb1 hb2 hb3 hb4 q
 cases v
 ·cases b1
  ·cases b2
   ·cases b3
    ·cases b4
     all_goals (
      go_enter Tryz.func190,Tryz.ntmps190
      go_wp2_with (go_at_call 209; refine (CA.out _).mono ?_; rintro e w1 ⟨rfl,rfl⟩)
      go_ret
      exact ⟨ret_bool (by rw [HR.out]; rfl),rfl⟩)
    ·go_enter Tryz.func190,Tryz.ntmps190
     go_wp2_with (go_at_call 209; refine (CA.out _).mono ?_; rintro e w1 ⟨rfl,rfl⟩)
     go_ret
     exact ⟨ret_bool (by rw [HR.out]; rfl),rfl⟩
   ·go_enter Tryz.func190,Tryz.ntmps190
    go_wp2_with (go_at_call 209; refine (CA.out _).mono ?_; rintro e w1 ⟨rfl,rfl⟩)
    go_ret
    exact ⟨ret_bool (by rw [HR.out]; rfl),rfl⟩
  ·go_enter Tryz.func190,Tryz.ntmps190
   go_wp2_with (go_at_call 209; refine (CA.out _).mono ?_; rintro e w1 ⟨rfl,rfl⟩)
   go_ret
   exact ⟨ret_bool (by rw [HR.out]; rfl),rfl⟩
 ·go_enter Tryz.func190,Tryz.ntmps190
  go_wp2_with (go_at_call 209; refine (CA.out _).mono ?_; rintro e w1 ⟨rfl,rfl⟩)
  go_ret
  exact ⟨ret_bool (by rw [HR.out]; rfl),rfl⟩
def wrV (b:UInt8):Int:=if isDig 16 (lowB b) then (digV (lowB b):Int) else -1
theorem num_one (b:UInt8):numL 16 1152921504606846976 [b]=if isDig 16 (lowB b) then ((digV (lowB b):Int),0) else (0,21):=by
 have hd:isDig 16 (lowB b)=true → digV (lowB b) < 16:=fun h=>by
  unfold isDig at h; simp only [Bool.and_eq_true,decide_eq_true_eq] at h; exact h.2
 unfold numL lowL
 by_cases h:isDig 16 (lowB b)=true
 ·have:=hd h
  rw [if_neg (by simp [h]),if_pos h]
  have e:valL 16 (List.map lowB [b])=digV (lowB b):=by simp [valL,valF]
  rw [e,if_pos (by omega)]
 ·rw [if_pos (.inr (by simpa using h)),if_neg h]
theorem urworth_c (b:UInt8) (w:World):Calls Tryz.prog 189 #[.int .u8 (b.toNat:Int)] w (Gives (.int .i64 (wrV b)) w):=by
 have h1:=num_one b
 have CH:=fun w=>rHex_c [b] (by unfold maxLen; simp) w
 rw [h1] at CH
 have h256:=UInt8.toNat_lt b
 obtain ⟨s,hs⟩:∃ s,s=str [b]:=⟨_,rfl⟩
 have cv:=fun w=>conv_one (P:=Tryz.prog) 102 9 5 Tryz.underlying102 Tryz.underlying5 Tryz.underlying9 (b.toNat:Int) (by omega) (by omega) w
 have e1:UInt8.ofNat ((b.toNat:Int)).toNat=b:=by simp
 rw [e1,← hs] at cv
 rw [← hs] at CH
 clear hs e1 h1
 by_cases h:isDig 16 (lowB b)=true
 ·rw [if_pos h] at CH
  have hw:wrV b=(digV (lowB b):Int):=by unfold wrV; rw [if_pos h]
  rw [hw]
  have CH:=Lib.hid CH
  clear h hw
  go_enter Tryz.func189,Tryz.ntmps189
  go_wp2_with (go_at_call 208; refine (CH.out _).mono ?_; rintro e w1 ⟨rfl,hx1⟩)
  go_ret
  exact ⟨rfl,by (repeat first | exact Ex0 | assumption | refine Ex1 ?_ | refine Ex2 ?_ | refine Ex3 ?_ | refine Ex4 ?_ | refine Ex5 ?_)⟩
 ·rw [if_neg h] at CH
  have hw:wrV b=-1:=by unfold wrV; rw [if_neg h]
  rw [hw]
  have CH:=Lib.hid CH
  clear h hw
  go_enter Tryz.func189,Tryz.ntmps189
  go_wp2_with (go_at_call 208; refine (CH.out _).mono ?_; rintro e w1 ⟨rfl,hx1⟩)
  go_ret
  exact ⟨rfl,by (repeat first | exact Ex0 | assumption | refine Ex1 ?_ | refine Ex2 ?_ | refine Ex3 ?_ | refine Ex4 ?_ | refine Ex5 ?_)⟩
end Go.Proofs.YtmnohicojefhfaaGreatDoor
end
section
namespace Go.Proofs.YtmnohicojefhfaaGreatDoor
open Go.RowKit
theorem wr_dig {b:UInt8} (h:isDig 16 (lowB b)=true):wrV b=(digV (lowB b):Int):=by unfold wrV; rw [if_pos h]
theorem wr_no {b:UInt8} (h:¬ isDig 16 (lowB b)=true):wrV b=-1:=by unfold wrV; rw [if_neg h]
end Go.Proofs.YtmnohicojefhfaaGreatDoor
end
