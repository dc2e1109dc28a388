/-
Runes beyond ASCII; the first of three bytes that end a size: plain laws.
-/
import Derived.Test.YthbofilcnpdghaaGreatDoorZaf
import Derived.Test.YthbofilcnpdghaaGreatDoorZag
import Derived.Laws.RangeAny
import Derived.Lib.IndexAny
set_option maxRecDepth 100000
set_option maxHeartbeats 8000000
set_option linter.unusedVariables false
set_option linter.unusedSimpArgs false
namespace Go.Proofs.YthbofilcnpdghaaGreatDoor
open Go.RowKit
theorem tw_all12 (p:UInt8 → Bool) (l:List UInt8):(l.takeWhile p).all p=true:=by
 induction l with
 | nil=>rfl
 | cons b l ih =>
  rw [List.takeWhile_cons]
  split
  ·rename_i h; simp only [List.all_cons,h,ih,Bool.and_self]
  ·rfl
theorem tw_len12 (p:UInt8 → Bool) (l:List UInt8):(l.takeWhile p).length ≤ l.length:=(List.takeWhile_prefix p).length_le
theorem tw_take12 (p:UInt8 → Bool) (l:List UInt8):l.take (l.takeWhile p).length=l.takeWhile p:=(List.prefix_iff_eq_take.1 (List.takeWhile_prefix p)).symm
theorem tw_stop12 (p:UInt8 → Bool):∀ (l:List UInt8) (h:(l.takeWhile p).length < l.length),p l[(l.takeWhile p).length]=false
 | [],h=>by simp at h
 | b :: l,h=>by
  by_cases hb:p b=true
  ·have e:(b :: l).takeWhile p=b :: l.takeWhile p:=by rw [List.takeWhile_cons,if_pos hb]
   simp only [e,List.length_cons,List.getElem_cons_succ] at h ⊢
   exact tw_stop12 p l (by simpa using h)
  ·have e:(b :: l).takeWhile p=[]:=by rw [List.takeWhile_cons,if_neg hb]
   simp only [e,List.length_nil,List.getElem_cons_zero]
   simpa using hb
theorem get_of12 (s:ByteArray) (p:Nat) (b:UInt8) (h:s.data.toList[p]?=some b):s.get! p=b:=by
 have hp:p < s.data.size:=by
  rcases Nat.lt_or_ge p s.data.size with h1 | h1
  ·exact h1
  ·rw [List.getElem?_eq_none (by simpa using h1)] at h; cases h
 have:s.data.toList[p]?=some (s.data[p]):=by simp
 rw [this] at h
 have hb:=Option.some.inj h
 show s.data[p]! =b
 rw [← hb]
 exact getElem!_pos s.data p hp
def hiG12 (s:ByteArray) (pos n:Nat):Prop:=pos + n ≤ s.size∧1 ≤ n∧∀ k,k < n → 128 ≤ (s.get! (pos + k)).toNat
theorem dec_hi12 (s:ByteArray) (pos:Nat) (h:pos < s.size) (ha:128 ≤ (s.get! pos).toNat) :
  hiG12 s pos (Utf8.decode s pos).2∧((Utf8.decode s pos).1=65533 ∨ (128 ≤ (Utf8.decode s pos).1∧Utf8.valid (Utf8.decode s pos).1=true)):=by
 have one:hiG12 s pos 1:=⟨by omega,Nat.le_refl _,fun k hk=>by obtain rfl:k=0:=(by omega); exact ha⟩
 have hb:∀ k,(s.get! (pos + k)).toNat < 256:=fun k=>(s.get! (pos + k)).toNat_lt
 have h0:=hb 0; have h1:=hb 1; have h2:=hb 2; have h3:=hb 3
 have hn:¬ (s.get! (pos + 0)).toNat < 128:=by rw [Nat.add_zero]; omega
 have ha0:128 ≤ (s.get! (pos + 0)).toNat:=by omega
 simp only [Utf8.decode,hn,if_false]
 obtain ⟨x0,e0⟩:∃ x,(s.get! (pos + 0)).toNat=x:=⟨_,rfl⟩
 obtain ⟨x1,e1⟩:∃ x,(s.get! (pos + 1)).toNat=x:=⟨_,rfl⟩
 obtain ⟨x2,e2⟩:∃ x,(s.get! (pos + 2)).toNat=x:=⟨_,rfl⟩
 obtain ⟨x3,e3⟩:∃ x,(s.get! (pos + 3)).toNat=x:=⟨_,rfl⟩
 rw [e0] at h0 hn ha0; rw [e1] at h1; rw [e2] at h2; rw [e3] at h3
 simp only [e0,e1,e2,e3]
 split
 ·rename_i hc
  simp only [Bool.and_eq_true,beq_iff_eq,decide_eq_true_eq] at hc
  split
  ·refine ⟨⟨by omega,by omega,fun k hk=>?_⟩,.inr ⟨by omega,?_⟩⟩
   ·have:k=0 ∨ k=1:=by omega
    rcases this with rfl | rfl <;> omega
   ·simp only [Utf8.valid,Bool.or_eq_true,Bool.and_eq_true,decide_eq_true_eq]; omega
  ·exact ⟨one,.inl rfl⟩
 ·split
  ·rename_i hc
   simp only [Bool.and_eq_true,beq_iff_eq,decide_eq_true_eq] at hc
   split
   ·rename_i hv
    simp only [Bool.and_eq_true,decide_eq_true_eq] at hv
    refine ⟨⟨by omega,by omega,fun k hk=>?_⟩,.inr ⟨by omega,hv.2⟩⟩
    have:k=0 ∨ k=1 ∨ k=2:=by omega
    rcases this with rfl | rfl | rfl <;> omega
   ·exact ⟨one,.inl rfl⟩
  ·split
   ·rename_i hc
    simp only [Bool.and_eq_true,beq_iff_eq,decide_eq_true_eq] at hc
    split
    ·rename_i hv
     simp only [Bool.and_eq_true,decide_eq_true_eq] at hv
     refine ⟨⟨by omega,by omega,fun k hk=>?_⟩,.inr ⟨by omega,hv.2⟩⟩
     have:k=0 ∨ k=1 ∨ k=2 ∨ k=3:=by omega
     rcases this with rfl | rfl | rfl | rfl <;> omega
    ·exact ⟨one,.inl rfl⟩
   ·exact ⟨one,.inl rfl⟩
theorem enc_hi12 (r:Nat) (h:128 ≤ r) (hv:Utf8.valid (r:Int)=true) :
  ∃ l:List UInt8,Utf8.encode (r:Int)=⟨l.toArray⟩∧2 ≤ l.length∧l.length ≤ 4∧∀ b ∈ l,128 ≤ b.toNat:=by
 have hr:r ≤ 1114111:=by
  simp only [Utf8.valid,Bool.or_eq_true,Bool.and_eq_true,decide_eq_true_eq] at hv; omega
 have hn:¬ r < 128:=by omega
 simp only [Utf8.encode,hv,if_true,Int.toNat_natCast,hn,if_false]
 split
 ·refine ⟨[_,_],rfl,by simp,by simp,?_⟩
  intro b hb
  simp only [List.mem_cons,List.mem_nil_iff,or_false] at hb
  rcases hb with rfl | rfl <;> (rw [UInt8.toNat_ofNat']; omega)
 ·split
  ·refine ⟨[_,_,_],rfl,by simp,by simp,?_⟩
   intro b hb
   simp only [List.mem_cons,List.mem_nil_iff,or_false] at hb
   rcases hb with rfl | rfl | rfl <;> (rw [UInt8.toNat_ofNat']; omega)
  ·refine ⟨[_,_,_,_],rfl,by simp,by simp,?_⟩
   intro b hb
   simp only [List.mem_cons,List.mem_nil_iff,or_false] at hb
   rcases hb with rfl | rfl | rfl | rfl <;> (rw [UInt8.toNat_ofNat']; omega)
theorem noAny_hi12 {s:ByteArray} {c:List UInt8} {pos n:Nat} (h:Lib.NoAny s.data.toList c pos) (hn:hiG12 s pos n) (hc:∀ b:UInt8,128 ≤ b.toNat → c.contains b=false):Lib.NoAny s.data.toList c (pos + n):=by
 intro j b hj hb
 rcases Nat.lt_or_ge j pos with h1 | h1
 ·exact h j b h1 hb
 ·have h2:=hn.2.2 (j - pos) (by omega)
  rw [show pos + (j - pos)=j by omega,get_of12 s j b hb] at h2
  exact hc b h2
theorem c59:∀ b:UInt8,128 ≤ b.toNat → ([59,32,9]:List UInt8).contains b=false:=fun b h=>by
 rw [List.contains_eq_any_beq]
 simp only [List.any_cons,List.any_nil,Bool.or_false,Bool.or_eq_false_iff,beq_eq_false_iff_ne]
 exact ⟨fun e=>by rw [e] at h; exact absurd h (by decide),fun e=>by rw [e] at h; exact absurd h (by decide),fun e=>by rw [e] at h; exact absurd h (by decide)⟩
def szB (b:UInt8):Bool:=!(b == 59 || b == 32 || b == 9)
theorem szB_c (b:UInt8):([59,32,9]:List UInt8).contains b=!szB b:=by
 unfold szB
 rw [List.contains_eq_any_beq]
 simp [Bool.or_assoc]
theorem ia_sz (l:List UInt8):Lib.indexAny (l ++ [59]) [59,32,9]=(szN l:Int):=by
 have hle:(l.takeWhile szB).length ≤ l.length:=tw_len12 szB l
 have hno:Lib.NoAny (l ++ [59]) [59,32,9] (l.takeWhile szB).length:=by
  intro j b hj hb
  have h1:(l.takeWhile szB)[j]?=some b:=by
   rw [← tw_take12 szB l,List.getElem?_take,if_pos hj]
   rw [List.getElem?_append_left (by omega)] at hb
   exact hb
  have h2:=List.all_eq_true.1 (tw_all12 szB l) b (List.mem_of_getElem? h1)
  rw [szB_c,h2]; rfl
 show _=((l.takeWhile szB).length:Int)
 rcases Nat.lt_or_ge (l.takeWhile szB).length l.length with hlt | hge
 ·have h1:=tw_stop12 szB l hlt
  exact Lib.indexAny_hit hno (by rw [List.getElem?_append_left hlt]; exact List.getElem?_eq_getElem hlt) (by rw [szB_c,h1]; rfl)
 ·have he:(l.takeWhile szB).length=l.length:=by omega
  rw [he] at hno ⊢
  exact Lib.indexAny_hit (x:=59) hno (by simp) (by decide)
end Go.Proofs.YthbofilcnpdghaaGreatDoor
