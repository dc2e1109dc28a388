/-
Letters and digits: plain words and laws. No program in sight.
-/
import Derived.Test.YtmnohicojefhfaaGreatDoorBytes
set_option maxRecDepth 100000
set_option maxHeartbeats 8000000
set_option linter.unusedVariables false
set_option linter.unusedSimpArgs false
section
namespace Go.Proofs.YtmnohicojefhfaaGreatDoor
open Go.RowKit
def alB (c:Nat):Bool:=(decide (97 ≤ c) && decide (c ≤ 122)) || (decide (65 ≤ c) && decide (c ≤ 90)) || (decide (48 ≤ c) && decide (c ≤ 57))
def AlC (c:Int) (b:Bool):Prop :=
 (b=false∧(decide ((97:Int) ≤ c)=false∧decide ((65:Int) ≤ c)=false∧decide ((48:Int) ≤ c)=false)) ∨
 (b=true∧(decide ((97:Int) ≤ c)=false∧decide ((65:Int) ≤ c)=false∧decide ((48:Int) ≤ c)=true∧decide (c ≤ 57)=true)) ∨
 (b=false∧(decide ((97:Int) ≤ c)=false∧decide ((65:Int) ≤ c)=false∧decide ((48:Int) ≤ c)=true∧decide (c ≤ 57)=false)) ∨
 (b=true∧(decide ((97:Int) ≤ c)=false∧decide ((65:Int) ≤ c)=true∧decide (c ≤ 90)=true)) ∨
 (b=false∧(decide ((97:Int) ≤ c)=false∧decide ((65:Int) ≤ c)=true∧decide (c ≤ 90)=false∧decide ((48:Int) ≤ c)=true∧decide (c ≤ 57)=false)) ∨
 (b=true∧(decide ((97:Int) ≤ c)=true∧decide (c ≤ 122)=true)) ∨
 (b=false∧(decide ((97:Int) ≤ c)=true∧decide (c ≤ 122)=false∧decide ((65:Int) ≤ c)=true∧decide (c ≤ 90)=false∧decide ((48:Int) ≤ c)=true∧decide (c ≤ 57)=false))
theorem al_cases (c:Nat):AlC (c:Int) (alB c):=by
 unfold AlC alB
 simp only [decide_eq_true_eq,decide_eq_false_iff_not,Bool.or_eq_true,Bool.and_eq_true,Bool.or_eq_false_iff,Bool.and_eq_false_iff]
 omega
end Go.Proofs.YtmnohicojefhfaaGreatDoor
end
section
namespace Go.Proofs.YtmnohicojefhfaaGreatDoor
open Go.RowKit
def segsL:List UInt8 → List (List UInt8)
 | []=>[[]]
 | b :: l=>if b=47 then [] :: segsL l else
   match segsL l with
   | []=>[[b]]
   | s :: ss=>(b :: s) :: ss
theorem segs_ne (l:List UInt8):segsL l ≠ []:=by
 cases l with
 | nil=>simp [segsL]
 | cons b l =>
  unfold segsL
  split
  ·simp
  ·split <;> simp
theorem segs_none:∀ (l:List UInt8),47 ∉ l → segsL l=[l]
 | [],_=>rfl
 | b :: l,h=>by
  have h1:¬ b=47:=fun e=>h (by rw [e]; simp)
  have h2:=segs_none l (fun e=>h (by simp [e]))
  unfold segsL
  rw [if_neg h1,h2]
theorem segs_some:∀ (a r:List UInt8),47 ∉ a → segsL (a ++ 47 :: r)=a :: segsL r
 | [],r,_=>by show segsL (47 :: r)=_; simp [segsL]
 | b :: a,r,h=>by
  have h1:¬ b=47:=fun e=>h (by rw [e]; simp)
  have h2:=segs_some a r (fun e=>h (by simp [e]))
  show segsL (b :: (a ++ 47 :: r))=_
  simp only [segsL,if_neg h1,h2]
theorem segs_no:∀ (l s:List UInt8),s ∈ segsL l → 47 ∉ s
 | [],s,h=>by simp [segsL] at h; subst h; simp
 | b :: l,s,h=>by
  have ih:=segs_no l
  by_cases hb:b=47
  ·simp only [segsL,if_pos hb,List.mem_cons] at h
   rcases h with rfl | h
   ·simp
   ·exact ih s h
  ·simp only [segsL,if_neg hb] at h
   cases hs:segsL l with
   | nil=>exact absurd hs (segs_ne l)
   | cons x ss =>
    rw [hs] at h ih
    simp only [List.mem_cons] at h
    rcases h with rfl | h
    ·have:=ih x (by simp)
     simp only [List.mem_cons,not_or]
     exact ⟨fun e=>hb e.symm,this⟩
    ·exact ih s (by simp [h])
theorem segs_sub:∀ (l s:List UInt8),s ∈ segsL l → ∀ b ∈ s,b ∈ l
 | [],s,h,b,hb=>by simp [segsL] at h; subst h; cases hb
 | c :: l,s,h,b,hb=>by
  have ih:=segs_sub l
  by_cases hc:c=47
  ·simp only [segsL,if_pos hc,List.mem_cons] at h
   rcases h with rfl | h
   ·cases hb
   ·simp [ih s h b hb]
  ·simp only [segsL,if_neg hc] at h
   cases hs:segsL l with
   | nil=>exact absurd hs (segs_ne l)
   | cons x ss =>
    rw [hs] at h ih
    simp only [List.mem_cons] at h
    rcases h with rfl | h
    ·simp only [List.mem_cons] at hb
     rcases hb with rfl | hb
     ·simp
     ·simp [ih x (by simp) b hb]
    ·simp [ih s (by simp [h]) b hb]
def totS (ss:List (List UInt8)):Nat:=(ss.map fun s=>s.length + 1).sum
theorem tot_app (a b:List (List UInt8)):totS (a ++ b)=totS a + totS b:=by simp [totS]
theorem tot_one (a:List UInt8):totS [a]=a.length + 1:=by simp [totS]
theorem tot_cons (a:List UInt8) (b:List (List UInt8)):totS (a :: b)=a.length + 1 + totS b:=by simp [totS]
theorem segs_len:∀ (l:List UInt8),totS (segsL l)=l.length + 1
 | []=>rfl
 | b :: l=>by
  have ih:=segs_len l
  by_cases hb:b=47
  ·simp only [segsL,if_pos hb,tot_cons,ih]; simp; omega
  ·simp only [segsL,if_neg hb]
   cases hs:segsL l with
   | nil=>exact absurd hs (segs_ne l)
   | cons x ss =>
    rw [hs] at ih
    rw [tot_cons] at ih ⊢
    simp only [List.length_cons]; omega
def dotS (s:List UInt8):Bool:=s == [] || s == [46] || s == [46,46]
def walkS:List (List UInt8) → List (List UInt8) → Option (List (List UInt8))
 | left,[]=>some left
 | left,s :: ss=>if s=[46,46] then (if left=[] then none else walkS left.dropLast ss) else if s=[] ∨ s=[46] then walkS left ss else walkS (left ++ [s]) ss
theorem walk_app:∀ (a b left:List (List UInt8)),walkS left (a ++ b)=(walkS left a).bind fun x=>walkS x b
 | [],b,left=>rfl
 | s :: a,b,left=>by
  have ih:=walk_app a b
  show walkS left (s :: (a ++ b))=(walkS left (s :: a)).bind fun x=>walkS x b
  by_cases h1:s=[46,46]
  ·by_cases h2:left=[]
   ·simp only [walkS,if_pos h1,if_pos h2]; rfl
   ·simp only [walkS,if_pos h1,if_neg h2]; exact ih _
  ·by_cases h2:s=[] ∨ s=[46]
   ·simp only [walkS,if_neg h1,if_pos h2]; exact ih _
   ·simp only [walkS,if_neg h1,if_neg h2]; exact ih _
def outS (left:List (List UInt8)) (d:Bool):List UInt8:=if left=[] then [47] else left.flatMap (fun s=>47 :: s) ++ if d then [47] else []
def cleanL (l:List UInt8):List UInt8 × Int :=
 if l.head?=some 47∧l.length ≤ 4096∧0 ∉ l then
  match walkS [] (segsL l.tail) with
  | none=>([],40)
  | some left=>(outS left (dotS ((segsL l.tail).getLastD [])),0)
 else ([],40)
def OkS (s:List UInt8):Prop:=dotS s=false∧47 ∉ s∧0 ∉ s
theorem walk_ok:∀ (ss left x:List (List UInt8)),(∀ s ∈ ss,47 ∉ s∧0 ∉ s) → (∀ s ∈ left,OkS s) → walkS left ss=some x → (∀ s ∈ x,OkS s)∧totS x ≤ totS left + totS ss
 | [],left,x,_,hl,h=>by
  simp only [walkS,Option.some.injEq] at h
  subst h
  exact ⟨hl,by simp [totS]⟩
 | s :: ss,left,x,hs,hl,h=>by
  have hs':∀ t ∈ ss,47 ∉ t∧0 ∉ t:=fun t ht=>hs t (by simp [ht])
  unfold walkS at h
  rw [tot_cons]
  split at h
  ·split at h
   ·cases h
   ·rename_i h0
    obtain ⟨h1,h2⟩:=walk_ok ss _ x hs' (fun t ht=>hl t ((List.dropLast_sublist _).subset ht)) h
    refine ⟨h1,?_⟩
    have e:=List.dropLast_concat_getLast h0
    have e2:totS left=totS left.dropLast + totS [left.getLast h0]:=by rw [← tot_app,e]
    omega
  ·split at h
   ·obtain ⟨h1,h2⟩:=walk_ok ss _ x hs' hl h
    exact ⟨h1,by omega⟩
   ·rename_i h1 h2
    have hok:OkS s:=⟨by
     simp only [dotS,Bool.or_eq_false_iff,beq_eq_false_iff_ne]
     exact ⟨⟨fun e=>h2 (.inl e),fun e=>h2 (.inr e)⟩,h1⟩,hs s (by simp)⟩
    obtain ⟨h1,h2⟩:=walk_ok ss _ x hs' (fun t ht=>by
     simp only [List.mem_append,List.mem_singleton] at ht
     rcases ht with ht | rfl
     ·exact hl t ht
     ·exact hok) h
    refine ⟨h1,?_⟩
    rw [tot_app,tot_one] at h2
    omega
theorem tot_flat (ss:List (List UInt8)):(ss.flatMap (fun s=>47 :: s)).length=totS ss:=by
 induction ss with
 | nil=>rfl
 | cons s ss ih=>rw [List.flatMap_cons,List.length_append,ih,tot_cons]; simp
end Go.Proofs.YtmnohicojefhfaaGreatDoor
end
