/-
strings.Cut at one byte: texts of whatever length.
-/
import Derived.Test.YtmnohicojefhfaaGreatDoorProg
import Derived.Test.YtmnohicojefhfaaGreatDoorBytes
import Derived.Test.YtmnohicojefhfaaGreatDoorShelf
import Derived.Test.YtmnohicojefhfaaGreatDoorAsc3
import Derived.Test.YtmnohicojefhfaaGreatDoorUPn
import Derived.RangeFuncNested
import Derived.RangeFuncBound
import Derived.RangeFuncCalls
import Derived.RangeFuncLeaves
import Derived.RangeFuncBox
import Derived.Shelf.Abstract
import Derived.Shelf.RegionOpen
import Derived.OwnWalkIn
import Derived.TacticsInMore
import Derived.LoopNIn
import Derived.LoopIn
set_option maxRecDepth 100000
set_option maxHeartbeats 8000000
set_option linter.unusedVariables false
set_option linter.unusedSimpArgs false
section
namespace Go.Proofs.YtmnohicojefhfaaGreatDoor
open Go.RowKit
theorem idx_no {l:List UInt8} {c:UInt8} (h:c ∉ l):Lib.indexByte l c=-1:=by
 have h1:=Lib.indexByte_ge l c
 refine Classical.byContradiction fun h0=>?_
 obtain ⟨k,hk⟩:∃ k:Nat,Lib.indexByte l c=(k:Int):=⟨(Lib.indexByte l c).toNat,by omega⟩
 exact h (List.mem_of_getElem? (Lib.indexByte_some hk).1)
theorem idx_at {a r:List UInt8} {c:UInt8} (h:c ∉ a):Lib.indexByte (a ++ c :: r) c=(a.length:Int):=by
 have h1:=Lib.indexByte_ge (a ++ c :: r) c
 by_cases h0:Lib.indexByte (a ++ c :: r) c=-1
 ·exact absurd (Lib.indexByte_none h0 a.length) (by simp)
 ·obtain ⟨k,hk⟩:∃ k:Nat,Lib.indexByte (a ++ c :: r) c=(k:Int):=⟨(Lib.indexByte (a ++ c :: r) c).toNat,by omega⟩
  obtain ⟨k1,k2⟩:=Lib.indexByte_some hk
  rw [hk]
  have:k=a.length:=by
   rcases Nat.lt_trichotomy k a.length with h3 | h3 | h3
   ·rw [List.getElem?_append_left h3] at k1
    exact absurd (List.mem_of_getElem? k1) h
   ·exact h3
   ·exact absurd (by simp) (k2 a.length h3)
  rw [this]
theorem cut_cases (l:List UInt8) (c:UInt8):c ∉ l ∨ ∃ a r,l=a ++ c :: r∧c ∉ a:=by
 induction l with
 | nil=>exact .inl (by simp)
 | cons b l ih =>
  by_cases hb:b=c
  ·exact .inr ⟨[],l,by rw [hb]; rfl,by simp⟩
  ·rcases ih with h | ⟨a,r,h1,h2⟩
   ·exact .inl (by simp only [List.mem_cons,not_or]; exact ⟨fun e=>hb e.symm,h⟩)
   ·exact .inr ⟨b :: a,r,by rw [h1]; rfl,by simp only [List.mem_cons,not_or]; exact ⟨fun e=>hb e.symm,h2⟩⟩
theorem iCut_no (l:List UInt8) (c:UInt8) (h:c ∉ l) (w:World) :
  Calls Tryz.prog 173 #[.string (str l),.string ⟨#[c]⟩] w fun e w'=>e=.returned (.tuple #[.string (str l),.string ⟨#[]⟩,.bool false])∧w=w':=by
 have HX:=Lib.hid (idx_no h)
 clear h
 go_enter Tryz.func173,Tryz.ntmps173
 go_wp2_with (go_at_call 177; refine (Tryz.stringslite_Index_one _ _ _).mono ?_; rintro e w1 ⟨rfl,rfl⟩; rw [str_data,HX.out])
 go_ret3
 exact ⟨rfl,rfl⟩
theorem iCut_at (a r:List UInt8) (c:UInt8) (h:c ∉ a) (hs:a.length + r.length + 1 ≤ maxLen) (w:World) :
  Calls Tryz.prog 173 #[.string (str (a ++ c :: r)),.string ⟨#[c]⟩] w fun e w'=>e=.returned (.tuple #[.string (str a),.string (str r),.bool true])∧∃ q,w'=w.drewN q:=by
 unfold maxLen at hs
 obtain ⟨l,hl⟩:∃ l,l=a ++ c :: r:=⟨_,rfl⟩
 have HX:=Lib.hid (show Lib.indexByte l c=(a.length:Int) from by rw [hl]; exact idx_at h)
 have hll:l.length=a.length + r.length + 1:=by rw [hl]; simp; omega
 have e1:l.take a.length=a:=by rw [hl,List.take_left]
 have e2:l.drop (a.length + 1)=r:=by rw [hl,List.drop_append]; simp [List.drop_eq_nil_of_le]
 rw [← hl]
 have E1:=Lib.hid e1
 have E2:=Lib.hid e2
 clear h hl e1 e2
 have j1:(0:Int) ≤ (a.length:Int):=by omega
 have j2:(a.length:Int) ≤ (l.length:Int):=by omega
 have j3:IntKind.i64.wrap ((a.length:Int) + 1)=(a.length:Int) + 1:=by rw [IntKind.wrap_i64]; omega
 have j4:(a.length:Int) + 1 ≤ (l.length:Int):=by omega
 have j5:((a.length:Int) + 1).toNat=a.length + 1:=by omega
 have j6:(0:Int) ≤ (a.length:Int) + 1:=by omega
 clear hll hs
 go_enter Tryz.func173,Tryz.ntmps173
 go_wp2_with (go_at_call 177; refine (Tryz.stringslite_Index_one _ _ _).mono ?_; rintro e w1 ⟨rfl,rfl⟩; rw [str_data,HX.out])
 go_quiet (fail)
 go_wp2
 go_ret3
 refine ⟨ret_val ?_,_,rfl⟩
 show Value.tuple #[.string (str (l.take a.length)),.string (str (l.drop (a.length + 1))),.bool true]=_
 rw [E1.out,E2.out]
theorem Cut_no (l:List UInt8) (c:UInt8) (h:c ∉ l) (w:World) :
  Calls Tryz.prog 149 #[.string (str l),.string ⟨#[c]⟩] w fun e w'=>e=.returned (.tuple #[.string (str l),.string ⟨#[]⟩,.bool false])∧w=w':=by
 have HX:=Lib.hid h
 clear h
 go_enter Tryz.func149,Tryz.ntmps149
 go_wp2_with (go_at_call 173; refine (iCut_no _ _ HX.out _).mono ?_; rintro e w1 ⟨rfl,rfl⟩)
 go_ret3
 exact ⟨rfl,rfl⟩
theorem Cut_at (a r:List UInt8) (c:UInt8) (h:c ∉ a) (hs:a.length + r.length + 1 ≤ maxLen) (w:World) :
  Calls Tryz.prog 149 #[.string (str (a ++ c :: r)),.string ⟨#[c]⟩] w fun e w'=>e=.returned (.tuple #[.string (str a),.string (str r),.bool true])∧∃ q,w'=w.drewN q:=by
 have HX:=Lib.hid h
 have HS:=Lib.hid hs
 obtain ⟨s,hs2⟩:∃ s,s=str (a ++ c :: r):=⟨_,rfl⟩
 have CC:=fun w=>iCut_at a r c HX.out HS.out w
 rw [← hs2] at CC ⊢
 have CC:=Lib.hid CC
 clear h hs hs2
 go_enter Tryz.func149,Tryz.ntmps149
 go_wp2_with (go_at_call 173; refine (CC.out _).mono ?_; rintro e w1 ⟨rfl,q,rfl⟩)
 go_ret3
 exact ⟨rfl,q,rfl⟩
theorem HasPrefix_c (l p:List UInt8) (b:Bool) (hb:Lib.hasPrefix l p=b) (w:World) :
  Calls Tryz.prog 148 #[.string (str l),.string ⟨p.toArray⟩] w fun e w'=>e=.returned (.bool b)∧w=w' :=
 (Tryz.strings_HasPrefix _ _ w).mono fun e w' ⟨he,hw⟩=>⟨by rw [he,← hb]; rfl,hw.symm⟩
theorem IndexByteS_c (l:List UInt8) (k z:Int) (h:Lib.indexByte l k.toNat.toUInt8=z) (w:World) :
  Calls Tryz.prog 104 #[.string (str l),.int .u8 k] w fun e w'=>e=.returned (.int .i64 z)∧w=w' :=
 (Tryz.strings_IndexByte _ _ w).mono fun e w' ⟨he,hw⟩=>⟨by rw [he,← h]; rfl,hw.symm⟩
theorem pre_one (l:List UInt8) (c:UInt8):Lib.hasPrefix l [c]=decide (l.head?=some c):=by
 cases l with
 | nil=>simp [Lib.hasPrefix,List.isPrefixOf]
 | cons b l =>
  by_cases h:b=c
  ·subst h; simp [Lib.hasPrefix,List.isPrefixOf]
  ·have h2:(c == b)=false:=by rw [beq_eq_false_iff_ne]; exact fun e=>h e.symm
   simp [Lib.hasPrefix,List.isPrefixOf,h,h2]
theorem pre_yes {l:List UInt8} {c:UInt8} (h:l.head?=some c):Lib.hasPrefix l [c]=true:=by rw [pre_one]; simp [h]
theorem pre_no {l:List UInt8} {c:UInt8} (h:¬ l.head?=some c):Lib.hasPrefix l [c]=false:=by rw [pre_one]; simp [h]
theorem idx_yes {l:List UInt8} {c:UInt8} (h:c ∈ l):∃ z:Int,Lib.indexByte l c=z∧0 ≤ z:=by
 refine ⟨_,rfl,?_⟩
 have g1:=Lib.indexByte_ge l c
 refine Classical.byContradiction fun h0=>?_
 have e:Lib.indexByte l c=-1:=by omega
 obtain ⟨j,hj,hj2⟩:=List.getElem_of_mem h
 exact Lib.indexByte_none e j (by rw [List.getElem?_eq_getElem hj,hj2])
end Go.Proofs.YtmnohicojefhfaaGreatDoor
end
section
namespace Go.Proofs.YtmnohicojefhfaaGreatDoor
open Go.RowKit Go.Shelf
attribute [local go_sem] Oper.semAt_some
def markS:List (List UInt8) → List (List UInt8 × Bool)
 | []=>[]
 | [s]=>[(s,true)]
 | s :: t :: ss=>(s,false) :: markS (t :: ss)
theorem mark_more (s:List UInt8) (ss:List (List UInt8)) (h:ss ≠ []):markS (s :: ss)=(s,false) :: markS ss:=by
 cases ss with
 | nil=>exact absurd rfl h
 | cons t ss=>rfl
theorem mark_len (ss:List (List UInt8)):(markS ss).length=ss.length:=by
 induction ss with
 | nil=>rfl
 | cons s ss ih =>
  cases ss with
  | nil=>rfl
  | cons t ss=>rw [mark_more s _ (by simp)]; simp only [List.length_cons] at *; omega
def txtLen:Value → Nat | .string s=>s.size | _=>0
def encS (x:List UInt8 × Bool):Array Value:=#[.string (str x.1),.bool x.2]
theorem grown_ext {a b:World} (h:Ext a b):a.grownBy b none:=⟨h.os,h.tape,h.output,h.size,fun k hk _=>h.block k hk⟩
theorem seg1_in (l Bn n₀:Nat) (s:List UInt8) (hs:s.length ≤ 1099511627776) (J Jx:List (List UInt8 × Bool) → World → Prop)
  (hJ:∀ pre W W',J pre W → Ext W W' → J pre W')
  (hY:∀ pre x W,J pre W → pre.length < (segsL s).length → YieldAt Fence.wide 6 Tryz.prog l (encS x) W fun e W' =>
   (e=.returned (.bool true)∧J (pre ++ [x]) W'∧Below n₀ W W') ∨ (e=.returned (.bool false)∧Jx (pre ++ [x]) W'))
  (W:World) (hBn:W.cell? ⟨Bn,0,none⟩=some (.string (str (47 :: s)))) (h0:J [] W) :
  CallsIn Fence.wide 7 Tryz.prog 192 #[.func (.yield l) #[] #[],.pointer (some ⟨Bn,0,none⟩)] W fun e W'=>(∃ v,e=.returned v) ∧
   ((∃ ys,ys=markS (segsL s)∧J ys W') ∨ (∃ pre,pre <+: markS (segsL s)∧Jx pre W')):=by
 refine callsIn_of_wp Tryz.func192 rfl trivial ?_ rfl
 simp only [Tryz.ntmps192,List.size_toArray,List.length_cons,List.length_nil,Nat.reduceAdd,Nat.reduceSub,Array.replicate_succ,Array.replicate_zero,List.push_toArray,List.append_toArray,List.nil_append,List.cons_append]
 gi_wp2
 gi_loopw [3] (fun sv wr=>∃ pre l',sv=.string (str l')∧l'.length ≤ s.length∧markS (segsL s)=pre ++ markS (segsL l')∧pre.length < (segsL s).length∧J pre wr)
  (fun sv _=>txtLen sv)
 case atStart=>exact ⟨[],s,by simp,Nat.le_refl _,by simp,List.length_pos_iff.2 (segs_ne s),h0⟩
 case round =>
  obtain ⟨pre,l',rfl,hll,hm,hlt,hJs⟩:=hrel
  rcases cut_cases l' 47 with hno | ⟨a,r,rfl,hno⟩
  ·have e1:markS (segsL s)=pre ++ [(l',true)]:=by rw [hm,segs_none l' hno]; rfl
   have HE:=Lib.hid e1
   have HN:=Lib.hid hno
   clear e1 hm hno
   gi_wp2_with (refine ⟨trivial,?_⟩; gi_at_call 149; refine (callsIn_wide.2 (Cut_no _ _ HN.out _)).mono ?_; rintro e w1 ⟨rfl,rfl⟩; have hx1:=Ext.rfl' wr; obtain ⟨fn,tmps,assign,body,hy,hR⟩:=hY pre (l',true) wr (hJ _ _ _ hJs hx1) hlt; dsimp only [encS] at hy)
   refine hR.mono ?_
   rintro e W3 (⟨rfl,hJ3,hk3⟩ | ⟨rfl,hJx3⟩)
   ·gi_wp2
    refine bodyPost_ret (results_none rfl _ _ _) rfl ?_
    exact ⟨⟨_,rfl⟩,.inl ⟨_,rfl,by rw [HE.out]; exact hJ3⟩⟩
   ·gi_wp2
    refine bodyPost_ret (results_none rfl _ _ _) rfl ?_
    exact ⟨⟨_,rfl⟩,.inr ⟨_,by rw [HE.out]; exact List.prefix_rfl,hJx3⟩⟩
  ·have e1:markS (segsL s)=pre ++ (a,false) :: markS (segsL r):=by rw [hm,segs_some a r hno,mark_more _ _ (segs_ne r)]
   have hl2:pre.length + 1 < (segsL s).length:=by
    have:=congrArg List.length e1
    rw [mark_len,List.length_append,List.length_cons,mark_len] at this
    have:=List.length_pos_iff.2 (segs_ne r)
    omega
   have hsz:a.length + r.length + 1 ≤ s.length:=by simp only [List.length_append,List.length_cons] at hll; omega
   have hmx:a.length + r.length + 1 ≤ maxLen:=by unfold maxLen; omega
   have HE:=Lib.hid e1
   have HN:=Lib.hid hno
   clear e1 hm hno
   obtain ⟨sv,hsv⟩:∃ sv,sv=str (a ++ 47 :: r):=⟨_,rfl⟩
   have CC:=fun w=>Cut_at a r 47 HN.out hmx w
   rw [← hsv] at CC ⊢
   have hsvl:sv.size=a.length + r.length + 1:=by rw [hsv]; simp; omega
   have CC:=Lib.hid CC
   have HSV:=Lib.hid hsvl
   clear hsv hsvl
   gi_wp2_with (refine ⟨trivial,?_⟩; gi_at_call 149; refine (callsIn_wide.2 (CC.out _)).mono ?_; rintro e w1 ⟨rfl,q,rfl⟩; have hx1:=(Ext.rfl' wr).drN q; obtain ⟨fn,tmps,assign,body,hy,hR⟩:=hY pre (a,false) (wr.drewN q) (hJ _ _ _ hJs hx1) hlt; dsimp only [encS] at hy)
   refine hR.mono ?_
   rintro e W3 (⟨rfl,hJ3,hk3⟩ | ⟨rfl,hJx3⟩)
   ·gi_wp2
    go_roundw
    case rel=>exact ⟨pre ++ [(a,false)],r,rfl,by omega,by rw [HE.out]; simp,by simp; omega,hJ3⟩
    case measure=>simp only [txtLen,str_size]; rw [HSV.out]; omega
   ·gi_wp2
    refine bodyPost_ret (results_none rfl _ _ _) rfl ?_
    exact ⟨⟨_,rfl⟩,.inr ⟨_,⟨markS (segsL r),by rw [HE.out]; simp⟩,hJx3⟩⟩
theorem seg_stops (Bn n₀:Nat) (s:List UInt8) (hs:s.length ≤ 1099511627776) (w:World) (hBn:Bn < w.heap.size) (hc:w.cell? ⟨Bn,0,none⟩=some (.string (str (47 :: s)))) :
  SeqStopsK Fence.wide 7 Tryz.prog 192 #[.pointer (some ⟨Bn,0,none⟩)] encS (Below n₀) (fun ys=>ys=markS (segsL s)) (fun pre=>pre <+: markS (segsL s)) (segsL s).length w:=fun l J Jx W hW hJ _ hY h0 =>
 seg1_in l Bn n₀ s hs J Jx (fun pre A B hj hx=>hJ pre A B none hj (grown_ext hx) (fun r e=>by cases e)) hY W ((hW.cell (p:=⟨Bn,0,none⟩) hBn).trans hc) h0
theorem segments_c (s:List UInt8) (w:World) :
  Calls Tryz.prog 175 #[.string (str s)] w fun e w'=>e=.returned (.func (.func 192) #[] #[.pointer (some ⟨w.heap.size,0,none⟩)])∧w'=w.alloc (.cells #[.string (str s)] 9):=by
 go_enter Tryz.func175,Tryz.ntmps175
 go_wp2
 go_ret
 exact ⟨rfl,rfl⟩
end Go.Proofs.YtmnohicojefhfaaGreatDoor
end
