/-
Checks: a number in a range, a path, a host.
-/
import Derived.Test.YtmnohicojefhfaaGreatDoorCFb
import Derived.Test.YtmnohicojefhfaaGreatDoorCln
import Derived.Test.YtmnohicojefhfaaGreatDoorUHc
import Derived.Test.YtmnohicojefhfaaGreatDoorCHa
import Derived.Test.YtmnohicojefhfaaGreatDoorCFc
import Derived.Laws.StructEq
import Derived.Deep.CutBlock
import Derived.Deep.DeepCutAuto
set_option maxRecDepth 100000
set_option maxHeartbeats 8000000
set_option linter.unusedVariables false
set_option linter.unusedSimpArgs false
section
namespace Go.Proofs.YtmnohicojefhfaaGreatDoor
open Go.RowKit
theorem cinB_c (n a b:Int) (w:World):Calls Tryz.prog 29 #[.int .i64 n,.int .i64 a,.int .i64 b] w fun e w'=>e=.returned (.bool (inB n a b))∧w'=w:=by
 unfold inB
 by_cases h1:a ≤ n
 ·have d1:decide (a ≤ n)=true:=decide_eq_true h1
  by_cases h2:n ≤ b
  ·have d2:decide (n ≤ b)=true:=decide_eq_true h2
   rw [d1,d2]
   go_enter Tryz.func29,Tryz.ntmps29
   go_wp2
   go_ret
   exact ⟨rfl,rfl⟩
  ·have d2:decide (n ≤ b)=false:=decide_eq_false h2
   rw [d1,d2]
   go_enter Tryz.func29,Tryz.ntmps29
   go_wp2
   go_ret
   exact ⟨rfl,rfl⟩
 ·have d1:decide (a ≤ n)=false:=decide_eq_false h1
  rw [d1,Bool.false_and]
  go_enter Tryz.func29,Tryz.ntmps29
  go_wp2
  go_ret
  exact ⟨rfl,rfl⟩
theorem pathC_eq (l:List UInt8):pathC l=(decide ((cleanL l).2=0) && decide ((cleanL l).1=l) && bytesC 33 l):=by
 unfold pathC
 congr 1
 by_cases h1:(cleanL l).2=0
 ·by_cases h2:(cleanL l).1=l
  ·rw [decide_eq_true h1,decide_eq_true h2,decide_eq_true (show cleanL l=(l,0) from Prod.ext h2 h1)]; rfl
  ·rw [decide_eq_false h2,decide_eq_false (fun e=>h2 (congrArg Prod.fst e)),Bool.and_false]
 ·rw [decide_eq_false h1,decide_eq_false (fun e=>h1 (congrArg Prod.snd e)),Bool.false_and]
theorem cpath_c (l:List UInt8) (hs:l.length ≤ 140737488355328) (w:World):Calls Tryz.prog 124 #[.string (str l)] w (Gives (.bool (pathC l)) w):=by
 rw [pathC_eq]
 have CC:=Lib.hid (fun w=>Clean_c l hs w)
 have CB:=Lib.hid (fun w=>cbytes_c 33 (by omega) l w)
 obtain ⟨s,hsl⟩:∃ s,s=str l:=⟨_,rfl⟩
 obtain ⟨e,hev⟩:∃ e,e=(cleanL l).2:=⟨_,rfl⟩
 obtain ⟨t,htv⟩:∃ t,t=str (cleanL l).1:=⟨_,rfl⟩
 obtain ⟨b,hbv⟩:∃ b,b=bytesC 33 l:=⟨_,rfl⟩
 rw [← hev,← htv,← hsl] at CC
 rw [← hsl,← hbv] at CB
 rw [← hsl,← hev,← hbv]
 by_cases he:e=0
 ·subst he
  by_cases h2:(cleanL l).1=l
  ·obtain rfl:t=s:=by rw [htv,hsl,h2]
   rw [decide_eq_true h2]
   clear htv hsl hev hbv h2
   go_enter Tryz.func124,Tryz.ntmps124
   go_wp2_with (first
    | (go_at_call 156; refine (CC.out _).mono ?_; rintro e w1 ⟨rfl,hx1⟩)
    | (go_at_call 105; refine (CB.out _).mono ?_; rintro e w2 ⟨rfl,hx2⟩))
   go_ret
   exact ⟨ret_bool (by simp),hx1.tr hx2⟩
  ·have g1:¬ t.toList=s.toList:=by rw [htv,hsl,str_tl,str_tl]; exact h2
   have g2:(t.toList == s.toList)=false:=beq_eq_false_iff_ne.2 g1
   rw [decide_eq_false h2]
   clear htv hsl hev hbv h2
   go_enter Tryz.func124,Tryz.ntmps124
   go_wp2_with (first
    | (go_at_call 156; refine (CC.out _).mono ?_; rintro e w1 ⟨rfl,hx1⟩)
    | (go_at_call 105; refine (CB.out _).mono ?_; rintro e w2 ⟨rfl,hx2⟩))
   go_ret
   exact ⟨ret_bool (by simp),hx1⟩
 ·have g2:(e == 0)=false:=beq_eq_false_iff_ne.2 he
  rw [decide_eq_false he]
  clear htv hsl hev hbv
  go_enter Tryz.func124,Tryz.ntmps124
  go_wp2_with (first
   | (go_at_call 156; refine (CC.out _).mono ?_; rintro e w1 ⟨rfl,hx1⟩)
   | (go_at_call 105; refine (CB.out _).mono ?_; rintro e w2 ⟨rfl,hx2⟩))
  go_ret
  exact ⟨ret_bool (by simp),hx1⟩
theorem bareL_eq (l:List UInt8) (h:2 < l.length):Lib.trimPrefix l [42,46]=bareL l:=by
 obtain ⟨a,b,r,rfl⟩:∃ a b r,l=a :: b :: r:=by
  match l,h with
  | a :: b :: r,_=>exact ⟨a,b,r,rfl⟩
 have hp:Lib.hasPrefix (a :: b :: r) [42,46]=((42 == a) && (46 == b)):=by
  unfold Lib.hasPrefix
  simp [List.isPrefixOf]
 unfold bareL Lib.trimPrefix
 rw [hp]
 by_cases h1:a=42
 ·by_cases h2:b=46
  ·subst h1; subst h2
   rw [if_pos (by rfl),if_pos ⟨h,rfl⟩]; rfl
  ·rw [if_neg (by simp [Ne.symm h2]),if_neg (by simp [h2])]
 ·rw [if_neg (by simp [Ne.symm h1]),if_neg (by simp [h1])]
theorem bareL_short (l:List UInt8) (h:¬ 2 < l.length):bareL l=l:=if_neg fun e=>h e.1
theorem bareL_len (l:List UInt8):(bareL l).length ≤ l.length:=by unfold bareL; split <;> simp
theorem chost_c (l:List UInt8) (hs:l.length ≤ 140737488355328) (w:World) (hE:ErrR w):Calls Tryz.prog 79 #[.string (str l)] w (Gives (.bool (hostC l)) w):=by
 have CH:=Lib.hid (fun w' (hx:Ext w w')=>uHost_c (bareL l) (Nat.le_trans (bareL_len l) hs) w' (hE.ext hx))
 have CT:Hid (2 < l.length → ∀ w',Calls Tryz.prog 120 #[.string (str l),.string ⟨#[42,46]⟩] w' fun e w2=>e=.returned (.string (str (bareL l)))∧w2=w'):=Lib.hid fun h w'=>by
  refine (Tryz.strings_TrimPrefix _ _ w').mono ?_
  rintro e w2 ⟨rfl,rfl⟩
  refine ⟨?_,rfl⟩
  rw [← bareL_eq l h]
  rfl
 unfold hostC
 obtain ⟨e,hev⟩:∃ e,e=(hostL (bareL l)).2.2:=⟨_,rfl⟩
 obtain ⟨p,hpv⟩:∃ p,p=(hostL (bareL l)).2.1:=⟨_,rfl⟩
 obtain ⟨h,hhv⟩:∃ t,t=str (hostL (bareL l)).1:=⟨_,rfl⟩
 have CH:Hid (∀ w',Ext w w' → Calls Tryz.prog 121 #[.string (str (bareL l))] w' (Gives (.tuple #[.string h,.int .i64 p,.int .i64 e]) w')):=by rw [hhv,hpv,hev]; exact CH
 rw [← hev,← hpv]
 by_cases hl:2 < l.length
 ·have CT:=Lib.hid (CT.out hl)
  have hl2:decide ((2:Int) < (l.length:Int))=true:=decide_eq_true (by omega)
  obtain ⟨s,hsl⟩:∃ s,s=str l:=⟨_,rfl⟩
  obtain ⟨sb,hsb⟩:∃ s,s=str (bareL l):=⟨_,rfl⟩
  have hsz:s.size=l.length:=by rw [hsl,str_size]
  have hsz2:decide ((2:Int) < (s.size:Int))=true:=by rw [hsz]; exact hl2
  rw [← hsl,← hsb] at CT
  rw [← hsb] at CH
  rw [← hsl]
  clear hE hl hl2 hsz
  by_cases he:e=0
  ·by_cases hp:p < 0
   ·by_cases hh:(hostL (bareL l)).1=bareL l
    ·obtain rfl:h=sb:=by rw [hhv,hsb,hh]
     subst he
     have d2:decide (p < 0)=true:=decide_eq_true hp
     rw [decide_eq_true hh,decide_eq_true hp]
     clear hev hpv hhv hsb hsl hh
     go_enter Tryz.func79,Tryz.ntmps79
     go_wp2_with (first
      | (go_at_call 120; refine (CT.out _).mono ?_; rintro e w1 ⟨rfl,rfl⟩)
      | (go_at_call 121; refine (CH.out _ (by (repeat first | exact Ex0 | assumption | refine Ex1 ?_ | refine Ex2 ?_ | refine Ex3 ?_ | refine Ex4 ?_ | refine Ex5 ?_))).mono ?_; rintro e w1 ⟨rfl,hx1⟩; simp only [hostV]))
     go_ret
     exact ⟨ret_bool (by simp),hx1⟩
    ·have g1:¬ h.toList=sb.toList:=by rw [hhv,hsb,str_tl,str_tl]; exact hh
     have g2:(h.toList == sb.toList)=false:=beq_eq_false_iff_ne.2 g1
     subst he
     have d2:decide (p < 0)=true:=decide_eq_true hp
     rw [decide_eq_false hh]
     clear hev hpv hhv hsb hsl hh
     go_enter Tryz.func79,Tryz.ntmps79
     go_wp2_with (first
      | (go_at_call 120; refine (CT.out _).mono ?_; rintro e w1 ⟨rfl,rfl⟩)
      | (go_at_call 121; refine (CH.out _ (by (repeat first | exact Ex0 | assumption | refine Ex1 ?_ | refine Ex2 ?_ | refine Ex3 ?_ | refine Ex4 ?_ | refine Ex5 ?_))).mono ?_; rintro e w1 ⟨rfl,hx1⟩; simp only [hostV]))
     go_ret
     exact ⟨ret_bool (by simp),hx1⟩
   ·subst he
    have d2:decide (p < 0)=false:=decide_eq_false hp
    rw [decide_eq_false hp]
    clear hev hpv hhv hsb hsl
    go_enter Tryz.func79,Tryz.ntmps79
    go_wp2_with (first
     | (go_at_call 120; refine (CT.out _).mono ?_; rintro e w1 ⟨rfl,rfl⟩)
     | (go_at_call 121; refine (CH.out _ (by (repeat first | exact Ex0 | assumption | refine Ex1 ?_ | refine Ex2 ?_ | refine Ex3 ?_ | refine Ex4 ?_ | refine Ex5 ?_))).mono ?_; rintro e w1 ⟨rfl,hx1⟩; simp only [hostV]))
    go_ret
    exact ⟨ret_bool (by simp),hx1⟩
  ·have g2:(e == 0)=false:=beq_eq_false_iff_ne.2 he
   rw [decide_eq_false he]
   clear hev hpv hhv hsb hsl
   go_enter Tryz.func79,Tryz.ntmps79
   go_wp2_with (first
    | (go_at_call 120; refine (CT.out _).mono ?_; rintro e w1 ⟨rfl,rfl⟩)
    | (go_at_call 121; refine (CH.out _ (by (repeat first | exact Ex0 | assumption | refine Ex1 ?_ | refine Ex2 ?_ | refine Ex3 ?_ | refine Ex4 ?_ | refine Ex5 ?_))).mono ?_; rintro e w1 ⟨rfl,hx1⟩; simp only [hostV]))
   go_ret
   exact ⟨ret_bool (by simp),hx1⟩
 ·rw [bareL_short l hl] at *
  obtain ⟨sb,hsb⟩:∃ s,s=str l:=⟨_,rfl⟩
  have hsz2:decide ((2:Int) < (sb.size:Int))=false:=by rw [hsb,str_size]; exact decide_eq_false (by omega)
  rw [← hsb] at CH
  rw [← hsb]
  have hsl:True:=trivial
  clear hE hl
  clear CT
  have CT:True:=trivial
  by_cases he:e=0
  ·by_cases hp:p < 0
   ·by_cases hh:(hostL l).1=l
    ·obtain rfl:h=sb:=by rw [hhv,hsb,hh]
     subst he
     have d2:decide (p < 0)=true:=decide_eq_true hp
     rw [decide_eq_true hh,decide_eq_true hp]
     clear hev hpv hhv hsb hsl hh
     go_enter Tryz.func79,Tryz.ntmps79
     go_wp2_with (first
      | (go_at_call 121; refine (CH.out _ (by (repeat first | exact Ex0 | assumption | refine Ex1 ?_ | refine Ex2 ?_ | refine Ex3 ?_ | refine Ex4 ?_ | refine Ex5 ?_))).mono ?_; rintro e w1 ⟨rfl,hx1⟩; simp only [hostV]))
     go_ret
     exact ⟨ret_bool (by simp),hx1⟩
    ·have g1:¬ h.toList=sb.toList:=by rw [hhv,hsb,str_tl,str_tl]; exact hh
     have g2:(h.toList == sb.toList)=false:=beq_eq_false_iff_ne.2 g1
     subst he
     have d2:decide (p < 0)=true:=decide_eq_true hp
     rw [decide_eq_false hh]
     clear hev hpv hhv hsb hsl hh
     go_enter Tryz.func79,Tryz.ntmps79
     go_wp2_with (first
      | (go_at_call 121; refine (CH.out _ (by (repeat first | exact Ex0 | assumption | refine Ex1 ?_ | refine Ex2 ?_ | refine Ex3 ?_ | refine Ex4 ?_ | refine Ex5 ?_))).mono ?_; rintro e w1 ⟨rfl,hx1⟩; simp only [hostV]))
     go_ret
     exact ⟨ret_bool (by simp),hx1⟩
   ·subst he
    have d2:decide (p < 0)=false:=decide_eq_false hp
    rw [decide_eq_false hp]
    clear hev hpv hhv hsb hsl
    go_enter Tryz.func79,Tryz.ntmps79
    go_wp2_with (first
     | (go_at_call 121; refine (CH.out _ (by (repeat first | exact Ex0 | assumption | refine Ex1 ?_ | refine Ex2 ?_ | refine Ex3 ?_ | refine Ex4 ?_ | refine Ex5 ?_))).mono ?_; rintro e w1 ⟨rfl,hx1⟩; simp only [hostV]))
    go_ret
    exact ⟨ret_bool (by simp),hx1⟩
  ·have g2:(e == 0)=false:=beq_eq_false_iff_ne.2 he
   rw [decide_eq_false he]
   clear hev hpv hhv hsb hsl
   go_enter Tryz.func79,Tryz.ntmps79
   go_wp2_with (first
    | (go_at_call 121; refine (CH.out _ (by (repeat first | exact Ex0 | assumption | refine Ex1 ?_ | refine Ex2 ?_ | refine Ex3 ?_ | refine Ex4 ?_ | refine Ex5 ?_))).mono ?_; rintro e w1 ⟨rfl,hx1⟩; simp only [hostV]))
   go_ret
   exact ⟨ret_bool (by simp),hx1⟩
end Go.Proofs.YtmnohicojefhfaaGreatDoor
end
section
namespace Go.Proofs.YtmnohicojefhfaaGreatDoor
open Go.RowKit
theorem Token_g (l:List UInt8) (hs:l.length ≤ maxLen) (w:World):Calls Tryz.prog 71 #[.string (str l)] w (Gives (.bool (tokC l)) w):=by
 have h:=Token_c (str l) (by rw [str_size]; exact hs) w
 rw [str_data,str_size] at h
 have e:((l.all fun b=>tokB b.toNat) && decide (0 < l.length))=tokC l:=by
  unfold tokC
  cases l with
  | nil=>rfl
  | cons x r=>simp
 rw [e] at h
 exact h
theorem nodup_inj {α β γ:Type} {f:β → γ} (hf:∀ a b,f a=f b → a=b) (g:α → β) (l:List α):(l.map fun x=>f (g x)).Nodup ↔ (l.map g).Nodup:=by
 have:(l.map fun x=>f (g x))=(l.map g).map f:=by rw [List.map_map]; rfl
 rw [this]
 constructor
 ·intro h
  exact List.Pairwise.imp (fun hne e=>hne (by rw [e])) (List.pairwise_map.1 h)
 ·intro h
  exact List.pairwise_map.2 (List.Pairwise.imp (fun hne e=>hne (hf _ _ e)) h)
def I64 (n:Int):Prop:=(Lit.int .i64 n).wf=true
theorem peer_right (p:Pe14) (w:World):Calls Tryz.prog 73 #[.agg #[.int .i64 p.id,.int .i64 p.most]] w (Gives (.bool (peC p)) w):=by
 have HP:=Lib.hid (show peC p=(inB p.id 0 999 && inB p.most 1 64) from rfl)
 go_enter Tryz.func73,Tryz.ntmps73
 go_wp2_with ((go_at_call 29; refine (cinB_c _ _ _ _).mono ?_; rintro e w1 ⟨rfl,rfl⟩))
 all_goals
  go_ret
  exact ⟨ret_bool (by rw [HP.out]; simp [*]),by (repeat first | exact Ex0 | assumption | refine Ex1 ?_ | refine Ex2 ?_ | refine Ex3 ?_ | refine Ex4 ?_ | refine Ex5 ?_)⟩
theorem peer_key (p:Pe14) (w:World):Calls Tryz.prog 75 #[.agg #[.int .i64 p.id,.int .i64 p.most]] w (Gives (.int .i64 p.id) w):=by
 go_enter Tryz.func75,Tryz.ntmps75
 go_wp2
 go_ret
 exact ⟨rfl,by (repeat first | exact Ex0 | assumption | refine Ex1 ?_ | refine Ex2 ?_ | refine Ex3 ?_ | refine Ex4 ?_ | refine Ex5 ?_)⟩
theorem cUpRight_c (u:Up14) (B:Option Addr) (d:Nat) (w:World) (hn:u.name.length ≤ 140737488355328) (hl:u.peers.length ≤ 1099511627776) (hI:∀ p ∈ u.peers,I64 p.id) (hrd:Rd w B (u.peers.flatMap peV)) :
  Calls Tryz.prog 31 #[.agg #[.string (str u.name),.slice B u.peers.length d,.int .i64 u.timeout,.int .i64 u.retries]] w (Gives (.bool (upC u)) w):=by
 have CT:=Lib.hid (fun w=>Token_g u.name (by unfold maxLen; omega) w)
 have C1:=Lib.hid (fun w=>cinB_c u.peers.length 1 16 w)
 have C2:=Lib.hid (fun w=>cinB_c u.timeout 1 3600 w)
 have C3:=Lib.hid (fun w=>cinB_c u.retries 0 8 w)
 have CA:=Lib.hid (fun w' (hx:Ext w w')=>allP_c (fun p:Pe14=>p.id) (fun p=>p.most) u.peers B d 73 #[] peC w' hl (fun _ _=>by kernel_rfl) (hrd.ext hx) (fun p _ w2 _=>peer_right p w2))
 have CU:=Lib.hid (fun w' (hx:Ext w w')=>unlP_c (fun p:Pe14=>p.id) (fun p=>p.most) u.peers B d 75 #[] (fun p=>.int .i64 p.id) (fun p=>.int .i64 p.id) (decide ((u.peers.map (·.id)).Nodup)) w' (Nat.le_trans hl (by omega)) (fun _ _=>by kernel_rfl) (hrd.ext hx)
  (fun p hp=>Maps.keyOf_int_mk Tryz.underlying3 (hI p hp)) (by rw [decide_eq_true_iff]; exact (nodup_inj (f:=Lit.int .i64) (fun a b e=>by injection e) _ _).symm) (fun p _ w2 _=>peer_key p w2))
 have HP:=Lib.hid (show upC u=(tokC u.name && inB u.peers.length 1 16 && inB u.timeout 1 3600 && inB u.retries 0 8 && u.peers.all peC && decide ((u.peers.map (·.id)).Nodup)) from rfl)
 obtain ⟨b1,h1⟩:∃ b,b=tokC u.name:=⟨_,rfl⟩
 obtain ⟨b5,h5⟩:∃ b,b=u.peers.all peC:=⟨_,rfl⟩
 obtain ⟨b6,h6⟩:∃ b,b=decide ((u.peers.map (·.id)).Nodup):=⟨_,rfl⟩
 rw [← h1] at CT HP
 rw [← h5] at CA HP
 rw [← h6] at CU HP
 obtain ⟨s,hs⟩:∃ s,s=str u.name:=⟨_,rfl⟩
 rw [← hs] at CT ⊢
 clear h1 h5 h6 hs hrd hI hn C1 C2 C3
 go_enter Tryz.func31,Tryz.ntmps31
 go_wp2_with (first
  | (go_at_call 71; refine (CT.out _).mono ?_; rintro e w1 ⟨rfl,hx1⟩; have q1:=hx1.new 1 _ rfl; have q2:=hx1.new 2 _ rfl; have q3:=hx1.new 3 _ rfl; cases b1)
  | (go_at_call 29; refine (cinB_c _ _ _ _).mono ?_; rintro e w2 ⟨rfl,rfl⟩)
  | (go_at_call 72; refine (CA.out _ (by (repeat first | exact Ex0 | assumption | refine Ex1 ?_ | refine Ex2 ?_ | refine Ex3 ?_ | refine Ex4 ?_ | refine Ex5 ?_))).mono ?_; rintro e w5 ⟨rfl,hx5⟩; have r1:=(hx5.cell (lt_of_cell q1)).trans q1; cases b5)
  | (go_at_call 74; refine (CU.out _ (by (repeat first | exact Ex0 | assumption | refine Ex1 ?_ | refine Ex2 ?_ | refine Ex3 ?_ | refine Ex4 ?_ | refine Ex5 ?_))).mono ?_; rintro e w6 ⟨rfl,hx6⟩))
 all_goals (go_ret; exact ⟨ret_bool (by rw [HP.out]; simp [*]),by (repeat first | exact Ex0 | assumption | refine Ex1 ?_ | refine Ex2 ?_ | refine Ex3 ?_ | refine Ex4 ?_ | refine Ex5 ?_)⟩)
end Go.Proofs.YtmnohicojefhfaaGreatDoor
end
section
namespace Go.Proofs.YtmnohicojefhfaaGreatDoor
open Go.RowKit
theorem has_suf (l:List UInt8):Lib.hasSuffix l [47]=(l.getLast? == some 47):=by
 unfold Lib.hasSuffix
 rw [List.isSuffixOf]
 cases h:l.reverse with
 | nil =>
  obtain rfl:l=[]:=by simpa using h
  rfl
 | cons x r =>
  have hl:l=r.reverse ++ [x]:=by have:=congrArg List.reverse h; simpa using this
  subst hl
  simp only [List.reverse_cons,List.reverse_nil,List.nil_append,List.getLast?_append,List.getLast?_singleton,Option.some_or]
  show ((47 == x) && true)=(x == 47)
  rw [Bool.and_true]; exact BEq.comm
theorem suf_c (l:List UInt8) (hs:l.length ≤ 140737488355328) (w:World):Calls Tryz.prog 125 #[.string (str l),.string ⟨#[47]⟩] w fun e w'=>e=.returned (.bool (l.getLast? == some 47))∧w'=w :=
 (Tryz.strings_HasSuffix _ _ w (by rw [str_size]; omega)).mono fun e w' ⟨he,hw⟩=>⟨by rw [he,← has_suf]; rfl,hw⟩
theorem index1_c (l:List UInt8) (w:World):Calls Tryz.prog 158 #[.string (str l),.string ⟨#[47]⟩] w fun e w'=>e=.returned (.int .i64 (Lib.indexByte l 47))∧w=w':=by
 go_enter Tryz.func158,Tryz.ntmps158
 go_wp2_with (go_at_call 177; refine (Tryz.stringslite_Index_one _ _ _).mono ?_; rintro e w1 ⟨rfl,rfl⟩; rw [str_data])
 go_ret
 exact ⟨rfl,rfl⟩
theorem idx_con (l:List UInt8) (c:UInt8):decide (0 ≤ Lib.indexByte l c)=l.contains c:=by
 by_cases h:c ∈ l
 ·obtain ⟨z,hz,h0⟩:=idx_yes h
  rw [hz,decide_eq_true h0]; simp [h]
 ·rw [idx_no h]; simp [h]
theorem contains1_c (l:List UInt8) (w:World):Calls Tryz.prog 126 #[.string (str l),.string ⟨#[47]⟩] w fun e w'=>e=.returned (.bool (l.contains 47))∧w'=w:=by
 have C:=Lib.hid (fun w=>index1_c l w)
 have HI:=Lib.hid (idx_con l 47)
 generalize Lib.indexByte l 47=z at *
 go_enter Tryz.func126,Tryz.ntmps126
 go_wp2_with (go_at_call 158; refine (C.out _).mono ?_; rintro e w1 ⟨rfl,rfl⟩)
 go_ret
 exact ⟨ret_bool HI.out,rfl⟩
theorem eq_loc (a b:Lo14) (w:World):(binOp .eql 81 (.agg #[.string (str a.pre),.int .i64 a.kind,.string (str a.root),.string (str a.index),.int .i64 a.gzip,.int .i64 a.expires,.string (str a.up),.bool a.cache,.int .i64 a.rate,.int .i64 a.burst,.int .i64 a.status,.string (str a.goal)])
  (.agg #[.string (str b.pre),.int .i64 b.kind,.string (str b.root),.string (str b.index),.int .i64 b.gzip,.int .i64 b.expires,.string (str b.up),.bool b.cache,.int .i64 b.rate,.int .i64 b.burst,.int .i64 b.status,.string (str b.goal)])).run Tryz.prog w=.ok (.bool (decide (a=b))) w:=by
 obtain ⟨a0,a1,a2,a3,a4,a5,a6,a7,a8,a9,aa,ab⟩:=a
 obtain ⟨b0,b1,b2,b3,b4,b5,b6,b7,b8,b9,ba,bb⟩:=b
 have e:∀ (c:Prop) [Decidable c] (d:Prop) [Decidable d],(if c then (.ok (.bool (decide d)) w:Result Value) else .ok (.bool false) w)=.ok (.bool (decide (c∧d))) w:=fun c _ d _=>by by_cases h:c <;> simp [h]
 have e0:∀ (c:Prop) [Decidable c],(if c then (.ok (.bool true) w:Result Value) else .ok (.bool false) w)=.ok (.bool (decide c)) w:=fun c _=>by by_cases h:c <;> simp [h]
 simp [go_sem]
 simp only [e0,e,Lo14.mk.injEq]
 simp only [Bool.decide_and]
end Go.Proofs.YtmnohicojefhfaaGreatDoor
end
