/-
The reference's tokens of a text.
-/
import Derived.Test.YtmnohicojefhfaaGreatDoorCFh
import Derived.Test.YtmnohicojefhfaaGreatDoorREa
import Derived.Deep.CutBlock
set_option maxRecDepth 100000
set_option maxHeartbeats 8000000
set_option linter.unusedVariables false
set_option linter.unusedSimpArgs false
section
namespace Go.Proofs.YtmnohicojefhfaaGreatDoor
open Go.RowKit
def scanE (g:UInt8 → Bool) (l:List UInt8) (i:Nat):Nat:=i + ((l.drop i).takeWhile g).length
theorem tw_out (g:UInt8 → Bool):∀ (m:List UInt8) (h:(m.takeWhile g).length < m.length),g (m[(m.takeWhile g).length]'h)=false:=by
 intro m
 induction m with
 | nil=>intro h; simp at h
 | cons x m ih =>
  intro h
  cases hx:g x with
  | false =>
   have e:((x :: m).takeWhile g)=[]:=by rw [List.takeWhile_cons,hx]; rfl
   have e2:((x :: m).takeWhile g).length=0:=by rw [e]; rfl
   simp only [e2,List.getElem_cons_zero]
   exact hx
  | true =>
   have e:((x :: m).takeWhile g)=x :: m.takeWhile g:=by rw [List.takeWhile_cons,hx]; rfl
   have e2:((x :: m).takeWhile g).length=(m.takeWhile g).length + 1:=by rw [e]; rfl
   simp only [e2,List.getElem_cons_succ]
   exact ih (by rw [e2,List.length_cons] at h; omega)
section
variable {g:UInt8 → Bool} {l:List UInt8} {i k:Nat}
theorem scanE_ge:i ≤ scanE g l i:=Nat.le_add_right _ _
theorem scanE_le (h:i ≤ l.length):scanE g l i ≤ l.length:=by
 unfold scanE
 have:=(List.takeWhile_sublist g (l:=l.drop i)).length_le
 rw [List.length_drop] at this
 omega
theorem scan_in (h1:i ≤ k) (h2:k < scanE g l i):∃ h:k < l.length,g l[k]=true:=by
 unfold scanE at h2
 have hs:=(List.takeWhile_sublist g (l:=l.drop i)).length_le
 rw [List.length_drop] at hs
 have hk:k < l.length:=by omega
 refine ⟨hk,?_⟩
 have hm:k - i < ((l.drop i).takeWhile g).length:=by omega
 have e:=(List.takeWhile_prefix (p:=g) (l:=l.drop i)).getElem hm
 rw [List.getElem_drop] at e
 have e2:l[i + (k - i)]'(by omega)=l[k]:=by congr 1; omega
 rw [e2] at e
 rw [← e]
 exact List.all_eq_true.1 (List.all_takeWhile (p:=g) (l:=l.drop i)) _ (List.getElem_mem hm)
theorem scan_out (hi:i ≤ l.length) (h:scanE g l i < l.length):g l[scanE g l i]=false:=by
 have hm:((l.drop i).takeWhile g).length < (l.drop i).length:=by
  unfold scanE at h
  rw [List.length_drop]; omega
 have:=tw_out g (l.drop i) hm
 rw [List.getElem_drop] at this
 exact this
theorem scan_drop:l.drop (scanE g l i)=(l.drop i).dropWhile g:=by
 have h:=List.takeWhile_append_dropWhile (p:=g) (l:=l.drop i)
 unfold scanE
 rw [← List.drop_drop]
 obtain ⟨t,ht⟩:∃ t,t=(l.drop i).takeWhile g:=⟨_,rfl⟩
 obtain ⟨d,hd⟩:∃ d,d=(l.drop i).dropWhile g:=⟨_,rfl⟩
 rw [← ht,← hd] at h
 rw [← ht,← hd,← h,List.drop_left]
theorem scan_take:(l.take (scanE g l i)).drop i=(l.drop i).takeWhile g:=by
 rw [List.drop_take]
 unfold scanE
 rw [Nat.add_sub_cancel_left]
 exact List.prefix_iff_eq_take.1 (List.takeWhile_prefix (p:=g) (l:=l.drop i)) |>.symm
end
def nlB (x:UInt8):Bool:=x != 10
def qtB (x:UInt8):Bool:=rngB 32 x.toNat
theorem nl_in {x:UInt8} (h:nlB x=true):((x.toNat:Int) == 10)=false:=by
 unfold nlB at h
 rw [beq_eq_false_iff_ne]
 intro e
 have:x=10:=UInt8.toNat_inj.1 (by show x.toNat=10; omega)
 rw [this] at h
 cases h
theorem nl_out {x:UInt8} (h:nlB x=false):x=10:=by
 unfold nlB at h
 simpa using h
theorem quote_good {l:List UInt8} {i:Nat} {r:List UInt8} (hr:l.drop (i + 1)=r) (hi:i + 1 ≤ l.length) (h:scanE qtB l (i + 1) < l.length) (h34:l[scanE qtB l (i + 1)]=34) (n:Nat) :
  lexT (34 :: r) n=(⟨0,(l.drop (i + 1)).takeWhile qtB,n⟩ :: (lexT (l.drop (scanE qtB l (i + 1) + 1)) n).1,(lexT (l.drop (scanE qtB l (i + 1) + 1)) n).2):=by
 have hd:=scan_drop (g:=qtB) (l:=l) (i:=i + 1)
 obtain ⟨E,hE⟩:∃ E,E=scanE qtB l (i + 1):=⟨_,rfl⟩
 have h':E < l.length:=by rw [hE]; exact h
 have h34':l[E]'h'=34:=by simp only [hE]; exact h34
 clear h34 h
 rw [← hE] at hd ⊢
 have hcons:l.drop E=34 :: l.drop (E + 1):=by rw [List.drop_eq_getElem_cons h',h34']
 obtain ⟨a,ha⟩:∃ a,a=(l.drop (i + 1)).takeWhile qtB:=⟨_,rfl⟩
 have hsp:r=a ++ 34 :: l.drop (E + 1):=by
  rw [← hr,← hcons,hd,ha,List.takeWhile_append_dropWhile]
 have haa:∀ x ∈ a,qtB x=true:=fun x hx=>by rw [ha] at hx; exact List.all_eq_true.1 (List.all_takeWhile (p:=qtB)) x hx
 have hn:(34:UInt8) ∉ a:=fun hm=>by have:=haa 34 hm; exact absurd this (by decide)
 have htw:r.takeWhile (· != 34)=a:=by rw [hsp]; exact takeW_at a _ 34 hn
 have hb:bytesC 32 a=true:=by rw [bytesC_rng]; exact List.all_eq_true.2 haa
 rw [← ha]
 rw [lexT_quote (by rw [htw,hb,hsp]; simp) n,htw]
 rw [show r.drop (a.length + 1)=l.drop (E + 1) from by rw [hsp]; simp]
theorem quote_badE {l:List UInt8} {i:Nat} {r:List UInt8} (hr:l.drop (i + 1)=r) (hi:i + 1 ≤ l.length) (h:∀ h:scanE qtB l (i + 1) < l.length,l[scanE qtB l (i + 1)] ≠ 34) (n:Nat):lexT (34 :: r) n=([],n):=by
 have hd:=scan_drop (g:=qtB) (l:=l) (i:=i + 1)
 have ho:=scan_out (g:=qtB) (l:=l) (i:=i + 1) hi
 have hle:=scanE_le (g:=qtB) hi
 obtain ⟨E,hE⟩:∃ E,E=scanE qtB l (i + 1):=⟨_,rfl⟩
 have h':∀ h:E < l.length,l[E] ≠ 34:=by rw [hE]; exact h
 have ho':∀ h:E < l.length,qtB l[E]=false:=by rw [hE]; exact ho
 rw [← hE] at hd hle
 clear h ho
 obtain ⟨a,ha⟩:∃ a,a=(l.drop (i + 1)).takeWhile qtB:=⟨_,rfl⟩
 have haa:∀ x ∈ a,qtB x=true:=fun x hx=>by rw [ha] at hx; exact List.all_eq_true.1 (List.all_takeWhile (p:=qtB)) x hx
 have hn:(34:UInt8) ∉ a:=fun hm=>by have:=haa 34 hm; exact absurd this (by decide)
 have hsp:r=a ++ l.drop E:=by rw [← hr,hd,ha,List.takeWhile_append_dropWhile]
 refine lexT_quote_bad ?_ n
 by_cases hEl:E < l.length
 ·right
  rw [List.drop_eq_getElem_cons hEl] at hsp
  have hx34:=h' hEl
  have hxq:=ho' hEl
  obtain ⟨x,hx⟩:∃ x,x=l[E]:=⟨_,rfl⟩
  rw [← hx] at hsp hx34 hxq
  have:r.takeWhile (· != 34)=a ++ x :: (l.drop (E + 1)).takeWhile (· != 34):=by
   rw [hsp,List.takeWhile_append_of_pos (fun y hy=>by simp only [bne_iff_ne]; intro e; exact hn (e ▸ hy)),List.takeWhile_cons,if_pos (by simpa using hx34)]
  rw [this,bytesC_rng,List.all_append,List.all_cons]
  show (_ && (qtB x && _))=false
  rw [hxq]; simp
 ·left
  rw [List.drop_of_length_le (by omega),List.append_nil] at hsp
  rw [hsp,takeW_no a 34 hn]
  exact Nat.le_refl _
theorem rem_to {l:List UInt8} {i:Nat} {r:List UInt8} (hr:l.drop i=35 :: r) (n:Nat):lexT (35 :: r) n=lexT (l.drop (scanE nlB l i)) n:=by
 rw [scan_drop,hr,lexT_rem]
 rfl
theorem word_to {l:List UInt8} {i:Nat} {c:UInt8} {r:List UInt8} (hr:l.drop i=c :: r) (h:otherB c) (h6:¬ (c.toNat < 33 ∨ 126 < c.toNat)) (n:Nat) :
  lexT (c :: r) n=(⟨0,(l.drop i).takeWhile wordB,n⟩ :: (lexT (l.drop (scanE wordB l i)) n).1,(lexT (l.drop (scanE wordB l i)) n).2)∧i < scanE wordB l i:=by
 have e:l.drop (scanE wordB l i)=(c :: r).drop ((c :: r).takeWhile wordB).length:=by
  unfold scanE
  rw [← List.drop_drop,hr]
 refine ⟨by rw [e,hr]; exact lexT_word h h6 r n,?_⟩
 unfold scanE
 rw [hr,List.takeWhile_cons,other_word h h6]
 simp
def lineR (n:Nat):Int:=if n=0 then -1 else (n:Int)
def IsTkR (r:List Tk14 × Nat) (v:Value) (w:World):Prop:=∃ A c,v=.tuple #[.slice A r.1.length c,.int .i64 (lineR r.2)]∧Rd w A (tksC r.1)
theorem slt_tokR:SlT Tryz.prog 131 135 (.agg #[.int .u8 0,.string ⟨#[]⟩,.int .i64 0]) 3 32:=⟨Tryz.underlying131,by kernel_rfl,rfl,by omega⟩
theorem qt_in {x:UInt8} (h:qtB x=true):32 ≤ x.toNat∧x.toNat ≤ 126∧x.toNat ≠ 34:=by
 rcases rng_cases 32 x.toNat with ⟨_,h⟩ | ⟨hv,_⟩
 ·exact h
 ·unfold qtB at h; rw [hv] at h; cases h
theorem wq_out {x:UInt8} (h:qtB x=false) (h34:x ≠ 34):x.toNat < 32 ∨ 126 < x.toNat:=by
 rcases rng_cases 32 x.toNat with ⟨hv,_⟩ | ⟨_,h | h | h⟩
 ·unfold qtB at h; rw [hv] at h; cases h
 ·exact .inl h
 ·exact .inr h
 ·exact absurd (UInt8.toNat_inj.1 (by show x.toNat=34; exact h)) h34
theorem ww_cases {x:UInt8} (h:wordB x=false):x.toNat < 33 ∨ 126 < x.toNat ∨ x=59 ∨ x=123 ∨ x=125 ∨ x=35 ∨ x=34:=by
 unfold wordB at h
 by_cases h1:x.toNat < 33
 ·exact .inl h1
 by_cases h2:126 < x.toNat
 ·exact .inr (.inl h2)
 right; right
 have d1:decide (33 ≤ x.toNat)=true:=decide_eq_true (by omega)
 have d2:decide (x.toNat ≤ 126)=true:=decide_eq_true (by omega)
 rw [d1,d2] at h
 simp only [Bool.true_and,Bool.and_eq_false_imp,Bool.not_eq_true',Bool.not_eq_false',beq_iff_eq,beq_eq_false_iff_ne] at h
 by_cases h3:x=59
 ·exact .inl h3
 by_cases h4:x=123
 ·exact .inr (.inl h4)
 by_cases h5:x=125
 ·exact .inr (.inr (.inl h5))
 by_cases h6:x=35
 ·exact .inr (.inr (.inr (.inl h6)))
 exact .inr (.inr (.inr (.inr (by simpa [h3,h4,h5,h6] using h))))
theorem ww_in {x:UInt8} (h:wordB x=true):33 ≤ x.toNat∧x.toNat ≤ 126∧x ≠ 59∧x ≠ 123∧x ≠ 125∧x ≠ 35∧x ≠ 34:=by
 unfold wordB at h
 simp only [Bool.and_eq_true,decide_eq_true_eq,Bool.not_eq_true',beq_eq_false_iff_ne] at h
 obtain ⟨⟨⟨⟨⟨⟨h1,h2⟩,h3⟩,h4⟩,h5⟩,h6⟩,h7⟩:=h
 exact ⟨h1,h2,h3,h4,h5,h6,h7⟩
theorem ne_int {x:UInt8} {k:Nat} (hk:k < 256) (h:x ≠ UInt8.ofNat k):((x.toNat:Int) == (k:Int))=false:=by
 rw [beq_eq_false_iff_ne]
 intro e
 refine h (UInt8.toNat_inj.1 ?_)
 rw [UInt8.toNat_ofNat']
 omega
end Go.Proofs.YtmnohicojefhfaaGreatDoor
end
section
namespace Go.Proofs.YtmnohicojefhfaaGreatDoor
open Go.RowKit
theorem tkr_mk {l:List UInt8} {w w':World} {toks:List Tk14} {n:Nat} {A:Option Addr} {c:Nat} {x:Int} (h:lexT l 1=(toks,n)) (hx:lineR n=x) (hr:Rd w' A (tksC toks)) (e:Ext w w'):Ret (IsTkR (lexT l 1)) w (.returned (.tuple #[.slice A toks.length c,.int .i64 x])) w':=by
 rw [h]
 exact Ret.mk ⟨A,c,by rw [← hx],hr⟩ e
theorem rlex_c (l:List UInt8) (hl:l.length ≤ 65536) (w:World):Calls Tryz.prog 61 #[.string (str l)] w (Ret (IsTkR (lexT l 1)) w):=by
 obtain ⟨s,hsl⟩:∃ s,s=str l:=⟨_,rfl⟩
 have hsz:s.size=l.length:=by rw [hsl,str_size]
 have HSX:=Lib.hid hsl
 have HSZ:=Lib.hid hsz
 rw [← hsl]
 have hb:s.size ≤ 65536:=by omega
 clear hsl hsz
 go_enter Tryz.func61,Tryz.ntmps61
 go_wp2
 go_loopw [4,5,6] (fun v4 v5 v6 wr=>∃ (toks:List Tk14) (n:Nat) (A:Option Addr) (c i:Nat),v4=.slice A toks.length c∧v5=.int .i64 (n:Int)∧v6=.int .i64 (i:Int)∧i ≤ l.length∧1 ≤ n∧LxAt w l (l.drop i) toks n A c wr) (fun _ _ v6 _=>l.length - (intOf v6).toNat)
 case atStart=>exact ⟨[],1,none,0,0,rfl,rfl,rfl,Nat.zero_le _,Nat.le_refl _,by simp,by rw [List.drop_zero]; omega,by simp,fun _=>0,Sl.nil_ _ _ _ _ _,fun _=>rfl,Stp.ext (by (repeat first | exact Ex0 | assumption | refine Ex1 ?_ | refine Ex2 ?_ | refine Ex3 ?_ | refine Ex4 ?_ | refine Ex5 ?_))⟩
 case round =>
  obtain ⟨toks,n,A,c,i,rfl,rfl,rfl,hi,h1n,hL⟩:=hrel
  obtain ⟨W,rfl⟩:∃ W,W=wr:=⟨_,rfl⟩
  have HL:=Lib.hid hL
  obtain ⟨hres,hn,hc,o,hs,hna,hst⟩:=hL
  have HS:=Lib.hid hs
  have HST:=Lib.hid hst
  clear hs hst
  have hi0:(0:Int) ≤ (i:Int):=by omega
  by_cases hlt:i < l.length
  rotate_left
  ·have hi1:¬ (i:Int) < (s.size:Int):=by have:=HSZ.out; omega
   have HR:Hid (lexT l 1=(toks,0)):=Lib.hid (by rw [hres,List.drop_of_length_le (by omega),lexT_nil]; simp)
   clear hres
   go_wp2
   go_ret2
   exact tkr_mk HR.out rfl (HS.out.rd.ext (by (repeat first | exact Ex0 | assumption | refine Ex1 ?_ | refine Ex2 ?_ | refine Ex3 ?_ | refine Ex4 ?_ | refine Ex5 ?_))) ((HST.out.toExt (fun _ _=>by omega)).tr (by (repeat first | exact Ex0 | assumption | refine Ex1 ?_ | refine Ex2 ?_ | refine Ex3 ?_ | refine Ex4 ?_ | refine Ex5 ?_)))
  ·have hdr:=List.drop_eq_getElem_cons hlt
   have hi1:(i:Int) < (s.size:Int):=by have:=HSZ.out; omega
   have hi2:i < s.size:=by have:=HSZ.out; omega
   have hkk:IntKind.i64.wrap ((i:Int) + 1)=((i + 1:Nat):Int):=by rw [IntKind.wrap_i64]; omega
   obtain ⟨x,hx⟩:∃ x,x=l[i]:=⟨_,rfl⟩
   have gx:∀ h:i < s.size,s[i]'h=x:=by
    have hs:=HSX.out
    subst hs
    intro h
    rw [hx]; rfl
   rw [← hx] at hdr
   obtain ⟨r,hr⟩:∃ r,r=l.drop (i + 1):=⟨_,rfl⟩
   have hrl:r.length + (i + 1)=l.length:=by rw [hr,List.length_drop]; omega
   rw [← hr] at hdr
   have HDR:=Lib.hid hdr
   have HRR:=Lib.hid hr
   rw [hdr] at hres hn hc HL
   rw [List.length_cons] at hn hc
   have HRL:=Lib.hid hrl
   have hcl:toks.length ≤ 65536:=by omega
   have hnl:n ≤ 65537:=by omega
   have hnn:IntKind.i64.wrap ((n:Int) + 1)=((n + 1:Nat):Int):=by rw [IntKind.wrap_i64]; omega
   clear hx hdr hr hrl
   by_cases h10:x=10
   ·subst h10
    clear hres
    go_wp2
    go_roundw
    case rel=>exact ⟨toks,n + 1,A,c,i + 1,rfl,by simp,by simp,by omega,by omega,by rw [← HRR.out]; exact HL.out.same (lexT_line r n) (by simp; omega) (by simp)⟩
    case measure=>simp [intOf]; omega
   have n10:((x.toNat:Int) == 10)=false:=by rw [beq_eq_false_iff_ne]; intro e; exact h10 (UInt8.toNat_inj.1 (by show x.toNat=10; omega))
   by_cases hb:x=9 ∨ x=13 ∨ x=32
   ·have HB:=Lib.hid (lexT_blank hb r n)
    clear hres
    rcases hb with rfl | rfl | rfl
    all_goals (
     go_wp2
     go_roundw
     case rel=>exact ⟨toks,n,A,c,i + 1,rfl,rfl,by simp,by omega,h1n,by rw [← HRR.out]; exact HL.out.same HB.out (by simp) (by simp)⟩
     case measure=>simp [intOf]; omega)
   have n9:((x.toNat:Int) == 9)=false:=by rw [beq_eq_false_iff_ne]; intro e; exact hb (.inl (UInt8.toNat_inj.1 (by show x.toNat=9; omega)))
   have n13:((x.toNat:Int) == 13)=false:=by rw [beq_eq_false_iff_ne]; intro e; exact hb (.inr (.inl (UInt8.toNat_inj.1 (by show x.toNat=13; omega))))
   have n32:((x.toNat:Int) == 32)=false:=by rw [beq_eq_false_iff_ne]; intro e; exact hb (.inr (.inr (UInt8.toNat_inj.1 (by show x.toNat=32; omega))))
   by_cases h35:x=35
   ·subst h35
    have HD:=Lib.hid (rem_to HDR.out n)
    have SI:=Lib.hid (fun k (h1:i ≤ k) (h2:k < scanE nlB l i)=>scan_in h1 h2)
    have SO:=Lib.hid (fun h=>scan_out (g:=nlB) (l:=l) (i:=i) hi h)
    have sge:=scanE_ge (g:=nlB) (l:=l) (i:=i)
    have sle:=scanE_le (g:=nlB) hi
    have sgt:i < scanE nlB l i:=by unfold scanE; rw [HDR.out,List.takeWhile_cons,show nlB 35=true from by decide]; simp
    obtain ⟨E,hE⟩:∃ E,E=scanE nlB l i:=⟨_,rfl⟩
    have SO':Hid (∀ h:E < l.length,nlB l[E]=false):=Lib.hid (by rw [hE]; exact SO.out)
    rw [← hE] at HD SI sge sle sgt
    clear hE SO hres
    as_aux_lemma =>
     go_wp2
     go_loopw [6] (fun v6 wq=>∃ k:Nat,v6=.int .i64 (k:Int)∧i ≤ k∧k ≤ E∧W=wq) (fun v6 _=>E - (intOf v6).toNat)
     case atStart=>exact ⟨i,rfl,Nat.le_refl _,sge,rfl⟩
     case round =>
      obtain ⟨k,rfl,hk1,hk2,rfl⟩:=hrel
      have hk0:(0:Int) ≤ (k:Int):=by omega
      by_cases hkE:k < E
      ·obtain ⟨hkl,hg⟩:=SI.out k hk1 hkE
       have j1:(k:Int) < (s.size:Int):=by have:=HSZ.out; omega
       have j2:k < s.size:=by have:=HSZ.out; omega
       have hkj:IntKind.i64.wrap ((k:Int) + 1)=((k + 1:Nat):Int):=by rw [IntKind.wrap_i64]; omega
       obtain ⟨y,hy⟩:∃ y,y=l[k]:=⟨_,rfl⟩
       have gy:∀ h:k < s.size,s[k]'h=y:=by
        have hs:=HSX.out
        subst hs
        intro h
        rw [hy]; rfl
       rw [← hy] at hg
       have y10:=nl_in hg
       have y10':((y.toNat:Int) != 10)=true:=by rw [bne,y10]; rfl
       clear hy hg gx
       go_wp2
       go_roundw
       case rel=>exact ⟨k + 1,by simp,by omega,by omega,by trivial⟩
       case measure=>simp [intOf]; omega
      ·obtain rfl:k=E:=by omega
       by_cases hkl:k < l.length
       ·have hg:=nl_out (SO'.out hkl)
        have j1:(k:Int) < (s.size:Int):=by have:=HSZ.out; omega
        have j2:k < s.size:=by have:=HSZ.out; omega
        have gy:∀ h:k < s.size,s[k]'h=10:=by
         have hs:=HSX.out
         subst hs
         intro h
         rw [← hg]; rfl
        clear hg gx
        go_wp2
        go_roundw
        case rel=>exact ⟨toks,n,A,c,k,rfl,rfl,rfl,sle,h1n,HL.out.same HD.out (by have:=HRL.out; simp; omega) (by have:=HRL.out; simp; omega)⟩
        case measure=>simp [intOf]; omega
       ·have j1:¬ (k:Int) < (s.size:Int):=by have:=HSZ.out; omega
        clear gx
        go_wp2
        go_roundw
        case rel=>exact ⟨toks,n,A,c,k,rfl,rfl,rfl,sle,h1n,HL.out.same HD.out (by have:=HRL.out; simp; omega) (by have:=HRL.out; simp; omega)⟩
        case measure=>simp [intOf]; omega
   have n35:((x.toNat:Int) == 35)=false:=by rw [beq_eq_false_iff_ne]; intro e; exact h35 (UInt8.toNat_inj.1 (by show x.toNat=35; omega))
   by_cases hm:x=59 ∨ x=123 ∨ x=125
   ·have HD:=Lib.hid (lexT_mark hm r n)
    rw [HRR.out] at HD HL
    have HRL2:=HRR.out
    clear hres
    rcases hm with rfl | rfl | rfl
    ·as_aux_lemma =>
      go_wp2_with (first
       | (at_builtin; refine wpL_put slt_tokR (.tmp 122) (.tmp 126) rfl rfl rfl rfl (HS.out.ext (by (repeat first | exact Ex0 | assumption | refine Ex1 ?_ | refine Ex2 ?_ | refine Ex3 ?_ | refine Ex4 ?_ | refine Ex5 ?_))) hna (Sl.src Tryz.underlying131 (n:=1) (rd_newC _ _ rfl [.int .u8 59,.string ⟨#[]⟩,.int .i64 (n:Int)] 135) (by simp) (by omega) (by simp [Value.oneCell']) _) (by omega) (by simp only [maxLen]; omega) ?_; intro A5 c5 w5 o5 hs5 st5 hn5; have st5':Stp (fun i=>i=1) W o w5 o5:=(Stp.ext (by (repeat first | exact Ex0 | assumption | refine Ex1 ?_ | refine Ex2 ?_ | refine Ex3 ?_ | refine Ex4 ?_ | refine Ex5 ?_))).tr st5))
      go_roundw
      case rel=>exact ⟨toks ++ [⟨59,[],n⟩],n,A5,c5,i + 1,by rw [List.length_append]; rfl,rfl,by simp,by omega,h1n,HL.out.more HD.out (by simp) hs5 hn5 (HST.out.tr st5')⟩
      case measure=>simp [intOf]; omega
    ·as_aux_lemma =>
      go_wp2_with (first
       | (at_builtin; refine wpL_put slt_tokR (.tmp 122) (.tmp 126) rfl rfl rfl rfl (HS.out.ext (by (repeat first | exact Ex0 | assumption | refine Ex1 ?_ | refine Ex2 ?_ | refine Ex3 ?_ | refine Ex4 ?_ | refine Ex5 ?_))) hna (Sl.src Tryz.underlying131 (n:=1) (rd_newC _ _ rfl [.int .u8 123,.string ⟨#[]⟩,.int .i64 (n:Int)] 135) (by simp) (by omega) (by simp [Value.oneCell']) _) (by omega) (by simp only [maxLen]; omega) ?_; intro A5 c5 w5 o5 hs5 st5 hn5; have st5':Stp (fun i=>i=1) W o w5 o5:=(Stp.ext (by (repeat first | exact Ex0 | assumption | refine Ex1 ?_ | refine Ex2 ?_ | refine Ex3 ?_ | refine Ex4 ?_ | refine Ex5 ?_))).tr st5))
      go_roundw
      case rel=>exact ⟨toks ++ [⟨123,[],n⟩],n,A5,c5,i + 1,by rw [List.length_append]; rfl,rfl,by simp,by omega,h1n,HL.out.more HD.out (by simp) hs5 hn5 (HST.out.tr st5')⟩
      case measure=>simp [intOf]; omega
    ·as_aux_lemma =>
      go_wp2_with (first
       | (at_builtin; refine wpL_put slt_tokR (.tmp 122) (.tmp 126) rfl rfl rfl rfl (HS.out.ext (by (repeat first | exact Ex0 | assumption | refine Ex1 ?_ | refine Ex2 ?_ | refine Ex3 ?_ | refine Ex4 ?_ | refine Ex5 ?_))) hna (Sl.src Tryz.underlying131 (n:=1) (rd_newC _ _ rfl [.int .u8 125,.string ⟨#[]⟩,.int .i64 (n:Int)] 135) (by simp) (by omega) (by simp [Value.oneCell']) _) (by omega) (by simp only [maxLen]; omega) ?_; intro A5 c5 w5 o5 hs5 st5 hn5; have st5':Stp (fun i=>i=1) W o w5 o5:=(Stp.ext (by (repeat first | exact Ex0 | assumption | refine Ex1 ?_ | refine Ex2 ?_ | refine Ex3 ?_ | refine Ex4 ?_ | refine Ex5 ?_))).tr st5))
      go_roundw
      case rel=>exact ⟨toks ++ [⟨125,[],n⟩],n,A5,c5,i + 1,by rw [List.length_append]; rfl,rfl,by simp,by omega,h1n,HL.out.more HD.out (by simp) hs5 hn5 (HST.out.tr st5')⟩
      case measure=>simp [intOf]; omega
   have n59:((x.toNat:Int) == 59)=false:=by rw [beq_eq_false_iff_ne]; intro e; exact hm (.inl (UInt8.toNat_inj.1 (by show x.toNat=59; omega)))
   have n123:((x.toNat:Int) == 123)=false:=by rw [beq_eq_false_iff_ne]; intro e; exact hm (.inr (.inl (UInt8.toNat_inj.1 (by show x.toNat=123; omega))))
   have n125:((x.toNat:Int) == 125)=false:=by rw [beq_eq_false_iff_ne]; intro e; exact hm (.inr (.inr (UInt8.toNat_inj.1 (by show x.toNat=125; omega))))
   by_cases h34:x=34
   ·subst h34
    have hi1l:i + 1 ≤ l.length:=by omega
    have SI:=Lib.hid (fun k (h1:i + 1 ≤ k) (h2:k < scanE qtB l (i + 1))=>scan_in h1 h2)
    have SO:=Lib.hid (fun h=>scan_out (g:=qtB) (l:=l) (i:=i + 1) hi1l h)
    have sge:=scanE_ge (g:=qtB) (l:=l) (i:=i + 1)
    have sle:=scanE_le (g:=qtB) hi1l
    have HG:=Lib.hid (fun h h2=>quote_good HRR.out.symm hi1l h h2 n)
    have HBD:=Lib.hid (fun h=>quote_badE HRR.out.symm hi1l h n)
    have hex:=scan_take (g:=qtB) (l:=l) (i:=i + 1)
    obtain ⟨E,hE⟩:∃ E,E=scanE qtB l (i + 1):=⟨_,rfl⟩
    have SO':Hid (∀ h:E < l.length,qtB l[E]=false):=Lib.hid (by rw [hE]; exact SO.out)
    have HG':Hid (∀ (h:E < l.length),l[E]=34 → lexT (34 :: r) n=(⟨0,(l.drop (i + 1)).takeWhile qtB,n⟩ :: (lexT (l.drop (E + 1)) n).1,(lexT (l.drop (E + 1)) n).2)):=Lib.hid (by rw [hE]; exact HG.out)
    have HBD':Hid ((∀ h:E < l.length,l[E] ≠ 34) → lexT (34 :: r) n=([],n)):=Lib.hid (by rw [hE]; exact HBD.out)
    rw [← hE] at SI sge sle hex
    obtain ⟨wd,hwd⟩:∃ t,t=(l.drop (i + 1)).takeWhile qtB:=⟨_,rfl⟩
    rw [← hwd] at HG' hex
    have ex1:s.extract (i + 1) E=str wd:=by rw [HSX.out,str_extract,hex]
    have EX1:=Lib.hid ex1
    clear hE SO HG HBD hwd hex ex1
    go_upto_block 7 with (fail)
    go_cut [8] (fun v8 wx=>v8=.int .i64 (E:Int)∧W=wx)
    case first=>as_aux_lemma =>
     go_wp2
     go_loopw [8] (fun v8 wq=>∃ k:Nat,v8=.int .i64 (k:Int)∧i + 1 ≤ k∧k ≤ E∧W=wq) (fun v8 _=>E - (intOf v8).toNat)
     case atStart=>exact ⟨i + 1,by simp,Nat.le_refl _,sge,rfl⟩
     case round =>
      obtain ⟨k,rfl,hk1,hk2,rfl⟩:=hrel
      have hk0:(0:Int) ≤ (k:Int):=by omega
      by_cases hkE:k < E
      ·obtain ⟨hkl,hg⟩:=SI.out k hk1 hkE
       have j1:(k:Int) < (s.size:Int):=by have:=HSZ.out; omega
       have j2:k < s.size:=by have:=HSZ.out; omega
       have hkj:IntKind.i64.wrap ((k:Int) + 1)=((k + 1:Nat):Int):=by rw [IntKind.wrap_i64]; omega
       obtain ⟨y,hy⟩:∃ y,y=l[k]:=⟨_,rfl⟩
       have gy:∀ h:k < s.size,s[k]'h=y:=by
        have hs:=HSX.out
        subst hs
        intro h
        rw [hy]; rfl
       rw [← hy] at hg
       obtain ⟨y1,y2,y3⟩:=qt_in hg
       have y4:((y.toNat:Int) == 34)=false:=by rw [beq_eq_false_iff_ne]; omega
       have y5:((y.toNat:Int) != 34)=true:=by rw [bne,y4]; rfl
       have y6:(32:Int) ≤ (y.toNat:Int):=by omega
       have y7:(y.toNat:Int) ≤ 126:=by omega
       clear hy hg gx y3
       go_wp2
       go_roundw
       case rel=>exact ⟨k + 1,by simp,by omega,by omega,by trivial⟩
       case measure=>simp [intOf]; omega
      ·obtain rfl:k=E:=by omega
       by_cases hkl:k < l.length
       ·have hg:=SO'.out hkl
        have j1:(k:Int) < (s.size:Int):=by have:=HSZ.out; omega
        have j2:k < s.size:=by have:=HSZ.out; omega
        obtain ⟨y,hy⟩:∃ y,y=l[k]:=⟨_,rfl⟩
        have gy:∀ h:k < s.size,s[k]'h=y:=by
         have hs:=HSX.out
         subst hs
         intro h
         rw [hy]; rfl
        rw [← hy] at hg
        clear hy gx
        by_cases y34:y=34
        ·subst y34
         clear hg
         go_wp2
         go_meet
         exact ⟨rfl,rfl⟩
        ·rcases wq_out hg y34 with hy1 | hy1
         ·have y6:¬ (32:Int) ≤ (y.toNat:Int):=by omega
          clear hg y34
          go_wp2
          go_meet
          exact ⟨rfl,rfl⟩
         ·have y6:(32:Int) ≤ (y.toNat:Int):=by omega
          have y7:¬ (y.toNat:Int) ≤ 126:=by omega
          clear hg y34
          go_wp2
          go_meet
          exact ⟨rfl,rfl⟩
       ·have j1:¬ (k:Int) < (s.size:Int):=by have:=HSZ.out; omega
        clear gx
        go_wp2
        go_meet
        exact ⟨rfl,rfl⟩
    case rest=>as_aux_lemma =>
     obtain ⟨rfl,rfl⟩:=hcut
     by_cases hEl:E < l.length
     ·have j1:(E:Int) < (s.size:Int):=by have:=HSZ.out; omega
      have j2:E < s.size:=by have:=HSZ.out; omega
      have j3:((E:Int) == (s.size:Int))=false:=by rw [beq_eq_false_iff_ne]; omega
      have j4:(E == s.size)=false:=by rw [beq_eq_false_iff_ne]; omega
      have j5:(0:Int) ≤ (E:Int):=by omega
      obtain ⟨y,hy⟩:∃ y,y=l[E]:=⟨_,rfl⟩
      have gy:∀ h:E < s.size,s[E]'h=y:=by
       have hs:=HSX.out
       subst hs
       intro h
       rw [hy]; rfl
      have HY:=Lib.hid hy
      clear hy gx
      by_cases y34:y=34
      ·subst y34
       have HD:=Lib.hid (HG'.out hEl HY.out.symm)
       have ex1:=EX1.out
       have j6:(i:Int) + 1 ≤ (E:Int):=by omega
       have hE1:IntKind.i64.wrap ((E:Int) + 1)=((E + 1:Nat):Int):=by rw [IntKind.wrap_i64]; omega
       clear hres
       go_wp2_with (first
        | (at_builtin; refine wpL_put slt_tokR (.tmp 171) (.tmp 179) rfl rfl rfl rfl (HS.out.ext (by (repeat first | exact Ex0 | assumption | refine Ex1 ?_ | refine Ex2 ?_ | refine Ex3 ?_ | refine Ex4 ?_ | refine Ex5 ?_))) hna (Sl.src Tryz.underlying131 (n:=1) (rd_newC _ _ rfl [.int .u8 0,.string (str wd),.int .i64 (n:Int)] 135) (by simp) (by omega) (by simp [Value.oneCell']) _) (by omega) (by simp only [maxLen]; omega) ?_; intro A5 c5 w5 o5 hs5 st5 hn5; have st5':Stp (fun i=>i=1) W o w5 o5:=(Stp.ext (by (repeat first | exact Ex0 | assumption | refine Ex1 ?_ | refine Ex2 ?_ | refine Ex3 ?_ | refine Ex4 ?_ | refine Ex5 ?_))).tr st5))
       go_roundw
       case rel=>exact ⟨toks ++ [⟨0,wd,n⟩],n,A5,c5,E + 1,by rw [List.length_append]; rfl,rfl,by simp,by omega,h1n,HL.out.more HD.out (by have:=HRL.out; simp; omega) hs5 hn5 (HST.out.tr st5')⟩
       case measure=>simp [intOf]; omega
      ·have y4:((y.toNat:Int) == 34)=false:=by rw [beq_eq_false_iff_ne]; intro e; exact y34 (UInt8.toNat_inj.1 (by show y.toNat=34; omega))
       have y5:((y.toNat:Int) != 34)=true:=by rw [bne,y4]; rfl
       have HR:Hid (lexT l 1=(toks,n)):=Lib.hid (by rw [hres,HBD'.out (fun h=>by rw [← HY.out]; exact y34)]; simp)
       clear hres y34
       go_wp2
       go_ret2
       exact tkr_mk HR.out (by unfold lineR; rw [if_neg (by omega)]) (HS.out.rd.ext (by (repeat first | exact Ex0 | assumption | refine Ex1 ?_ | refine Ex2 ?_ | refine Ex3 ?_ | refine Ex4 ?_ | refine Ex5 ?_))) ((HST.out.toExt (fun _ _=>by omega)).tr (by (repeat first | exact Ex0 | assumption | refine Ex1 ?_ | refine Ex2 ?_ | refine Ex3 ?_ | refine Ex4 ?_ | refine Ex5 ?_)))
     ·have hEE:E=s.size:=by have:=HSZ.out; omega
      have j1:((E:Int) == (s.size:Int))=true:=by rw [beq_iff_eq]; omega
      have j4:(E == s.size)=true:=by rw [beq_iff_eq]; omega
      have HR:Hid (lexT l 1=(toks,n)):=Lib.hid (by rw [hres,HBD'.out (fun h=>absurd h hEl)]; simp)
      clear hres gx hEE
      go_wp2
      go_ret2
      exact tkr_mk HR.out (by unfold lineR; rw [if_neg (by omega)]) (HS.out.rd.ext (by (repeat first | exact Ex0 | assumption | refine Ex1 ?_ | refine Ex2 ?_ | refine Ex3 ?_ | refine Ex4 ?_ | refine Ex5 ?_))) ((HST.out.toExt (fun _ _=>by omega)).tr (by (repeat first | exact Ex0 | assumption | refine Ex1 ?_ | refine Ex2 ?_ | refine Ex3 ?_ | refine Ex4 ?_ | refine Ex5 ?_)))
   have n34:((x.toNat:Int) == 34)=false:=by rw [beq_eq_false_iff_ne]; intro e; exact h34 (UInt8.toNat_inj.1 (by show x.toNat=34; omega))
   have hoth:otherB x:=⟨h10,hb,h35,hm,h34⟩
   clear h10 hb h35 hm h34
   by_cases hbad:x.toNat < 33 ∨ 126 < x.toNat
   ·have HR:=Lib.hid (show lexT l 1=(toks,n) by rw [hres,lexT_bad hoth hbad]; simp)
    clear hres
    by_cases h32:x.toNat < 33
    ·have c1:(x.toNat:Int) < 33:=by omega
     clear hoth hbad
     go_wp2
     go_ret2
     exact tkr_mk HR.out (by unfold lineR; rw [if_neg (by omega)]) (HS.out.rd.ext (by (repeat first | exact Ex0 | assumption | refine Ex1 ?_ | refine Ex2 ?_ | refine Ex3 ?_ | refine Ex4 ?_ | refine Ex5 ?_))) ((HST.out.toExt (fun _ _=>by omega)).tr (by (repeat first | exact Ex0 | assumption | refine Ex1 ?_ | refine Ex2 ?_ | refine Ex3 ?_ | refine Ex4 ?_ | refine Ex5 ?_)))
    ·have c1:¬ (x.toNat:Int) < 33:=by omega
     have c2:(126:Int) < (x.toNat:Int):=by omega
     clear hoth hbad
     go_wp2
     go_ret2
     exact tkr_mk HR.out (by unfold lineR; rw [if_neg (by omega)]) (HS.out.rd.ext (by (repeat first | exact Ex0 | assumption | refine Ex1 ?_ | refine Ex2 ?_ | refine Ex3 ?_ | refine Ex4 ?_ | refine Ex5 ?_))) ((HST.out.toExt (fun _ _=>by omega)).tr (by (repeat first | exact Ex0 | assumption | refine Ex1 ?_ | refine Ex2 ?_ | refine Ex3 ?_ | refine Ex4 ?_ | refine Ex5 ?_)))
   ·have c1:¬ (x.toNat:Int) < 33:=by omega
    have c2:¬ (126:Int) < (x.toNat:Int):=by omega
    have HD:=Lib.hid (word_to HDR.out hoth hbad n)
    have SI:=Lib.hid (fun k (h1:i ≤ k) (h2:k < scanE wordB l i)=>scan_in h1 h2)
    have SO:=Lib.hid (fun h=>scan_out (g:=wordB) (l:=l) (i:=i) hi h)
    have sge:=scanE_ge (g:=wordB) (l:=l) (i:=i)
    have sle:=scanE_le (g:=wordB) hi
    have hex:=scan_take (g:=wordB) (l:=l) (i:=i)
    obtain ⟨E,hE⟩:∃ E,E=scanE wordB l i:=⟨_,rfl⟩
    have SO':Hid (∀ h:E < l.length,wordB l[E]=false):=Lib.hid (by rw [hE]; exact SO.out)
    rw [← hE] at HD SI sge sle hex
    have sgt:=HD.out.2
    obtain ⟨wd,hwd⟩:∃ t,t=(l.drop i).takeWhile wordB:=⟨_,rfl⟩
    rw [← hwd] at HD hex
    have ex1:s.extract i E=str wd:=by rw [HSX.out,str_extract,hex]
    have EX1:=Lib.hid ex1
    clear hE SO hwd hex ex1 hres hoth hbad
    go_upto_block 3 with (fail)
    go_cut [9] (fun v9 wx=>v9=.int .i64 (E:Int)∧W=wx)
    case first=>as_aux_lemma =>
     go_wp2
     go_loopw [9] (fun v9 wq=>∃ k:Nat,v9=.int .i64 (k:Int)∧i ≤ k∧k ≤ E∧W=wq) (fun v9 _=>E - (intOf v9).toNat)
     case atStart=>exact ⟨i,rfl,Nat.le_refl _,sge,rfl⟩
     case round =>
      obtain ⟨k,rfl,hk1,hk2,rfl⟩:=hrel
      have hk0:(0:Int) ≤ (k:Int):=by omega
      by_cases hkE:k < E
      ·obtain ⟨hkl,hg⟩:=SI.out k hk1 hkE
       have j1:(k:Int) < (s.size:Int):=by have:=HSZ.out; omega
       have j2:k < s.size:=by have:=HSZ.out; omega
       have hkj:IntKind.i64.wrap ((k:Int) + 1)=((k + 1:Nat):Int):=by rw [IntKind.wrap_i64]; omega
       obtain ⟨y,hy⟩:∃ y,y=l[k]:=⟨_,rfl⟩
       have gy:∀ h:k < s.size,s[k]'h=y:=by
        have hs:=HSX.out
        subst hs
        intro h
        rw [hy]; rfl
       rw [← hy] at hg
       obtain ⟨y1,y2,y3,y4,y5,y6,y7⟩:=ww_in hg
       have z1:(33:Int) ≤ (y.toNat:Int):=by omega
       have z2:(y.toNat:Int) ≤ 126:=by omega
       have z3:((y.toNat:Int) == 59)=false:=ne_int (k:=59) (by omega) y3
       have z4:((y.toNat:Int) == 123)=false:=ne_int (k:=123) (by omega) y4
       have z5:((y.toNat:Int) == 125)=false:=ne_int (k:=125) (by omega) y5
       have z6:((y.toNat:Int) == 35)=false:=ne_int (k:=35) (by omega) y6
       have z7:((y.toNat:Int) == 34)=false:=ne_int (k:=34) (by omega) y7
       have b3:((y.toNat:Int) != 59)=true:=by rw [bne,z3]; rfl
       have b4:((y.toNat:Int) != 123)=true:=by rw [bne,z4]; rfl
       have b5:((y.toNat:Int) != 125)=true:=by rw [bne,z5]; rfl
       have b6:((y.toNat:Int) != 35)=true:=by rw [bne,z6]; rfl
       have b7:((y.toNat:Int) != 34)=true:=by rw [bne,z7]; rfl
       clear hy hg gx y3 y4 y5 y6 y7
       go_wp2
       go_roundw
       case rel=>exact ⟨k + 1,by simp,by omega,by omega,by trivial⟩
       case measure=>simp [intOf]; omega
      ·obtain rfl:k=E:=by omega
       by_cases hkl:k < l.length
       ·have hg:=ww_cases (SO'.out hkl)
        have j1:(k:Int) < (s.size:Int):=by have:=HSZ.out; omega
        have j2:k < s.size:=by have:=HSZ.out; omega
        obtain ⟨y,hy⟩:∃ y,y=l[k]:=⟨_,rfl⟩
        have gy:∀ h:k < s.size,s[k]'h=y:=by
         have hs:=HSX.out
         subst hs
         intro h
         rw [hy]; rfl
        rw [← hy] at hg
        clear hy gx
        rcases hg with h | h | h | h | h | h | h
        ·have z1:¬ (33:Int) ≤ (y.toNat:Int):=by omega
         go_wp2
         go_meet
         exact ⟨rfl,rfl⟩
        ·have z1:(33:Int) ≤ (y.toNat:Int):=by omega
         have z2:¬ (y.toNat:Int) ≤ 126:=by omega
         go_wp2
         go_meet
         exact ⟨rfl,rfl⟩
        all_goals
         subst h
         go_wp2
         go_meet
         exact ⟨rfl,rfl⟩
       ·have j1:¬ (k:Int) < (s.size:Int):=by have:=HSZ.out; omega
        clear gx
        go_wp2
        go_meet
        exact ⟨rfl,rfl⟩
    case rest=>as_aux_lemma =>
     obtain ⟨rfl,rfl⟩:=hcut
     have ex1:=EX1.out
     have j6:(i:Int) ≤ (E:Int):=by omega
     have j7:(E:Int) ≤ (s.size:Int):=by have:=HSZ.out; omega
     have HD1:=Lib.hid HD.out.1
     clear gx
     go_wp2_with (first
      | (at_builtin; refine wpL_put slt_tokR (.tmp 66) (.tmp 73) rfl rfl rfl rfl (HS.out.ext (by (repeat first | exact Ex0 | assumption | refine Ex1 ?_ | refine Ex2 ?_ | refine Ex3 ?_ | refine Ex4 ?_ | refine Ex5 ?_))) hna (Sl.src Tryz.underlying131 (n:=1) (rd_newC _ _ rfl [.int .u8 0,.string (str wd),.int .i64 (n:Int)] 135) (by simp) (by omega) (by simp [Value.oneCell']) _) (by omega) (by simp only [maxLen]; omega) ?_; intro A5 c5 w5 o5 hs5 st5 hn5; have st5':Stp (fun i=>i=1) W o w5 o5:=(Stp.ext (by (repeat first | exact Ex0 | assumption | refine Ex1 ?_ | refine Ex2 ?_ | refine Ex3 ?_ | refine Ex4 ?_ | refine Ex5 ?_))).tr st5))
     go_roundw
     case rel=>exact ⟨toks ++ [⟨0,wd,n⟩],n,A5,c5,E,by rw [List.length_append]; rfl,rfl,rfl,sle,h1n,HL.out.more HD1.out (by have:=HRL.out; simp; omega) hs5 hn5 (HST.out.tr st5')⟩
     case measure=>simp [intOf]; omega
end Go.Proofs.YtmnohicojefhfaaGreatDoor
end
