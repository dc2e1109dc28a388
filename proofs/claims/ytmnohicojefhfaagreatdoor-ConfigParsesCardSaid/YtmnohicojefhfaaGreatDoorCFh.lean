/-
lex: the tokens of a text.
-/
import Derived.Test.YtmnohicojefhfaaGreatDoorCFb
import Derived.Test.YtmnohicojefhfaaGreatDoorCFa
import Derived.Test.YtmnohicojefhfaaGreatDoorOWa
import Derived.Test.YtmnohicojefhfaaGreatDoorSGa
import Derived.WalkMore
import Derived.Test.YtmnohicojefhfaaGreatDoorCFc
import Derived.BigRegion
import Derived.Deep.CutBlock
set_option maxRecDepth 100000
set_option maxHeartbeats 8000000
set_option linter.unusedVariables false
set_option linter.unusedSimpArgs false
section
namespace Go.Proofs.YtmnohicojefhfaaGreatDoor
open Go.RowKit
def IsTks (r:List Tk14 × Nat) (v:Value) (w:World):Prop:=∃ A c,v=.tuple #[.slice A r.1.length c,.int .i64 (r.2:Int)]∧Rd w A (tksC r.1)
def strN:Value → Nat
 | .string s=>s.size
 | _=>0
theorem slt_tok:SlT Tryz.prog 125 129 (.agg #[.int .u8 0,.string ⟨#[]⟩,.int .i64 0]) 3 32:=⟨Tryz.underlying125,by kernel_rfl,rfl,by omega⟩
def LxAt (w:World) (l t:List UInt8) (toks:List Tk14) (n:Nat) (A:Option Addr) (c:Nat) (wr:World):Prop :=
 lexT l 1=(toks ++ (lexT t n).1,(lexT t n).2)∧n + t.length ≤ 1 + l.length∧toks.length + t.length ≤ l.length∧∃ o,Sl wr o 1 3 A toks.length c (tksC toks)∧(A=none → c=0)∧Stp (fun i=>i=1) w (fun _=>0) wr o
theorem dropW_no (a:List UInt8) (c:UInt8) (h:c ∉ a):a.dropWhile (· != c)=[]:=by
 induction a with
 | nil=>rfl
 | cons x a ih =>
  have h1:x ≠ c:=fun e=>h (e ▸ List.mem_cons_self ..)
  rw [List.dropWhile_cons,if_pos (by simpa using h1)]
  exact ih fun e=>h (List.mem_cons_of_mem _ e)
theorem dropW_at (a b:List UInt8) (c:UInt8) (h:c ∉ a):(a ++ c :: b).dropWhile (· != c)=c :: b:=by
 induction a with
 | nil=>simp
 | cons x a ih =>
  have h1:x ≠ c:=fun e=>h (e ▸ List.mem_cons_self ..)
  rw [List.cons_append,List.dropWhile_cons,if_pos (by simpa using h1)]
  exact ih fun e=>h (List.mem_cons_of_mem _ e)
theorem takeW_no (a:List UInt8) (c:UInt8) (h:c ∉ a):a.takeWhile (· != c)=a:=by
 induction a with
 | nil=>rfl
 | cons x a ih =>
  have h1:x ≠ c:=fun e=>h (e ▸ List.mem_cons_self ..)
  rw [List.takeWhile_cons,if_pos (by simpa using h1),ih fun e=>h (List.mem_cons_of_mem _ e)]
theorem dropW_all (g:UInt8 → Bool) (a:List UInt8) (h:a.all g=true):a.dropWhile g=[]:=by
 induction a with
 | nil=>rfl
 | cons x a ih =>
  rw [List.all_cons,Bool.and_eq_true] at h
  rw [List.dropWhile_cons,if_pos h.1]
  exact ih h.2
theorem takeW_at (a b:List UInt8) (c:UInt8) (h:c ∉ a):(a ++ c :: b).takeWhile (· != c)=a:=by
 induction a with
 | nil=>simp
 | cons x a ih =>
  have h1:x ≠ c:=fun e=>h (e ▸ List.mem_cons_self ..)
  rw [List.cons_append,List.takeWhile_cons,if_pos (by simpa using h1),ih fun e=>h (List.mem_cons_of_mem _ e)]
theorem LxAt.same {w wr:World} {l t t':List UInt8} {toks:List Tk14} {n n':Nat} {A:Option Addr} {c:Nat} (h:LxAt w l t toks n A c wr) (e:lexT t n=lexT t' n') (h1:n' + t'.length ≤ n + t.length) (h2:t'.length ≤ t.length):LxAt w l t' toks n' A c wr:=by
 obtain ⟨a,b,d,f⟩:=h
 exact ⟨by rw [← e]; exact a,by omega,by omega,f⟩
theorem LxAt.more {w wr w':World} {l t t':List UInt8} {toks:List Tk14} {tk:Tk14} {n:Nat} {A A':Option Addr} {c c':Nat} {o':Ow} (h:LxAt w l t toks n A c wr) (e:lexT t n=(tk :: (lexT t' n).1,(lexT t' n).2)) (h2:t'.length < t.length)
  (hs:Sl w' o' 1 3 A' (toks.length + 1) c' (tksC toks ++ tkC tk)) (hna:A'=none → c'=0) (hst:Stp (fun i=>i=1) w (fun _=>0) w' o'):LxAt w l t' (toks ++ [tk]) n A' c' w':=by
 obtain ⟨a,b,d,_⟩:=h
 refine ⟨by rw [a,e]; simp,by omega,by rw [List.length_append]; simp; omega,o',?_,hna,hst⟩
 rw [List.length_append,tksC_app]
 simpa [tksC] using hs
theorem rd_newC (w:World) (g:Nat) (hg:w.heap.size=g) (xs:List Value) (t:TypeId):Rd (w.alloc (.cells xs.toArray t)) (some ⟨g,0,none⟩) xs:=by
 subst hg
 exact .inr ⟨_,0,rfl,fun j u hu=>by have:=new_cells w xs.toArray t j u (by simpa using hu); rw [add_mk] at this; rw [Nat.zero_add]; rw [Nat.zero_add] at this; exact this⟩
theorem clex_c (l:List UInt8) (hl:l.length ≤ 65536) (w:World):Calls Tryz.prog 59 #[.string (str l)] w (Ret (IsTks (lexT l 1)) w):=by
 go_enter Tryz.func59,Tryz.ntmps59
 go_wp2
 go_step3
 go_wp2
 go_step3
 go_wp2
 go_loopw [0,2,4] (fun v0 v2 v4 wr=>∃ (t:List UInt8) (toks:List Tk14) (n:Nat) (A:Option Addr) (c:Nat),v0=.string (str t)∧v2=.slice A toks.length c∧v4=.int .i64 (n:Int)∧LxAt w l t toks n A c wr) (fun v0 _ _ _=>strN v0)
 case atStart=>exact ⟨l,[],1,none,0,rfl,rfl,rfl,by simp,by omega,by simp,fun _=>0,Sl.nil_ _ _ _ _ _,fun _=>rfl,Stp.ext (by (repeat first | exact Ex0 | assumption | refine Ex1 ?_ | refine Ex2 ?_ | refine Ex3 ?_ | refine Ex4 ?_ | refine Ex5 ?_))⟩
 case round =>
  obtain ⟨t,toks,n,A,c,rfl,rfl,rfl,hL⟩:=hrel
  have HL:=Lib.hid hL
  obtain ⟨hres,hn,hc,o,hs,hna,hst⟩:=hL
  cases t with
  | nil =>
   have hres':lexT l 1=(toks,0):=by rw [hres,lexT_nil]; simp
   have HR:=Lib.hid hres'
   rw [show str ([]:List UInt8)=⟨#[]⟩ from rfl]
   clear hres hres'
   go_wp2
   go_ret2
   rw [HR.out]
   exact Ret.mk ⟨A,c,rfl,hs.rd.ext (by (repeat first | exact Ex0 | assumption | refine Ex1 ?_ | refine Ex2 ?_ | refine Ex3 ?_ | refine Ex4 ?_ | refine Ex5 ?_))⟩ ((hst.toExt (fun _ _=>by omega)).tr (by (repeat first | exact Ex0 | assumption | refine Ex1 ?_ | refine Ex2 ?_ | refine Ex3 ?_ | refine Ex4 ?_ | refine Ex5 ?_)))
  | cons x r =>
   have hlen:(x :: r).length=r.length + 1:=rfl
   have ex1:(str (x :: r)).extract 1 (r.length + 1)=str r:=by rw [str_extract]; simp
   obtain ⟨sx,hsx⟩:∃ s,s=str (x :: r):=⟨_,rfl⟩
   have szx:sx.size=r.length + 1:=by rw [hsx,str_size]; rfl
   have nex:¬ sx.toList=[]:=by rw [hsx,str_tl]; simp
   have nex2:(sx.toList == [])=false:=by rw [beq_eq_false_iff_ne]; exact nex
   have gx:∀ h:0 < sx.size,sx[0]'h=x:=by subst hsx; intro h; rfl
   rw [← hsx] at ex1 ⊢
   have HSX:=Lib.hid hsx
   have i1:(1:Int) ≤ (r.length:Int) + 1:=by omega
   clear hsx
   by_cases h10:x=10
   ·subst h10
    go_wp2
    exact ⟨⟨r,toks,n + 1,A,c,rfl,rfl,by push_cast; rfl,HL.out.same (lexT_line r n) (by simp; omega) (by simp)⟩,by simp [strN,szx]⟩
   have n10:((x.toNat:Int) == 10)=false:=by rw [beq_eq_false_iff_ne]; intro e; exact h10 (UInt8.toNat_inj.1 (by show x.toNat=10; omega))
   by_cases hb:x=9 ∨ x=13 ∨ x=32
   ·have HB:=Lib.hid (lexT_blank hb r n)
    clear hres
    rcases hb with rfl | rfl | rfl
    all_goals (
     go_wp2
     exact ⟨⟨r,toks,n,A,c,rfl,rfl,rfl,HL.out.same HB.out (by simp) (by simp)⟩,by simp [strN,szx]⟩)
   have n9:((x.toNat:Int) == 9)=false:=by rw [beq_eq_false_iff_ne]; intro e; exact hb (.inl (UInt8.toNat_inj.1 (by show x.toNat=9; omega)))
   have n13:((x.toNat:Int) == 13)=false:=by rw [beq_eq_false_iff_ne]; intro e; exact hb (.inr (.inl (UInt8.toNat_inj.1 (by show x.toNat=13; omega))))
   have n32:((x.toNat:Int) == 32)=false:=by rw [beq_eq_false_iff_ne]; intro e; exact hb (.inr (.inr (UInt8.toNat_inj.1 (by show x.toNat=32; omega))))
   by_cases h35:x=35
   ·subst h35
    rcases cut_cases r 10 with h | ⟨a,b,hr,ha⟩
    ·have C:=fun w'=>IndexByteS_c (35 :: r) 10 (-1) (idx_no (by simpa using h)) w'
     rw [← HSX.out] at C
     have C:=Lib.hid C
     have HR:=Lib.hid (show lexT l 1=(toks,0) by rw [hres,lexT_rem,dropW_no r 10 h,lexT_nil]; simp)
     clear hres
     go_wp2_with (first
      | (go_at_call 104; refine (C.out _).mono ?_; rintro e w1 ⟨rfl,rfl⟩))
     go_ret2
     rw [HR.out]
     exact Ret.mk ⟨A,c,rfl,hs.rd.ext (by (repeat first | exact Ex0 | assumption | refine Ex1 ?_ | refine Ex2 ?_ | refine Ex3 ?_ | refine Ex4 ?_ | refine Ex5 ?_))⟩ ((hst.toExt (fun _ _=>by omega)).tr (by (repeat first | exact Ex0 | assumption | refine Ex1 ?_ | refine Ex2 ?_ | refine Ex3 ?_ | refine Ex4 ?_ | refine Ex5 ?_)))
    ·have hidx:Lib.indexByte (35 :: r) (10:Int).toNat.toUInt8=((a.length + 1:Nat):Int):=by
      rw [hr]
      have:=idx_at (a:=35 :: a) (r:=b) (c:=10) (by simpa using ha)
      simpa using this
     have C:=fun w'=>IndexByteS_c (35 :: r) 10 _ hidx w'
     rw [← HSX.out] at C
     obtain ⟨K,hK⟩:∃ K:Int,K=((a.length + 1:Nat):Int):=⟨_,rfl⟩
     rw [← hK] at C
     have C:=Lib.hid C
     have hrl:r.length=a.length + 1 + b.length:=by rw [hr]; simp; omega
     have ex2:sx.extract (a.length + 1) (r.length + 1)=str (10 :: b):=by
      rw [HSX.out,str_extract,List.take_of_length_le (by simp),hr]; simp
     have k0:¬ K < 0:=by omega
     have k1:(0:Int) ≤ K:=by omega
     have k2:K ≤ (r.length:Int) + 1:=by omega
     have k3:K.toNat=a.length + 1:=by omega
     have HD:=Lib.hid (show lexT (35 :: r) n=lexT (10 :: b) n by rw [lexT_rem,hr,dropW_at a b 10 ha])
     have HRL:=Lib.hid hrl
     clear hres hK hr hrl hidx ex1
     go_wp2_with (first
      | (go_at_call 104; refine (C.out _).mono ?_; rintro e w1 ⟨rfl,rfl⟩))
     exact ⟨⟨10 :: b,toks,n,A,c,rfl,rfl,rfl,HL.out.same HD.out (by have:=HRL.out; simp; omega) (by have:=HRL.out; simp; omega)⟩,by have:=HRL.out; simp [strN,szx,str_size]; omega⟩
   have n35:((x.toNat:Int) == 35)=false:=by rw [beq_eq_false_iff_ne]; intro e; exact h35 (UInt8.toNat_inj.1 (by show x.toNat=35; omega))
   by_cases hm:x=59 ∨ x=123 ∨ x=125
   ·have HD:=Lib.hid (lexT_mark hm r n)
    have hcl:toks.length ≤ 65536:=by omega
    have HS:=Lib.hid hs
    have HST:=Lib.hid hst
    clear hres
    rcases hm with rfl | rfl | rfl
    ·have C:=Lib.hid (fun w'=>show Calls Tryz.prog 104 #[.string ⟨#[59,123,125]⟩,.int .u8 59] w' (fun e w''=>e=.returned (.int .i64 0)∧w'=w'') from IndexByteS_c [59,123,125] 59 0 (by decide +kernel) w')
     go_wp2_with (first
      | (go_at_call 104; refine (C.out _).mono ?_; rintro e w1 ⟨rfl,rfl⟩)
      | (at_builtin; refine wpL_put slt_tok (.tmp 53) (.tmp 57) rfl rfl rfl rfl (HS.out.ext (by (repeat first | exact Ex0 | assumption | refine Ex1 ?_ | refine Ex2 ?_ | refine Ex3 ?_ | refine Ex4 ?_ | refine Ex5 ?_))) hna (Sl.src Tryz.underlying125 (n:=1) (rd_newC _ _ rfl [.int .u8 59,.string ⟨#[]⟩,.int .i64 (n:Int)] 129) (by simp) (by omega) (by simp [Value.oneCell']) _) (by omega) (by simp only [maxLen]; omega) ?_; intro A5 c5 w5 o5 hs5 st5 hn5; have st5':Stp (fun i=>i=1) wr o w5 o5:=(Stp.ext (by (repeat first | exact Ex0 | assumption | refine Ex1 ?_ | refine Ex2 ?_ | refine Ex3 ?_ | refine Ex4 ?_ | refine Ex5 ?_))).tr st5))
     exact ⟨⟨r,toks ++ [⟨59,[],n⟩],n,A5,c5,rfl,by rw [List.length_append]; rfl,rfl,HL.out.more HD.out (by simp) hs5 hn5 (HST.out.tr st5')⟩,by simp [strN,szx]⟩
    ·have C:=Lib.hid (fun w'=>show Calls Tryz.prog 104 #[.string ⟨#[59,123,125]⟩,.int .u8 123] w' (fun e w''=>e=.returned (.int .i64 1)∧w'=w'') from IndexByteS_c [59,123,125] 123 1 (by decide +kernel) w')
     go_wp2_with (first
      | (go_at_call 104; refine (C.out _).mono ?_; rintro e w1 ⟨rfl,rfl⟩)
      | (at_builtin; refine wpL_put slt_tok (.tmp 53) (.tmp 57) rfl rfl rfl rfl (HS.out.ext (by (repeat first | exact Ex0 | assumption | refine Ex1 ?_ | refine Ex2 ?_ | refine Ex3 ?_ | refine Ex4 ?_ | refine Ex5 ?_))) hna (Sl.src Tryz.underlying125 (n:=1) (rd_newC _ _ rfl [.int .u8 123,.string ⟨#[]⟩,.int .i64 (n:Int)] 129) (by simp) (by omega) (by simp [Value.oneCell']) _) (by omega) (by simp only [maxLen]; omega) ?_; intro A5 c5 w5 o5 hs5 st5 hn5; have st5':Stp (fun i=>i=1) wr o w5 o5:=(Stp.ext (by (repeat first | exact Ex0 | assumption | refine Ex1 ?_ | refine Ex2 ?_ | refine Ex3 ?_ | refine Ex4 ?_ | refine Ex5 ?_))).tr st5))
     exact ⟨⟨r,toks ++ [⟨123,[],n⟩],n,A5,c5,rfl,by rw [List.length_append]; rfl,rfl,HL.out.more HD.out (by simp) hs5 hn5 (HST.out.tr st5')⟩,by simp [strN,szx]⟩
    ·have C:=Lib.hid (fun w'=>show Calls Tryz.prog 104 #[.string ⟨#[59,123,125]⟩,.int .u8 125] w' (fun e w''=>e=.returned (.int .i64 2)∧w'=w'') from IndexByteS_c [59,123,125] 125 2 (by decide +kernel) w')
     go_wp2_with (first
      | (go_at_call 104; refine (C.out _).mono ?_; rintro e w1 ⟨rfl,rfl⟩)
      | (at_builtin; refine wpL_put slt_tok (.tmp 53) (.tmp 57) rfl rfl rfl rfl (HS.out.ext (by (repeat first | exact Ex0 | assumption | refine Ex1 ?_ | refine Ex2 ?_ | refine Ex3 ?_ | refine Ex4 ?_ | refine Ex5 ?_))) hna (Sl.src Tryz.underlying125 (n:=1) (rd_newC _ _ rfl [.int .u8 125,.string ⟨#[]⟩,.int .i64 (n:Int)] 129) (by simp) (by omega) (by simp [Value.oneCell']) _) (by omega) (by simp only [maxLen]; omega) ?_; intro A5 c5 w5 o5 hs5 st5 hn5; have st5':Stp (fun i=>i=1) wr o w5 o5:=(Stp.ext (by (repeat first | exact Ex0 | assumption | refine Ex1 ?_ | refine Ex2 ?_ | refine Ex3 ?_ | refine Ex4 ?_ | refine Ex5 ?_))).tr st5))
     exact ⟨⟨r,toks ++ [⟨125,[],n⟩],n,A5,c5,rfl,by rw [List.length_append]; rfl,rfl,HL.out.more HD.out (by simp) hs5 hn5 (HST.out.tr st5')⟩,by simp [strN,szx]⟩
   have n59:((x.toNat:Int) == 59)=false:=by rw [beq_eq_false_iff_ne]; intro e; exact hm (.inl (UInt8.toNat_inj.1 (by show x.toNat=59; omega)))
   have hmi:Lib.indexByte [59,123,125] x=-1:=idx_no (by
    intro h
    simp at h
    exact hm h)
   by_cases h34:x=34
   ·subst h34
    have CM:=Lib.hid (fun w'=>show Calls Tryz.prog 104 #[.string ⟨#[59,123,125]⟩,.int .u8 34] w' (fun e w''=>e=.returned (.int .i64 (-1))∧w'=w'') from IndexByteS_c [59,123,125] 34 (-1) (by decide +kernel) w')
    have HS:=Lib.hid hs
    have HST:=Lib.hid hst
    have hcl:toks.length ≤ 65536:=by omega
    rcases cut_cases r 34 with h | ⟨a,b,hr,ha⟩
    ·have C:=Lib.hid (fun w'=>IndexByteS_c r 34 (-1) (idx_no h) w')
     have htw:=takeW_no r 34 h
     have HR:=Lib.hid (show lexT l 1=(toks,n) by rw [hres,lexT_quote_bad (.inl (by rw [htw]; exact Nat.le_refl _))]; simp)
     clear hres htw
     go_wp2_with (first
      | (go_at_call 104; refine (CM.out _).mono ?_; rintro e w1 ⟨rfl,rfl⟩; clear CM)
      | (go_at_call 104; refine (C.out _).mono ?_; rintro e w1 ⟨rfl,rfl⟩))
     simp (zetaDelta:=true) only [Exit.noGoto_ret]
     go_ret2
     rw [HR.out]
     exact Ret.mk ⟨A,c,rfl,hs.rd.ext (by (repeat first | exact Ex0 | assumption | refine Ex1 ?_ | refine Ex2 ?_ | refine Ex3 ?_ | refine Ex4 ?_ | refine Ex5 ?_))⟩ ((hst.toExt (fun _ _=>by omega)).tr (by (repeat first | exact Ex0 | assumption | refine Ex1 ?_ | refine Ex2 ?_ | refine Ex3 ?_ | refine Ex4 ?_ | refine Ex5 ?_)))
    ·have htw:r.takeWhile (· != 34)=a:=by rw [hr]; exact takeW_at a b 34 ha
     have hrl:r.length=a.length + 1 + b.length:=by rw [hr]; simp; omega
     have C:=Lib.hid (fun w'=>IndexByteS_c r 34 ((a.length:Nat):Int) (by rw [hr]; exact idx_at ha) w')
     have CB:=fun w'=>cbytes_c 32 (by omega) a w'
     have ex3:sx.extract 1 (a.length + 1)=str a:=by
      rw [HSX.out,str_extract,hr]; simp
     have ex4:sx.extract (a.length + 2) (r.length + 1)=str b:=by
      rw [HSX.out,str_extract,List.take_of_length_le (by simp),hr]
      simp
     have w1:IntKind.i64.wrap (1 + (a.length:Int))=(a.length:Int) + 1:=by rw [IntKind.wrap_i64]; omega
     have w2:IntKind.i64.wrap ((a.length:Int) + 2)=(a.length:Int) + 2:=by rw [IntKind.wrap_i64]; omega
     have k1:(1:Int) ≤ (a.length:Int) + 1:=by omega
     have k2:(a.length:Int) + 1 ≤ (r.length:Int) + 1:=by omega
     have k3:(a.length:Int) + 2 ≤ (r.length:Int) + 1:=by omega
     have k4:(0:Int) ≤ (a.length:Int) + 2:=by omega
     have HRL:=Lib.hid hrl
     have EX4:=Lib.hid ex4
     obtain ⟨ok,hok⟩:∃ ok,ok=bytesC 32 a:=⟨_,rfl⟩
     rw [← hok] at CB
     have CB:=Lib.hid CB
     cases ok with
     | false =>
      have HR:=Lib.hid (show lexT l 1=(toks,n) by rw [hres,lexT_quote_bad (.inr (by rw [htw]; exact hok.symm))]; simp)
      clear hres htw hr hrl hok
      go_wp2_with (first
       | (go_at_call 104; refine (CM.out _).mono ?_; rintro e w1 ⟨rfl,rfl⟩; clear CM)
       | (go_at_call 104; refine (C.out _).mono ?_; rintro e w1 ⟨rfl,rfl⟩)
       | (go_at_call 105; refine (CB.out _).mono ?_; rintro e w2 ⟨rfl,hx2⟩))
      simp (zetaDelta:=true) only [Exit.noGoto_ret]
      go_ret2
      rw [HR.out]
      exact Ret.mk ⟨A,c,rfl,hs.rd.ext (by (repeat first | exact Ex0 | assumption | refine Ex1 ?_ | refine Ex2 ?_ | refine Ex3 ?_ | refine Ex4 ?_ | refine Ex5 ?_))⟩ ((hst.toExt (fun _ _=>by omega)).tr (by (repeat first | exact Ex0 | assumption | refine Ex1 ?_ | refine Ex2 ?_ | refine Ex3 ?_ | refine Ex4 ?_ | refine Ex5 ?_)))
     | true =>
      have HD:=Lib.hid (show lexT (34 :: r) n=(⟨0,a,n⟩ :: (lexT b n).1,(lexT b n).2) by
       rw [lexT_quote (by rw [htw,hrl,← hok]; simp; omega) n,htw]
       rw [show r.drop (a.length + 1)=b from by rw [hr]; simp])
      clear hres htw hr hrl hok
      go_wp2_with (first
       | (go_at_call 104; refine (CM.out _).mono ?_; rintro e w1 ⟨rfl,rfl⟩; clear CM)
       | (go_at_call 104; refine (C.out _).mono ?_; rintro e w1 ⟨rfl,rfl⟩)
       | (go_at_call 105; refine (CB.out _).mono ?_; rintro e w2 ⟨rfl,hx2⟩)
       | (at_builtin; refine wpL_put slt_tok (.tmp 77) (.tmp 84) rfl rfl rfl rfl (HS.out.ext (by (repeat first | exact Ex0 | assumption | refine Ex1 ?_ | refine Ex2 ?_ | refine Ex3 ?_ | refine Ex4 ?_ | refine Ex5 ?_))) hna (Sl.src Tryz.underlying125 (n:=1) (rd_newC _ _ rfl [.int .u8 0,.string (str a),.int .i64 (n:Int)] 129) (by simp) (by omega) (by simp [Value.oneCell']) _) (by omega) (by simp only [maxLen]; omega) ?_; intro A5 c5 w5 o5 hs5 st5 hn5; have st5':Stp (fun i=>i=1) wr o w5 o5:=(Stp.ext (by (repeat first | exact Ex0 | assumption | refine Ex1 ?_ | refine Ex2 ?_ | refine Ex3 ?_ | refine Ex4 ?_ | refine Ex5 ?_))).tr st5))
      have e4:sx.extract (a.length + 2) (r.length + 1)=str b:=EX4.out
      exact ⟨⟨b,toks ++ [⟨0,a,n⟩],n,A5,c5,by rw [e4],by rw [List.length_append]; rfl,rfl,HL.out.more HD.out (by have:=HRL.out; simp; omega) hs5 hn5 (HST.out.tr st5')⟩,by rw [e4]; have:=HRL.out; simp [strN,szx]; omega⟩
   have n34:((x.toNat:Int) == 34)=false:=by rw [beq_eq_false_iff_ne]; intro e; exact h34 (UInt8.toNat_inj.1 (by show x.toNat=34; omega))
   have hoth:otherB x:=⟨h10,hb,h35,hm,h34⟩
   have hx8:(x.toNat:Int).toNat.toUInt8=x:=by rw [Int.toNat_natCast]; exact UInt8.toNat_inj.1 (by simp)
   have CM:=Lib.hid (fun w'=>show Calls Tryz.prog 104 #[.string ⟨#[59,123,125]⟩,.int .u8 (x.toNat:Int)] w' (fun e w''=>e=.returned (.int .i64 (-1))∧w'=w'') from IndexByteS_c [59,123,125] (x.toNat:Int) (-1) (by rw [hx8]; exact hmi) w')
   have HS:=Lib.hid hs
   have HST:=Lib.hid hst
   have hcl:toks.length ≤ 65536:=by omega
   clear hx8 hmi h10 hb h35 hm h34
   by_cases hbad:x.toNat < 33 ∨ 126 < x.toNat
   ·have HR:=Lib.hid (show lexT l 1=(toks,n) by rw [hres,lexT_bad hoth hbad]; simp)
    clear hres
    by_cases h32:x.toNat ≤ 32
    ·have c1:decide ((x.toNat:Int) ≤ 32)=true:=by rw [decide_eq_true_eq]; omega
     go_wp2_with (first
      | (go_at_call 104; refine (CM.out _).mono ?_; rintro e w1 ⟨rfl,rfl⟩))
     simp (zetaDelta:=true) only [Exit.noGoto_ret]
     go_ret2
     rw [HR.out]
     exact Ret.mk ⟨A,c,rfl,hs.rd.ext (by (repeat first | exact Ex0 | assumption | refine Ex1 ?_ | refine Ex2 ?_ | refine Ex3 ?_ | refine Ex4 ?_ | refine Ex5 ?_))⟩ ((hst.toExt (fun _ _=>by omega)).tr (by (repeat first | exact Ex0 | assumption | refine Ex1 ?_ | refine Ex2 ?_ | refine Ex3 ?_ | refine Ex4 ?_ | refine Ex5 ?_)))
    ·have c1:decide ((x.toNat:Int) ≤ 32)=false:=by rw [decide_eq_false_iff_not]; omega
     have c2:decide ((127:Int) ≤ (x.toNat:Int))=true:=by rw [decide_eq_true_eq]; omega
     go_wp2_with (first
      | (go_at_call 104; refine (CM.out _).mono ?_; rintro e w1 ⟨rfl,rfl⟩))
     simp (zetaDelta:=true) only [Exit.noGoto_ret]
     go_ret2
     rw [HR.out]
     exact Ret.mk ⟨A,c,rfl,hs.rd.ext (by (repeat first | exact Ex0 | assumption | refine Ex1 ?_ | refine Ex2 ?_ | refine Ex3 ?_ | refine Ex4 ?_ | refine Ex5 ?_))⟩ ((hst.toExt (fun _ _=>by omega)).tr (by (repeat first | exact Ex0 | assumption | refine Ex1 ?_ | refine Ex2 ?_ | refine Ex3 ?_ | refine Ex4 ?_ | refine Ex5 ?_)))
   ·have hD:=lexT_word hoth hbad r n
    obtain ⟨wd,hwd⟩:∃ wd,wd=(x :: r).takeWhile wordB:=⟨_,rfl⟩
    obtain ⟨rr,hrr⟩:∃ rr,rr=(x :: r).dropWhile wordB:=⟨_,rfl⟩
    have hcat:wd ++ rr=x :: r:=by rw [hwd,hrr]; exact List.takeWhile_append_dropWhile
    have hdr:(x :: r).drop wd.length=rr:=by rw [← hcat,List.drop_left]
    rw [← hwd,hdr] at hD
    have hw1:0 < wd.length:=by rw [hwd,List.takeWhile_cons,other_word hoth hbad]; simp
    have hlen2:wd.length + rr.length=r.length + 1:=by rw [← List.length_append,hcat]; rfl
    have c1:decide ((x.toNat:Int) ≤ 32)=false:=by rw [decide_eq_false_iff_not]; omega
    have c2:decide ((127:Int) ≤ (x.toNat:Int))=false:=by rw [decide_eq_false_iff_not]; omega
    have hC:=fun w'=>IndexWord_c (x :: r) w'
    rw [firstBad_word,← hwd,← HSX.out] at hC
    have hmf:∀ (fn:Fn) (first cap:Array Value) (w:World),(Instr.makeFunc fn first cap).run Tryz.prog w=.ok (.func fn first cap) w:=fun _ _ _ _=>rfl
    have HD:=Lib.hid hD
    have ex5:sx.extract 0 wd.length=str wd:=by
     rw [HSX.out,str_extract,← hcat]; simp
    have ex6:sx.extract wd.length (r.length + 1)=str rr:=by
     rw [HSX.out,str_extract,List.take_of_length_le (by simp),← hcat]; simp
    have HLN:=Lib.hid hlen2
    have H1:=Lib.hid hw1
    by_cases ha:(x :: r).all wordB=true
    ·rw [if_pos ha] at hC
     have C:=Lib.hid hC
     have hrr0:rr=[]:=by
      rw [hrr]; exact dropW_all _ _ ha
     have hwl:wd.length=r.length + 1:=by rw [hrr0] at hlen2; simpa using hlen2
     rw [hwl] at ex5 ex6
     have k4:(0:Int) ≤ (r.length:Int) + 1:=by omega
     have HWL:=Lib.hid hwl
     have HR0:=Lib.hid hrr0
     clear hD hC hwd hrr hcat hdr hres hlen2 hw1 hrr0 hwl ha hoth hbad
     go_wp2_with (first
      | (go_at_call 104; refine (CM.out _).mono ?_; rintro e w1 ⟨rfl,rfl⟩)
      | (go_at_call 106; refine (C.out _).mono ?_; rintro e w2 ⟨rfl,hx2⟩)
      | (at_builtin; refine wpL_put slt_tok (.tmp 18) (.tmp 24) rfl rfl rfl rfl (HS.out.ext (by (repeat first | exact Ex0 | assumption | refine Ex1 ?_ | refine Ex2 ?_ | refine Ex3 ?_ | refine Ex4 ?_ | refine Ex5 ?_))) hna (Sl.src Tryz.underlying125 (n:=1) (rd_newC _ _ rfl [.int .u8 0,.string (str wd),.int .i64 (n:Int)] 129) (by simp) (by omega) (by simp [Value.oneCell']) _) (by omega) (by simp only [maxLen]; omega) ?_; intro A5 c5 w5 o5 hs5 st5 hn5; have st5':Stp (fun i=>i=1) wr o w5 o5:=(Stp.ext (by (repeat first | exact Ex0 | assumption | refine Ex1 ?_ | refine Ex2 ?_ | refine Ex3 ?_ | refine Ex4 ?_ | refine Ex5 ?_))).tr st5))
     exact ⟨⟨rr,toks ++ [⟨0,wd,n⟩],n,A5,c5,by rw [HR0.out]; rfl,by rw [List.length_append]; rfl,rfl,HL.out.more HD.out (by have:=HLN.out; have:=H1.out; simp; omega) hs5 hn5 (HST.out.tr st5')⟩,by simp [strN,szx]⟩
    ·rw [if_neg ha] at hC
     obtain ⟨K,hK⟩:∃ K:Int,K=((wd.length:Nat):Int):=⟨_,rfl⟩
     rw [← hK] at hC
     have C:=Lib.hid hC
     have k0:¬ K < 0:=by omega
     have k1:(0:Int) ≤ K:=by omega
     have k2:K ≤ (r.length:Int) + 1:=by omega
     have k3:K.toNat=wd.length:=by omega
     clear hD hC hwd hrr hcat hdr hres hlen2 hw1 ha hK hoth hbad
     go_wp2_with (first
      | (go_at_call 104; refine (CM.out _).mono ?_; rintro e w1 ⟨rfl,rfl⟩)
      | (go_at_call 106; refine (C.out _).mono ?_; rintro e w2 ⟨rfl,hx2⟩)
      | (at_builtin; refine wpL_put slt_tok (.tmp 18) (.tmp 24) rfl rfl rfl rfl (HS.out.ext (by (repeat first | exact Ex0 | assumption | refine Ex1 ?_ | refine Ex2 ?_ | refine Ex3 ?_ | refine Ex4 ?_ | refine Ex5 ?_))) hna (Sl.src Tryz.underlying125 (n:=1) (rd_newC _ _ rfl [.int .u8 0,.string (str wd),.int .i64 (n:Int)] 129) (by simp) (by omega) (by simp [Value.oneCell']) _) (by omega) (by simp only [maxLen]; omega) ?_; intro A5 c5 w5 o5 hs5 st5 hn5; have st5':Stp (fun i=>i=1) wr o w5 o5:=(Stp.ext (by (repeat first | exact Ex0 | assumption | refine Ex1 ?_ | refine Ex2 ?_ | refine Ex3 ?_ | refine Ex4 ?_ | refine Ex5 ?_))).tr st5))
     exact ⟨⟨rr,toks ++ [⟨0,wd,n⟩],n,A5,c5,rfl,by rw [List.length_append]; rfl,rfl,HL.out.more HD.out (by have:=HLN.out; have:=H1.out; simp; omega) hs5 hn5 (HST.out.tr st5')⟩,by have:=HLN.out; have:=H1.out; simp [strN,szx,str_size]; omega⟩
end Go.Proofs.YtmnohicojefhfaaGreatDoor
end
section
namespace Go.Proofs.YtmnohicojefhfaaGreatDoor
open Go.RowKit
theorem tk_at (l:List Tk14) (k:Nat) (t:Tk14) (h:l[k]?=some t) (i:Nat) (hi:i < 3):(tksC l)[k * 3 + i]?=(tkC t)[i]?:=by
 rw [tksC_at l k i hi,h]; rfl
theorem slt_pnode:SlT Tryz.prog 56 59 (.pointer none) 1 8:=⟨Tryz.underlying56,by kernel_rfl,rfl,by omega⟩
theorem slt_str14:SlT Tryz.prog 55 9 (.string ⟨#[]⟩) 1 16:=⟨Tryz.underlying55,by kernel_rfl,rfl,by omega⟩
theorem rd_tok {w:World} {A:Option Addr} {l:List Tk14} {k:Nat} {t:Tk14} (h:Rd w A (tksC l)) (ht:l[k]?=some t) :
  ∃ b g,A=some ⟨b,g,none⟩∧w.cell? ⟨b,g + k * 3,none⟩=some (.int .u8 (t.mark.toNat:Int))∧w.cell? ⟨b,g + k * 3 + 1,none⟩=some (.string (str t.s))∧w.cell? ⟨b,g + k * 3 + 2,none⟩=some (.int .i64 (t.line:Int)):=by
 have h0:=tk_at l k t ht 0 (by omega)
 have h1:=tk_at l k t ht 1 (by omega)
 have h2:=tk_at l k t ht 2 (by omega)
 rcases h with h | ⟨b,g,hA,hc⟩
 ·rw [h] at h0; cases h0
 ·exact ⟨b,g,hA,hc _ _ h0,hc _ _ h1,hc _ _ h2⟩
theorem tree_start (w:World) (tk:List Tk14):TreeAt w ((w.alloc (.cells #[.slice none 0 0,.int .i64 0,.bool false,.slice none 0 0] 58)).alloc (.cells #[.pointer (some ⟨w.heap.size,0,none⟩)] 59)) tk 0 .nil none 0 [w.heap.size]
  (fun b=>if b < w.heap.size then 0 else if b=w.heap.size then 10 else 1) (some ⟨w.heap.size + 1,0,none⟩) 1:=by
 have hz:(w.alloc (.cells #[.slice none 0 0,.int .i64 0,.bool false,.slice none 0 0] 58)).heap.size=w.heap.size + 1:=by simp
 refine ⟨TInv.start,⟨rfl,fun n hn i hi=>?_,fun j n hj=>?_⟩,⟨rfl,by omega,by simp [maxLen],.inr ⟨w.heap.size + 1,0,rfl,by simp,by simp,fun j u hu=>?_,fun j hj=>?_⟩⟩,(fun h=>by cases h),by simp [Fo.size,nowR],(fun x hx=>by cases hx),Stp.ext2 (((Ext.rfl' w).al _).al _) (fun b hb=>by simp [hb])⟩
 ·simp [nsOf,nowR,Fo.roots,Fo.recs] at hn; subst hn; cases hi
 ·have:j=0:=by
   have:=(List.getElem?_eq_some_iff.1 hj).1
   simp [nsOf,nowR,Fo.roots,Fo.recs] at this; omega
  subst this
  simp [nsOf,nowR,Fo.roots] at hj
  subst hj
  refine ⟨by simp,none,0,none,0,?_,Sl.nil_ _ _ _ _ _,fun _=>rfl,Sl.nil_ _ _ _ _ _,fun _=>rfl⟩
  rw [List.getD_cons_zero,Below.heap_alloc _ _ _ (by rw [hz]; omega)]
  exact heap_alloc_new w _
 ·have e1:=new_cells_g hz #[.pointer (some ⟨w.heap.size,0,none⟩)] 59 j u (by
   cases j with
   | zero=>simpa [opOf,Fo.path_zero,ptC] using hu
   | succ j=>simp [opOf,Fo.path_zero] at hu)
  rw [add_mk] at e1
  exact e1
 ·obtain rfl:j=0:=by omega
  have e1:=new_cells_g hz #[.pointer (some ⟨w.heap.size,0,none⟩)] 59 0 _ rfl
  rw [add_mk] at e1
  refine ⟨by rw [e1]; rfl,?_⟩
  have:=World.frozen?_alloc_new (w.alloc (.cells #[.slice none 0 0,.int .i64 0,.bool false,.slice none 0 0] 58)) #[.pointer (some ⟨w.heap.size,0,none⟩)] 59 0
  rw [hz] at this
  exact this
theorem step_run {P:Program} {ops:Array Oper} {o:Oper} {a:Act} {K:Act → World → Prop} {Q:Exit → Act → World → Prop} {E:Prop} (s x:Operand) {t tx:TypeId}
  (ho:o.op=.call { callee:=.builtin .append,args:=#[s,x],argTypes:=#[t,tx] }) (hgd:o.guard=none) {sv xv v':Value} {w w':World} (hs:a.eval s=sv) (hx:a.eval x=xv)
  (hr:(Builtin.append_ #[t,tx] o.type #[sv,xv]).run P w=.ok v' w') (h:K (a.put o.dst v') w'):if Region.wanted o (yielded ops a.tmps)=true then Oper.wp P o a w K Q else E:=by
 have hw:Region.wanted o (yielded ops a.tmps)=true:=by simp [Region.wanted,hgd]
 rw [if_pos hw]
 unfold Oper.wp execOp
 simp only [ho,resolve,invoke,builtin,Sem.run_bind,Sem.run_pure,Result.andThen_ok,List.map_toArray,List.map_cons,List.map_nil,hs,hx,hr]
 exact h
theorem rd_newS (w:World) (g:Nat) (hg:w.heap.size=g) (s:ByteArray):Rd (w.alloc (.cells #[.string s] 9)) (some ⟨g,0,none⟩) [.string s]:=by
 subst hg
 exact .inr ⟨_,0,rfl,fun j u hu=>by have:=new_cells w #[.string s] 9 j u (by simpa using hu); rw [add_mk] at this; exact this⟩
theorem rd_newP (w:World) (g:Nat) (hg:w.heap.size=g) (p:Nat):Rd (w.alloc (.cells #[.pointer (some ⟨p,0,none⟩)] 59)) (some ⟨g,0,none⟩) [ptC p]:=by
 subst hg
 exact .inr ⟨_,0,rfl,fun j u hu=>by have:=new_cells w #[.pointer (some ⟨p,0,none⟩)] 59 j u (by simpa [ptC] using hu); rw [add_mk] at this; exact this⟩
theorem ctree_c (l:List UInt8) (hl:l.length ≤ 65536) (w:World):Calls Tryz.prog 23 #[.string (str l)] w (TreeQ l w):=by
 have CL:=Lib.hid (fun w'=>clex_c l hl w')
 have hlen:=lexL_len l
 obtain ⟨bd,hbd⟩:∃ b,b=(lexL l).2:=⟨_,rfl⟩
 obtain ⟨tk,htk⟩:∃ t,t=(lexL l).1:=⟨_,rfl⟩
 have HTK:=Lib.hid htk
 have HBD:=Lib.hid hbd
 rw [← htk] at hlen
 have hlt:lexT l 1=(tk,bd):=by rw [htk,hbd]; rfl
 rw [hlt] at CL
 clear htk hbd hlt
 obtain ⟨sl,hsl⟩:∃ s,s=str l:=⟨_,rfl⟩
 rw [← hsl] at CL ⊢
 clear hsl
 go_enter Tryz.func23,Tryz.ntmps23
 go_wp2_with (first
  | (go_at_call 59; refine (CL.out _).mono ?_; rintro e w1 ⟨v,rfl,⟨A0,c0,rfl,hrd⟩,hx1⟩; have HRD:=Lib.hid hrd; clear hrd))
 go_loopw [5,6,21] (fun v5 v6 v21 wr=>∃ (i:Nat) (f:Fo) (now:Option N1) (d:Nat) (ps:List Nat) (o:Ow) (A:Option Addr) (c:Nat),i ≤ tk.length∧v21=.int .i64 (i:Int)∧v5=.slice A (d + 1) c∧v6=nowV ps f now∧TreeAt w1 wr tk i f now d ps o A c) (fun _ _ v21 _=>tk.length - (intOf v21).toNat)
 case atStart=>exact ⟨0,.nil,none,0,_,_,_,1,by omega,rfl,rfl,rfl,tree_start w1 tk⟩
 case round =>
  obtain ⟨i,f,now,d,ps,o,A,c,hi,rfl,rfl,rfl,hT⟩:=hrel
  have HT:=Lib.hid hT
  by_cases hlt:i < tk.length
  ·obtain ⟨t,ht⟩:∃ t,tk[i]?=some t:=⟨_,List.getElem?_eq_getElem hlt⟩
   obtain ⟨hb,g,rfl,k0,k1,k2⟩:=rd_tok (HRD.out.stp hT.stp (fun a _ _ h=>h rfl)) ht
   obtain ⟨gA,fA,q,rfl,hgl,hq,hql,htop⟩:=hT.top
   have ct:=fun x=>(htop.out (wr.alloc x) (by (repeat first | exact Ex0 | assumption | refine Ex1 ?_ | refine Ex2 ?_ | refine Ex3 ?_ | refine Ex4 ?_ | refine Ex5 ?_))).1
   have e1:IntKind.i64.wrap (d:Int)=(d:Int):=by have:=hT.inv.le; rw [IntKind.wrap_i64]; omega
   have hd3:=hT.inv.le
   have hdd:(d:Int) < (d:Int) + 1:=by omega
   have hii:IntKind.i64.wrap ((i:Int) + 1)=((i + 1:Nat):Int):=by rw [IntKind.wrap_i64]; omega
   have HQ:=Lib.hid hq
   have HTT:=Lib.hid ht
   clear hq htop ht
   obtain ⟨mk,hmk⟩:∃ m,m=t.mark:=⟨_,rfl⟩
   obtain ⟨ln,hln⟩:∃ m,m=t.line:=⟨_,rfl⟩
   obtain ⟨sv,hsv⟩:∃ s,s=str t.s:=⟨_,rfl⟩
   rw [← hmk] at k0
   rw [← hsv] at k1
   rw [← hln] at k2
   have HMK:=Lib.hid hmk
   have HSV:=Lib.hid hsv
   have HLN:=Lib.hid hln
   clear hmk hsv hln
   obtain ⟨pt,hpt⟩:∃ p,p=ps.getD q 0:=⟨_,rfl⟩
   rw [← hpt] at ct
   have HPT:=Lib.hid hpt
   clear hpt
   cases now with
   | none =>
    rw [show nowV ps f none=.pointer none from rfl]
    clear hT
    by_cases m0:mk=0
    ·subst m0
     rw [show ((0:UInt8).toNat:Int)=0 from rfl] at k0
     obtain ⟨W2,hW2⟩:∃ W,W=(wr.alloc (.cells #[.int .u8 0,.string sv,.int .i64 (ln:Int)] 129)).alloc (.cells #[.slice none 0 0,.int .i64 (ln:Int),.bool false,.slice none 0 0] 58):=⟨_,rfl⟩
     have hz2:W2.heap.size=wr.heap.size + 2:=by rw [hW2]; simp
     have hF:=NdAt.fresh (wr.alloc (.cells #[.int .u8 0,.string sv,.int .i64 (ln:Int)] 129)) o (10 + 3 * (f.size + 1)) ps ln
     have hz1:(wr.alloc (.cells #[.int .u8 0,.string sv,.int .i64 (ln:Int)] 129)).heap.size=wr.heap.size + 1:=by simp
     rw [← hW2,hz1] at hF
     obtain ⟨o1,ho1⟩:∃ o1:Ow,o1=fun b=>if b < wr.heap.size + 1 then o b else 10 + 3 * (f.size + 1):=⟨_,rfl⟩
     rw [← ho1] at hF
     have HF:=Lib.hid hF
     have HST:Hid (Stp (fun _=>False) wr o W2 o1):=Lib.hid (Stp.ext2 (by rw [hW2]; exact ((Ext.rfl' wr).al _).al _) (fun b hb=>by rw [ho1]; simp; omega))
     have rW2:W2.heap[wr.heap.size + 1]?=some (.cells (ndC ⟨[],ln,false,[]⟩ none 0 none 0) 58 (0,0)):=by rw [hW2,← hz1]; exact heap_alloc_new _ _
     obtain ⟨A5,c5,w5,o5,hr5,hs5,st5,hn5⟩:=run_put slt_str14 (tx:=55) 55 (w:=(W2.alloc (.cells #[.string sv] 9)).drew) (o:=o1) (k:=10 + 3 * (f.size + 1) + 1) (Sl.nil_ _ _ _ 1 none) (fun _=>rfl) (Sl.src Tryz.underlying55 (n:=1) ((rd_newS W2 _ rfl sv).ext (by (repeat first | exact Ex0 | assumption | refine Ex1 ?_ | refine Ex2 ?_ | refine Ex3 ?_ | refine Ex4 ?_ | refine Ex5 ?_))) (by simp) (by omega) (by simp [Value.oneCell']) 1) (by omega) (by simp only [maxLen]; omega)
     have st5':Stp (fun i=>i=10 + 3 * (f.size + 1) + 1) W2 o1 w5 o5:=(Stp.ext (by (repeat first | exact Ex0 | assumption | refine Ex1 ?_ | refine Ex2 ?_ | refine Ex3 ?_ | refine Ex4 ?_ | refine Ex5 ?_))).tr (st5.mono fun i hi=>hi.2)
     rw [hz2] at hr5
     have hW:=NdAt.word (ps:=ps) hF.own rW2 (Sl.nil_ _ _ _ _ _) (fun _=>rfl) t.s (by rw [HSV.out] at hs5; exact hs5) hn5 st5'
     have r5:=Lib.hid ((st5'.keep (wr.heap.size + 1) (by omega) (by rw [hF.own]; omega)).trans rW2)
     have q5:=(row_facts r5.out 0 _ rfl).1
     have f5:=(row_facts r5.out 0 _ rfl).2
     rw [hW2] at hr5
     have hW':NdAt (w5.setCell ⟨wr.heap.size + 1,0,none⟩ (.slice A5 1 c5)) o5 (10 + 3 * (f.size + 1)) (wr.heap.size + 1) ps ⟨[t.s],t.line,false,[]⟩:=by rw [← HLN.out]; exact hW.1
     have HE:=Lib.hid (HT.out.word0 HTT.out HMK.out.symm hW' ((HST.out.mono fun _ h=>h.elim).tr hW.2))
     rw [← HLN.out] at HE
     have HV:Hid (Value.pointer (some ⟨wr.heap.size + 1,0,none⟩)=nowV (ps ++ [wr.heap.size + 1]) f (some ⟨[t.s],ln,false⟩)):=by
      have hpl:=HT.out.plen
      have h1:ps.length=f.size + 1:=hpl
      have h2:=getD_last ps (wr.heap.size + 1)
      rw [h1] at h2
      exact Lib.hid (by show _=ptC _; rw [h2]; rfl)
     clear hW2 ho1 hF rW2 hs5 st5 st5' hW hW' hz1 hz2
     go_wp2
     go_region_law (first
      | (refine step_run (.tmp 50) (.tmp 53) rfl rfl rfl rfl hr5 ?_))
     all_goals (
      go_wp2
      exact ⟨⟨i + 1,f,some ⟨[t.s],ln,false⟩,d,ps ++ [wr.heap.size + 1],o5,_,c,by omega,by push_cast; rfl,rfl,HV.out,HE.out⟩,by simp [intOf]; omega⟩)
    ·by_cases m1:mk=125
     ·subst m1
      rw [show ((125:UInt8).toNat:Int)=125 from rfl] at k0
      by_cases d0:d=0
      ·have dd1:((d:Int) + 1 == 1)=true:=by rw [beq_iff_eq]; omega
       have HG:=Lib.hid (fun w' (e:Ext wr w')=>TreeQ.gone (l:=l) (w:=w) (w':=w') (TInv.dead (by rw [← HTK.out]; exact TInv.shut_bad0 (by rw [← drop_at HTT.out,← d0]; exact HT.out.inv) HMK.out.symm)) ((hx1.tr (HT.out.stp.toExt (fun b _ h=>h rfl))).tr e))
       clear d0
       go_wp2_with (first
        | (go_at_call 60; refine (ctreeF_yes _ ln _ (by first | exact new_at _ _ _ 2 _ rfl)).mono ?_; rintro e w2 ⟨rfl,rfl⟩))
       simp only [bodyPost]
       have HG2:=HG.out (wr.alloc (.cells #[.int .u8 125,.string sv,.int .i64 (ln:Int)] 129)) (by (repeat first | exact Ex0 | assumption | refine Ex1 ?_ | refine Ex2 ?_ | refine Ex3 ?_ | refine Ex4 ?_ | refine Ex5 ?_))
       rw [← HLN.out] at HG2
       exact ⟨trivial,HG2⟩
      ·have dd1:((d:Int) + 1 == 1)=false:=by rw [beq_eq_false_iff_ne]; omega
       obtain ⟨d',rfl⟩:∃ d',d=d' + 1:=⟨d - 1,by omega⟩
       have hcl:=HT.out.op.le
       have j1:((d' + 1:Nat):Int) ≤ (c:Int):=by omega
       have HE:=Lib.hid (fun w' (e:Ext wr w')=>HT.out.shut HTT.out HMK.out.symm e)
       go_wp2_with (first
        | (go_at_call 60; refine (ctreeF_no _ _).mono ?_; rintro e w2 ⟨rfl,rfl⟩))
       exact ⟨⟨i + 1,f,none,d',ps,o,_,c,by omega,by push_cast; rfl,rfl,rfl,HE.out _ (by (repeat first | exact Ex0 | assumption | refine Ex1 ?_ | refine Ex2 ?_ | refine Ex3 ?_ | refine Ex4 ?_ | refine Ex5 ?_))⟩,by simp [intOf]; omega⟩
     by_cases m2:mk=123
     ·subst m2
      rw [show ((123:UInt8).toNat:Int)=123 from rfl] at k0
      have HG:=Lib.hid (fun w' (e:Ext wr w')=>TreeQ.gone (l:=l) (w:=w) (w':=w') (TInv.dead (by rw [← HTK.out]; exact TInv.open_bad0 (by rw [← drop_at HTT.out]; exact HT.out.inv) HMK.out.symm)) ((hx1.tr (HT.out.stp.toExt (fun b _ h=>h rfl))).tr e))
      go_wp2_with (first
       | (go_at_call 60; refine (ctreeF_yes _ ln _ (by first | exact new_at _ _ _ 2 _ rfl)).mono ?_; rintro e w2 ⟨rfl,rfl⟩))
      simp only [bodyPost]
      have HG2:=HG.out (wr.alloc (.cells #[.int .u8 123,.string sv,.int .i64 (ln:Int)] 129)) (by (repeat first | exact Ex0 | assumption | refine Ex1 ?_ | refine Ex2 ?_ | refine Ex3 ?_ | refine Ex4 ?_ | refine Ex5 ?_))
      rw [← HLN.out] at HG2
      exact ⟨trivial,HG2⟩
     ·have b0:((mk.toNat:Int) == 0)=false:=by rw [beq_eq_false_iff_ne]; intro e; exact m0 (UInt8.toNat_inj.1 (by show mk.toNat=0; omega))
      have b1:((mk.toNat:Int) == 125)=false:=by rw [beq_eq_false_iff_ne]; intro e; exact m1 (UInt8.toNat_inj.1 (by show mk.toNat=125; omega))
      have b2:((mk.toNat:Int) == 123)=false:=by rw [beq_eq_false_iff_ne]; intro e; exact m2 (UInt8.toNat_inj.1 (by show mk.toNat=123; omega))
      have HG:=Lib.hid (fun w' (e:Ext wr w')=>TreeQ.gone (l:=l) (w:=w) (w':=w') (TInv.dead (by rw [← HTK.out]; exact TInv.semi_bad (by rw [← drop_at HTT.out]; exact HT.out.inv) (by rw [← HMK.out]; exact m0) (by rw [← HMK.out]; exact m1))) ((hx1.tr (HT.out.stp.toExt (fun b _ h=>h rfl))).tr e))
      go_wp2_with (first
       | (go_at_call 60; refine (ctreeF_yes _ ln _ (by first | exact new_at _ _ _ 2 _ rfl)).mono ?_; rintro e w2 ⟨rfl,rfl⟩))
      simp only [bodyPost]
      have HG2:=HG.out (wr.alloc (.cells #[.int .u8 (mk.toNat:Int),.string sv,.int .i64 (ln:Int)] 129)) (by (repeat first | exact Ex0 | assumption | refine Ex1 ?_ | refine Ex2 ?_ | refine Ex3 ?_ | refine Ex4 ?_ | refine Ex5 ?_))
      rw [← HLN.out] at HG2
      exact ⟨trivial,HG2⟩
   | some x =>
    obtain ⟨pn,hpn⟩:∃ p,p=ps.getD (f.size + 1) 0:=⟨_,rfl⟩
    rw [show nowV ps f (some x)=.pointer (some ⟨pn,0,none⟩) from by rw [hpn]; rfl]
    have HPN:=Lib.hid hpn
    have hN:=hT.ns.at_ (f.size + 1) _ (nth_now f _)
    rw [← hpn] at hN
    obtain ⟨A1,c1,B1,d1,rN,s1,n1,s2,n2⟩:=hN.at_
    have HNO:=Lib.hid hN.own
    have RN:=Lib.hid rN
    have S1:=Lib.hid (And.intro s1 n1)
    have S2:=Lib.hid (And.intro s2 n2)
    have hcw:=hT.cnw x rfl
    clear hpn hN rN s1 n1 s2 n2 hT
    by_cases m0:mk=0
    ·subst m0
     rw [show ((0:UInt8).toNat:Int)=0 from rfl] at k0
     obtain ⟨W1,hW1⟩:∃ W,W=wr.alloc (.cells #[.int .u8 0,.string sv,.int .i64 (ln:Int)] 129):=⟨_,rfl⟩
     have hz1:W1.heap.size=wr.heap.size + 1:=by rw [hW1]; simp
     have xW1:Ext wr W1:=by rw [hW1]; (repeat first | exact Ex0 | assumption | refine Ex1 ?_ | refine Ex2 ?_ | refine Ex3 ?_ | refine Ex4 ?_ | refine Ex5 ?_)
     have hc0:=(row_facts RN.out 0 _ rfl).1
     have F0:=Lib.hid (fun w' (e:Ext wr w')=>(e.cell (p:=⟨pn,0,none⟩) (lt_of_cell hc0)).trans hc0)
     obtain ⟨A5,c5,w5,o5,hr5,hs5,st5,hn5⟩:=run_put slt_str14 (tx:=55) 55 (w:=(W1.alloc (.cells #[.string sv] 9)).drew) (o:=o) (k:=10 + 3 * (f.size + 1) + 1) (S1.out.1.ext (xW1.tr (by (repeat first | exact Ex0 | assumption | refine Ex1 ?_ | refine Ex2 ?_ | refine Ex3 ?_ | refine Ex4 ?_ | refine Ex5 ?_)))) S1.out.2 (Sl.src Tryz.underlying55 (n:=1) ((rd_newS W1 _ rfl sv).ext (by (repeat first | exact Ex0 | assumption | refine Ex1 ?_ | refine Ex2 ?_ | refine Ex3 ?_ | refine Ex4 ?_ | refine Ex5 ?_))) (by simp) (by omega) (by simp [Value.oneCell']) 1) (by simp only; omega) (by simp only [maxLen]; omega)
     have st5':Stp (fun i=>i=10 + 3 * (f.size + 1) + 1) wr o w5 o5:=(Stp.ext (xW1.tr (by (repeat first | exact Ex0 | assumption | refine Ex1 ?_ | refine Ex2 ?_ | refine Ex3 ?_ | refine Ex4 ?_ | refine Ex5 ?_)))).tr (st5.mono fun i hi=>hi.2)
     rw [hz1] at hr5
     have hW:=NdAt.word (ps:=ps) HNO.out RN.out S2.out.1 S2.out.2 t.s (by rw [HSV.out] at hs5; exact hs5) hn5 st5'
     have r5:=Lib.hid ((st5'.keep pn (row_lt RN.out) (by rw [HNO.out]; omega)).trans RN.out)
     have q5:=(row_facts r5.out 0 _ rfl).1
     have f5:=(row_facts r5.out 0 _ rfl).2
     have HE:=Lib.hid (HT.out.word1 HTT.out HMK.out.symm (by rw [HPN.out] at hW; exact hW.1) (by rw [HPN.out] at hW; exact hW.2))
     have HV:Hid (Value.pointer (some ⟨pn,0,none⟩)=nowV ps f (some { x with ws:=x.ws ++ [t.s] })):=Lib.hid (by rw [HPN.out]; rfl)
     rw [← HPN.out] at HE
     rw [hW1] at hr5
     have cA:(wr.alloc (.cells #[.int .u8 0,.string sv,.int .i64 (ln:Int)] 129)).cell? ⟨pn,0,none⟩=some (.slice A1 x.ws.length c1):=F0.out _ (by (repeat first | exact Ex0 | assumption | refine Ex1 ?_ | refine Ex2 ?_ | refine Ex3 ?_ | refine Ex4 ?_ | refine Ex5 ?_))
     have cB:((wr.alloc (.cells #[.int .u8 0,.string sv,.int .i64 (ln:Int)] 129)).alloc (.cells #[.string sv] 9)).cell? ⟨pn,0,none⟩=some (.slice A1 x.ws.length c1):=F0.out _ (by (repeat first | exact Ex0 | assumption | refine Ex1 ?_ | refine Ex2 ?_ | refine Ex3 ?_ | refine Ex4 ?_ | refine Ex5 ?_))
     clear hW1 hs5 st5 st5' hW hz1 hc0 xW1
     go_wp2
     go_region_law (first
      | (refine step_run (.tmp 50) (.tmp 53) rfl rfl rfl rfl hr5 ?_))
     all_goals (
      go_wp2
      exact ⟨⟨i + 1,f,some { x with ws:=x.ws ++ [t.s] },d,ps,o5,_,c,by omega,by push_cast; rfl,rfl,HV.out,HE.out⟩,by simp [intOf]; omega⟩)
    by_cases m1:mk=125
    ·subst m1
     rw [show ((125:UInt8).toNat:Int)=125 from rfl] at k0
     have HG:=Lib.hid (fun w' (e:Ext wr w')=>TreeQ.gone (l:=l) (w:=w) (w':=w') (TInv.dead (by rw [← HTK.out]; exact TInv.shut_bad1 (by rw [← drop_at HTT.out]; exact HT.out.inv) HMK.out.symm)) ((hx1.tr (HT.out.stp.toExt (fun b _ h=>h rfl))).tr e))
     go_wp2_with (first
      | (go_at_call 60; refine (ctreeF_yes _ ln _ (by first | exact new_at _ _ _ 2 _ rfl)).mono ?_; rintro e w2 ⟨rfl,rfl⟩))
     simp only [bodyPost]
     have HG2:=HG.out (wr.alloc (.cells #[.int .u8 125,.string sv,.int .i64 (ln:Int)] 129)) (by (repeat first | exact Ex0 | assumption | refine Ex1 ?_ | refine Ex2 ?_ | refine Ex3 ?_ | refine Ex4 ?_ | refine Ex5 ?_))
     rw [← HLN.out] at HG2
     exact ⟨trivial,HG2⟩
    obtain ⟨nq,hnq⟩:∃ nq,(nsOf f)[q]?=some nq:=⟨_,List.getElem?_eq_getElem (by rw [nsOf_len]; exact hql)⟩
    have hnq':(nsOf f ++ [(⟨x.ws,x.line,x.block,[]⟩:Nr)])[q]?=some nq:=by rw [List.getElem?_append_left (by rw [nsOf_len]; exact hql)]; exact hnq
    have hkb:=(nsOf_bd (List.mem_of_getElem? hnq)).1
    have hcnt:=HT.out.cnt
    have hT1:=HT.out.ns.at_ q nq hnq'
    rw [← HPT.out] at hT1
    obtain ⟨A2,c2,B2,d2,rT,t1,tn1,t2,tn2⟩:=hT1.at_
    have HTO:=Lib.hid hT1.own
    have RT:=Lib.hid rT
    have T1:=Lib.hid (And.intro t1 tn1)
    have T2:=Lib.hid (And.intro t2 tn2)
    have HNQ:=Lib.hid hnq
    have HNQ':=Lib.hid hnq'
    simp only [nowR,List.length_singleton] at hcnt
    clear hnq hnq' hT1 rT t1 tn1 t2 tn2
    by_cases m2:mk=123
    ·subst m2
     rw [show ((123:UInt8).toNat:Int)=123 from rfl] at k0
     by_cases d3:d=3
     ·have HG:=Lib.hid (fun w' (e:Ext wr w')=>TreeQ.gone (l:=l) (w:=w) (w':=w') (TInv.dead (by rw [← HTK.out]; exact TInv.open_bad1 (by rw [← drop_at HTT.out,← d3]; exact HT.out.inv) HMK.out.symm)) ((hx1.tr (HT.out.stp.toExt (fun b _ h=>h rfl))).tr e))
      have dd3:((d:Int) + 1 == 4)=true:=by rw [beq_iff_eq]; omega
      clear d3
      go_wp2_with (first
       | (go_at_call 60; refine (ctreeF_yes _ ln _ (by first | exact new_at _ _ _ 2 _ rfl)).mono ?_; rintro e w2 ⟨rfl,rfl⟩))
      simp only [bodyPost]
      have HG2:=HG.out (wr.alloc (.cells #[.int .u8 123,.string sv,.int .i64 (ln:Int)] 129)) (by (repeat first | exact Ex0 | assumption | refine Ex1 ?_ | refine Ex2 ?_ | refine Ex3 ?_ | refine Ex4 ?_ | refine Ex5 ?_))
      rw [← HLN.out] at HG2
      exact ⟨trivial,HG2⟩
     ·have dd3:((d:Int) + 1 == 4)=false:=by rw [beq_eq_false_iff_ne]; omega
      have D3:=Lib.hid d3
      have hg2:=(row_facts RN.out 2 _ rfl).1
      have hf2:=(row_facts (w:=wr.alloc (.cells #[.int .u8 123,.string sv,.int .i64 (ln:Int)] 129)) (((show Ext wr _ by (repeat first | exact Ex0 | assumption | refine Ex1 ?_ | refine Ex2 ?_ | refine Ex3 ?_ | refine Ex4 ?_ | refine Ex5 ?_)).block pn (row_lt RN.out)).trans RN.out) 2 _ rfl)
      have g2:=hf2.1
      have z2:=hf2.2
      have cnt2:=hcnt
      clear hg2 hf2 d3
      go_wp2_with (first
       | (go_at_call 60; refine (ctreeF_no _ _).mono ?_; rintro e w2 ⟨rfl,rfl⟩)
       | (at_builtin; refine wpL_put slt_pnode (.tmp 87) (.tmp 89) rfl rfl rfl rfl ((((HT.out.op.ext ((Ext.rfl' wr).al _)).stp (Stp.set (K:=fun i=>i=10 + 3 * (f.size + 1)) pn 2 (.bool true) (fun _=>HNO.out)) (by omega))).ext (by (repeat first | exact Ex0 | assumption | refine Ex1 ?_ | refine Ex2 ?_ | refine Ex3 ?_ | refine Ex4 ?_ | refine Ex5 ?_))) HT.out.na (Sl.src Tryz.underlying56 (n:=1) (rd_newP _ _ (by simp) pn) (by simp) (by omega) (by simp [Value.oneCell',ptC]) _) (by omega) (by simp only [maxLen]; omega) ?_; intro A5 c5 w5 o5 hs5 st5 hn5; have h5:=TreeAt.open5 HT.out (wt:=wr.alloc (.cells #[.int .u8 123,.string sv,.int .i64 (ln:Int)] 129)) (by (repeat first | exact Ex0 | assumption | refine Ex1 ?_ | refine Ex2 ?_ | refine Ex3 ?_ | refine Ex4 ?_ | refine Ex5 ?_)) (by rw [← HPN.out]; exact (Ext.rfl' _).al _) st5; have r5:=Lib.hid ((h5.2.keep pt (row_lt RT.out) (by rw [HTO.out]; unfold K3; omega)).trans RT.out); have q5:=(row_facts r5.out 3 _ rfl).1; have O5:=Lib.hid ((h5.2.own pt (row_lt RT.out)).trans HTO.out); have T5:=Lib.hid (T2.out.1.stp h5.2 (by unfold K3; omega)); have H5:=Lib.hid h5; have HS5:=Lib.hid (And.intro hs5 hn5); clear hs5 st5 hn5 h5)
       | (at_builtin; refine wpL_put slt_pnode (.tmp 95) (.tmp 97) rfl rfl rfl rfl (T5.out.ext (by (repeat first | exact Ex0 | assumption | refine Ex1 ?_ | refine Ex2 ?_ | refine Ex3 ?_ | refine Ex4 ?_ | refine Ex5 ?_))) T2.out.2 (Sl.src Tryz.underlying56 (n:=1) (rd_newP w5 _ rfl pn) (by simp) (by omega) (by simp [Value.oneCell',ptC]) _) (by omega) (by simp only [maxLen]; omega) ?_; intro A7 c7 w7 o7 hs7 st7 hn7; have st7':Stp (fun i=>i=10 + 3 * q + 2) w5 o5 w7 o7:=(Stp.ext (by (repeat first | exact Ex0 | assumption | refine Ex1 ?_ | refine Ex2 ?_ | refine Ex3 ?_ | refine Ex4 ?_ | refine Ex5 ?_))).tr st7; have r7:=Lib.hid ((st7'.keep pt (row_lt r5.out) (by rw [O5.out]; omega)).trans r5.out); have q7:=(row_facts r7.out 3 _ rfl).1; have f7:=(row_facts r7.out 3 _ rfl).2; have HE:=Lib.hid (HT.out.opens2 HTT.out HMK.out.symm D3.out HQ.out hql HNQ.out H5.out (by rw [← HPN.out]; exact HS5.out.1) HS5.out.2 (Ext.rfl' _) HPT.out (by rw [← HPN.out]; exact hs7) hn7 st7'); clear hs7 st7 st7' q5))
      exact ⟨⟨i + 1,f.snoc d { x with block:=true },none,d + 1,ps,o7,A5,c5,by omega,by push_cast; rfl,by push_cast; rfl,rfl,HE.out⟩,by simp [intOf]; omega⟩
    ·have b0:((mk.toNat:Int) == 0)=false:=by rw [beq_eq_false_iff_ne]; intro e; exact m0 (UInt8.toNat_inj.1 (by show mk.toNat=0; omega))
     have b1:((mk.toNat:Int) == 125)=false:=by rw [beq_eq_false_iff_ne]; intro e; exact m1 (UInt8.toNat_inj.1 (by show mk.toNat=125; omega))
     have b2:((mk.toNat:Int) == 123)=false:=by rw [beq_eq_false_iff_ne]; intro e; exact m2 (UInt8.toNat_inj.1 (by show mk.toNat=123; omega))
     have h3:=(row_facts RT.out 3 _ rfl).1
     have F3:=Lib.hid (fun w' (e:Ext wr w')=>(e.cell (p:=⟨pt,3,none⟩) (lt_of_cell h3)).trans h3)
     have cA:=F3.out (wr.alloc (.cells #[.int .u8 (mk.toNat:Int),.string sv,.int .i64 (ln:Int)] 129)) (by (repeat first | exact Ex0 | assumption | refine Ex1 ?_ | refine Ex2 ?_ | refine Ex3 ?_ | refine Ex4 ?_ | refine Ex5 ?_))
     clear h3
     go_wp2_with (first
      | (go_at_call 60; refine (ctreeF_no _ _).mono ?_; rintro e w2 ⟨rfl,rfl⟩)
      | (at_builtin; refine wpL_put slt_pnode (.tmp 95) (.tmp 97) rfl rfl rfl rfl (T2.out.1.ext (by (repeat first | exact Ex0 | assumption | refine Ex1 ?_ | refine Ex2 ?_ | refine Ex3 ?_ | refine Ex4 ?_ | refine Ex5 ?_))) T2.out.2 (Sl.src Tryz.underlying56 (n:=1) (rd_newP _ _ (by simp) pn) (by simp) (by omega) (by simp [Value.oneCell',ptC]) _) (by omega) (by simp only [maxLen]; omega) ?_; intro A5 c5 w5 o5 hs5 st5 hn5; have st5':Stp (fun i=>i=10 + 3 * q + 2) wr o w5 o5:=(Stp.ext (by (repeat first | exact Ex0 | assumption | refine Ex1 ?_ | refine Ex2 ?_ | refine Ex3 ?_ | refine Ex4 ?_ | refine Ex5 ?_))).tr st5; have hW:=NdAt.kid (ps:=ps) HTO.out RT.out T1.out.1 T1.out.2 (f.size + 1) (by rw [← HPN.out]; exact hs5) hn5 st5'; have HE:=Lib.hid (HT.out.semi HTT.out (by rw [← HMK.out]; exact m0) (by rw [← HMK.out]; exact m1) (by rw [← HMK.out]; exact m2) HQ.out HNQ.out (by rw [← HPT.out]; exact hW.1) hW.2); have r5:=Lib.hid ((st5'.keep pt (row_lt RT.out) (by rw [HTO.out]; omega)).trans RT.out); have q5:=(row_facts r5.out 3 _ rfl).1; have f5:=(row_facts r5.out 3 _ rfl).2; clear hs5 st5 st5' hW))
     exact ⟨⟨i + 1,f.snoc d x,none,d,ps,o5,_,c,by omega,by push_cast; rfl,rfl,rfl,HE.out⟩,by simp [intOf]; omega⟩
  ·obtain rfl:i=tk.length:=by omega
   have hinv:=hT.inv
   rw [List.drop_length,HTK.out] at hinv
   have hdone:=hinv.done
   rw [← HBD.out] at hdone
   have hx:=(hx1.tr (hT.stp.toExt (fun b _ h=>h rfl)))
   have hd3:=hT.inv.le
   have e1:IntKind.i64.wrap (d:Int)=(d:Int):=by rw [IntKind.wrap_i64]; omega
   obtain ⟨gA,fA,q,rfl,hgl,hq,hql,htop⟩:=hT.top
   have htp:=(htop.out wr (Ext.rfl' _)).2
   clear hq htop hinv
   by_cases hb:0 < bd
   ·have b1:decide ((0:Int) < (bd:Int))=true:=by rw [decide_eq_true_eq]; omega
    rw [if_pos hb] at hdone
    have HG:=Lib.hid (TreeQ.gone hdone hx)
    clear hdone hx hT
    go_wp2
    simp only [bodyPost]
    exact ⟨trivial,HG.out⟩
   have b1:decide ((0:Int) < (bd:Int))=false:=by rw [decide_eq_false_iff_not]; omega
   rw [if_neg hb] at hdone
   obtain rfl:bd=0:=by omega
   cases now with
   | some x =>
    rw [if_pos (.inl rfl)] at hdone
    rw [show nowV ps f (some x)=.pointer (some ⟨ps.getD (f.size + 1) 0,0,none⟩) from rfl]
    obtain ⟨pn,hpn⟩:∃ p,p=ps.getD (f.size + 1) 0:=⟨_,rfl⟩
    rw [← hpn]
    clear hpn
    have HG:=Lib.hid (TreeQ.gone hdone hx)
    clear hdone hx hT
    go_wp2
    simp only [bodyPost]
    exact ⟨trivial,HG.out⟩
   | none =>
    rw [show nowV ps f none=.pointer none from rfl]
    by_cases hd:0 < d
    ·rw [if_pos (.inr hd)] at hdone
     have dd1:decide ((1:Int) < (d:Int) + 1)=true:=by rw [decide_eq_true_eq]; omega
     have HG:=Lib.hid (TreeQ.gone hdone hx)
     clear hdone hx hT
     go_wp2
     simp only [bodyPost]
     exact ⟨trivial,HG.out⟩
    ·obtain rfl:d=0:=by omega
     rw [if_neg (by simp)] at hdone
     have hN:=hT.ns.at_ 0 ⟨[],0,false,f.roots 1⟩ rfl
     obtain ⟨A2,c2,B2,d2,rT,t1,tn1,t2,tn2⟩:=hN.at_
     have hns:=hT.ns
     simp only [nowR,List.append_nil] at hns
     have HD:=Lib.hid (TreeQ.done hdone hx ⟨f,hT.inv.wf,rfl,ps.getD 0 0,(f.roots 1).map (fun i=>ps.getD i 0),B2,d2,rfl,by rw [List.length_map]; exact (row_facts rT 3 _ rfl).1,by rw [List.map_map]; exact t2.rd,FoAt.all hns⟩)
     obtain ⟨pr,hpr⟩:∃ p,p=ps.getD 0 0:=⟨_,rfl⟩
     rw [← hpr] at htp HD
     clear hdone hN rT t1 tn1 t2 tn2 hns hpr hT hx
     go_wp2
     go_ret
     exact HD.out
end Go.Proofs.YtmnohicojefhfaaGreatDoor
end
