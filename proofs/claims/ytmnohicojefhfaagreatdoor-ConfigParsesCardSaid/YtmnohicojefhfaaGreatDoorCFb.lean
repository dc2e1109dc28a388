/-
Texts of signs in a range: strings.ContainsFunc and strings.IndexFunc where a sign beyond 127 is none.
-/
import Derived.Test.YtmnohicojefhfaaGreatDoorCFa
import Derived.Test.YtmnohicojefhfaaGreatDoorShelfB
import Derived.Test.YtmnohicojefhfaaGreatDoorShelf
set_option maxRecDepth 100000
set_option maxHeartbeats 8000000
set_option linter.unusedVariables false
set_option linter.unusedSimpArgs false
section
namespace Go.Proofs.YtmnohicojefhfaaGreatDoor
open Go.RowKit
theorem rune_ge (s:ByteArray) (i:Nat) (h:128 ≤ (s.get! i).toNat):128 ≤ (Utf8.decode s i).1:=by
 unfold Utf8.decode
 simp only [Nat.add_zero,Utf8.runeError]
 have h2:¬ (s.get! i).toNat < 128:=by omega
 rw [if_neg h2]
 repeat' split
 all_goals first | (simp only [Bool.and_eq_true,decide_eq_true_eq] at *; omega) | (simp at *; omega) | (simp)
def firstBad (g:Nat → Bool) (l:List UInt8):Int:=if l.all (fun b=>g b.toNat) then -1 else (((l.takeWhile fun b=>g b.toNat).length:Nat):Int)
theorem idx_tw (g:Nat → Bool) (hg:∀ n,128 ≤ n → g n=false) (l:List UInt8):∀ f i,l.length ≤ f + i →
  Lib.idxFuncFrom (fun x=>!g x) true (str l) f i=if (l.drop i).all (fun b=>g b.toNat) then -1 else ((i + ((l.drop i).takeWhile fun b=>g b.toNat).length:Nat):Int):=by
 intro f
 induction f with
 | zero =>
  intro i hf
  rw [List.drop_of_length_le (by omega)]
  simp [Lib.idxFuncFrom]
 | succ f ih =>
  intro i hf
  unfold Lib.idxFuncFrom
  by_cases hi:i < l.length
  ·have hgt:((str l).get! i)=l[i]:=by
    have:(str l).get! i=(str l).data.toList[i]!:=by simp [ByteArray.get!,str]
    rw [this]; simp [hi]
   rw [if_pos (by simpa using hi),List.drop_eq_getElem_cons hi]
   by_cases hb:g l[i].toNat=true
   ·have hsm:l[i].toNat < 128:=by
     refine Nat.lt_of_not_le fun h=>?_
     rw [hg _ h] at hb; cases hb
    have hd:Utf8.decode (str l) i=(l[i].toNat,1):=by
     unfold Utf8.decode
     simp only [Nat.add_zero,hgt]
     rw [if_pos hsm]
    rw [hd]
    simp only [hb,Bool.not_true,Bool.false_eq_true,if_false]
    have h1:=ih (i + 1) (by omega)
    simp only [List.all_cons,hb,Bool.true_and,List.takeWhile_cons,if_true,List.length_cons]
    rw [h1]
    split
    ·rfl
    ·push_cast; omega
   ·have hb':g l[i].toNat=false:=by simpa using hb
    have hr:g (Utf8.decode (str l) i).1=false:=by
     by_cases h8:l[i].toNat < 128
     ·have hd:Utf8.decode (str l) i=(l[i].toNat,1):=by
       unfold Utf8.decode
       simp only [Nat.add_zero,hgt]
       rw [if_pos h8]
      rw [hd]; exact hb'
     ·exact hg _ (rune_ge _ _ (by rw [hgt]; omega))
    rw [hr]
    simp only [List.all_cons,hb',Bool.false_and,Bool.false_eq_true,if_false,List.takeWhile_cons,List.length_nil,Bool.not_false,if_true,Nat.add_zero]
  ·rw [if_neg (by simpa using hi)]
   rw [List.drop_of_length_le (by omega)]
   simp
theorem idx_str (g:Nat → Bool) (hg:∀ n,128 ≤ n → g n=false) (l:List UInt8):Lib.idxFunc (fun x=>!g x) true (str l)=firstBad g l:=by
 unfold Lib.idxFunc firstBad
 rw [idx_tw g hg l _ 0 (by rw [str_size]; omega)]
 simp
end Go.Proofs.YtmnohicojefhfaaGreatDoor
end
section
namespace Go.Proofs.YtmnohicojefhfaaGreatDoor
open Go.RowKit
def rngB (a:Nat) (n:Nat):Bool:=decide (a ≤ n) && decide (n ≤ 126) && !(n == 34)
theorem rng_hi (a:Nat):∀ n,128 ≤ n → rngB a n=false:=by
 intro n hn
 unfold rngB
 have:decide (n ≤ 126)=false:=decide_eq_false (by omega)
 rw [this]; simp
theorem bytesC_rng (a:Nat) (l:List UInt8):bytesC a l=l.all fun b=>rngB a b.toNat:=by
 unfold bytesC rngB
 congr 1
 funext x
 have:(x == 34)=(x.toNat == 34):=by
  by_cases h:x=34
  ·subst h; rfl
  ·rw [beq_eq_false_iff_ne.2 h,Eq.comm,beq_eq_false_iff_ne]
   exact fun e=>h (UInt8.toNat_inj.1 (by show x.toNat=34; exact e))
 rw [this]
theorem firstBad_neg (g:Nat → Bool) (l:List UInt8):decide (0 ≤ firstBad g l)=!(l.all fun b=>g b.toNat):=by
 unfold firstBad
 split
 ·rename_i h; rw [h]; rfl
 ·rename_i h
  rw [show (l.all fun b=>g b.toNat)=false from by simpa using h]
  simp
theorem cbytesF_c (a:Nat) (ha:a < 256) (n:Nat) (g:Nat) (w:World) (hc:w.cell? ⟨g,0,none⟩=some (.int .u8 (a:Int))) :
  Calls Tryz.prog 134 #[.int .i32 (n:Int),.pointer (some ⟨g,0,none⟩)] w fun e w'=>e=.returned (.bool (!rngB a n))∧∃ q,w'=w.drewN q:=by
 obtain ⟨v,hv⟩:∃ v,v=rngB a n:=⟨_,rfl⟩
 rw [← hv]
 have HV:=Lib.hid hv
 clear hv
 by_cases h1:n < a
 ·have c1:decide ((n:Int) < (a:Int))=true:=by rw [decide_eq_true_eq]; omega
  have hv:v=false:=by
   rw [HV.out]; unfold rngB
   rw [show decide (a ≤ n)=false from decide_eq_false (by omega)]; rfl
  subst hv
  go_enter Tryz.func134,Tryz.ntmps134
  go_wp2
  go_ret
  exact ⟨rfl,0,rfl⟩
 have c1:decide ((n:Int) < (a:Int))=false:=by rw [decide_eq_false_iff_not]; omega
 by_cases h2:126 < n
 ·have c2:decide ((126:Int) < (n:Int))=true:=by rw [decide_eq_true_eq]; omega
  have hv:v=false:=by
   rw [HV.out]; unfold rngB
   rw [show decide (n ≤ 126)=false from decide_eq_false (by omega)]; simp
  subst hv
  go_enter Tryz.func134,Tryz.ntmps134
  go_wp2
  go_ret
  exact ⟨rfl,0,rfl⟩
 have c2:decide ((126:Int) < (n:Int))=false:=by rw [decide_eq_false_iff_not]; omega
 by_cases h3:n=34
 ·subst h3
  have hv:v=false:=by
   rw [HV.out]; unfold rngB; simp
  subst hv
  go_enter Tryz.func134,Tryz.ntmps134
  go_wp2
  go_ret
  exact ⟨rfl,0,rfl⟩
 have c3:((n:Int) == 34)=false:=by rw [beq_eq_false_iff_ne]; omega
 have hv:v=true:=by
  rw [HV.out]; unfold rngB
  rw [show decide (a ≤ n)=true from decide_eq_true (by omega),show decide (n ≤ 126)=true from decide_eq_true (by omega),show (n == 34)=false from by rw [beq_eq_false_iff_ne]; exact h3]; rfl
 subst hv
 go_enter Tryz.func134,Tryz.ntmps134
 go_wp2
 go_ret
 exact ⟨rfl,0,rfl⟩
theorem cbytes_c (a:Nat) (ha:a < 256) (l:List UInt8) (w:World):Calls Tryz.prog 105 #[.string (str l),.int .u8 (a:Int)] w (Gives (.bool (bytesC a l)) w):=by
 have hI:decide (0 ≤ Lib.idxFunc (fun x=>!rngB a x) true (str l))=!bytesC a l:=by rw [idx_str (rngB a) (rng_hi a),firstBad_neg,← bytesC_rng]
 have hp:∀ (g:Nat) (W:World),W.cell? ⟨g,0,none⟩=some (.int .u8 (a:Int)) → g < W.heap.size → PredAtRunes Tryz.prog 134 #[.pointer (some ⟨g,0,none⟩)] (fun x=>!rngB a x) W:=fun g W hc hg W' x _ hb=>cbytesF_c a ha x g W' ((hb.cell (p:=⟨g,0,none⟩) hg).trans hc)
 have CF:=fun g W hc hg=>Tryz.strings_ContainsFunc_runes 134 #[.pointer (some ⟨g,0,none⟩)] (fun _ _=>rfl) (fun x=>!rngB a x) (str l) W (hp g W hc hg)
 rw [hI] at CF
 obtain ⟨v,hv⟩:∃ v,v=bytesC a l:=⟨_,rfl⟩
 rw [← hv] at CF ⊢
 have CF:=Lib.hid CF
 clear hI hp hv
 have hmf:∀ (fn:Fn) (first cap:Array Value) (w:World),(Instr.makeFunc fn first cap).run Tryz.prog w=.ok (.func fn first cap) w:=fun _ _ _ _=>rfl
 go_enter Tryz.func105,Tryz.ntmps105
 go_wp2_with (first
  | (go_at_call 133; refine (CF.out _ _ (new_at _ _ _ _ _ rfl) (by simp)).mono ?_; rintro e w1 ⟨rfl,hx⟩))
 go_ret
 exact ⟨rfl,by (repeat first | exact Ex0 | assumption | refine Ex1 ?_ | refine Ex2 ?_ | refine Ex3 ?_ | refine Ex4 ?_ | refine Ex5 ?_)⟩
end Go.Proofs.YtmnohicojefhfaaGreatDoor
end
section
namespace Go.Proofs.YtmnohicojefhfaaGreatDoor
open Go.RowKit
def wordN (n:Nat):Bool:=decide (33 ≤ n) && decide (n ≤ 126) && !([59,123,125,35,34].contains n)
theorem wordN_hi:∀ n,128 ≤ n → wordN n=false:=by
 intro n hn
 unfold wordN
 rw [show decide (n ≤ 126)=false from decide_eq_false (by omega)]; simp
theorem wordN_B (x:UInt8):wordN x.toNat=wordB x:=by
 have:∀ c,c < 256 → wordN c=wordB c.toUInt8:=by decide +kernel
 have h:=this x.toNat (UInt8.toNat_lt _)
 rw [h]; congr 1; exact UInt8.toNat_inj.1 (by simp)
theorem words_idx:∀ n,n < 128 → decide (0 ≤ Lib.indexByte [59,123,125,35,34] n.toUInt8)=[59,123,125,35,34].contains n:=by decide +kernel
theorem clexF_c (n:Nat) (w:World):Calls Tryz.prog 107 #[.int .i32 (n:Int)] w fun e w'=>e=.returned (.bool (!wordN n))∧∃ q,w'=w.drewN q:=by
 obtain ⟨v,hv⟩:∃ v,v=wordN n:=⟨_,rfl⟩
 rw [← hv]
 have HV:=Lib.hid hv
 clear hv
 by_cases h1:n ≤ 32
 ·have c1:decide ((n:Int) ≤ 32)=true:=by rw [decide_eq_true_eq]; omega
  have hv:v=false:=by
   rw [HV.out]; unfold wordN
   rw [show decide (33 ≤ n)=false from decide_eq_false (by omega)]; rfl
  subst hv
  go_enter Tryz.func107,Tryz.ntmps107
  go_wp2
  go_ret
  exact ⟨rfl,0,rfl⟩
 have c1:decide ((n:Int) ≤ 32)=false:=by rw [decide_eq_false_iff_not]; omega
 by_cases h2:127 ≤ n
 ·have c2:decide ((127:Int) ≤ (n:Int))=true:=by rw [decide_eq_true_eq]; omega
  have hv:v=false:=by
   rw [HV.out]; unfold wordN
   rw [show decide (n ≤ 126)=false from decide_eq_false (by omega)]; simp
  subst hv
  go_enter Tryz.func107,Tryz.ntmps107
  go_wp2
  go_ret
  exact ⟨rfl,0,rfl⟩
 have c2:decide ((127:Int) ≤ (n:Int))=false:=by rw [decide_eq_false_iff_not]; omega
 have CR:=fun w=>Tryz.strings_ContainsRune_ascii ⟨#[59,123,125,35,34]⟩ (n:Int) w (by omega) (by omega)
 rw [show (⟨#[59,123,125,35,34]⟩:ByteArray).data.toList=[59,123,125,35,34] from rfl,Int.toNat_natCast,words_idx n (by omega)] at CR
 have hv:v=!([59,123,125,35,34].contains n):=by
  rw [HV.out]; unfold wordN
  rw [show decide (33 ≤ n)=true from decide_eq_true (by omega),show decide (n ≤ 126)=true from decide_eq_true (by omega)]; rfl
 obtain ⟨u,hu⟩:∃ u,u=([59,123,125,35,34]:List Nat).contains n:=⟨_,rfl⟩
 rw [← hu] at CR hv
 subst hv
 have CR:=Lib.hid CR
 clear hu
 go_enter Tryz.func107,Tryz.ntmps107
 go_wp2_with (first
  | (go_at_call 108; refine (CR.out _).mono ?_; rintro e w1 ⟨rfl,rfl⟩))
 go_ret
 exact ⟨by cases u <;> rfl,0,rfl⟩
theorem firstBad_word (l:List UInt8):firstBad wordN l=if l.all wordB then -1 else (((l.takeWhile wordB).length:Nat):Int):=by
 unfold firstBad
 rw [show (fun b:UInt8=>wordN b.toNat)=wordB from funext wordN_B]
theorem IndexWord_c (l:List UInt8) (w:World):Calls Tryz.prog 106 #[.string (str l),.func (.func 107) #[] #[]] w (Gives (.int .i64 (firstBad wordN l)) w):=by
 refine (Tryz.strings_IndexFunc_runes 107 #[] (fun _ _=>rfl) (fun x=>!wordN x) (str l) w (fun W x _ _=>clexF_c x W)).mono ?_
 rintro e w' ⟨rfl,hx⟩
 rw [idx_str wordN wordN_hi]
 exact ⟨rfl,hx⟩
end Go.Proofs.YtmnohicojefhfaaGreatDoor
end
