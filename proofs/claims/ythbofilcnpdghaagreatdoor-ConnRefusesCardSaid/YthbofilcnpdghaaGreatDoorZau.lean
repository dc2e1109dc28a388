/-
Head's write: a head as bytes.
-/
import Derived.Test.YthbofilcnpdghaaGreatDoorZat
import Derived.Test.YthbofilcnpdghaaGreatDoorZaq
import Derived.Deep.DeepCutAuto
import Derived.Test.YthbofilcnpdghaaGreatDoorZam
import Derived.Lib.CountLaws
import Derived.Test.YthbofilcnpdghaaGreatDoorZae
set_option maxRecDepth 100000
set_option maxHeartbeats 8000000
set_option linter.unusedVariables false
set_option linter.unusedSimpArgs false
section
namespace Go.Proofs.YthbofilcnpdghaaGreatDoor
open Go.RowKit
def IsBs (w0:World) (r:List UInt8 × Int) (v:Value) (w:World):Prop:=∃ A c,v=.tuple #[.slice A r.1.length c,.int .i64 r.2]∧(A=none → c=0)∧∃ o':Ow,(∀ b,b < w0.heap.size → o' b=0)∧Sl w o' 7 1 A r.1.length c (bc r.1)
theorem IsBs.no (w0 w:World) (e:Int):IsBs w0 ([],e) (.tuple #[.slice none 0 0,.int .i64 e]) w:=⟨none,0,rfl,fun _=>rfl,fun _=>0,fun _ _=>rfl,Sl.nil_ _ _ _ _ _⟩
theorem IsBs.by_ {w0:World} {r:List UInt8 × Int} {v:Value} {w:World} (h:IsBs w0 r v w):IsBy r v w:=by
 obtain ⟨A,c,hv,_,o',_,hs⟩:=h
 exact ⟨A,c,hv,hs.rd⟩
theorem cv_slW (w:World) (o:Ow) (k:Nat) (e:TypeId) (l:List UInt8) (h:l.length ≤ maxLen):Sl (cvW w e (str l)) (fun b=>if b < w.heap.size then o b else k) k 1 (some ⟨w.heap.size,0,none⟩) l.length (cvC w e l.length) (bc l):=by
 have hc:=cv_cap w e l.length h
 have hr:=(cv_own w e l).rd
 have hh:(cvW w e (str l)).heap[w.heap.size]?=_:=heap_alloc_new w.drew _
 refine ⟨by rw [bc_len,Nat.mul_one],hc.1,hc.2,.inr ⟨w.heap.size,0,rfl,by simp,cv_size w e (str l),fun j u hu=>?_,fun j hj=>?_⟩⟩
 ·rcases hr with h0 | ⟨b,f,hA,hcc⟩
  ·rw [h0] at hu; simp at hu
  ·cases hA
   exact hcc j u hu
 ·have hsz:j < (bytesRow (str l) (grownCap w (str l).size 0 e)).size:=by
   rw [Nat.mul_one] at hj
   unfold cvC at hj
   rw [str_size]
   simp [bytesRow]
   omega
  rw [Nat.zero_add]
  constructor
  ·unfold World.cell?
   simp only [hh]
   rw [Array.getElem?_eq_getElem hsz]; rfl
  ·unfold World.frozen?
   simp only [hh,Bool.and_eq_false_iff,decide_eq_false_iff_not]
   exact .inl (by omega)
theorem hWriteS_big (first:List UInt8) (fs:List Fld) (A:Option Addr) (n c:Nat) (hn:fs.length=n) (hb:n ≤ 8796093022206) (hfl:first.length ≤ 140737488400000) (c1:8192 < first.length) (hsz:∀ p ∈ fs,p.1.length ≤ 140737488351232∧p.2.length ≤ 140737488351232) (w:World) (h:Rd w A (fc fs)) :
  Calls Tryz.prog 90 #[.string (str first),.slice A n c] w (Ret (IsBs w (wrH first fs)) w):=by
 obtain ⟨R,hR⟩:∃ R,R=wrH first fs:=⟨_,rfl⟩
 rw [← hR]
 have HR:=Lib.hid hR
 clear hR
 obtain ⟨sf,hsf⟩:∃ s,s=str first:=⟨_,rfl⟩
 have hsfz:sf.size=first.length:=by rw [hsf]; exact str_size first
 have HSF:=Lib.hid hsf
 rw [← hsf]
 clear hsf
 obtain ⟨n0,hn0⟩:∃ q,q=first.length:=⟨_,rfl⟩
 rw [← hn0] at hsfz hfl c1
 have HN0:=Lib.hid hn0
 clear hn0
 have s0:IntKind.i64.wrap ((n0:Int) + 4)=((n0 + 4:Nat):Int):=by rw [IntKind.wrap_i64]; omega
 have HNF:=Lib.hid hn
 have c2:(8192:Int) < (n0:Int):=by omega
 go_enter Tryz.func90,Tryz.ntmps90
 go_wp2
 go_loopw [6,7,27] (fun vs vl vi wr=>∃ (k S:Nat) (lg:Bool),vs=.int .i64 (S:Int)∧vl=.bool lg∧vi=.int .i64 (k:Int)∧k ≤ n∧(∀ j (hj:j < fs.length),j < k → okF fs[j]=true)∧lg=(true || anyL fs k)∧SizeAt n0 fs k S∧Ext w wr) (fun _ _ vi _=>n - (intOf vi).toNat)
 case atStart=>exact ⟨0,n0 + 4,true,by go_num,rfl,rfl,Nat.zero_le _,fun j _ h=>by omega,by simp [anyL],size_zero n0 fs hfl,Ext.rfl' _⟩
 case round =>
  obtain ⟨k,S,lg,rfl,rfl,rfl,hk,hok,hlg,hsiz,hext⟩:=hrel
  have HLG:=Lib.hid hlg
  clear hlg
  by_cases hlt:k < n
  ·obtain ⟨b,o,rfl,hbl,hS⟩:=h.fld (k:=k) (by omega)
   obtain ⟨a0,a1⟩:=hS.out wr hext
   have hf1:=hsz _ (List.getElem_mem (show k < fs.length by omega))
   have hNX:=fun m (hm:m=lenF (fs[k]'(by omega))) hS=>size_next hsiz (show k < fs.length by omega) hS hm
   have hSM:=fun hS=>size_same hsiz (show k < fs.length by omega) hS
   have hAN:=anyL_succ fs k (by omega)
   have hBD:=fun (hb:okF (fs[k]'(by omega))=false)=>wrH_bad (first:=first) (show k < fs.length by omega) hb
   obtain ⟨⟨x,y⟩,hp⟩:∃ p,p=fs[k]:=⟨_,rfl⟩
   rw [← hp] at a0 a1 hf1 hNX hAN hBD
   dsimp only at a0 a1 hf1
   have HOK:=Lib.hid hok
   have HPK:=Lib.hid hp
   have hk0:(0:Int) ≤ (k:Int):=by omega
   have hk1:(k:Int) < (n:Int):=by omega
   have CT:=fun w=>Token_h x (by unfold maxLen; omega) w
   have CV:=fun w=>Value_h y (by unfold maxLen; omega) w
   have hSB:S ≤ 140737488500000:=by unfold SizeAt at hsiz; omega
   have HBD:=Lib.hid hBD
   have HNX:=Lib.hid hNX
   have HSM:=Lib.hid hSM
   have HAN:=Lib.hid hAN
   clear hp hok hS hbl hNX hSM hAN hBD hsiz
   cases hvt:tokL x with
   | false =>
    rw [hvt] at CT
    have CT:=Lib.hid CT
    have HV:=Lib.hid (show R=([],42) from by rw [HR.out]; exact HBD.out (by unfold okF; rw [hvt]; rfl))
    clear hvt
    go_wp2_with (first
     | (go_at_call 54; refine (CT.out _).mono ?_; rintro e w2 ⟨rfl,hx2⟩; have t0:=hx2.new 0 _ rfl; have t1:=hx2.new 1 _ rfl))
    go_ret2
    rw [HV.out]
    exact Ret.mk (IsBs.no _ _ _) (by (repeat first | exact Ex0 | assumption | refine Ex1 ?_ | refine Ex2 ?_ | refine Ex3 ?_ | refine Ex4 ?_ | refine Ex5 ?_))
   | true =>
    rw [hvt] at CT
    have CT:=Lib.hid CT
    cases hvv:vlL y with
    | false =>
     rw [hvv] at CV
     have CV:=Lib.hid CV
     have HV:=Lib.hid (show R=([],42) from by rw [HR.out]; exact HBD.out (by unfold okF; rw [hvt]; dsimp only; rw [hvv]; rfl))
     clear hvt hvv
     go_wp2_with (first
      | (go_at_call 54; refine (CT.out _).mono ?_; rintro e w2 ⟨rfl,hx2⟩; have t0:=hx2.new 0 _ rfl; have t1:=hx2.new 1 _ rfl)
      | (go_at_call 80; refine (CV.out _).mono ?_; rintro e w3 ⟨rfl,hx3⟩; have g0:=(hx3.cell (lt_of_cell t0)).trans t0; have g1:=(hx3.cell (lt_of_cell t1)).trans t1; clear t0 t1))
     go_ret2
     rw [HV.out]
     exact Ret.mk (IsBs.no _ _ _) (by (repeat first | exact Ex0 | assumption | refine Ex1 ?_ | refine Ex2 ?_ | refine Ex3 ?_ | refine Ex4 ?_ | refine Ex5 ?_))
    | true =>
     rw [hvv] at CV
     have CV:=Lib.hid CV
     have HV:=Lib.hid (show okF (x,y)=true from by unfold okF; rw [hvt]; dsimp only; rw [hvv]; rfl)
     obtain ⟨m,hm⟩:∃ m,m=x.length + 2 + y.length:=⟨_,rfl⟩
     have HM:=Lib.hid hm
     have r1:IntKind.i64.wrap ((x.length:Int) + 2)=(x.length:Int) + 2:=by rw [IntKind.wrap_i64]; omega
     have r2:IntKind.i64.wrap ((x.length:Int) + 2 + (y.length:Int))=(m:Int):=by rw [IntKind.wrap_i64]; omega
     have hmb:m ≤ 281474976702470:=by omega
     clear hvt hvv hf1
     obtain ⟨M,hM⟩:∃ M,M=min m 32768:=⟨_,rfl⟩
     have r3:min (m:Int) 32768=(M:Int):=by omega
     have r4:IntKind.i64.wrap ((M:Int) + 2)=(M:Int) + 2:=by rw [IntKind.wrap_i64]; omega
     have r5:IntKind.i64.wrap ((S:Int) + ((M:Int) + 2))=((S + (M + 2):Nat):Int):=by rw [IntKind.wrap_i64]; omega
     have HMM:=Lib.hid hM
     clear hm hM
     have HAK:=Lib.hid (fun j (hj:j < fs.length) (h2:j < k + 1)=>(show okF fs[j]=true from by
      rcases Nat.lt_or_ge j k with h3 | h3
      ·exact HOK.out j hj h3
      ·obtain rfl:j=k:=by omega
       rw [← HPK.out]; exact HV.out))
     have HLF:=Lib.hid (show lenF (x,y)=m from by rw [HM.out]; rfl)
     cases lg with
     | true =>
      have HL2:=Lib.hid (show true=(true || anyL fs (k + 1)) from by rw [HAN.out,← Bool.or_assoc,← HLG.out]; rfl)
      by_cases c3:S ≤ 32768
      ·have c4:(S:Int) ≤ 32768:=by omega
       have HS2:=Lib.hid (show SizeAt n0 fs (k + 1) (S + (M + 2)) from by rw [HMM.out]; exact HNX.out m HLF.out.symm c3)
       go_wp2_with (first
        | (go_at_call 54; refine (CT.out _).mono ?_; rintro e w2 ⟨rfl,hx2⟩; have t0:=hx2.new 0 _ rfl; have t1:=hx2.new 1 _ rfl)
        | (go_at_call 80; refine (CV.out _).mono ?_; rintro e w3 ⟨rfl,hx3⟩; have g0:=(hx3.cell (lt_of_cell t0)).trans t0; have g1:=(hx3.cell (lt_of_cell t1)).trans t1; clear t0 t1))
       go_roundw
       case rel=>exact ⟨k + 1,S + (M + 2),true,by go_num,by first | rfl | trivial,by go_num,by omega,fun j hj h2=>HAK.out j hj h2,HL2.out,HS2.out,hext.tr (by (repeat first | exact Ex0 | assumption | refine Ex1 ?_ | refine Ex2 ?_ | refine Ex3 ?_ | refine Ex4 ?_ | refine Ex5 ?_))⟩
       case measure=>simp [intOf]; omega
      ·have c4:¬ (S:Int) ≤ 32768:=by omega
       have HS2:=Lib.hid (HSM.out c3)
       go_wp2_with (first
        | (go_at_call 54; refine (CT.out _).mono ?_; rintro e w2 ⟨rfl,hx2⟩; have t0:=hx2.new 0 _ rfl; have t1:=hx2.new 1 _ rfl)
        | (go_at_call 80; refine (CV.out _).mono ?_; rintro e w3 ⟨rfl,hx3⟩; have g0:=(hx3.cell (lt_of_cell t0)).trans t0; have g1:=(hx3.cell (lt_of_cell t1)).trans t1; clear t0 t1))
       go_roundw
       case rel=>exact ⟨k + 1,S,true,by go_num,by first | rfl | trivial,by go_num,by omega,fun j hj h2=>HAK.out j hj h2,HL2.out,HS2.out,hext.tr (by (repeat first | exact Ex0 | assumption | refine Ex1 ?_ | refine Ex2 ?_ | refine Ex3 ?_ | refine Ex4 ?_ | refine Ex5 ?_))⟩
       case measure=>simp [intOf]; omega
     | false=>exact absurd HLG.out (by simp)
  ·have hk1:¬ (k:Int) < (n:Int):=by omega
   have hall:=all_ok (fs:=fs) (fun j hj=>hok j hj (by have:=HNF.out; omega))
   have hlt2:=HLG.out
   rw [Bool.true_or] at hlt2
   subst hlt2
   have HV:=Lib.hid (show R=([],44) from by rw [HR.out]; exact wrH_long hall (by unfold longH; rw [decide_eq_true (by rw [← HN0.out]; exact c1)]; simp))
   clear hok hall hsiz
   go_wp2
   go_ret2
   rw [HV.out]
   exact Ret.mk (IsBs.no _ _ _) hext
theorem good_bd {n0:Nat} {fs:List Fld} (h:longH n0 fs=false):n0 ≤ 8192∧fs.length ≤ 100∧n0 + 4 + lenS fs ≤ 32768:=by
 unfold longH at h
 simp only [Bool.or_eq_false_iff,decide_eq_false_iff_not] at h
 omega
theorem hWriteS_c (first:List UInt8) (fs:List Fld) (A:Option Addr) (n c:Nat) (hn:fs.length=n) (hb:n ≤ 8796093022206) (hfl:first.length ≤ 140737488400000) (hsz:∀ p ∈ fs,p.1.length ≤ 140737488351232∧p.2.length ≤ 140737488351232) (w:World) (h:Rd w A (fc fs)) :
  Calls Tryz.prog 90 #[.string (str first),.slice A n c] w (Ret (IsBs w (wrH first fs)) w):=by
 by_cases c1:8192 < first.length
 ·exact hWriteS_big first fs A n c hn hb hfl c1 hsz w h
 ·obtain ⟨R,hR⟩:∃ R,R=wrH first fs:=⟨_,rfl⟩
  rw [← hR]
  have HR:=Lib.hid hR
  clear hR
  obtain ⟨sf,hsf⟩:∃ s,s=str first:=⟨_,rfl⟩
  have hsfz:sf.size=first.length:=by rw [hsf]; exact str_size first
  have HSF:=Lib.hid hsf
  rw [← hsf]
  clear hsf
  obtain ⟨n0,hn0⟩:∃ q,q=first.length:=⟨_,rfl⟩
  rw [← hn0] at hsfz hfl c1
  have HN0:=Lib.hid hn0
  clear hn0
  have s0:IntKind.i64.wrap ((n0:Int) + 4)=((n0 + 4:Nat):Int):=by rw [IntKind.wrap_i64]; omega
  have HNF:=Lib.hid hn
  have c2:¬ (8192:Int) < (n0:Int):=by omega
  obtain ⟨L0,hL0⟩:∃ L,L=decide ((100:Int) < (n:Int)):=⟨_,rfl⟩
  go_enter Tryz.func90,Tryz.ntmps90
  go_wp2
  rw [← hL0]
  have HL0:=Lib.hid hL0
  clear hL0
  go_loopw [6,7,27] (fun vs vl vi wr=>∃ (k S:Nat) (lg:Bool),vs=.int .i64 (S:Int)∧vl=.bool lg∧vi=.int .i64 (k:Int)∧k ≤ n∧(∀ j (hj:j < fs.length),j < k → okF fs[j]=true)∧lg=(L0 || anyL fs k)∧SizeAt n0 fs k S∧Ext w wr) (fun _ _ vi _=>n - (intOf vi).toNat)
  case atStart=>exact ⟨0,n0 + 4,L0,by go_num,rfl,rfl,Nat.zero_le _,fun j _ h=>by omega,by simp [anyL],size_zero n0 fs hfl,Ext.rfl' _⟩
  case round =>
   obtain ⟨k,S,lg,rfl,rfl,rfl,hk,hok,hlg,hsiz,hext⟩:=hrel
   have HLG:=Lib.hid hlg
   clear hlg
   by_cases hlt:k < n
   ·obtain ⟨b,o,rfl,hbl,hS⟩:=h.fld (k:=k) (by omega)
    obtain ⟨a0,a1⟩:=hS.out wr hext
    have hf1:=hsz _ (List.getElem_mem (show k < fs.length by omega))
    have hNX:=fun m (hm:m=lenF (fs[k]'(by omega))) hS=>size_next hsiz (show k < fs.length by omega) hS hm
    have hSM:=fun hS=>size_same hsiz (show k < fs.length by omega) hS
    have hAN:=anyL_succ fs k (by omega)
    have hBD:=fun (hb:okF (fs[k]'(by omega))=false)=>wrH_bad (first:=first) (show k < fs.length by omega) hb
    obtain ⟨⟨x,y⟩,hp⟩:∃ p,p=fs[k]:=⟨_,rfl⟩
    rw [← hp] at a0 a1 hf1 hNX hAN hBD
    dsimp only at a0 a1 hf1
    have HOK:=Lib.hid hok
    have HPK:=Lib.hid hp
    have hk0:(0:Int) ≤ (k:Int):=by omega
    have hk1:(k:Int) < (n:Int):=by omega
    have CT:=fun w=>Token_h x (by unfold maxLen; omega) w
    have CV:=fun w=>Value_h y (by unfold maxLen; omega) w
    have hSB:S ≤ 140737488500000:=by unfold SizeAt at hsiz; omega
    have HBD:=Lib.hid hBD
    have HNX:=Lib.hid hNX
    have HSM:=Lib.hid hSM
    have HAN:=Lib.hid hAN
    clear hp hok hS hbl hNX hSM hAN hBD hsiz
    cases hvt:tokL x with
    | false =>
     rw [hvt] at CT
     have CT:=Lib.hid CT
     have HV:=Lib.hid (show R=([],42) from by rw [HR.out]; exact HBD.out (by unfold okF; rw [hvt]; rfl))
     clear hvt
     go_wp2_with (first
      | (go_at_call 54; refine (CT.out _).mono ?_; rintro e w2 ⟨rfl,hx2⟩; have t0:=hx2.new 0 _ rfl; have t1:=hx2.new 1 _ rfl))
     go_ret2
     rw [HV.out]
     exact Ret.mk (IsBs.no _ _ _) (by (repeat first | exact Ex0 | assumption | refine Ex1 ?_ | refine Ex2 ?_ | refine Ex3 ?_ | refine Ex4 ?_ | refine Ex5 ?_))
    | true =>
     rw [hvt] at CT
     have CT:=Lib.hid CT
     cases hvv:vlL y with
     | false =>
      rw [hvv] at CV
      have CV:=Lib.hid CV
      have HV:=Lib.hid (show R=([],42) from by rw [HR.out]; exact HBD.out (by unfold okF; rw [hvt]; dsimp only; rw [hvv]; rfl))
      clear hvt hvv
      go_wp2_with (first
       | (go_at_call 54; refine (CT.out _).mono ?_; rintro e w2 ⟨rfl,hx2⟩; have t0:=hx2.new 0 _ rfl; have t1:=hx2.new 1 _ rfl)
       | (go_at_call 80; refine (CV.out _).mono ?_; rintro e w3 ⟨rfl,hx3⟩; have g0:=(hx3.cell (lt_of_cell t0)).trans t0; have g1:=(hx3.cell (lt_of_cell t1)).trans t1; clear t0 t1))
      go_ret2
      rw [HV.out]
      exact Ret.mk (IsBs.no _ _ _) (by (repeat first | exact Ex0 | assumption | refine Ex1 ?_ | refine Ex2 ?_ | refine Ex3 ?_ | refine Ex4 ?_ | refine Ex5 ?_))
     | true =>
      rw [hvv] at CV
      have CV:=Lib.hid CV
      have HV:=Lib.hid (show okF (x,y)=true from by unfold okF; rw [hvt]; dsimp only; rw [hvv]; rfl)
      obtain ⟨m,hm⟩:∃ m,m=x.length + 2 + y.length:=⟨_,rfl⟩
      have HM:=Lib.hid hm
      have r1:IntKind.i64.wrap ((x.length:Int) + 2)=(x.length:Int) + 2:=by rw [IntKind.wrap_i64]; omega
      have r2:IntKind.i64.wrap ((x.length:Int) + 2 + (y.length:Int))=(m:Int):=by rw [IntKind.wrap_i64]; omega
      have hmb:m ≤ 281474976702470:=by omega
      clear hvt hvv hf1
      obtain ⟨M,hM⟩:∃ M,M=min m 32768:=⟨_,rfl⟩
      have r3:min (m:Int) 32768=(M:Int):=by omega
      have r4:IntKind.i64.wrap ((M:Int) + 2)=(M:Int) + 2:=by rw [IntKind.wrap_i64]; omega
      have r5:IntKind.i64.wrap ((S:Int) + ((M:Int) + 2))=((S + (M + 2):Nat):Int):=by rw [IntKind.wrap_i64]; omega
      have HMM:=Lib.hid hM
      clear hm hM
      have HAK:=Lib.hid (fun j (hj:j < fs.length) (h2:j < k + 1)=>(show okF fs[j]=true from by
       rcases Nat.lt_or_ge j k with h3 | h3
       ·exact HOK.out j hj h3
       ·obtain rfl:j=k:=by omega
        rw [← HPK.out]; exact HV.out))
      have HLF:=Lib.hid (show lenF (x,y)=m from by rw [HM.out]; rfl)
      cases lg with
      | true =>
       have HL2:=Lib.hid (show true=(L0 || anyL fs (k + 1)) from by rw [HAN.out,← Bool.or_assoc,← HLG.out]; rfl)
       by_cases c3:S ≤ 32768
       ·have c4:(S:Int) ≤ 32768:=by omega
        have HS2:=Lib.hid (show SizeAt n0 fs (k + 1) (S + (M + 2)) from by rw [HMM.out]; exact HNX.out m HLF.out.symm c3)
        go_wp2_with (first
         | (go_at_call 54; refine (CT.out _).mono ?_; rintro e w2 ⟨rfl,hx2⟩; have t0:=hx2.new 0 _ rfl; have t1:=hx2.new 1 _ rfl)
         | (go_at_call 80; refine (CV.out _).mono ?_; rintro e w3 ⟨rfl,hx3⟩; have g0:=(hx3.cell (lt_of_cell t0)).trans t0; have g1:=(hx3.cell (lt_of_cell t1)).trans t1; clear t0 t1))
        go_roundw
        case rel=>exact ⟨k + 1,S + (M + 2),true,by go_num,by first | rfl | trivial,by go_num,by omega,fun j hj h2=>HAK.out j hj h2,HL2.out,HS2.out,hext.tr (by (repeat first | exact Ex0 | assumption | refine Ex1 ?_ | refine Ex2 ?_ | refine Ex3 ?_ | refine Ex4 ?_ | refine Ex5 ?_))⟩
        case measure=>simp [intOf]; omega
       ·have c4:¬ (S:Int) ≤ 32768:=by omega
        have HS2:=Lib.hid (HSM.out c3)
        go_wp2_with (first
         | (go_at_call 54; refine (CT.out _).mono ?_; rintro e w2 ⟨rfl,hx2⟩; have t0:=hx2.new 0 _ rfl; have t1:=hx2.new 1 _ rfl)
         | (go_at_call 80; refine (CV.out _).mono ?_; rintro e w3 ⟨rfl,hx3⟩; have g0:=(hx3.cell (lt_of_cell t0)).trans t0; have g1:=(hx3.cell (lt_of_cell t1)).trans t1; clear t0 t1))
        go_roundw
        case rel=>exact ⟨k + 1,S,true,by go_num,by first | rfl | trivial,by go_num,by omega,fun j hj h2=>HAK.out j hj h2,HL2.out,HS2.out,hext.tr (by (repeat first | exact Ex0 | assumption | refine Ex1 ?_ | refine Ex2 ?_ | refine Ex3 ?_ | refine Ex4 ?_ | refine Ex5 ?_))⟩
        case measure=>simp [intOf]; omega
      | false =>
       have HL2:=Lib.hid (show decide ((8192:Int) < (m:Int))=(L0 || anyL fs (k + 1)) from by rw [HAN.out,← Bool.or_assoc,← HLG.out,HLF.out,Bool.false_or,decide_eq_decide]; omega)
       by_cases c3:S ≤ 32768
       ·have c4:(S:Int) ≤ 32768:=by omega
        have HS2:=Lib.hid (show SizeAt n0 fs (k + 1) (S + (M + 2)) from by rw [HMM.out]; exact HNX.out m HLF.out.symm c3)
        go_wp2_with (first
         | (go_at_call 54; refine (CT.out _).mono ?_; rintro e w2 ⟨rfl,hx2⟩; have t0:=hx2.new 0 _ rfl; have t1:=hx2.new 1 _ rfl)
         | (go_at_call 80; refine (CV.out _).mono ?_; rintro e w3 ⟨rfl,hx3⟩; have g0:=(hx3.cell (lt_of_cell t0)).trans t0; have g1:=(hx3.cell (lt_of_cell t1)).trans t1; clear t0 t1))
        go_roundw
        case rel=>exact ⟨k + 1,S + (M + 2),decide ((8192:Int) < (m:Int)),by go_num,by first | rfl | trivial,by go_num,by omega,fun j hj h2=>HAK.out j hj h2,HL2.out,HS2.out,hext.tr (by (repeat first | exact Ex0 | assumption | refine Ex1 ?_ | refine Ex2 ?_ | refine Ex3 ?_ | refine Ex4 ?_ | refine Ex5 ?_))⟩
        case measure=>simp [intOf]; omega
       ·have c4:¬ (S:Int) ≤ 32768:=by omega
        have HS2:=Lib.hid (HSM.out c3)
        go_wp2_with (first
         | (go_at_call 54; refine (CT.out _).mono ?_; rintro e w2 ⟨rfl,hx2⟩; have t0:=hx2.new 0 _ rfl; have t1:=hx2.new 1 _ rfl)
         | (go_at_call 80; refine (CV.out _).mono ?_; rintro e w3 ⟨rfl,hx3⟩; have g0:=(hx3.cell (lt_of_cell t0)).trans t0; have g1:=(hx3.cell (lt_of_cell t1)).trans t1; clear t0 t1))
        go_roundw
        case rel=>exact ⟨k + 1,S,decide ((8192:Int) < (m:Int)),by go_num,by first | rfl | trivial,by go_num,by omega,fun j hj h2=>HAK.out j hj h2,HL2.out,HS2.out,hext.tr (by (repeat first | exact Ex0 | assumption | refine Ex1 ?_ | refine Ex2 ?_ | refine Ex3 ?_ | refine Ex4 ?_ | refine Ex5 ?_))⟩
        case measure=>simp [intOf]; omega
   ·have hk1:¬ (k:Int) < (n:Int):=by omega
    have hkn:k=fs.length:=by have:=HNF.out; omega
    have hall:=all_ok (fs:=fs) (fun j hj=>hok j hj (by omega))
    subst hkn
    have hlong:=long_or hsiz
    have hb0:(decide (8192 < n0) || decide (100 < fs.length))=L0:=by rw [decide_eq_false c1,Bool.false_or,HL0.out,decide_eq_decide]; have:=HNF.out; omega
    rw [hb0,← HLG.out] at hlong
    rw [HN0.out] at hlong
    cases lg with
    | true =>
     have HV:=Lib.hid (show R=([],44) from by rw [HR.out]; exact wrH_long hall (by rw [hlong]; rfl))
     clear hok hall hsiz hlong hb0
     go_wp2
     go_ret2
     rw [HV.out]
     exact Ret.mk (IsBs.no _ _ _) hext
    | false =>
     rw [Bool.false_or] at hlong
     by_cases c5:32768 < S
     ·have c6:(32768:Int) < (S:Int):=by omega
      have HV:=Lib.hid (show R=([],44) from by rw [HR.out]; exact wrH_long hall (by rw [hlong]; simpa using c5))
      clear hok hall hsiz hlong hb0
      go_wp2
      go_ret2
      rw [HV.out]
      exact Ret.mk (IsBs.no _ _ _) hext
     ·have c6:¬ (32768:Int) < (S:Int):=by omega
      have hlg2:longH first.length fs=false:=by rw [hlong]; simpa using c5
      have HV:=Lib.hid (show R=(first ++ ([13,10] ++ (wrS fs ++ [13,10])),0) from by rw [HR.out]; exact wrH_good hall hlg2)
      obtain ⟨g1,g2,g3⟩:=good_bd hlg2
      clear hok hall hsiz hlong hb0 hlg2
      have hN:=HNF.out
      obtain ⟨b,hbw⟩:∃ b,b=wr.heap.size:=⟨_,rfl⟩
      have hwb:w.heap.size ≤ b:=by rw [hbw]; exact hext.size
      obtain ⟨W2,hW2⟩:∃ W,W=wr.alloc (.cells #[.pointer none,.slice none 0 0] 165):=⟨_,rfl⟩
      have hj0:BldJ w.heap.size b (b + 1) [] W2:=bldJ_new hwb (by omega) (by rw [hW2,hbw]; simp) (by rw [hW2,hbw]; exact heap_alloc_new wr _)
      have xw2:Ext w W2:=by rw [hW2]; exact hext.al _
      obtain ⟨s1,hs1⟩:∃ s,s=str (first ++ [13,10]):=⟨_,rfl⟩
      have K1:∀ w,(Op.stringOp .add sf ⟨#[13,10]⟩).run Tryz.prog w=.ok (.string s1) w:=fun w=>by rw [HSF.out,hs1,cat_ok _ _ (by rw [str_size]; show first.length + 2 ≤ _; omega) w]; simp
      have C0:=WriteStringJ_c w.heap.size b (b + 1) [] (first ++ [13,10]) W2 hj0 (by simp; omega)
      rw [← hs1] at C0
      have C0:=Lib.hid C0
      have XW2:=Lib.hid xw2
      have HW2:=Lib.hid hW2
      have HBW:=Lib.hid hbw
      have hall2:=lenS_all fs
      clear hs1 hj0 xw2 hW2 hbw hext
      go_wp2_with (first
       | (go_at_call 119; rw [← HBW.out,← HW2.out]; refine C0.out.mono ?_; rintro e w2 ⟨rfl,hj2,hfr2⟩))
      have xw3:Ext w w2:=Below.trans XW2.out hfr2.1
      have hj3:BldJ w.heap.size b (b + 1) (first ++ ([13,10] ++ wrS (fs.take 0))) w2:=by simpa [wrS] using hj2
      clear hj2 hfr2
      go_loopw [72] (fun vi wx=>∃ k:Nat,vi=.int .i64 (k:Int)∧k ≤ n∧BldJ w.heap.size b (b + 1) (first ++ ([13,10] ++ wrS (fs.take k))) wx∧Ext w wx) (fun vi _=>n - (intOf vi).toNat)
      case atStart=>exact ⟨0,rfl,Nat.zero_le _,hj3,xw3⟩
      case round =>
       clear hj3 xw3
       obtain ⟨k,rfl,hk2,hj,hx⟩:=hrel
       have HJ:=Lib.hid hj
       by_cases hlt2:k < n
       ·obtain ⟨g,f,rfl,hgl,hS2⟩:=h.fld (k:=k) (by omega)
        obtain ⟨a0,a1⟩:=hS2.out _ hx
        have hTK:=wrS_take fs k (by omega)
        have hLK:=lenS_all fs (k + 1)
        obtain ⟨⟨x,y⟩,hp⟩:∃ p,p=fs[k]:=⟨_,rfl⟩
        rw [← hp] at a0 a1 hTK
        dsimp only at a0 a1
        have hL2:=congrArg List.length hTK
        rw [List.length_append,wrS_len,wrS_len,wrF_len] at hL2
        have hml:lenF (x,y)=x.length + 2 + y.length:=rfl
        have HTK:=Lib.hid hTK
        have hk0:(0:Int) ≤ (k:Int):=by omega
        have hk3:(k:Int) < (n:Int):=by omega
        obtain ⟨sa,hsa⟩:∃ s,s=str (x ++ [58,32]):=⟨_,rfl⟩
        obtain ⟨sb,hsb⟩:∃ s,s=str (x ++ ([58,32] ++ y)):=⟨_,rfl⟩
        obtain ⟨sc1,hsc⟩:∃ s,s=str (wrF (x,y)):=⟨_,rfl⟩
        have E1:∀ w,(Op.stringOp .add (str x) ⟨#[58,32]⟩).run Tryz.prog w=.ok (.string sa) w:=fun w=>by rw [hsa,cat_ok _ _ (by rw [str_size]; show x.length + 2 ≤ _; omega) w]; simp
        have E2:∀ w,(Op.stringOp .add sa (str y)).run Tryz.prog w=.ok (.string sb) w:=fun w=>by rw [hsa,hsb,cat_ok _ _ (by rw [str_size,str_size]; simp; omega) w]; simp
        have E3:∀ w,(Op.stringOp .add sb ⟨#[13,10]⟩).run Tryz.prog w=.ok (.string sc1) w:=fun w=>by rw [hsb,hsc,cat_ok _ _ (by rw [str_size]; show (x ++ ([58,32] ++ y)).length + 2 ≤ _; simp; omega) w]; simp [wrF]
        have CW:=fun W (hJ:BldJ w.heap.size b (b + 1) (first ++ ([13,10] ++ wrS (fs.take k))) W)=>WriteStringJ_c w.heap.size b (b + 1) (first ++ ([13,10] ++ wrS (fs.take k))) (wrF (x,y)) W hJ (by rw [List.length_append,List.length_append,wrS_len,wrF_len]; show _ + (2 + _) + _ ≤ _; omega)
        rw [← hsc] at CW
        have CW:=Lib.hid CW
        clear hp hTK hL2 hLK hsa hsb hsc hj hgl hS2 hml
        go_wp2_with (first
         | (go_at_call 119; refine (CW.out _ (HJ.out.ext (by (repeat first | exact Ex0 | assumption | refine Ex1 ?_ | refine Ex2 ?_ | refine Ex3 ?_ | refine Ex4 ?_ | refine Ex5 ?_)))).mono ?_; rintro e w9 ⟨rfl,hj9,hfr9⟩))
        go_roundw
        case rel=>exact ⟨k + 1,by go_num,by omega,by rw [HTK.out]; simpa using hj9,Below.trans (hx.tr (by (repeat first | exact Ex0 | assumption | refine Ex1 ?_ | refine Ex2 ?_ | refine Ex3 ?_ | refine Ex4 ?_ | refine Ex5 ?_))) hfr9.1⟩
        case measure=>simp [intOf]; omega
       ·have hk3:¬ (k:Int) < (n:Int):=by omega
        rw [List.take_of_length_le (show fs.length ≤ k by omega)] at hj
        have HJ:=Lib.hid hj
        clear hj
        obtain ⟨so,hso⟩:∃ s,s=str (first ++ ([13,10] ++ wrS fs)):=⟨_,rfl⟩
        obtain ⟨sr,hsr⟩:∃ s,s=str (first ++ ([13,10] ++ (wrS fs ++ [13,10]))):=⟨_,rfl⟩
        have hsl:(first ++ ([13,10] ++ (wrS fs ++ [13,10]))).length=n0 + 4 + lenS fs:=by simp [wrS_len]; have:=HN0.out; omega
        have K2:∀ w,(Op.stringOp .add so ⟨#[13,10]⟩).run Tryz.prog w=.ok (.string sr) w:=fun w=>by rw [hso,hsr,cat_ok _ _ (by rw [str_size]; show (first ++ ([13,10] ++ wrS fs)).length + 2 ≤ _; simp [wrS_len]; have:=HN0.out; omega) w]; simp
        have CB:=fun W (hJ:BldJ w.heap.size b (b + 1) (first ++ ([13,10] ++ wrS fs)) W)=>bStringJ_c w.heap.size b (b + 1) (first ++ ([13,10] ++ wrS fs)) W hJ
        rw [← hso] at CB
        have CB:=Lib.hid CB
        have RL:=Lib.hid (fun W=>(by have h0:=cv_slW W (fun _=>0) 7 5 (first ++ ([13,10] ++ (wrS fs ++ [13,10]))) (by simp only [maxLen]; omega); rw [← hsr] at h0; exact h0:Sl (cvW W 5 sr) (fun b=>if b < W.heap.size then 0 else 7) 7 1 (some ⟨W.heap.size,0,none⟩) (first ++ ([13,10] ++ (wrS fs ++ [13,10]))).length (cvC W 5 (first ++ ([13,10] ++ (wrS fs ++ [13,10]))).length) (bc (first ++ ([13,10] ++ (wrS fs ++ [13,10]))))))
        rw [hsl] at RL
        have CV:∀ w,(convert 9 22 (.string sr)).run Tryz.prog w=.ok (.slice (some ⟨w.heap.size,0,none⟩) (n0 + 4 + lenS fs) (cvC w 5 (n0 + 4 + lenS fs))) (cvW w 5 sr):=fun w=>by
         have h0:=cv_run (P:=Tryz.prog) (e:=5) sr Tryz.underlying9 Tryz.underlying22 Tryz.underlying5 w
         have hz:sr.size=n0 + 4 + lenS fs:=by rw [hsr,str_size,hsl]
         rw [hz] at h0
         exact h0
        have HSL:=Lib.hid hsl
        clear hso hsr hsl
        go_wp2_with (first
         | (go_at_call 120; refine (CB.out _ HJ.out).mono ?_; rintro e w9 ⟨rfl,hb9⟩))
        go_ret2
        rw [HV.out]
        exact Ret.mk ⟨some ⟨w9.heap.size,0,none⟩,_,by rw [HSL.out]; rfl,(fun h=>by cases h),_,fun b hb=>if_pos (Nat.lt_of_lt_of_le hb (Below.trans hx hb9).size),by have h0:=RL.out w9; rw [← HSL.out] at h0 ⊢; exact h0⟩ (Ext.tr (Below.trans hx hb9) (cv_ext _ _ _))
end Go.Proofs.YthbofilcnpdghaaGreatDoor
end
section
namespace Go.Proofs.YthbofilcnpdghaaGreatDoor
open Go.RowKit
end Go.Proofs.YthbofilcnpdghaaGreatDoor
end
section
namespace Go.Proofs.YthbofilcnpdghaaGreatDoor
open Go.RowKit
def pcs (c:UInt8):List UInt8 → List (List UInt8)
 | []=>[[]]
 | b :: l=>if b=c then [] :: pcs c l else
   match pcs c l with
   | []=>[[b]]
   | s :: ss=>(b :: s) :: ss
theorem pcs_none {c:UInt8}:∀ {l:List UInt8},c ∉ l → pcs c l=[l]
 | [],_=>rfl
 | b :: l,h=>by
  have h1:¬ b=c:=fun e=>h (by rw [e]; exact List.mem_cons_self)
  have h2:=pcs_none (l:=l) (fun e=>h (List.mem_cons_of_mem _ e))
  unfold pcs
  rw [if_neg h1,h2]
theorem pcs_some {c:UInt8}:∀ {a:List UInt8} (r:List UInt8),c ∉ a → pcs c (a ++ c :: r)=a :: pcs c r
 | [],r,_=>by show pcs c (c :: r)=_; simp [pcs]
 | b :: a,r,h=>by
  have h1:¬ b=c:=fun e=>h (by rw [e]; exact List.mem_cons_self)
  have h2:=pcs_some (a:=a) r (fun e=>h (List.mem_cons_of_mem _ e))
  show pcs c (b :: (a ++ c :: r))=_
  simp only [pcs,if_neg h1,h2]
theorem split_pcs (c:UInt8):∀ (n:Nat) (l:List UInt8),l.length ≤ n → Lib.countB (str l) ⟨#[c]⟩ + 1=(pcs c l).length∧Lib.splitB ⟨#[c]⟩ 0 (Lib.countB (str l) ⟨#[c]⟩) (str l)=(pcs c l).map str:=by
 intro n
 induction n with
 | zero =>
  intro l hl
  obtain rfl:l=[]:=List.eq_nil_of_length_eq_zero (by omega)
  have hx:Lib.indexB (str []) ⟨#[c]⟩=-1:=(Lib.index_one [] c).trans (idx_no (by simp))
  rw [Lib.countB_miss _ _ hx,pcs_none (by simp)]
  exact ⟨rfl,rfl⟩
 | succ n ih =>
  intro l hl
  rcases cut_cases l c with hno | ⟨a,r,rfl,hno⟩
  ·have hx:Lib.indexB (str l) ⟨#[c]⟩=-1:=(Lib.index_one l c).trans (idx_no hno)
   rw [Lib.countB_miss _ _ hx,pcs_none hno]
   exact ⟨rfl,rfl⟩
  ·have hx:Lib.indexB (str (a ++ c :: r)) ⟨#[c]⟩=(a.length:Int):=(Lib.index_one _ c).trans (idx_at hno)
   have hc:=Lib.countB_hit (str (a ++ c :: r)) ⟨#[c]⟩ a.length (by show 1 ≤ 1; exact Nat.le_refl _) hx
   have he:(str (a ++ c :: r)).extract (a.length + (⟨#[c]⟩:ByteArray).size) (str (a ++ c :: r)).size=str r:=by
    rw [show (⟨#[c]⟩:ByteArray).size=1 from rfl]
    apply ByteArray.ext
    apply Array.ext'
    simp [str]
    exact List.take_of_length_le (by simp [ByteArray.size]; omega)
   have he2:(str (a ++ c :: r)).extract 0 (a.length + 0)=str a:=by
    apply ByteArray.ext
    apply Array.ext'
    simp [str]
   rw [he] at hc
   obtain ⟨i1,i2⟩:=ih r (by simp at hl; omega)
   have hsp:=Lib.splitB_hit ⟨#[c]⟩ 0 (Lib.countB (str r) ⟨#[c]⟩) (str (a ++ c :: r)) a.length hx
   rw [he,he2] at hsp
   rw [hc,pcs_some r hno,Nat.add_comm 1,hsp,i2]
   refine ⟨by simp only [List.length_cons]; omega,rfl⟩
theorem Split_pcs (c:UInt8) (l:List UInt8) (hl:l.length ≤ 4000000000) (w:World) (hM:Mx w) :
  Calls Tryz.prog 92 #[.string (str l),.string ⟨#[c]⟩] w fun e w'=>e=.returned (.slice (some ⟨w.heap.size,0,none⟩) (pcs c l).length (pcs c l).length)∧w'=w.alloc (.cells (sc (pcs c l)).toArray 9):=by
 obtain ⟨m,hm⟩:=hM
 have K:=Tryz.strings_Split (str l) ⟨#[c]⟩ m w (by simp; omega) hm (by show 1 ≤ 1; exact Nat.le_refl _)
 obtain ⟨h1,h2⟩:=split_pcs c l.length l (Nat.le_refl _)
 rw [h1,h2] at K
 refine K.mono fun e w' ⟨h3,h4⟩=>⟨h3,?_⟩
 rw [h4]
 simp [sc,Function.comp_def]
def rsT:List (Nat × List UInt8 × List UInt8):=[(100,[49,48,48],[67,111,110,116,105,110,117,101]),(200,[50,48,48],[79,75]),(201,[50,48,49],[67,114,101,97,116,101,100]),(204,[50,48,52],[78,111,32,67,111,110,116,101,110,116]),(206,[50,48,54],[80,97,114,116,105,97,108,32,67,111,110,116,101,110,116]),(301,[51,48,49],[77,111,118,101,100,32,80,101,114,109,97,110,101,110,116,108,121]),(302,[51,48,50],[70,111,117,110,100]),(304,[51,48,52],[78,111,116,32,77,111,100,105,102,105,101,100]),(400,[52,48,48],[66,97,100,32,82,101,113,117,101,115,116]),(403,[52,48,51],[70,111,114,98,105,100,100,101,110]),(404,[52,48,52],[78,111,116,32,70,111,117,110,100]),(405,[52,48,53],[77,101,116,104,111,100,32,78,111,116,32,65,108,108,111,119,101,100]),(408,[52,48,56],[82,101,113,117,101,115,116,32,84,105,109,101,111,117,116]),(412,[52,49,50],[80,114,101,99,111,110,100,105,116,105,111,110,32,70,97,105,108,101,100]),(413,[52,49,51],[67,111,110,116,101,110,116,32,84,111,111,32,76,97,114,103,101]),(414,[52,49,52],[85,82,73,32,84,111,111,32,76,111,110,103]),(416,[52,49,54],[82,97,110,103,101,32,78,111,116,32,83,97,116,105,115,102,105,97,98,108,101]),(417,[52,49,55],[69,120,112,101,99,116,97,116,105,111,110,32,70,97,105,108,101,100]),(429,[52,50,57],[84,111,111,32,77,97,110,121,32,82,101,113,117,101,115,116,115]),(431,[52,51,49],[82,101,113,117,101,115,116,32,72,101,97,100,101,114,32,70,105,101,108,100,115,32,84,111,111,32,76,97,114,103,101]),(500,[53,48,48],[73,110,116,101,114,110,97,108,32,83,101,114,118,101,114,32,69,114,114,111,114]),(501,[53,48,49],[78,111,116,32,73,109,112,108,101,109,101,110,116,101,100]),(502,[53,48,50],[66,97,100,32,71,97,116,101,119,97,121]),(503,[53,48,51],[83,101,114,118,105,99,101,32,85,110,97,118,97,105,108,97,98,108,101]),(504,[53,48,52],[71,97,116,101,119,97,121,32,84,105,109,101,111,117,116])]
def rsAll:List UInt8:=[49,48,48,32,67,111,110,116,105,110,117,101,124,50,48,48,32,79,75,124,50,48,49,32,67,114,101,97,116,101,100,124,50,48,52,32,78,111,32,67,111,110,116,101,110,116,124,50,48,54,32,80,97,114,116,105,97,108,32,67,111,110,116,101,110,116,124,51,48,49,32,77,111,118,101,100,32,80,101,114,109,97,110,101,110,116,108,121,124,51,48,50,32,70,111,117,110,100,124,51,48,52,32,78,111,116,32,77,111,100,105,102,105,101,100,124,52,48,48,32,66,97,100,32,82,101,113,117,101,115,116,124,52,48,51,32,70,111,114,98,105,100,100,101,110,124,52,48,52,32,78,111,116,32,70,111,117,110,100,124,52,48,53,32,77,101,116,104,111,100,32,78,111,116,32,65,108,108,111,119,101,100,124,52,48,56,32,82,101,113,117,101,115,116,32,84,105,109,101,111,117,116,124,52,49,50,32,80,114,101,99,111,110,100,105,116,105,111,110,32,70,97,105,108,101,100,124,52,49,51,32,67,111,110,116,101,110,116,32,84,111,111,32,76,97,114,103,101,124,52,49,52,32,85,82,73,32,84,111,111,32,76,111,110,103,124,52,49,54,32,82,97,110,103,101,32,78,111,116,32,83,97,116,105,115,102,105,97,98,108,101,124,52,49,55,32,69,120,112,101,99,116,97,116,105,111,110,32,70,97,105,108,101,100,124,52,50,57,32,84,111,111,32,77,97,110,121,32,82,101,113,117,101,115,116,115,124,52,51,49,32,82,101,113,117,101,115,116,32,72,101,97,100,101,114,32,70,105,101,108,100,115,32,84,111,111,32,76,97,114,103,101,124,53,48,48,32,73,110,116,101,114,110,97,108,32,83,101,114,118,101,114,32,69,114,114,111,114,124,53,48,49,32,78,111,116,32,73,109,112,108,101,109,101,110,116,101,100,124,53,48,50,32,66,97,100,32,71,97,116,101,119,97,121,124,53,48,51,32,83,101,114,118,105,99,101,32,85,110,97,118,97,105,108,97,98,108,101,124,53,48,52,32,71,97,116,101,119,97,121,32,84,105,109,101,111,117,116]
def rsP:List (List UInt8):=rsT.map fun p=>p.2.1 ++ 32 :: p.2.2
theorem rs_pcs:pcs 124 rsAll=rsP:=by decide +kernel
theorem rs_code:∀ p ∈ rsT,Lib.itoa (p.1:Int)=p.2.1∧32 ∉ p.2.1:=by decide +kernel
def reaL (s:Int):List UInt8:=match rsT.find? (fun p=>decide ((p.1:Int)=s)) with
 | some p=>p.2.2
 | none=>[]
end Go.Proofs.YthbofilcnpdghaaGreatDoor
end
section
namespace Go.Proofs.YthbofilcnpdghaaGreatDoor
open Go.RowKit
end Go.Proofs.YthbofilcnpdghaaGreatDoor
end
