/-
Fields by their names: Values, the program's and the reference's.
-/
import Derived.Test.YthbofilcnpdghaaGreatDoorZad
import Derived.Lib.ConvBytes
import Derived.Test.YthbofilcnpdghaaGreatDoorShelf
import Derived.WalkMore
import Derived.Test.YthbofilcnpdghaaGreatDoorProg
import Derived.Test.YthbofilcnpdghaaGreatDoorZab
import Derived.Lib.AppendIntMem
import Derived.Lib.ItoaLen
import Derived.Lib.ItoaMem
set_option maxRecDepth 100000
set_option maxHeartbeats 8000000
set_option linter.unusedVariables false
set_option linter.unusedSimpArgs false
section
namespace Go.Proofs.YthbofilcnpdghaaGreatDoor
open Go.RowKit
abbrev Fld:=List UInt8 × List UInt8
def fc (fs:List Fld):List Value:=fs.flatMap fun p=>[.string (str p.1),.string (str p.2)]
theorem fc_len (fs:List Fld):(fc fs).length=fs.length*2:=by
 induction fs with
 | nil=>rfl
 | cons p fs ih=>simp [fc,List.flatMap_cons] at *;omega
theorem fc_at:∀ (fs:List Fld) (k:Nat) (h:k<fs.length),(fc fs)[k*2]?=some (.string (str fs[k].1))∧(fc fs)[k*2+1]?=some (.string (str fs[k].2))
 | [],k,h=>by simp at h
 | p::fs,0,_=>⟨rfl,rfl⟩
 | p::fs,k+1,h=>by
  have ih:=fc_at fs k (by simpa using h)
  have e:fc (p::fs)=.string (str p.1)::.string (str p.2)::fc fs:=rfl
  rw [e,show (k+1)*2=k*2+1+1 from by omega]
  simpa using ih
theorem Rd.fld {w:World} {A:Option Addr} {fs:List Fld} (h:Rd w A (fc fs)) {k:Nat} (hk:k<fs.length) :
  ∃ b o,A=some ⟨b,o,none⟩∧b<w.heap.size∧Hid (∀ w',Ext w w'→(w'.cell? ⟨b,o+k*2,none⟩=some (.string (str fs[k].1))∧w'.cell? ⟨b,o+k*2+1,none⟩=some (.string (str fs[k].2)))):=by
 obtain ⟨b,o,rfl,hb,hc⟩:=h.at_ (by rw [fc_len];omega)
 obtain ⟨h1,h2⟩:=fc_at fs k hk
 refine ⟨b,o,rfl,hb,fun w' e=>⟨(e.cell (p:=⟨b,o+k*2,none⟩) hb).trans (hc _ _ h1),(e.cell (p:=⟨b,o+k*2+1,none⟩) hb).trans (hc _ _ h2)⟩⟩
def valsH (fs:List Fld) (nm:List UInt8):List (List UInt8):=(fs.filter fun p=>lowL p.1 == lowL nm).map Prod.snd
theorem vals_succ (fs:List Fld) (nm:List UInt8) (k:Nat) (h:k<fs.length):valsH (fs.take (k+1)) nm=valsH (fs.take k) nm++(if (lowL fs[k].1 == lowL nm)=true then [fs[k].2] else []):=by
 unfold valsH
 rw [List.take_succ_eq_append_getElem h,List.filter_append,List.map_append]
 congr 1
 by_cases hc:(lowL fs[k].1 == lowL nm)=true
 ·rw [if_pos hc];simp [List.filter_cons,hc]
 ·rw [if_neg hc];simp [List.filter_cons,hc]
theorem vals_len (fs:List Fld) (nm:List UInt8):(valsH fs nm).length≤fs.length:=by
 unfold valsH;rw [List.length_map];exact List.length_filter_le _ _
def IsTx (ls:List (List UInt8)) (v:Value) (w:World):Prop:=∃ A c,v=.slice A ls.length c∧Rd w A (sc ls)
theorem hValues_c (fs:List Fld) (nm:List UInt8) (A:Option Addr) (n c:Nat) (hn:fs.length=n) (hb:n≤8796093022206) (hnm:nm.length≤maxLen) (hsz:∀ p∈fs,p.1.length≤maxLen) (w:World) (h:Rd w A (fc fs)) :
  Calls Tryz.prog 68 #[.slice A n c,.string (str nm)] w (Ret (IsTx (valsH fs nm)) w):=by
 go_enter Tryz.func68,Tryz.ntmps68
 go_wp2
 go_loopw [5,10] (fun v i wr=>∃ k:Nat,i=.int .i64 (k:Int)∧k≤n∧wr.ownsRow w.heap.size 9 1 v (valsH (fs.take k) nm).length (sc (valsH (fs.take k) nm))∧Ext w wr) (fun _ i _=>n-(intOf i).toNat)
 case atStart=>exact ⟨0,rfl,Nat.zero_le _,World.ownsRow_nil _ _ _ _,Ext.rfl' _⟩
 case round =>
  obtain ⟨k,rfl,hk,hown,hext⟩:=hrel
  by_cases hlt:k<n
  ·obtain ⟨b,o,rfl,hbl,hS⟩:=h.fld (k:=k) (by omega)
   obtain ⟨a0,a1⟩:=hS.out wr hext
   have hks:=Hy (fun w' (e:Ext wr w')=>hS.out w' (hext.tr e))
   have hl1:=hsz _ (List.getElem_mem (show k<fs.length by omega))
   have hSu:=vals_succ fs nm k (by omega)
   have hle:=vals_len (fs.take k) nm
   rw [List.length_take] at hle
   obtain ⟨⟨x,y⟩,hp⟩:∃ p,p=fs[k]:=⟨_,rfl⟩
   rw [← hp] at a0 a1 hl1 hSu
   have hks:Hid (∀ w',Ext wr w'→(w'.cell? ⟨b,o+k*2,none⟩=some (.string (str x))∧w'.cell? ⟨b,o+k*2+1,none⟩=some (.string (str y)))):=by rw [← hp] at hks;exact hks
   dsimp only at hl1 hSu
   have HL1:=Hy hl1
   obtain ⟨vs,hvs⟩:∃ v,v=valsH (fs.take k) nm:=⟨_,rfl⟩
   rw [← hvs] at hown hSu hle
   have HO:=Hy hown
   have hk0:(0:Int)≤(k:Int):=by omega
   have hk1:(k:Int)<(n:Int):=by omega
   clear hown hp hvs hl1 hS
   by_cases hc:(lowL x == lowL nm)=true
   ·rw [if_pos hc] at hSu
    have HSU:=Hy hSu
    have C:=fun w'=>Equal_c x nm HL1.out hnm w'
    rw [hc] at C
    have C:=Hy C
    clear hSu hc
    go_wp2_with (first
     | (go_at_call 62;refine (C.out _).mono ?_;rintro e w2 ⟨rfl,hx2⟩;have t1:=hx2.new 1 _ rfl;have x3:Ext wr w2:=Xq)
     | (at_builtin;refine wpL_app slt_str (.tmp 18) (.tmp 21) rfl rfl rfl rfl (Ext.al (hext.tr x3) _) ((own_ext HO.out x3).alloc _) (by rfl) (new_cells w2 #[.string (str y)] 9) (by simp [Value.oneCell']) (by omega) (by simp only [maxLen];omega) ?_;intro v' w' hown' hext' hgg;clear hgg))
    go_roundw
    case rel=>exact ⟨k+1,by go_num,by omega,by rw [HSU.out,sc_app,List.length_append];exact hown',hext'⟩
    case measure=>simp [intOf];omega
   ·rw [if_neg hc] at hSu
    have HSU:=Hy hSu
    have C:=fun w'=>Equal_c x nm HL1.out hnm w'
    rw [show (lowL x == lowL nm)=false from by revert hc;cases (lowL x == lowL nm) <;> simp] at C
    have C:=Hy C
    clear hSu hc
    go_wp2_with (first
     | (go_at_call 62;refine (C.out _).mono ?_;rintro e w2 ⟨rfl,hx2⟩;have t1:=hx2.new 1 _ rfl;have x3:Ext wr w2:=Xq))
    go_roundw
    case rel=>exact ⟨k+1,by go_num,by omega,by rw [HSU.out,List.append_nil];exact own_ext HO.out x3,hext.tr x3⟩
    case measure=>simp [intOf];omega
  ·have hkn:n=k:=by omega
   subst hkn
   rw [List.take_of_length_le (by omega)] at hown
   obtain ⟨A',c',rfl,_,_,hr,_⟩:=Rd.of_own hown
   clear hown
   go_wp2
   go_ret
   exact Ret.mk ⟨A',c',rfl,hr⟩ hext
def firstV:List (List UInt8)→Value
 | []=>.tuple #[.string ⟨#[]⟩,.bool false]
 | v::_=>.tuple #[.string (str v),.bool true]
theorem sc_first {w:World} {A:Option Addr} {v:List UInt8} {ls:List (List UInt8)} (h:Rd w A (sc (v::ls))):∃ b f,A=some ⟨b,f,none⟩∧w.cell? ⟨b,f,none⟩=some (.string (str v)):=by
 obtain ⟨b,f,rfl,_,hc⟩:=h.at_ (by simp)
 exact ⟨b,f,rfl,hc 0 _ rfl⟩
theorem hFirst_c (fs:List Fld) (nm:List UInt8) (A:Option Addr) (n c:Nat) (hn:fs.length=n) (hb:n≤8796093022206) (hnm:nm.length≤maxLen) (hsz:∀ p∈fs,p.1.length≤maxLen) (w:World) (h:Rd w A (fc fs)) :
  Calls Tryz.prog 61 #[.slice A n c,.string (str nm)] w (Gives (firstV (valsH fs nm)) w):=by
 have C:=fun w' h'=>hValues_c fs nm A n c hn hb hnm hsz w' h'
 have H:=Hy h
 have hle:=vals_len fs nm
 obtain ⟨vs,hvs⟩:∃ v,v=valsH fs nm:=⟨_,rfl⟩
 rw [← hvs] at C hle ⊢
 clear hvs h hsz
 have C:=Hy C
 cases vs with
 | nil =>
  go_enter Tryz.func61,Tryz.ntmps61
  go_wp2_with (go_at_call 68;refine (C.out _ (H.out.ext Xq)).mono ?_;rintro e w1 ⟨v,rfl,⟨A1,c1,rfl,hr1⟩,hx1⟩)
  go_loopw [12] (fun i wr=>i=.int .i64 0∧w1=wr) (fun i _=>1-(intOf i).toNat)
  case atStart=>exact ⟨rfl,by trivial⟩
  case round =>
   obtain ⟨rfl,rfl⟩:=hrel
   go_wp2
   go_ret2
   exact ⟨rfl,hx1⟩
 | cons v ls =>
  go_enter Tryz.func61,Tryz.ntmps61
  go_wp2_with (go_at_call 68;refine (C.out _ (H.out.ext Xq)).mono ?_;rintro e w1 ⟨v,rfl,⟨A1,c1,rfl,hr1⟩,hx1⟩)
  obtain ⟨b,f,rfl,hc⟩:=sc_first hr1
  go_loopw [12] (fun i wr=>i=.int .i64 0∧w1=wr) (fun i _=>1-(intOf i).toNat)
  case atStart=>exact ⟨rfl,by trivial⟩
  case round =>
   obtain ⟨rfl,rfl⟩:=hrel
   have h0:(0:Int)<((ls.length+1:Nat):Int):=by omega
   have h1:(0:Int)<(ls.length:Int)+1:=by omega
   go_wp2
   go_ret2
   exact ⟨rfl,hx1⟩
theorem Ext.bwH {a b:World} (h:Ext a b) (e:TypeId) (s:ByteArray):Ext a (Lib.bytesWorld b e s) :=
 ⟨by simpa [Lib.bytesWorld,World.freeze,World.alloc,World.drew,-World.alloc_eq,-World.drew_eq] using h.os,
  by simpa [Lib.bytesWorld,World.freeze,World.alloc,World.drew,-World.alloc_eq,-World.drew_eq] using h.tape,
  by simpa [Lib.bytesWorld,World.freeze,World.alloc,World.drew,-World.alloc_eq,-World.drew_eq] using h.output,
  by rw [Lib.bytesWorld_size];have:=h.size;omega,
  fun i hi=>by rw [Lib.bytesWorld_at_old _ _ _ _ (by have:=h.size;omega)];exact h.block i hi⟩
def tgB (b:UInt8):Bool:=decide (32<b.toNat) && decide (b.toNat<127)
def tgH (l:List UInt8):Bool:=l.all tgB && !(l == [])
theorem tg_no {l:List UInt8} {k:Nat} (h:k<l.length) (hb:tgB l[k]=false):tgH l=false:=by
 unfold tgH
 have:l.all tgB=false:=by rw [List.all_eq_false];exact ⟨l[k],List.getElem_mem h,by rw [hb];decide⟩
 rw [this];rfl
theorem tg_all {l:List UInt8} (h:∀ j (hj:j<l.length),tgB l[j]=true):l.all tgB=true:=by
 rw [List.all_eq_true]
 intro b hb
 obtain ⟨j,hj,rfl⟩:=List.getElem_of_mem hb
 exact h j hj
theorem hTarget_c (l:List UInt8) (hs:l.length≤140737488351232) (w:World) :
  Calls Tryz.prog 55 #[.string (str l)] w (Gives (.bool (tgH l)) w):=by
 obtain ⟨R,hR⟩:∃ R,R=tgH l:=⟨_,rfl⟩
 rw [← hR]
 have HR:=Hy hR
 clear hR
 have hms:maxLen=9223372036854775807:=rfl
 have CV:=fun w=>Lib.run_convert_string_bytes (P:=Tryz.prog) w 9 22 5 (str l) Tryz.underlying9 Tryz.underlying22 Tryz.underlying5
 go_enter Tryz.func55,Tryz.ntmps55
 go_wp2
 clear CV
 obtain ⟨W1,hW1⟩:∃ W1,W1=Lib.bytesWorld w 5 (str l):=⟨_,rfl⟩
 rw [← hW1]
 have hX1:Ext w W1:=by rw [hW1];exact Ext.bwH (Ext.rfl' _) _ _
 have HC:=Hy (show ∀ k (h:k<l.length),W1.cell? ⟨w.heap.size,k,none⟩=some (.int .u8 (l[k].toNat:Int)) from fun k h=>by
  have hc:=Lib.bytesWorld_cell w 5 (str l) k (by simpa using h)
  rw [← hW1] at hc
  rw [hc]
  simp [List.getD,h])
 clear hW1
 go_loopw [8] (fun i wr=>∃ k:Nat,i=.int .i64 k∧k≤l.length∧(∀ j (hj:j<l.length),j<k→tgB l[j]=true)∧W1=wr) (fun i _=>l.length-(intOf i).toNat)
 case atStart=>exact ⟨0,rfl,Nat.zero_le _,fun j _ h=>by omega,by trivial⟩
 case round =>
  obtain ⟨k,rfl,hk,hno,rfl⟩:=hrel
  have HNO:=Hy hno
  clear hno
  by_cases hlt:k<l.length
  ·have hck:=HC.out k hlt
   have h256:=UInt8.toNat_lt l[k]
   have hki:(k:Int)+1≤9223372036854775807:=by omega
   have hk0:(0:Int)≤(k:Int):=by omega
   have hk1:(k:Int)<(l.length:Int):=by omega
   have HT:=Hy (fun hb=>tg_no hlt hb)
   have HD:=Hy (show tgB l[k]=(decide (32<l[k].toNat) && decide (l[k].toNat<127)) from rfl)
   obtain ⟨b,hb⟩:∃ b,b=l[k].toNat:=⟨_,rfl⟩
   rw [← hb] at hck h256
   have HB:=Hy hb
   clear hb
   by_cases c1:b≤32
   ·have c2:(b:Int)≤32:=by omega
    have HV:=Hy (show R=false by rw [HR.out];exact HT.out (by rw [HD.out,← HB.out,decide_eq_false (by omega)];rfl))
    go_wp2
    go_ret
    exact ⟨ret_bool HV.out.symm,hX1⟩
   ·have c2:¬(b:Int)≤32:=by omega
    by_cases c3:127≤b
    ·have c4:(127:Int)≤(b:Int):=by omega
     have HV:=Hy (show R=false by rw [HR.out];exact HT.out (by rw [HD.out,← HB.out,decide_eq_true (by omega),decide_eq_false (by omega)];rfl))
     go_wp2
     go_ret
     exact ⟨ret_bool HV.out.symm,hX1⟩
    ·have c4:¬(127:Int)≤(b:Int):=by omega
     have HV:=Hy (show tgB l[k]=true by rw [HD.out,← HB.out,decide_eq_true (by omega),decide_eq_true (by omega)];rfl)
     go_wp2
     go_roundw
     case rel=>exact ⟨k+1,by go_num,by omega,fun j hj h2=>by
      rcases Nat.lt_or_ge j k with h3 | h3
      ·exact HNO.out j hj h3
      ·obtain rfl:j=k:=by omega
       exact HV.out,by trivial⟩
     case measure=>simp [intOf];omega
  ·have hall:=tg_all (fun j hj=>HNO.out j hj (by omega))
   by_cases h0:l=[]
   ·have HV:=Hy (show R=false by rw [HR.out,h0];rfl)
    have hkl:k=l.length:=by omega
    subst h0
    subst hkl
    rw [show str ([]:List UInt8)=⟨#[]⟩ from rfl]
    go_wp2
    go_ret
    exact ⟨ret_bool HV.out.symm,hX1⟩
   ·have HV:=Hy (show R=true by rw [HR.out];unfold tgH;rw [hall];simp [h0])
    have e1:l.isEmpty=false:=by rw [List.isEmpty_eq_false_iff];exact h0
    have e2:(str l).toList.isEmpty=false:=by rw [Lib.toList_data];exact e1
    have hkl:k=l.length:=by omega
    subst hkl
    clear hall h0
    go_wp2
    go_ret
    exact ⟨ret_bool HV.out.symm,hX1⟩
def httpL:List UInt8:=[72,84,84,80,47,49,46]
def verH (l:List UInt8):Int × Bool :=
 match l with
 | [72,84,84,80,47,49,46,d]=>if 48≤d.toNat∧d.toNat≤57 then ((d.toNat:Int)-48,true) else (0,false)
 | _=>(0,false)
theorem cut_yes (r:List UInt8) (w:World):Calls Tryz.prog 83 #[.string (str (httpL++r)),.string ⟨#[72,84,84,80,47,49,46]⟩] w fun e w'=>e=.returned (.tuple #[.string (str r),.bool true])∧w=w':=by
 refine (Tryz.strings_CutPrefix (str (httpL++r)) ⟨#[72,84,84,80,47,49,46]⟩ w).mono ?_
 rintro e w' ⟨rfl,rfl⟩
 have h:Lib.hasPrefix (httpL++r) [72,84,84,80,47,49,46]=true:=by simp [Lib.hasPrefix,httpL]
 refine ⟨?_,rfl⟩
 rw [str_data]
 show Ending.returned (.tuple #[.string ⟨(Lib.trimPrefix (httpL++r) [72,84,84,80,47,49,46]).toArray⟩,.bool (Lib.hasPrefix (httpL++r) [72,84,84,80,47,49,46])])=_
 rw [h]
 unfold Lib.trimPrefix
 rw [h]
 rfl
theorem cut_no (l:List UInt8) (hn:∀ r,l≠httpL++r) (w:World):Calls Tryz.prog 83 #[.string (str l),.string ⟨#[72,84,84,80,47,49,46]⟩] w fun e w'=>e=.returned (.tuple #[.string (str l),.bool false])∧w=w':=by
 refine (Tryz.strings_CutPrefix (str l) ⟨#[72,84,84,80,47,49,46]⟩ w).mono ?_
 rintro e w' ⟨rfl,rfl⟩
 have h:Lib.hasPrefix l [72,84,84,80,47,49,46]=false:=by
  cases hc:Lib.hasPrefix l [72,84,84,80,47,49,46] with
  | false=>rfl
  | true =>
   unfold Lib.hasPrefix at hc
   rw [List.isPrefixOf_iff_prefix] at hc
   obtain ⟨r,hr⟩:=hc
   exact absurd hr.symm (hn r)
 refine ⟨?_,rfl⟩
 rw [str_data]
 show Ending.returned (.tuple #[.string ⟨(Lib.trimPrefix l [72,84,84,80,47,49,46]).toArray⟩,.bool (Lib.hasPrefix l [72,84,84,80,47,49,46])])=_
 rw [h]
 unfold Lib.trimPrefix
 rw [h]
 rfl
theorem ver_no {l:List UInt8} (hn:∀ r,l≠httpL++r):verH l=(0,false):=by
 unfold verH
 split
 ·rename_i d
  exact absurd rfl (hn [d])
 ·rfl
theorem ver_len {r:List UInt8} (h:r.length≠1):verH (httpL++r)=(0,false):=by
 unfold verH
 split
 ·rename_i d hd
  have h2:=congrArg List.length hd
  simp [httpL] at h2
  omega
 ·rfl
theorem ver_one (d:UInt8):verH (httpL++[d])=if 48≤d.toNat∧d.toNat≤57 then ((d.toNat:Int)-48,true) else (0,false):=rfl
theorem hVersion_c (l:List UInt8) (hs:l.length≤maxLen) (w:World) :
  Calls Tryz.prog 56 #[.string (str l)] w fun e w'=>e=.returned (.tuple #[.int .i64 (verH l).1,.bool (verH l).2])∧w=w':=by
 by_cases hp:∃ r,l=httpL++r
 ·obtain ⟨r,rfl⟩:=hp
  have C:=Hy (fun w'=>cut_yes r w')
  by_cases h1:r.length=1
  ·obtain ⟨d,rfl⟩:∃ d,r=[d]:=List.length_eq_one_iff.1 h1
   rw [ver_one]
   obtain ⟨s,hs⟩:∃ s,s=str (httpL++[d]):=⟨_,rfl⟩
   rw [← hs] at C ⊢
   have h256:=UInt8.toNat_lt d
   clear hs
   by_cases c1:d.toNat<48
   ·have d1:(d.toNat:Int)<48:=by omega
    rw [if_neg (by omega)]
    go_enter Tryz.func56,Tryz.ntmps56
    go_wp2_with (go_at_call 83;refine (C.out _).mono ?_;rintro e w1 ⟨rfl,rfl⟩)
    go_ret2
    exact ⟨rfl,rfl⟩
   ·have d1:¬(d.toNat:Int)<48:=by omega
    by_cases c2:57<d.toNat
    ·have d2:(57:Int)<(d.toNat:Int):=by omega
     rw [if_neg (by omega)]
     go_enter Tryz.func56,Tryz.ntmps56
     go_wp2_with (go_at_call 83;refine (C.out _).mono ?_;rintro e w1 ⟨rfl,rfl⟩)
     go_ret2
     exact ⟨rfl,rfl⟩
    ·have d2:¬(57:Int)<(d.toNat:Int):=by omega
     rw [if_pos (by omega)]
     have s1:IntKind.u8.wrap ((d.toNat:Int)-48)=(d.toNat:Int)-48:=by rw [IntKind.wrap_u8];omega
     have s2:IntKind.i64.wrap ((d.toNat:Int)-48)=(d.toNat:Int)-48:=by rw [IntKind.wrap_i64];omega
     go_enter Tryz.func56,Tryz.ntmps56
     go_wp2_with (go_at_call 83;refine (C.out _).mono ?_;rintro e w1 ⟨rfl,rfl⟩)
     go_ret2
     exact ⟨rfl,rfl⟩
  ·rw [ver_len h1]
   have e1:((r.length:Int) != 1)=true:=by rw [bne_iff_ne];omega
   obtain ⟨s,hs⟩:∃ s,s=str (httpL++r):=⟨_,rfl⟩
   rw [← hs] at C ⊢
   clear hs
   go_enter Tryz.func56,Tryz.ntmps56
   go_wp2_with (go_at_call 83;refine (C.out _).mono ?_;rintro e w1 ⟨rfl,rfl⟩)
   go_ret2
   exact ⟨rfl,rfl⟩
 ·have hn:∀ r,l≠httpL++r:=fun r h=>hp ⟨r,h⟩
  rw [ver_no hn]
  have C:=Hy (fun w'=>cut_no l hn w')
  go_enter Tryz.func56,Tryz.ntmps56
  go_wp2_with (go_at_call 83;refine (C.out _).mono ?_;rintro e w1 ⟨rfl,rfl⟩)
  go_ret2
  exact ⟨rfl,rfl⟩
theorem slt_fld:SlT Tryz.prog 34 72 (.agg #[.string ⟨#[]⟩,.string ⟨#[]⟩]) 2 32:=⟨Tryz.underlying34,by kernel_rfl,rfl,by omega⟩
theorem fc_app (a b:List Fld):fc (a++b)=fc a++fc b:=by simp [fc]
theorem demand_yes (e:Int) (w:World):Calls Tryz.prog 53 #[.bool true,.int .i64 e] w fun r w'=>r=.returned (.tuple #[])∧w=w':=by
 go_enter Tryz.func53,Tryz.ntmps53
 go_wp2
 go_end0
 exact ⟨rfl,rfl⟩
theorem demand_no (e:Int) (w:World):Calls Tryz.prog 53 #[.bool false,.int .i64 e] w fun r w'=>r=.panicked [{ v:=.iface 25 (.int .i64 e),recovered:=false }]∧w=w':=by
 go_enter Tryz.func53,Tryz.ntmps53
 go_wp2
 simp [bodyPost]
def Gups (ok:Bool) (e:Int) (w:World) (r:Ending) (w':World):Prop:=(ok=true→r=.returned (.tuple #[]))∧(ok=false→r=.panicked [{ v:=.iface 25 (.int .i64 e),recovered:=false }])∧w=w'
theorem demand_c (ok:Bool) (e:Int) (w:World):Calls Tryz.prog 53 #[.bool ok,.int .i64 e] w (Gups ok e w):=by
 cases ok with
 | true=>exact (demand_yes e w).mono (by rintro r w' ⟨rfl,rfl⟩;exact ⟨fun _=>rfl,fun h=>(by cases h),rfl⟩)
 | false=>exact (demand_no e w).mono (by rintro r w' ⟨rfl,rfl⟩;exact ⟨fun h=>(by cases h),fun _=>rfl,rfl⟩)
def Pow (w : World) : Prop := Lib.TabIs Tryz.prog w "internal/strconv.uint64pow10" .u64 Lib.pow10Tab
theorem gPow : Tryz.prog.globalNamed "internal/strconv.uint64pow10" = some 0 := by kernel_rfl
theorem Pow.ext {w w':World} (h:Pow w) (e:Ext w w'):Pow w':=by
 have h0:=h.cell gPow 0 (by rw [Lib.pow10Tab_length];omega)
 exact var?_below e gPow (lt_of_cell h0) h
def decB (n:Int):ByteArray:=str (Lib.itoa n)
theorem Digits_c (n:Int) (w:World) (h:Pow w) (h0:-9223372036854775808≤n) (h1:n≤9223372036854775807) :
  Calls Tryz.prog 18 #[.int .i64 n] w (Gives (.string (decB n)) w):=by
 go_enter Tryz.func18,Tryz.ntmps18
 go_wp2_with (go_at_call 31;refine (Tryz.strconv_Itoa n h0 h1 _ h).mono ?_;rintro e w1 ⟨rfl,k,os,rfl⟩)
 go_ret
 exact ⟨rfl,Lib.below_grow _ _ (Nat.le_refl _) _ _⟩
structure QAt (T:TypeId) (w:World) (o:Ow) (k p:Nat) (l:List UInt8) (lim:Nat):Prop where
 own:o p=k
 lo:1≤lim
 hi:lim≤1048576
 le:l.length≤lim
 at_:∃ A c,w.heap[p]?=some (.cells #[.slice A l.length c,.int .i64 (lim:Int)] T (0,0))∧Sl w o (k+1) 1 A l.length c (bc l)∧(A=none→c=0)
def KQ (k:Nat) (i:Nat):Prop:=i=k∨i=k+1
theorem QAt.put {T:TypeId} {w w':World} {o o':Ow} {k p lim n c:Nat} {l l':List UInt8} {A:Option Addr} (h:QAt T w o k p l lim) (s:Stp (fun i=>i=k+1) w o w' o') (hl:l'.length≤lim) (hn:n=l'.length) (hs:Sl w' o' (k+1) 1 A n c (bc l')) (ha:A=none→c=0) :
  QAt T (w'.setCell ⟨p,0,none⟩ (.slice A n c)) o' k p l' lim∧Stp (KQ k) w o (w'.setCell ⟨p,0,none⟩ (.slice A n c)) o':=by
 subst hn
 obtain ⟨A0,c0,hh,_,_⟩:=h.at_
 have hp:o' p=k:=by rw [s.own p (row_lt hh)];exact h.own
 have hh':w'.heap[p]?=_:=(s.keep p (row_lt hh) (by rw [h.own];omega)).trans hh
 have st:Stp (fun i=>i=k) w' o' (w'.setCell ⟨p,0,none⟩ (.slice A l'.length c)) o':=Stp.set p 0 _ (fun _=>hp)
 exact ⟨⟨hp,h.lo,h.hi,hl,A,c,row_set hh' 0 _,hs.stp st (by omega),ha⟩,(s.mono fun i hi=>.inr hi).tr (st.mono fun i hi=>.inl hi)⟩
theorem QAt.stp {T:TypeId} {K:Nat→Prop} {w w':World} {o o':Ow} {k p lim:Nat} {l:List UInt8} (h:QAt T w o k p l lim) (s:Stp K w o w' o') (h0:¬ K k) (h1:¬ K (k+1)):QAt T w' o' k p l lim:=by
 obtain ⟨A,c,hh,hs,hn⟩:=h.at_
 exact ⟨by rw [s.own p (row_lt hh)];exact h.own,h.lo,h.hi,h.le,A,c,by rw [s.keep p (row_lt hh) (by rw [h.own];exact h0)];exact hh,hs.stp s h1,hn⟩
theorem QAt.ext {T:TypeId} {w w':World} {o:Ow} {k p lim:Nat} {l:List UInt8} (h:QAt T w o k p l lim) (e:Ext w w'):QAt T w' o k p l lim:=h.stp (K:=fun _=>False) (Stp.ext e) (fun x=>x) (fun x=>x)
def digV (b:UInt8):Nat:=if b.toNat≤57 then b.toNat-48 else b.toNat-87
def isDig (B:Nat) (b:UInt8):Bool:=((decide (48≤b.toNat) && decide (b.toNat≤57)) || (decide (97≤b.toNat) && decide (b.toNat≤102))) && decide (digV b<B)
def valF (B:Nat) (a:Nat) (l:List UInt8):Nat:=l.foldl (fun a b=>a*B+digV b) a
def valL (B:Nat) (l:List UInt8):Nat:=valF B 0 l
theorem valF_cons (B a:Nat) (b:UInt8) (l:List UInt8):valF B a (b::l)=valF B (a*B+digV b) l:=rfl
theorem valF_ge (B:Nat) (hB:1≤B):∀ (l:List UInt8) (a:Nat),a≤valF B a l
 | [],a=>Nat.le_refl _
 | b::l,a=>by
  rw [valF_cons]
  have h1:=valF_ge B hB l (a*B+digV b)
  have h2:a≤a*B:=Nat.le_mul_of_pos_right a hB
  omega
def puV (t:TypeId) (n:Nat):Value:=if n<9223372036854775808 then .tuple #[.int .u64 (n:Int),.nilIface] else .tuple #[.int .u64 9223372036854775807,.iface t (.int .i64 1)]
theorem puV_lt {t:TypeId} {n:Nat} (h:n<9223372036854775808):puV t n=.tuple #[.int .u64 (n:Int),.nilIface]:=by unfold puV;rw [if_pos h]
theorem puV_ge {t:TypeId} {n:Nat} (h:9223372036854775808≤n):puV t n=.tuple #[.int .u64 9223372036854775807,.iface t (.int .i64 1)]:=by unfold puV;rw [if_neg (by omega)]
theorem or32:∀ c:Nat,c<256→97≤c→c≤102→bits .or .u8 (c:Int) 32=(c:Int):=by decide +kernel
theorem pulow_c (c:Int) (w:World):Calls Tryz.prog 156 #[.int .u8 c] w fun e w'=>e=.returned (.int .u8 (bits .or .u8 c 32))∧w=w':=by
 go_enter Tryz.func156,Tryz.ntmps156
 go_wp2
 go_ret
 exact ⟨rfl,rfl⟩
def numL (B most:Nat) (l:List UInt8):Int × Int :=
 if l=[]∨(lowL l).all (isDig B)=false then (0,21) else if valL B (lowL l)≤most then ((valL B (lowL l):Int),0) else (0,11)
def cutW12 (c:UInt8):List UInt8→Option (List UInt8 × List UInt8)
 | []=>none
 | b::l=>if b=c then some ([],l) else (cutW12 c l).map fun p=>(b::p.1,p.2)
theorem cutW_no12 {c:UInt8}:∀ {l:List UInt8},c∉l→cutW12 c l=none
 | [],_=>rfl
 | b::l,h=>by
  have h1:¬ b=c:=fun e=>h (by rw [e];exact List.mem_cons_self)
  have h2:=cutW_no12 (l:=l) (fun e=>h (List.mem_cons_of_mem _ e))
  unfold cutW12
  rw [if_neg h1,h2];rfl
theorem cutW_at12 {c:UInt8}:∀ {a:List UInt8} (r:List UInt8),c∉a→cutW12 c (a++c::r)=some (a,r)
 | [],r,_=>by simp [cutW12]
 | b::a,r,h=>by
  have h1:¬ b=c:=fun e=>h (by rw [e];exact List.mem_cons_self)
  have h2:=cutW_at12 (a:=a) r (fun e=>h (List.mem_cons_of_mem _ e))
  show cutW12 c (b::(a++c::r))=_
  unfold cutW12
  rw [if_neg h1,h2];rfl
def tokL12 (l:List UInt8):Bool:=(l.all fun b=>tokB b.toNat) && decide (0<l.length)
def vlL12 (l:List UInt8):Bool:=(l.all fun b=>valB b.toNat) && endsB l
def fldV12 (l:List UInt8):Option Fld :=
 match cutW12 58 l with
 | none=>none
 | some (a,r)=>if (tokL12 a && vlL12 (trimL r))=true then some (a,trimL r) else none
theorem fc_one12 (fs:List Fld):∀ u∈fc fs,u.oneCell'=true:=by
 intro u hu
 obtain ⟨p,_,hp⟩:=List.mem_flatMap.1 hu
 simp only [List.mem_cons,List.mem_nil_iff,or_false] at hp
 rcases hp with rfl | rfl <;> rfl
structure Rst where
 kind:Nat
 n:Nat
 most:Nat
 all:Nat
 state:Nat
 left:Nat
 line:List UInt8
 cr:Bool
 tail:List Fld
 done:Bool
 e:Int
 body:List UInt8
def textF (s:Rst) (c:UInt8):Rst × Option (List UInt8) × Int :=
 if s.cr=true then
  if c=10 then ({ s with cr:=false,line:=[] },some s.line,0) else (s,none,22)
 else if c=13 then ({ s with cr:=true },none,0)
 else if valB c.toNat=true then
  if s.line.length<8192 then ({ s with line:=s.line++[c] },none,0) else (s,none,44)
 else (s,none,22)
def szN (l:List UInt8):Nat:=(l.takeWhile fun b=>!(b == 59 || b == 32 || b == 9)).length
def hexV (l:List UInt8):Int × Int:=numL 16 1152921504606846976 l
def szG (l:List UInt8):Bool:=decide ((hexV (l.take (szN l))).2=0) && decide (szN l≤15) && ((trimL (l.drop (szN l))).isEmpty || decide ((trimL (l.drop (szN l)))[0]?=some 59))
def szV (l:List UInt8):Int:=(hexV (l.take (szN l))).1
def sizeL (s:Rst) (l:List UInt8):Rst × Int :=
 if szG l=true then
  if szV l≤(s.most:Int)-s.all then ({ s with state:=if szV l=0 then 4 else 2,left:=(szV l).toNat },0) else (s,6)
 else (s,45)
def tailL (s:Rst) (l:List UInt8):Rst × Int :=
 if l=[] then ({ s with done:=true },0) else
 match fldV12 l with
 | none=>(s,42)
 | some p=>if s.tail.length<100 then ({ s with tail:=s.tail++[p] },0) else (s,44)
def plainF (s:Rst) (c:UInt8):Rst × Int :=
 if s.all<s.most then ({ s with all:=s.all+1,body:=s.body++[c],done:=decide (s.kind=1) && decide (s.all+1=s.n) },0) else (s,6)
def sizeF (s:Rst) (c:UInt8):Rst × Int :=
 match textF s c with
 | (t,none,e)=>(t,e)
 | (t,some l,_)=>sizeL t l
def dataF (s:Rst) (c:UInt8):Rst × Int :=
 if s.left=1 then ({ s with all:=s.all+1,body:=s.body++[c],state:=3,left:=2 },0) else ({ s with all:=s.all+1,body:=s.body++[c],left:=s.left-1 },0)
def behindF (s:Rst) (c:UInt8):Rst × Int :=
 if c=(if s.left=2 then 13 else 10) then (if s.left=1 then ({ s with left:=0,state:=1 },0) else ({ s with left:=s.left-1 },0)) else (s,45)
def trailF (s:Rst) (c:UInt8):Rst × Int :=
 match textF s c with
 | (t,none,e)=>(t,e)
 | (t,some l,_)=>tailL t l
def takeF (s:Rst) (c:UInt8):Rst × Int :=
 if s.state=0 then plainF s c else if s.state=1 then sizeF s c else if s.state=2 then dataF s c else if s.state=3 then behindF s c else trailF s c
def readyF (s:Rst):Rst × Int :=
 if s.kind=0 then ({ s with done:=true },0)
 else if s.kind=1 then (if s.n≤s.most then ({ s with done:=decide (s.all=s.n) },0) else (s,6))
 else (s,0)
def runF (s:Rst):List UInt8→Rst × Nat × Int
 | []=>(s,0,0)
 | c::l=>if s.done=true then (s,0,0) else let r:=takeF s c
  if r.2≠0 then (r.1,1,r.2) else let q:=runF r.1 l;(q.1,q.2.1+1,q.2.2)
def goF (s:Rst) (b:List UInt8):Rst × Nat :=
 if s.done=true∨s.e≠0 then (s,0) else
 let r:=readyF s
 if r.2≠0 then ({ r.1 with e:=r.2 },0) else let q:=runF r.1 b;({ q.1 with e:=q.2.2 },q.2.1)
def feedF (s:Rst) (b:List UInt8):Rst × Nat × List UInt8 × Bool × Int :=
 let q:=goF s b
 ({ q.1 with body:=[] },q.2,q.1.body,q.1.done,q.1.e)
structure Rok (s:Rst):Prop where
 e0:s.e=0
 mo:s.most≤1048576
 al:s.all≤s.most
 kd:s.kind≤3
 nn:s.n<9223372036854775808
 st:s.state≤4
 ck:s.kind=2↔s.state≠0
 ln:s.line.length≤8192
 fl:s.tail.length≤100
 bl:s.body.length≤s.all
 l2:s.state=2→1≤s.left∧s.all+s.left≤s.most
 l3:s.state=3→s.left=1∨s.left=2
def newF (kind n most:Nat):Rst:=⟨kind,n,most,0,if kind=2 then 1 else 0,0,[],false,[],false,0,[]⟩
end Go.Proofs.YthbofilcnpdghaaGreatDoor
end
