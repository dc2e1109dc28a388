/-
Rows of digits to the bases 10 and 16, read by the library's ParseUint at 63 bits.
-/
import Derived.Test.YtmnohicojefhfaaGreatDoorASb
import Derived.Test.YtmnohicojefhfaaGreatDoorUPn
set_option maxRecDepth 100000
set_option maxHeartbeats 8000000
set_option linter.unusedVariables false
set_option linter.unusedSimpArgs false
section
namespace Go.Proofs.YtmnohicojefhfaaGreatDoor
open Go.RowKit
def digV (b:UInt8):Nat:=if b.toNat ≤ 57 then b.toNat - 48 else b.toNat - 87
def isDig (B:Nat) (b:UInt8):Bool:=((decide (48 ≤ b.toNat) && decide (b.toNat ≤ 57)) || (decide (97 ≤ b.toNat) && decide (b.toNat ≤ 102))) && decide (digV b < B)
def valF (B:Nat) (a:Nat) (l:List UInt8):Nat:=l.foldl (fun a b=>a * B + digV b) a
def valL (B:Nat) (l:List UInt8):Nat:=valF B 0 l
theorem valF_cons (B a:Nat) (b:UInt8) (l:List UInt8):valF B a (b :: l)=valF B (a * B + digV b) l:=rfl
theorem valF_ge (B:Nat) (hB:1 ≤ B):∀ (l:List UInt8) (a:Nat),a ≤ valF B a l
 | [],a=>Nat.le_refl _
 | b :: l,a=>by
  rw [valF_cons]
  have h1:=valF_ge B hB l (a * B + digV b)
  have h2:a ≤ a * B:=Nat.le_mul_of_pos_right a hB
  omega
def puV (t:TypeId) (n:Nat):Value:=if n < 9223372036854775808 then .tuple #[.int .u64 (n:Int),.nilIface] else .tuple #[.int .u64 9223372036854775807,.iface t (.int .i64 1)]
theorem puV_lt {t:TypeId} {n:Nat} (h:n < 9223372036854775808):puV t n=.tuple #[.int .u64 (n:Int),.nilIface]:=by unfold puV; rw [if_pos h]
theorem puV_ge {t:TypeId} {n:Nat} (h:9223372036854775808 ≤ n):puV t n=.tuple #[.int .u64 9223372036854775807,.iface t (.int .i64 1)]:=by unfold puV; rw [if_neg (by omega)]
end Go.Proofs.YtmnohicojefhfaaGreatDoor
end
section
namespace Go.Proofs.YtmnohicojefhfaaGreatDoor
open Go.RowKit
def worthV (B:Int) (c:Nat):Int :=
 let n:Int:=if 48 ≤ c∧c ≤ 57 then (c:Int) - 48 else if 97 ≤ c∧c ≤ 102 then (c:Int) - 87 else if 65 ≤ c∧c ≤ 70 then (c:Int) - 55 else -1
 if B ≤ n then -1 else n
def numL (B most:Nat) (l:List UInt8):Int × Int :=
 if l=[] ∨ (lowL l).all (isDig B)=false then (0,21) else if valL B (lowL l) ≤ most then ((valL B (lowL l):Int),0) else (0,11)
theorem worth_dig (B:Nat) (hB:B ≤ 16):∀ c:Nat,c < 256 → (isDig B (lowB c.toUInt8)=true∧worthV B c=(digV (lowB c.toUInt8):Int)∧digV (lowB c.toUInt8) < B) ∨ (isDig B (lowB c.toUInt8)=false∧worthV B c=-1):=by
 have:∀ B:Fin 17,∀ c:Fin 256,(isDig B (lowB c.val.toUInt8)=true∧worthV B.val c=(digV (lowB c.val.toUInt8):Int)∧digV (lowB c.val.toUInt8) < B.val) ∨ (isDig B.val (lowB c.val.toUInt8)=false∧worthV B.val c=-1):=by decide +kernel
 intro c hc
 exact this ⟨B,by omega⟩ ⟨c,hc⟩
theorem worth_u8 (B:Nat) (hB:B ≤ 16) (b:UInt8):(isDig B (lowB b)=true∧worthV B b.toNat=(digV (lowB b):Int)∧digV (lowB b) < B) ∨ (isDig B (lowB b)=false∧worthV B b.toNat=-1):=by
 have:=worth_dig B hB b.toNat (UInt8.toNat_lt b)
 simpa using this
theorem worth_c (B:Int) (hB0:1 ≤ B) (hB1:B ≤ 16) (c:Nat) (hc:c < 256) (w:World) :
  Calls Tryz.prog 188 #[.int .u8 (c:Int),.int .i64 B] w fun e w'=>e=.returned (.int .i64 (worthV B c))∧w=w':=by
 rcases (show c ≤ 47 ∨ (48 ≤ c∧c ≤ 57) ∨ (58 ≤ c∧c ≤ 64) ∨ (65 ≤ c∧c ≤ 70) ∨ (71 ≤ c∧c ≤ 96) ∨ (97 ≤ c∧c ≤ 102) ∨ 103 ≤ c from by omega) with h1 | ⟨h1,h2⟩ | ⟨h1,h2⟩ | ⟨h1,h2⟩ | ⟨h1,h2⟩ | ⟨h1,h2⟩ | h1
 ·have e:worthV B c=if B ≤ (-1:Int) then -1 else (-1:Int):=by
   unfold worthV
   dsimp only
   repeat' split
   all_goals (first | rfl | omega)
  by_cases hB:B ≤ (-1:Int)
  ·rw [e,if_pos hB]
   clear e
   go_enter Tryz.func188,Tryz.ntmps188
   go_wp2
   all_goals go_ret
   all_goals exact ⟨rfl,rfl⟩
  ·rw [e,if_neg hB]
   clear e
   go_enter Tryz.func188,Tryz.ntmps188
   go_wp2
   all_goals go_ret
   all_goals first | exact ⟨rfl,rfl⟩ | exact ⟨ret_int (by omega),rfl⟩
 ·have e:worthV B c=if B ≤ ((c:Int) - 48) then -1 else ((c:Int) - 48):=by
   unfold worthV
   dsimp only
   repeat' split
   all_goals (first | rfl | omega)
  by_cases hB:B ≤ ((c:Int) - 48)
  ·rw [e,if_pos hB]
   clear e
   go_enter Tryz.func188,Tryz.ntmps188
   go_wp2
   all_goals go_ret
   all_goals exact ⟨rfl,rfl⟩
  ·rw [e,if_neg hB]
   clear e
   go_enter Tryz.func188,Tryz.ntmps188
   go_wp2
   all_goals go_ret
   all_goals first | exact ⟨rfl,rfl⟩ | exact ⟨ret_int (by omega),rfl⟩
 ·have e:worthV B c=if B ≤ (-1:Int) then -1 else (-1:Int):=by
   unfold worthV
   dsimp only
   repeat' split
   all_goals (first | rfl | omega)
  by_cases hB:B ≤ (-1:Int)
  ·rw [e,if_pos hB]
   clear e
   go_enter Tryz.func188,Tryz.ntmps188
   go_wp2
   all_goals go_ret
   all_goals exact ⟨rfl,rfl⟩
  ·rw [e,if_neg hB]
   clear e
   go_enter Tryz.func188,Tryz.ntmps188
   go_wp2
   all_goals go_ret
   all_goals first | exact ⟨rfl,rfl⟩ | exact ⟨ret_int (by omega),rfl⟩
 ·have e:worthV B c=if B ≤ ((c:Int) - 55) then -1 else ((c:Int) - 55):=by
   unfold worthV
   dsimp only
   repeat' split
   all_goals (first | rfl | omega)
  by_cases hB:B ≤ ((c:Int) - 55)
  ·rw [e,if_pos hB]
   clear e
   go_enter Tryz.func188,Tryz.ntmps188
   go_wp2
   all_goals go_ret
   all_goals exact ⟨rfl,rfl⟩
  ·rw [e,if_neg hB]
   clear e
   go_enter Tryz.func188,Tryz.ntmps188
   go_wp2
   all_goals go_ret
   all_goals first | exact ⟨rfl,rfl⟩ | exact ⟨ret_int (by omega),rfl⟩
 ·have e:worthV B c=if B ≤ (-1:Int) then -1 else (-1:Int):=by
   unfold worthV
   dsimp only
   repeat' split
   all_goals (first | rfl | omega)
  by_cases hB:B ≤ (-1:Int)
  ·rw [e,if_pos hB]
   clear e
   go_enter Tryz.func188,Tryz.ntmps188
   go_wp2
   all_goals go_ret
   all_goals exact ⟨rfl,rfl⟩
  ·rw [e,if_neg hB]
   clear e
   go_enter Tryz.func188,Tryz.ntmps188
   go_wp2
   all_goals go_ret
   all_goals first | exact ⟨rfl,rfl⟩ | exact ⟨ret_int (by omega),rfl⟩
 ·have e:worthV B c=if B ≤ ((c:Int) - 87) then -1 else ((c:Int) - 87):=by
   unfold worthV
   dsimp only
   repeat' split
   all_goals (first | rfl | omega)
  by_cases hB:B ≤ ((c:Int) - 87)
  ·rw [e,if_pos hB]
   clear e
   go_enter Tryz.func188,Tryz.ntmps188
   go_wp2
   all_goals go_ret
   all_goals exact ⟨rfl,rfl⟩
  ·rw [e,if_neg hB]
   clear e
   go_enter Tryz.func188,Tryz.ntmps188
   go_wp2
   all_goals go_ret
   all_goals first | exact ⟨rfl,rfl⟩ | exact ⟨ret_int (by omega),rfl⟩
 ·have e:worthV B c=if B ≤ (-1:Int) then -1 else (-1:Int):=by
   unfold worthV
   dsimp only
   repeat' split
   all_goals (first | rfl | omega)
  by_cases hB:B ≤ (-1:Int)
  ·rw [e,if_pos hB]
   clear e
   go_enter Tryz.func188,Tryz.ntmps188
   go_wp2
   all_goals go_ret
   all_goals exact ⟨rfl,rfl⟩
  ·rw [e,if_neg hB]
   clear e
   go_enter Tryz.func188,Tryz.ntmps188
   go_wp2
   all_goals go_ret
   all_goals first | exact ⟨rfl,rfl⟩ | exact ⟨ret_int (by omega),rfl⟩
end Go.Proofs.YtmnohicojefhfaaGreatDoor
end
section
namespace Go.Proofs.YtmnohicojefhfaaGreatDoor
open Go.RowKit
theorem all_succ_l (l:List UInt8) (p:UInt8 → Bool) (k:Nat) (h:k < l.length):(l.take (k + 1)).all p=((l.take k).all p && p l[k]):=by
 rw [List.take_succ_eq_append_getElem h,List.all_append]; simp only [List.all_cons,List.all_nil,Bool.and_true]
theorem low_all (l:List UInt8) (p:UInt8 → Bool):(lowL l).all p=l.all fun b=>p (lowB b):=by unfold lowL; rw [List.all_map]; rfl
theorem valF_app (B:Nat):∀ (a:Nat) (l m:List UInt8),valF B a (l ++ m)=valF B (valF B a l) m:=by
 intro a l m; unfold valF; rw [List.foldl_append]
theorem val_succ (B:Nat) (l:List UInt8) (k:Nat) (h:k < l.length):valL B (lowL (l.take (k + 1)))=valL B (lowL (l.take k)) * B + digV (lowB l[k]):=by
 unfold valL
 rw [List.take_succ_eq_append_getElem h]
 unfold lowL
 rw [List.map_append,valF_app]; rfl
theorem val_mono (B:Nat) (hB:1 ≤ B) (l:List UInt8) (k:Nat):valL B (lowL (l.take k)) ≤ valL B (lowL l):=by
 have e:lowL l=lowL (l.take k) ++ lowL (l.drop k):=by unfold lowL; rw [← List.map_append,List.take_append_drop]
 unfold valL
 conv=>rhs; rw [e]
 rw [valF_app]
 exact valF_ge B hB _ _
theorem numL_nil (B most:Nat):numL B most []=(0,21):=by unfold numL; rw [if_pos (.inl rfl)]
theorem numL_bad (B most:Nat) (l:List UInt8) (k:Nat) (hk:k < l.length) (h:isDig B (lowB l[k])=false):numL B most l=(0,21):=by
 unfold numL
 refine if_pos (.inr ?_)
 rw [low_all,Bool.eq_false_iff]
 intro ha
 have:=List.all_eq_true.1 ha l[k] (List.getElem_mem hk)
 simp only [h] at this
 cases this
theorem numL_good (B most:Nat) (l:List UInt8) (h0:0 < l.length) (h:(l.all fun b=>isDig B (lowB b))=true):numL B most l=if valL B (lowL l) ≤ most then ((valL B (lowL l):Int),0) else (0,11):=by
 unfold numL
 rw [if_neg]
 rw [low_all,h]
 intro hh
 rcases hh with hh | hh
 ·subst hh; simp at h0
 ·cases hh
theorem rnumber10_c (l:List UInt8) (hs:l.length ≤ maxLen) (w:World) :
  Calls Tryz.prog 167 #[.string (str l),.int .i64 10,.int .i64 1000000000000000000] w (Gives (.tuple #[.int .i64 (numL 10 1000000000000000000 l).1,.int .i64 (numL 10 1000000000000000000 l).2]) w):=by
 unfold maxLen at hs
 generalize hN:numL 10 1000000000000000000 l=N
 have HN:=Lib.hid hN
 clear hN
 by_cases h0:0 < l.length
 ·have hne:((l.length:Int) == 0)=false:=by rw [beq_eq_false_iff_ne]; omega
  go_enter Tryz.func167,Tryz.ntmps167
  go_wp2
  go_loopw [8] (fun i wr=>∃ k:Nat,k ≤ l.length∧i=.int .i64 k∧((l.take k).all fun b=>isDig 10 (lowB b))=true∧w=wr) (fun i _=>l.length - (intOf i).toNat)
  case atStart=>exact ⟨0,Nat.zero_le _,rfl,rfl,rfl⟩
  case round =>
   obtain ⟨k,hk,rfl,hall,rfl⟩:=hrel
   have HA:=Lib.hid hall
   clear hall
   by_cases hlt:k < l.length
   ·have hsucc:=all_succ_l l (fun b=>isDig 10 (lowB b)) k hlt
    rw [HA.out] at hsucc
    have HS:=Lib.hid hsucc
    clear hsucc
    have h256:=UInt8.toNat_lt l[k]
    rcases worth_u8 10 (by omega) l[k] with ⟨hg,hv,hd⟩ | ⟨hg,hv⟩
    ·have HG:=Lib.hid hg
     have HV:=Lib.hid hv
     have hd0:¬ ((digV (lowB l[k]):Int) < 0):=by omega
     clear hg hv hd
     go_wp2_with (go_at_call 188; refine (worth_c 10 (by omega) (by omega) _ h256 _).mono ?_; rintro e w1 ⟨rfl,rfl⟩; rw [show worthV 10 l[k].toNat=_ from HV.out])
     go_roundw
     case rel=>exact ⟨k + 1,by omega,by go_num,by rw [HS.out,HG.out]; rfl,by trivial⟩
     case measure=>simp [intOf]; omega
    ·have HG:=Lib.hid hg
     have HV:=Lib.hid hv
     clear hg hv
     go_wp2_with (go_at_call 188; refine (worth_c 10 (by omega) (by omega) _ h256 _).mono ?_; rintro e w1 ⟨rfl,rfl⟩; rw [show worthV 10 l[k].toNat=_ from HV.out])
     go_ret2
     exact ⟨ret_val (by rw [← HN.out,numL_bad _ _ l k hlt HG.out]; rfl),Ext.rfl' _⟩
   ·obtain rfl:k=l.length:=by omega
    rw [List.take_of_length_le (Nat.le_refl _)] at HA
    have hgood:=numL_good 10 1000000000000000000 l h0 HA.out
    rw [HN.out] at hgood
    have HGD:=Lib.hid hgood
    clear hgood
    go_wp2
    go_loopw [9,10] (fun n i wr=>∃ k acc:Nat,k ≤ l.length∧i=.int .i64 k∧n=.int .i64 acc∧Hid (acc=valL 10 (lowL (l.take k)))∧acc ≤ 1000000000000000000∧w=wr) (fun _ i _=>l.length - (intOf i).toNat)
    case atStart=>exact ⟨0,0,Nat.zero_le _,rfl,rfl,Lib.hid rfl,Nat.zero_le _,rfl⟩
    case round =>
     obtain ⟨k,acc,hk,rfl,rfl,HAC,hac,rfl⟩:=hrel
     by_cases hlt:k < l.length
     ·have h256:=UInt8.toNat_lt l[k]
      have hvs:=val_succ 10 l k hlt
      rw [← HAC.out] at hvs
      have hvm:=val_mono 10 (by omega) l (k + 1)
      rw [hvs] at hvm
      have HVS:=Lib.hid hvs
      have HVM:=Lib.hid hvm
      clear hvs hvm
      have hdig:=List.all_eq_true.1 HA.out l[k] (List.getElem_mem hlt)
      rcases worth_u8 10 (by omega) l[k] with ⟨hg,hv,hd⟩ | ⟨hg,hv⟩
      ·have HV:=Lib.hid hv
       clear hg hv hdig
       obtain ⟨d,hdd⟩:∃ d,d=digV (lowB l[k]):=⟨_,rfl⟩
       rw [← hdd] at hd HV HVS HVM
       clear hdd
       by_cases hbig:1000000000000000000 < acc * 10 + d
       ·have hgt:(((1000000000000000000:Nat):Int) - (d:Int)) / ((10:Nat):Int) < (acc:Int):=by omega
        have hnn:(0:Int) ≤ ((1000000000000000000:Nat):Int) - (d:Int):=by omega
        have hgt':(1000000000000000000 - (d:Int)).tdiv 10 < (acc:Int):=by rw [Int.tdiv_eq_ediv_of_nonneg (by omega)]; omega
        have hval:¬ valL 10 (lowL l) ≤ 1000000000000000000:=by have:=HVM.out; omega
        rw [if_neg hval] at HGD
        clear hval hbig
        go_wp2_with (go_at_call 188; refine (worth_c 10 (by omega) (by omega) _ h256 _).mono ?_; rintro e w1 ⟨rfl,rfl⟩; rw [show worthV 10 l[k].toNat=_ from HV.out])
        go_ret2
        exact ⟨ret_val (by rw [HGD.out]; rfl),Ext.rfl' _⟩
       ·have hle:¬ (((1000000000000000000:Nat):Int) - (d:Int)) / ((10:Nat):Int) < (acc:Int):=by omega
        have hnn:(0:Int) ≤ ((1000000000000000000:Nat):Int) - (d:Int):=by omega
        have hgt':¬ (1000000000000000000 - (d:Int)).tdiv 10 < (acc:Int):=by rw [Int.tdiv_eq_ediv_of_nonneg (by omega)]; omega
        have hb1:(acc:Int) * 10 + d ≤ 1000000000000000000:=by omega
        go_wp2_with (go_at_call 188; refine (worth_c 10 (by omega) (by omega) _ h256 _).mono ?_; rintro e w1 ⟨rfl,rfl⟩; rw [show worthV 10 l[k].toNat=_ from HV.out])
        go_roundw
        case rel=>exact ⟨k + 1,acc * 10 + d,by omega,by go_num,by go_num,Lib.hid HVS.out.symm,by omega,by trivial⟩
        case measure=>simp [intOf]; omega
      ·rw [hg] at hdig; cases hdig
     ·obtain rfl:k=l.length:=by omega
      rw [List.take_of_length_le (Nat.le_refl _)] at HAC
      rw [← HAC.out,if_pos hac] at HGD
      go_wp2
      go_ret2
      exact ⟨ret_val (by rw [HGD.out]; rfl),Ext.rfl' _⟩
 ·obtain rfl:l=[]:=List.eq_nil_of_length_eq_zero (by omega)
  rw [numL_nil] at HN
  go_enter Tryz.func167,Tryz.ntmps167
  go_wp2
  go_ret2
  exact ⟨ret_val (by rw [← HN.out]; rfl),Ext.rfl' _⟩
theorem rnumber16_c (l:List UInt8) (hs:l.length ≤ maxLen) (w:World) :
  Calls Tryz.prog 167 #[.string (str l),.int .i64 16,.int .i64 1152921504606846976] w (Gives (.tuple #[.int .i64 (numL 16 1152921504606846976 l).1,.int .i64 (numL 16 1152921504606846976 l).2]) w):=by
 unfold maxLen at hs
 generalize hN:numL 16 1152921504606846976 l=N
 have HN:=Lib.hid hN
 clear hN
 by_cases h0:0 < l.length
 ·have hne:((l.length:Int) == 0)=false:=by rw [beq_eq_false_iff_ne]; omega
  go_enter Tryz.func167,Tryz.ntmps167
  go_wp2
  go_loopw [8] (fun i wr=>∃ k:Nat,k ≤ l.length∧i=.int .i64 k∧((l.take k).all fun b=>isDig 16 (lowB b))=true∧w=wr) (fun i _=>l.length - (intOf i).toNat)
  case atStart=>exact ⟨0,Nat.zero_le _,rfl,rfl,rfl⟩
  case round =>
   obtain ⟨k,hk,rfl,hall,rfl⟩:=hrel
   have HA:=Lib.hid hall
   clear hall
   by_cases hlt:k < l.length
   ·have hsucc:=all_succ_l l (fun b=>isDig 16 (lowB b)) k hlt
    rw [HA.out] at hsucc
    have HS:=Lib.hid hsucc
    clear hsucc
    have h256:=UInt8.toNat_lt l[k]
    rcases worth_u8 16 (by omega) l[k] with ⟨hg,hv,hd⟩ | ⟨hg,hv⟩
    ·have HG:=Lib.hid hg
     have HV:=Lib.hid hv
     have hd0:¬ ((digV (lowB l[k]):Int) < 0):=by omega
     clear hg hv hd
     go_wp2_with (go_at_call 188; refine (worth_c 16 (by omega) (by omega) _ h256 _).mono ?_; rintro e w1 ⟨rfl,rfl⟩; rw [show worthV 16 l[k].toNat=_ from HV.out])
     go_roundw
     case rel=>exact ⟨k + 1,by omega,by go_num,by rw [HS.out,HG.out]; rfl,by trivial⟩
     case measure=>simp [intOf]; omega
    ·have HG:=Lib.hid hg
     have HV:=Lib.hid hv
     clear hg hv
     go_wp2_with (go_at_call 188; refine (worth_c 16 (by omega) (by omega) _ h256 _).mono ?_; rintro e w1 ⟨rfl,rfl⟩; rw [show worthV 16 l[k].toNat=_ from HV.out])
     go_ret2
     exact ⟨ret_val (by rw [← HN.out,numL_bad _ _ l k hlt HG.out]; rfl),Ext.rfl' _⟩
   ·obtain rfl:k=l.length:=by omega
    rw [List.take_of_length_le (Nat.le_refl _)] at HA
    have hgood:=numL_good 16 1152921504606846976 l h0 HA.out
    rw [HN.out] at hgood
    have HGD:=Lib.hid hgood
    clear hgood
    go_wp2
    go_loopw [9,10] (fun n i wr=>∃ k acc:Nat,k ≤ l.length∧i=.int .i64 k∧n=.int .i64 acc∧Hid (acc=valL 16 (lowL (l.take k)))∧acc ≤ 1152921504606846976∧w=wr) (fun _ i _=>l.length - (intOf i).toNat)
    case atStart=>exact ⟨0,0,Nat.zero_le _,rfl,rfl,Lib.hid rfl,Nat.zero_le _,rfl⟩
    case round =>
     obtain ⟨k,acc,hk,rfl,rfl,HAC,hac,rfl⟩:=hrel
     by_cases hlt:k < l.length
     ·have h256:=UInt8.toNat_lt l[k]
      have hvs:=val_succ 16 l k hlt
      rw [← HAC.out] at hvs
      have hvm:=val_mono 16 (by omega) l (k + 1)
      rw [hvs] at hvm
      have HVS:=Lib.hid hvs
      have HVM:=Lib.hid hvm
      clear hvs hvm
      have hdig:=List.all_eq_true.1 HA.out l[k] (List.getElem_mem hlt)
      rcases worth_u8 16 (by omega) l[k] with ⟨hg,hv,hd⟩ | ⟨hg,hv⟩
      ·have HV:=Lib.hid hv
       clear hg hv hdig
       obtain ⟨d,hdd⟩:∃ d,d=digV (lowB l[k]):=⟨_,rfl⟩
       rw [← hdd] at hd HV HVS HVM
       clear hdd
       by_cases hbig:1152921504606846976 < acc * 16 + d
       ·have hgt:(((1152921504606846976:Nat):Int) - (d:Int)) / ((16:Nat):Int) < (acc:Int):=by omega
        have hnn:(0:Int) ≤ ((1152921504606846976:Nat):Int) - (d:Int):=by omega
        have hgt':(1152921504606846976 - (d:Int)).tdiv 16 < (acc:Int):=by rw [Int.tdiv_eq_ediv_of_nonneg (by omega)]; omega
        have hval:¬ valL 16 (lowL l) ≤ 1152921504606846976:=by have:=HVM.out; omega
        rw [if_neg hval] at HGD
        clear hval hbig
        go_wp2_with (go_at_call 188; refine (worth_c 16 (by omega) (by omega) _ h256 _).mono ?_; rintro e w1 ⟨rfl,rfl⟩; rw [show worthV 16 l[k].toNat=_ from HV.out])
        go_ret2
        exact ⟨ret_val (by rw [HGD.out]; rfl),Ext.rfl' _⟩
       ·have hle:¬ (((1152921504606846976:Nat):Int) - (d:Int)) / ((16:Nat):Int) < (acc:Int):=by omega
        have hnn:(0:Int) ≤ ((1152921504606846976:Nat):Int) - (d:Int):=by omega
        have hgt':¬ (1152921504606846976 - (d:Int)).tdiv 16 < (acc:Int):=by rw [Int.tdiv_eq_ediv_of_nonneg (by omega)]; omega
        have hb1:(acc:Int) * 16 + d ≤ 1152921504606846976:=by omega
        go_wp2_with (go_at_call 188; refine (worth_c 16 (by omega) (by omega) _ h256 _).mono ?_; rintro e w1 ⟨rfl,rfl⟩; rw [show worthV 16 l[k].toNat=_ from HV.out])
        go_roundw
        case rel=>exact ⟨k + 1,acc * 16 + d,by omega,by go_num,by go_num,Lib.hid HVS.out.symm,by omega,by trivial⟩
        case measure=>simp [intOf]; omega
      ·rw [hg] at hdig; cases hdig
     ·obtain rfl:k=l.length:=by omega
      rw [List.take_of_length_le (Nat.le_refl _)] at HAC
      rw [← HAC.out,if_pos hac] at HGD
      go_wp2
      go_ret2
      exact ⟨ret_val (by rw [HGD.out]; rfl),Ext.rfl' _⟩
 ·obtain rfl:l=[]:=List.eq_nil_of_length_eq_zero (by omega)
  rw [numL_nil] at HN
  go_enter Tryz.func167,Tryz.ntmps167
  go_wp2
  go_ret2
  exact ⟨ret_val (by rw [← HN.out]; rfl),Ext.rfl' _⟩
theorem rDecimal_c (l:List UInt8) (hs:l.length ≤ maxLen) (w:World) :
  Calls Tryz.prog 137 #[.string (str l)] w (Gives (.tuple #[.int .i64 (numL 10 1000000000000000000 l).1,.int .i64 (numL 10 1000000000000000000 l).2]) w):=by
 have C:=rnumber10_c l hs
 generalize (numL 10 1000000000000000000 l).1=a at *
 generalize (numL 10 1000000000000000000 l).2=b at *
 have C:=Lib.hid C
 go_enter Tryz.func137,Tryz.ntmps137
 go_wp2_with (go_at_call 167; refine (C.out _).mono ?_; rintro e w1 ⟨rfl,hx⟩)
 go_ret2
 exact ⟨rfl,hx⟩
theorem rHex_c (l:List UInt8) (hs:l.length ≤ maxLen) (w:World) :
  Calls Tryz.prog 208 #[.string (str l)] w (Gives (.tuple #[.int .i64 (numL 16 1152921504606846976 l).1,.int .i64 (numL 16 1152921504606846976 l).2]) w):=by
 have C:=rnumber16_c l hs
 generalize (numL 16 1152921504606846976 l).1=a at *
 generalize (numL 16 1152921504606846976 l).2=b at *
 have C:=Lib.hid C
 go_enter Tryz.func208,Tryz.ntmps208
 go_wp2_with (go_at_call 167; refine (C.out _).mono ?_; rintro e w1 ⟨rfl,hx⟩)
 go_ret2
 exact ⟨rfl,hx⟩
end Go.Proofs.YtmnohicojefhfaaGreatDoor
end
section
namespace Go.Proofs.YtmnohicojefhfaaGreatDoor
open Go.RowKit
theorem tw_eq (p:UInt8 → Bool):∀ (l:List UInt8) (k:Nat),k ≤ l.length → (l.take k).all p=true → (∀ h:k < l.length,p l[k]=false) → l.takeWhile p=l.take k
 | [],k,_,_,_=>by simp
 | b :: l,0,_,_,h=>by
  have:=h (by simp)
  simp only [List.getElem_cons_zero] at this
  simp [List.takeWhile_cons,this]
 | b :: l,k + 1,hk,ha,h=>by
  simp only [List.take_succ_cons,List.all_cons,Bool.and_eq_true] at ha
  rw [List.takeWhile_cons,ha.1]
  simp only [if_true,List.take_succ_cons]
  rw [tw_eq p l k (by simpa using hk) ha.2 (fun h'=>h (Nat.succ_lt_succ h'))]
theorem tw_all (p:UInt8 → Bool) (l:List UInt8):(l.takeWhile p).all p=true:=by
 induction l with
 | nil=>rfl
 | cons b l ih =>
  rw [List.takeWhile_cons]
  split
  ·rename_i h; simp only [List.all_cons,h,ih,Bool.and_self]
  ·rfl
theorem tw_len (p:UInt8 → Bool) (l:List UInt8):(l.takeWhile p).length ≤ l.length:=(List.takeWhile_prefix p).length_le
theorem tw_take (p:UInt8 → Bool) (l:List UInt8):l.take (l.takeWhile p).length=l.takeWhile p:=(List.prefix_iff_eq_take.1 (List.takeWhile_prefix p)).symm
def plnB (b:UInt8):Bool:=alB b.toNat || (b == 45 || b == 46 || b == 95 || b == 126)
def adrB (b:UInt8):Bool:=isDig 16 (lowB b) || (b == 58 || b == 46)
def nameL (l:List UInt8):Nat :=
 if l.head?=some 91 then
  let a:=(l.tail.takeWhile adrB).length
  if l.tail[a]?=some 93∧2 ≤ a∧a ≤ 60 then a + 2 else 0
 else
  let n:=(l.takeWhile plnB).length
  if n ≤ 255 then n else 0
def portL (h r:List UInt8):List UInt8 × Int × Int :=
 if r=[] then (lowL h,-1,0)
 else if r.head?=some 58∧(numL 10 1000000000000000000 r.tail).2=0∧r.tail.length ≤ 5∧(numL 10 1000000000000000000 r.tail).1 ≤ 65535 then (lowL h,(numL 10 1000000000000000000 r.tail).1,0)
 else ([],0,40)
def hostL (l:List UInt8):List UInt8 × Int × Int:=if nameL l=0 then ([],0,40) else portL (l.take (nameL l)) (l.drop (nameL l))
theorem name_le (l:List UInt8):nameL l ≤ l.length:=by
 unfold nameL
 split
 ·dsimp only
  split
  ·rename_i h1 h2
   have h3:=(List.getElem?_eq_some_iff.1 h2.1).1
   have h4:l.tail.length=l.length - 1:=List.length_tail
   omega
  ·omega
 ·dsimp only
  split
  ·exact tw_len _ _
  ·omega
theorem adr_93:adrB 93=false:=by decide
theorem pln_58:plnB 58=false:=by decide
theorem name_br {l:List UInt8} (h:l.head?=some 91) (i:Nat) (hi:i < l.length) (h1:1 ≤ i) (hb:l[i]=93) (hno:∀ j (hj:j < i),l[j]'(by omega) ≠ 93) :
  nameL l=if (3 ≤ i∧i ≤ 61)∧((l.take i).tail.all adrB)=true then i + 1 else 0:=by
 unfold nameL
 rw [if_pos h]
 have ht:l.tail.length=l.length - 1:=List.length_tail
 have hti:l.tail[i - 1]?=some 93:=by
  rw [List.getElem?_tail,show i - 1 + 1=i by omega,List.getElem?_eq_getElem hi,hb]
 have htt:(l.take i).tail=l.tail.take (i - 1):=by
  cases l with
  | nil=>simp
  | cons a l=>cases i with | zero=>omega | succ i=>simp
 rw [htt]
 have htg:∀ (hk:i - 1 < l.tail.length),l.tail[i - 1]=93:=fun hk=>by
  rw [List.getElem?_eq_getElem hk] at hti; exact Option.some.inj hti
 by_cases ha:(l.tail.take (i - 1)).all adrB=true
 ·have e:l.tail.takeWhile adrB=l.tail.take (i - 1):=tw_eq adrB l.tail (i - 1) (by omega) ha (fun hk=>by rw [htg hk]; exact adr_93)
  have e2:(l.tail.takeWhile adrB).length=i - 1:=by rw [e,List.length_take]; omega
  dsimp only
  rw [e2,hti,ha]
  by_cases hc:3 ≤ i∧i ≤ 61
  ·rw [if_pos ⟨rfl,by omega,by omega⟩,if_pos ⟨hc,rfl⟩]; omega
  ·rw [if_neg (by intro h; omega),if_neg (fun h=>hc h.1)]
 ·have e0:(if (3 ≤ i∧i ≤ 61)∧((l.tail.take (i - 1)).all adrB)=true then i + 1 else 0)=0:=if_neg (fun h=>ha h.2)
  rw [e0]
  dsimp only
  rw [if_neg]
  rintro ⟨h93,_,_⟩
  have hlt:=(List.getElem?_eq_some_iff.1 h93).1
  have hv:=(List.getElem?_eq_some_iff.1 h93).2
  have hge:i - 1 ≤ (l.tail.takeWhile adrB).length:=by
   refine Classical.byContradiction fun hlt2=>?_
   refine hno ((l.tail.takeWhile adrB).length + 1) (by omega) ?_
   rw [List.getElem_tail] at hv; exact hv
  refine ha ?_
  have:=tw_all adrB l.tail
  rw [← tw_take] at this
  rw [List.all_eq_true] at this ⊢
  intro x hx
  refine this x ?_
  have e:l.tail.take (i - 1)=(l.tail.take (l.tail.takeWhile adrB).length).take (i - 1):=by rw [List.take_take,Nat.min_eq_left hge]
  rw [e] at hx
  exact List.mem_of_mem_take hx
theorem name_br0 {l:List UInt8} (h:l.head?=some 91) (hno:93 ∉ l):nameL l=0:=by
 unfold nameL
 rw [if_pos h]
 dsimp only
 rw [if_neg]
 rintro ⟨h93,_⟩
 exact hno (List.mem_of_mem_tail (List.mem_of_getElem? h93))
theorem name_pl {l:List UInt8} (h:l.head? ≠ some 91) (n:Nat) (hn:n ≤ l.length) (hb:∀ h:n < l.length,l[n]=58) (ha:(l.take n).all plnB=true):nameL l=if n ≤ 255 then n else 0:=by
 unfold nameL
 rw [if_neg h]
 have e:l.takeWhile plnB=l.take n:=tw_eq plnB l n hn ha (fun hk=>by rw [hb hk]; exact pln_58)
 have e2:(l.takeWhile plnB).length=n:=by rw [e,List.length_take]; omega
 dsimp only
 rw [e2]
theorem host_pl_bad {l:List UInt8} (h:l.head? ≠ some 91) (n:Nat) (hn:n ≤ l.length) (hno:58 ∉ l.take n) (ha:(l.take n).all plnB=false):hostL l=([],0,40):=by
 have hlt:(l.takeWhile plnB).length < n:=by
  refine Classical.byContradiction fun hge=>?_
  rw [Bool.eq_false_iff] at ha
  refine ha ?_
  have:=tw_all plnB l
  rw [← tw_take] at this
  rw [List.all_eq_true] at this ⊢
  intro x hx
  refine this x ?_
  have e:l.take n=(l.take (l.takeWhile plnB).length).take n:=by rw [List.take_take,Nat.min_eq_left (by omega)]
  rw [e] at hx
  exact List.mem_of_mem_take hx
 have hm:nameL l=(if (l.takeWhile plnB).length ≤ 255 then (l.takeWhile plnB).length else 0):=by unfold nameL; rw [if_neg h]
 unfold hostL
 by_cases h0:nameL l=0
 ·rw [if_pos h0]
 ·rw [if_neg h0]
  have he:nameL l=(l.takeWhile plnB).length:=by rw [hm] at h0 ⊢; split at h0 <;> simp_all
  unfold portL
  have hd:(l.drop (nameL l)) ≠ []:=by
   intro e
   have:=congrArg List.length e
   rw [List.length_drop,he] at this
   simp at this; omega
  rw [if_neg hd,if_neg]
  rintro ⟨h58,_⟩
  rw [List.head?_drop,he] at h58
  refine hno ?_
  have hg:=List.getElem?_eq_some_iff.1 h58
  rw [← hg.2]
  exact List.mem_take_iff_getElem.2 ⟨_,by omega,rfl⟩
end Go.Proofs.YtmnohicojefhfaaGreatDoor
end
section
namespace Go.Proofs.YtmnohicojefhfaaGreatDoor
open Go.RowKit
end Go.Proofs.YtmnohicojefhfaaGreatDoor
end
