/-
Which texts are tokens and which are values of fields: the program's loops over the table of classes.
-/
import Derived.Test.YtmnohicojefhfaaGreatDoorAsc1
import Derived.Test.YtmnohicojefhfaaGreatDoorAsc3
set_option maxRecDepth 100000
set_option maxHeartbeats 8000000
set_option linter.unusedVariables false
set_option linter.unusedSimpArgs false
section
namespace Go.Proofs.YtmnohicojefhfaaGreatDoor
open Go.RowKit
theorem gd (l:List UInt8) (k:Nat) (d:UInt8) (h:k < l.length):l.getD k d=l[k]:=by simp [List.getD,h]
def bt (s:ByteArray) (k:Nat):Nat:=(s.data.toList.getD k 0).toNat
theorem bt_get (s:ByteArray) (k:Nat) (h:k < s.size):s[k].toNat=bt s k:=by
 unfold bt
 have:k < s.data.toList.length:=by simpa using h
 rw [gd _ _ _ this]; rfl
theorem bt_lt (s:ByteArray) (k:Nat):bt s k < 256:=UInt8.toNat_lt _
theorem all_take (s:ByteArray) (p:Nat → Bool) (k:Nat) (h:k < s.size):((s.data.toList.take (k + 1)).all fun b=>p b.toNat)=(((s.data.toList.take k).all fun b=>p b.toNat) && p (bt s k)):=by
 have hl:k < s.data.toList.length:=by simpa using h
 rw [List.take_succ_eq_append_getElem hl,List.all_append]
 unfold bt
 rw [gd _ _ _ hl]
 simp
theorem all_false (s:ByteArray) (p:Nat → Bool) (k:Nat) (h:k < s.size) (hp:p (bt s k)=false):(s.data.toList.all fun b=>p b.toNat)=false:=by
 have hl:k < s.data.toList.length:=by simpa using h
 rw [Bool.eq_false_iff]
 intro ha
 have:=List.all_eq_true.1 ha _ (List.getElem_mem hl)
 unfold bt at hp
 rw [gd _ _ _ hl] at hp
 rw [hp] at this
 cases this
def hasB (bit:Int) (c:Nat):Bool:=if bit=1 then tokB c else if bit=2 then valB c else uppB c
theorem bit1:∀ c,c < 256 → (bits .and .i64 (cls c) 1 == 0)=!tokB c:=by decide +kernel
theorem bit2:∀ c,c < 256 → (bits .and .i64 (cls c) 2 == 0)=!valB c:=by decide +kernel
theorem bit4:∀ c,c < 256 → (bits .and .i64 (cls c) 4 == 0)=!uppB c:=by decide +kernel
theorem bitH (bit:Int) (hb:bit=1 ∨ bit=2 ∨ bit=4) (c:Nat) (h:c < 256):(bits .and .i64 (cls c) bit == 0)=!hasB bit c:=by
 rcases hb with rfl | rfl | rfl
 ·exact bit1 c h
 ·exact bit2 c h
 ·exact bit4 c h
theorem tab_at {w:World} (c:Nat) (hc:c < 256):((w.alloc (.cells (clsA 0) 189)).setRow w.heap.size (clsA 256)).cell? ⟨w.heap.size,c,none⟩=some (.int .i64 (cls c)):=by
 rw [cell_setRow_same _ _ _ _ _ _ _ (heap_alloc_new w _),clsA_at _ _ hc,if_pos hc]
theorem ext_tab {a w:World} (h:Ext a w):Ext a ((w.alloc (.cells (clsA 0) 189)).setRow w.heap.size (clsA 256)):=(h.al _).row h.size _
theorem all_c (s:ByteArray) (bit:Int) (hbit:bit=1 ∨ bit=2 ∨ bit=4) (hs:s.size ≤ maxLen) (w:World) :
  Calls Tryz.prog 114 #[.string s,.int .i64 bit] w (Gives (.bool (s.data.toList.all fun b=>hasB bit b.toNat)) w):=by
 unfold maxLen at hs
 have hi85:(Tryz.prog.info? 189).map (·.size)=some 256:=by kernel_rfl
 have HI:=Lib.hid hi85
 clear hi85
 go_enter Tryz.func114,Tryz.ntmps114
 go_wp2_with fail
 refine (classes_c _).mono ?_
 rintro e w1 ⟨rfl,hx1⟩
 go_wp2_with (refine wpList_store_row rfl 189 (.tmp 5) (.tmp 7) rfl w1.heap.size (clsA 256) rfl rfl 189 (clsA 0) (by rw [← zero85]; exact heap_alloc_new w1 _) (by rw [clsA_size]; exact HI.out) (by rw [clsA_size,clsA_size]) (clsA_one 256) ?_)
 rw [zero85]
 have hx2:=ext_tab hx1
 have ht:=fun c hc=>tab_at (w:=w1) c hc
 have HT:=Lib.hid ht
 clear ht
 generalize (w1.alloc (.cells (clsA 0) 189)).setRow w1.heap.size (clsA 256)=w2 at *
 go_loopw [10] (fun i wr=>∃ k:Nat,k ≤ s.size∧i=.int .i64 k∧((s.data.toList.take k).all fun b=>hasB bit b.toNat)=true∧w2=wr) (fun i _=>s.size - (intOf i).toNat)
 case atStart=>exact ⟨0,Nat.zero_le _,rfl,rfl,rfl⟩
 case round =>
  obtain ⟨k,hk,rfl,hall,rfl⟩:=hrel
  by_cases hlt:k < s.size
  ·have hbt:=bt_get s k hlt
   have h256:(s[k].toNat:Int) < 256:=by rw [hbt]; have:=bt_lt s k; omega
   have h000:(0:Int) ≤ (s[k].toNat:Int):=by omega
   have hc:=HT.out s[k].toNat (by rw [hbt]; exact bt_lt s k)
   have hbit':=bitH bit hbit (bt s k) (bt_lt s k)
   have hsucc:=all_take s (hasB bit) k hlt
   rw [hall] at hsucc
   cases hv:hasB bit (bt s k) with
   | true =>
    rw [hv] at hbit' hsucc
    rw [← hbt] at hbit'
    have HS:=Lib.hid hsucc
    have HA:=Lib.hid hall
    clear hsucc hall hv hbt
    generalize cls s[k].toNat=v at *
    simp only [Bool.not_true] at hbit'
    go_wp2
    go_roundw
    case rel=>exact ⟨k + 1,by omega,by go_num,by rw [HS.out]; rfl,by trivial⟩
    case measure=>simp [intOf]; omega
   | false =>
    have hfin:=all_false s (hasB bit) k hlt hv
    rw [hv] at hbit'
    rw [← hbt] at hbit'
    have HF:=Lib.hid hfin
    clear hsucc hall hv hbt hfin
    generalize cls s[k].toNat=v at *
    simp only [Bool.not_false] at hbit'
    go_wp2
    go_ret
    exact ⟨ret_bool HF.out.symm,hx2⟩
  ·obtain rfl:k=s.size:=by omega
   rw [List.take_of_length_le (by simp)] at hall
   have HA:=Lib.hid hall
   clear hall
   go_wp2
   go_ret
   exact ⟨ret_bool HA.out.symm,hx2⟩
theorem Token_c (s:ByteArray) (hs:s.size ≤ maxLen) (w:World) :
  Calls Tryz.prog 71 #[.string s] w (Gives (.bool ((s.data.toList.all fun b=>tokB b.toNat) && decide (0 < s.size))) w):=by
 have hsz:s.data.toList.length=s.size:=by simp
 cases h0:s.data.toList with
 | nil =>
  have hs0:s.toList.isEmpty=true:=by
   have:s.toList=s.data.toList:=by rw [ByteArray.toList_eq]
   rw [this,h0]; rfl
  have e2:decide (0 < s.size)=false:=by rw [← hsz,h0]; simp
  rw [e2,Bool.and_false]
  clear e2 h0 hsz
  go_enter Tryz.func71,Tryz.ntmps71
  go_wp2
  go_ret
  exact ⟨rfl,Ext.rfl' _⟩
 | cons b t =>
  have hs0:s.toList.isEmpty=false:=by
   have:s.toList=s.data.toList:=by rw [ByteArray.toList_eq]
   rw [this,h0]; rfl
  have e:((b :: t).all fun b=>tokB b.toNat)=(s.data.toList.all fun b=>hasB 1 b.toNat):=by rw [h0]; rfl
  have e2:decide (0 < s.size)=true:=by rw [← hsz,h0]; simp
  rw [e,e2,Bool.and_true]
  clear e e2 h0 hsz
  generalize hA:(s.data.toList.all fun b=>hasB 1 b.toNat)=A
  have HA:=Lib.hid hA
  clear hA
  go_enter Tryz.func71,Tryz.ntmps71
  go_wp2_with (go_at_call 114; refine (all_c s 1 (.inl rfl) hs _).mono ?_; rintro e w1 ⟨rfl,hx⟩; rw [HA.out])
  go_ret
  exact ⟨rfl,hx⟩
end Go.Proofs.YtmnohicojefhfaaGreatDoor
end
section
namespace Go.Proofs.YtmnohicojefhfaaGreatDoor
open Go.RowKit
def blk (b:UInt8):Bool:=blkB b.toNat
theorem trimL_eq (l:List UInt8):trimL l=((l.dropWhile blk).reverse.dropWhile blk).reverse:=by
 have hp:(fun b=>([32,9]:List UInt8).contains b)=blk:=funext blk_mem
 unfold trimL Lib.trimS Lib.trimLeftS Lib.trimRightS
 rw [hp]
 exact trim_comm blk l
theorem nil_or_snoc (l:List UInt8):l=[] ∨ ∃ t b,l=t ++ [b]:=by
 rcases List.eq_nil_or_concat l with h | ⟨t,b,h⟩
 ·exact .inl h
 ·exact .inr ⟨t,b,by simpa using h⟩
def strLen:Value → Nat | .string s=>s.size | _=>0
theorem rTrim_c (l:List UInt8) (hs:l.length ≤ maxLen) (w:World):Calls Tryz.prog 143 #[.string (str l)] w (Gives (.string (str (trimL l))) w):=by
 unfold maxLen at hs
 rw [trimL_eq]
 go_enter Tryz.func143,Tryz.ntmps143
 go_wp2
 go_loopw [0] (fun v wr=>∃ l',v=.string (str l')∧l.dropWhile blk=l'.dropWhile blk∧l'.length ≤ l.length∧w=wr) (fun v _=>strLen v)
 case atStart=>exact ⟨l,rfl,rfl,Nat.le_refl _,rfl⟩
 case round =>
  obtain ⟨l',rfl,hd,hll,rfl⟩:=hrel
  have HD:=Lib.hid hd
  clear hd
  match l',hll,HD with
  | [],hll,HD =>
   go_wp2
   go_loopw [0] (fun v wr=>∃ l'',v=.string (str l'')∧((l.dropWhile blk).reverse.dropWhile blk)=(l''.reverse.dropWhile blk)∧l''.length ≤ l.length∧w=wr) (fun v _=>strLen v)
   case atStart=>exact ⟨[],rfl,by rw [HD.out,show List.dropWhile blk []=[] from rfl],by simp only [List.length_cons,List.length_nil]; omega,rfl⟩
   case round =>
    clear HD
    obtain ⟨l'',rfl,hd2,hl2,rfl⟩:=hrel
    have HD2:=Lib.hid hd2
    clear hd2
    rcases nil_or_snoc l'' with rfl | ⟨t2,b2,rfl⟩
    ·go_wp2
     go_ret
     exact ⟨ret_val (congrArg (fun x=>Value.string (str x)) (by rw [HD2.out]; rfl)),Ext.rfl' _⟩
    ·simp only [List.length_append,List.length_cons,List.length_nil] at hl2
     rw [List.reverse_append] at HD2
     by_cases hb2:blk b2=true
     ·have hb2':blkB b2.toNat=true:=hb2
      go_wp2_with (go_at_call 171; refine (blank_c _ _).mono ?_; rintro e w1 ⟨rfl,rfl⟩)
      go_roundw
      case rel=>exact ⟨t2,by simp,by rw [HD2.out]; simp [hb2],by omega,by trivial⟩
      case measure=>simp [strLen]
     ·have hb2':blkB b2.toNat=false:=by simpa [blk] using hb2
      go_wp2_with (go_at_call 171; refine (blank_c _ _).mono ?_; rintro e w1 ⟨rfl,rfl⟩)
      go_ret
      exact ⟨ret_val (congrArg (fun x=>Value.string (str x)) (by rw [HD2.out]; simp [hb2])),Ext.rfl' _⟩
  | b :: t,hll,HD =>
   simp only [List.length_cons] at hll
   by_cases hb:blk b=true
   ·have hb':blkB b.toNat=true:=hb
    go_wp2_with (go_at_call 171; refine (blank_c _ _).mono ?_; rintro e w1 ⟨rfl,rfl⟩)
    go_roundw
    case rel=>exact ⟨t,rfl,by rw [HD.out,List.dropWhile_cons_of_pos hb],by omega,by trivial⟩
    case measure=>simp [strLen]
   ·have hb':blkB b.toNat=false:=by simpa [blk] using hb
    have HB:=Lib.hid hb
    clear hb
    go_wp2_with (go_at_call 171; refine (blank_c _ _).mono ?_; rintro e w1 ⟨rfl,rfl⟩)
    go_loopw [0] (fun v wr=>∃ l'',v=.string (str l'')∧((l.dropWhile blk).reverse.dropWhile blk)=(l''.reverse.dropWhile blk)∧l''.length ≤ l.length∧w=wr) (fun v _=>strLen v)
    case atStart=>exact ⟨b :: t,rfl,by rw [HD.out,List.dropWhile_cons_of_neg HB.out],by simp only [List.length_cons,List.length_nil]; omega,rfl⟩
    case round =>
     clear HD
     obtain ⟨l'',rfl,hd2,hl2,rfl⟩:=hrel
     have HD2:=Lib.hid hd2
     clear hd2
     rcases nil_or_snoc l'' with rfl | ⟨t2,b2,rfl⟩
     ·go_wp2
      go_ret
      exact ⟨ret_val (congrArg (fun x=>Value.string (str x)) (by rw [HD2.out]; rfl)),Ext.rfl' _⟩
     ·simp only [List.length_append,List.length_cons,List.length_nil] at hl2
      rw [List.reverse_append] at HD2
      by_cases hb2:blk b2=true
      ·have hb2':blkB b2.toNat=true:=hb2
       go_wp2_with (go_at_call 171; refine (blank_c _ _).mono ?_; rintro e w1 ⟨rfl,rfl⟩)
       go_roundw
       case rel=>exact ⟨t2,by simp,by rw [HD2.out]; simp [hb2],by omega,by trivial⟩
       case measure=>simp [strLen]
      ·have hb2':blkB b2.toNat=false:=by simpa [blk] using hb2
       go_wp2_with (go_at_call 171; refine (blank_c _ _).mono ?_; rintro e w1 ⟨rfl,rfl⟩)
       go_ret
       exact ⟨ret_val (congrArg (fun x=>Value.string (str x)) (by rw [HD2.out]; simp [hb2])),Ext.rfl' _⟩
end Go.Proofs.YtmnohicojefhfaaGreatDoor
end
section
namespace Go.Proofs.YtmnohicojefhfaaGreatDoor
open Go.RowKit
theorem al0:∀ c,c < 256 → (c ≤ 47 ∨ (58 ≤ c∧c ≤ 64) ∨ (91 ≤ c∧c ≤ 96) ∨ 123 ≤ c) → alnumB c=false:=by decide +kernel
theorem al1:∀ c,c < 256 → ((48 ≤ c∧c ≤ 57) ∨ (65 ≤ c∧c ≤ 90) ∨ (97 ≤ c∧c ≤ 122)) → alnumB c=true:=by decide +kernel
theorem letter_c (c:Nat) (hc:c < 256) (w:World):Calls Tryz.prog 138 #[.int .u8 (c:Int)] w fun e w'=>e=.returned (.bool (alnumB c))∧w=w':=by
 rcases (show c ≤ 47 ∨ (48 ≤ c∧c ≤ 57) ∨ (58 ≤ c∧c ≤ 64) ∨ (65 ≤ c∧c ≤ 90) ∨ (91 ≤ c∧c ≤ 96) ∨ (97 ≤ c∧c ≤ 122) ∨ 123 ≤ c from by omega) with hiv | hiv | hiv | hiv | hiv | hiv | hiv
 ·have hlo:0 ≤ c:=by omega
  have hhi:c ≤ 47:=by omega
  rw [al0 c hc (by omega)]
  clear hiv
  go_enter Tryz.func138,Tryz.ntmps138
  go_wp2
  go_ret
  first | exact ⟨rfl,rfl⟩ | exact ⟨ret_bool (by simp only [Bool.or_eq_false_iff,Bool.or_eq_true,decide_eq_true_eq,decide_eq_false_iff_not]; omega),rfl⟩
 ·have hlo:48 ≤ c:=by omega
  have hhi:c ≤ 57:=by omega
  rw [al1 c hc (by omega)]
  clear hiv
  go_enter Tryz.func138,Tryz.ntmps138
  go_wp2
  go_ret
  first | exact ⟨rfl,rfl⟩ | exact ⟨ret_bool (by simp only [Bool.or_eq_false_iff,Bool.or_eq_true,decide_eq_true_eq,decide_eq_false_iff_not]; omega),rfl⟩
 ·have hlo:58 ≤ c:=by omega
  have hhi:c ≤ 64:=by omega
  rw [al0 c hc (by omega)]
  clear hiv
  go_enter Tryz.func138,Tryz.ntmps138
  go_wp2
  go_ret
  first | exact ⟨rfl,rfl⟩ | exact ⟨ret_bool (by simp only [Bool.or_eq_false_iff,Bool.or_eq_true,decide_eq_true_eq,decide_eq_false_iff_not]; omega),rfl⟩
 ·have hlo:65 ≤ c:=by omega
  have hhi:c ≤ 90:=by omega
  rw [al1 c hc (by omega)]
  clear hiv
  go_enter Tryz.func138,Tryz.ntmps138
  go_wp2
  go_ret
  first | exact ⟨rfl,rfl⟩ | exact ⟨ret_bool (by simp only [Bool.or_eq_false_iff,Bool.or_eq_true,decide_eq_true_eq,decide_eq_false_iff_not]; omega),rfl⟩
 ·have hlo:91 ≤ c:=by omega
  have hhi:c ≤ 96:=by omega
  rw [al0 c hc (by omega)]
  clear hiv
  go_enter Tryz.func138,Tryz.ntmps138
  go_wp2
  go_ret
  first | exact ⟨rfl,rfl⟩ | exact ⟨ret_bool (by simp only [Bool.or_eq_false_iff,Bool.or_eq_true,decide_eq_true_eq,decide_eq_false_iff_not]; omega),rfl⟩
 ·have hlo:97 ≤ c:=by omega
  have hhi:c ≤ 122:=by omega
  rw [al1 c hc (by omega)]
  clear hiv
  go_enter Tryz.func138,Tryz.ntmps138
  go_wp2
  go_ret
  first | exact ⟨rfl,rfl⟩ | exact ⟨ret_bool (by simp only [Bool.or_eq_false_iff,Bool.or_eq_true,decide_eq_true_eq,decide_eq_false_iff_not]; omega),rfl⟩
 ·have hlo:123 ≤ c:=by omega
  have hhi:c ≤ 255:=by omega
  rw [al0 c hc (by omega)]
  clear hiv
  go_enter Tryz.func138,Tryz.ntmps138
  go_wp2
  go_ret
  first | exact ⟨rfl,rfl⟩ | exact ⟨ret_bool (by simp only [Bool.or_eq_false_iff,Bool.or_eq_true,decide_eq_true_eq,decide_eq_false_iff_not]; omega),rfl⟩
theorem tok_punct:∀ c,c < 256 → (c=33 ∨ c=35 ∨ c=36 ∨ c=37 ∨ c=38 ∨ c=39 ∨ c=42 ∨ c=43 ∨ c=45 ∨ c=46 ∨ c=94 ∨ c=95 ∨ c=96 ∨ c=124 ∨ c=126) → tokB c=true:=by decide +kernel
theorem tok_alnum:∀ c,c < 256 → ¬ (c=33 ∨ c=35 ∨ c=36 ∨ c=37 ∨ c=38 ∨ c=39 ∨ c=42 ∨ c=43 ∨ c=45 ∨ c=46 ∨ c=94 ∨ c=95 ∨ c=96 ∨ c=124 ∨ c=126) → tokB c=alnumB c:=by decide +kernel
theorem rToken_c (s:ByteArray) (hs:s.size ≤ maxLen) (w:World) :
  Calls Tryz.prog 110 #[.string s] w (Gives (.bool ((s.data.toList.all fun b=>tokB b.toNat) && decide (0 < s.size))) w):=by
 unfold maxLen at hs
 go_enter Tryz.func110,Tryz.ntmps110
 go_wp2
 go_loopw [3] (fun i wr=>∃ k:Nat,k ≤ s.size∧i=.int .i64 k∧((s.data.toList.take k).all fun b=>tokB b.toNat)=true∧w=wr) (fun i _=>s.size - (intOf i).toNat)
 case atStart=>exact ⟨0,Nat.zero_le _,rfl,rfl,rfl⟩
 case round =>
  obtain ⟨k,hk,rfl,hall,rfl⟩:=hrel
  have HA:=Lib.hid hall
  clear hall
  by_cases hlt:k < s.size
  ·have hsucc:=all_take s tokB k hlt
   rw [HA.out] at hsucc
   have HS:=Lib.hid hsucc
   clear hsucc
   have hbt:=bt_get s k hlt
   have hlt2:=bt_lt s k
   by_cases hp:bt s k=33 ∨ bt s k=35 ∨ bt s k=36 ∨ bt s k=37 ∨ bt s k=38 ∨ bt s k=39 ∨ bt s k=42 ∨ bt s k=43 ∨ bt s k=45 ∨ bt s k=46 ∨ bt s k=94 ∨ bt s k=95 ∨ bt s k=96 ∨ bt s k=124 ∨ bt s k=126
   ·rcases hp with hp | hp | hp | hp | hp | hp | hp | hp | hp | hp | hp | hp | hp | hp | hp
    ·have ht:=Lib.hid (tok_punct (bt s k) (bt_lt s k) (by omega))
     go_wp2
     go_roundw
     case rel=>exact ⟨k + 1,by omega,by go_num,by rw [HS.out,ht.out]; rfl,by trivial⟩
     case measure=>simp [intOf]; omega
    ·have ht:=Lib.hid (tok_punct (bt s k) (bt_lt s k) (by omega))
     go_wp2
     go_roundw
     case rel=>exact ⟨k + 1,by omega,by go_num,by rw [HS.out,ht.out]; rfl,by trivial⟩
     case measure=>simp [intOf]; omega
    ·have ht:=Lib.hid (tok_punct (bt s k) (bt_lt s k) (by omega))
     go_wp2
     go_roundw
     case rel=>exact ⟨k + 1,by omega,by go_num,by rw [HS.out,ht.out]; rfl,by trivial⟩
     case measure=>simp [intOf]; omega
    ·have ht:=Lib.hid (tok_punct (bt s k) (bt_lt s k) (by omega))
     go_wp2
     go_roundw
     case rel=>exact ⟨k + 1,by omega,by go_num,by rw [HS.out,ht.out]; rfl,by trivial⟩
     case measure=>simp [intOf]; omega
    ·have ht:=Lib.hid (tok_punct (bt s k) (bt_lt s k) (by omega))
     go_wp2
     go_roundw
     case rel=>exact ⟨k + 1,by omega,by go_num,by rw [HS.out,ht.out]; rfl,by trivial⟩
     case measure=>simp [intOf]; omega
    ·have ht:=Lib.hid (tok_punct (bt s k) (bt_lt s k) (by omega))
     go_wp2
     go_roundw
     case rel=>exact ⟨k + 1,by omega,by go_num,by rw [HS.out,ht.out]; rfl,by trivial⟩
     case measure=>simp [intOf]; omega
    ·have ht:=Lib.hid (tok_punct (bt s k) (bt_lt s k) (by omega))
     go_wp2
     go_roundw
     case rel=>exact ⟨k + 1,by omega,by go_num,by rw [HS.out,ht.out]; rfl,by trivial⟩
     case measure=>simp [intOf]; omega
    ·have ht:=Lib.hid (tok_punct (bt s k) (bt_lt s k) (by omega))
     go_wp2
     go_roundw
     case rel=>exact ⟨k + 1,by omega,by go_num,by rw [HS.out,ht.out]; rfl,by trivial⟩
     case measure=>simp [intOf]; omega
    ·have ht:=Lib.hid (tok_punct (bt s k) (bt_lt s k) (by omega))
     go_wp2
     go_roundw
     case rel=>exact ⟨k + 1,by omega,by go_num,by rw [HS.out,ht.out]; rfl,by trivial⟩
     case measure=>simp [intOf]; omega
    ·have ht:=Lib.hid (tok_punct (bt s k) (bt_lt s k) (by omega))
     go_wp2
     go_roundw
     case rel=>exact ⟨k + 1,by omega,by go_num,by rw [HS.out,ht.out]; rfl,by trivial⟩
     case measure=>simp [intOf]; omega
    ·have ht:=Lib.hid (tok_punct (bt s k) (bt_lt s k) (by omega))
     go_wp2
     go_roundw
     case rel=>exact ⟨k + 1,by omega,by go_num,by rw [HS.out,ht.out]; rfl,by trivial⟩
     case measure=>simp [intOf]; omega
    ·have ht:=Lib.hid (tok_punct (bt s k) (bt_lt s k) (by omega))
     go_wp2
     go_roundw
     case rel=>exact ⟨k + 1,by omega,by go_num,by rw [HS.out,ht.out]; rfl,by trivial⟩
     case measure=>simp [intOf]; omega
    ·have ht:=Lib.hid (tok_punct (bt s k) (bt_lt s k) (by omega))
     go_wp2
     go_roundw
     case rel=>exact ⟨k + 1,by omega,by go_num,by rw [HS.out,ht.out]; rfl,by trivial⟩
     case measure=>simp [intOf]; omega
    ·have ht:=Lib.hid (tok_punct (bt s k) (bt_lt s k) (by omega))
     go_wp2
     go_roundw
     case rel=>exact ⟨k + 1,by omega,by go_num,by rw [HS.out,ht.out]; rfl,by trivial⟩
     case measure=>simp [intOf]; omega
    ·have ht:=Lib.hid (tok_punct (bt s k) (bt_lt s k) (by omega))
     go_wp2
     go_roundw
     case rel=>exact ⟨k + 1,by omega,by go_num,by rw [HS.out,ht.out]; rfl,by trivial⟩
     case measure=>simp [intOf]; omega
   ·have ht:=Lib.hid (tok_alnum (bt s k) (bt_lt s k) hp)
    have q:∀ n:Nat,bt s k ≠ n → ((bt s k:Int) == (n:Int))=false:=fun n h=>by rw [beq_eq_false_iff_ne]; omega
    have q1:=q 33 (by omega); have q2:=q 35 (by omega); have q3:=q 36 (by omega); have q4:=q 37 (by omega); have q5:=q 38 (by omega)
    have q6:=q 39 (by omega); have q7:=q 42 (by omega); have q8:=q 43 (by omega); have q9:=q 45 (by omega); have q10:=q 46 (by omega)
    have q11:=q 94 (by omega); have q12:=q 95 (by omega); have q13:=q 96 (by omega); have q14:=q 124 (by omega); have q15:=q 126 (by omega)
    clear q hp
    cases hv:alnumB (bt s k) with
    | true =>
     have HV:=Lib.hid hv
     clear hv
     go_wp2_with (go_at_call 138; refine (letter_c _ hlt2 _).mono ?_; rintro e w1 ⟨rfl,rfl⟩; rw [HV.out])
     go_roundw
     case rel=>exact ⟨k + 1,by omega,by go_num,by rw [HS.out,ht.out,HV.out]; rfl,by trivial⟩
     case measure=>simp [intOf]; omega
    | false =>
     have HV:=Lib.hid hv
     clear hv
     go_wp2_with (go_at_call 138; refine (letter_c _ hlt2 _).mono ?_; rintro e w1 ⟨rfl,rfl⟩; rw [HV.out])
     go_ret
     exact ⟨ret_bool (by rw [all_false s tokB k hlt (by rw [ht.out,HV.out])]; rfl),Ext.rfl' _⟩
  ·obtain rfl:k=s.size:=by omega
   rw [List.take_of_length_le (by simp)] at HA
   go_wp2
   all_goals go_ret
   all_goals exact ⟨ret_bool (by rw [HA.out]; simp [*]),Ext.rfl' _⟩
end Go.Proofs.YtmnohicojefhfaaGreatDoor
end
section
namespace Go.Proofs.YtmnohicojefhfaaGreatDoor
open Go.RowKit
@[simp] theorem str_tl (l:List UInt8):(str l).toList=l:=by rw [ByteArray.toList_eq]; rfl
end Go.Proofs.YtmnohicojefhfaaGreatDoor
end
