/-
Which texts are tokens and which are values of fields: the program's loops over the table of classes.
-/
import Derived.Test.YthbofilcnpdghaaGreatDoorAsc1
import Derived.Test.YthbofilcnpdghaaGreatDoorZab
import Derived.Test.YthbofilcnpdghaaGreatDoorShelf
import Derived.Shelf.Strings.SlTrimAscii
import Derived.Lib.IndexLaws
set_option maxRecDepth 100000
set_option maxHeartbeats 8000000
set_option linter.unusedVariables false
set_option linter.unusedSimpArgs false
section
namespace Go.Proofs.YthbofilcnpdghaaGreatDoor
open Go.RowKit
theorem gd (l:List UInt8) (k:Nat) (d:UInt8) (h:k<l.length):l.getD k d=l[k]:=by simp [List.getD,h]
def bt (s:ByteArray) (k:Nat):Nat:=(s.data.toList.getD k 0).toNat
theorem bt_get (s:ByteArray) (k:Nat) (h:k<s.size):s[k].toNat=bt s k:=by
 unfold bt
 have:k<s.data.toList.length:=by simpa using h
 rw [gd _ _ _ this];rfl
theorem bt_lt (s:ByteArray) (k:Nat):bt s k<256:=UInt8.toNat_lt _
theorem all_take (s:ByteArray) (p:Nat→Bool) (k:Nat) (h:k<s.size):((s.data.toList.take (k+1)).all fun b=>p b.toNat)=(((s.data.toList.take k).all fun b=>p b.toNat) && p (bt s k)):=by
 have hl:k<s.data.toList.length:=by simpa using h
 rw [List.take_succ_eq_append_getElem hl,List.all_append]
 unfold bt
 rw [gd _ _ _ hl]
 simp
theorem all_false (s:ByteArray) (p:Nat→Bool) (k:Nat) (h:k<s.size) (hp:p (bt s k)=false):(s.data.toList.all fun b=>p b.toNat)=false:=by
 have hl:k<s.data.toList.length:=by simpa using h
 rw [Bool.eq_false_iff]
 intro ha
 have:=List.all_eq_true.1 ha _ (List.getElem_mem hl)
 unfold bt at hp
 rw [gd _ _ _ hl] at hp
 rw [hp] at this
 cases this
def hasB (bit:Int) (c:Nat):Bool:=if bit=1 then tokB c else if bit=2 then valB c else uppB c
theorem bit1:∀ c,c<256→(bits .and .i64 (cls c) 1 == 0)=!tokB c:=by decide +kernel
theorem bit2:∀ c,c<256→(bits .and .i64 (cls c) 2 == 0)=!valB c:=by decide +kernel
theorem bit4:∀ c,c<256→(bits .and .i64 (cls c) 4 == 0)=!uppB c:=by decide +kernel
theorem bitH (bit:Int) (hb:bit=1∨bit=2∨bit=4) (c:Nat) (h:c<256):(bits .and .i64 (cls c) bit == 0)=!hasB bit c:=by
 rcases hb with rfl | rfl | rfl
 ·exact bit1 c h
 ·exact bit2 c h
 ·exact bit4 c h
theorem tab_at {w:World} (c:Nat) (hc:c<256):((w.alloc (.cells (clsA 0) 150)).setRow w.heap.size (clsA 256)).cell? ⟨w.heap.size,c,none⟩=some (.int .i64 (cls c)):=by
 rw [cell_setRow_same _ _ _ _ _ _ _ (heap_alloc_new w _),clsA_at _ _ hc,if_pos hc]
theorem ext_tab {a w:World} (h:Ext a w):Ext a ((w.alloc (.cells (clsA 0) 150)).setRow w.heap.size (clsA 256)):=(h.al _).row h.size _
theorem all_c (s:ByteArray) (bit:Int) (hbit:bit=1∨bit=2∨bit=4) (hs:s.size≤maxLen) (w:World) :
  Calls Tryz.prog 82 #[.string s,.int .i64 bit] w (Gives (.bool (s.data.toList.all fun b=>hasB bit b.toNat)) w):=by
 unfold maxLen at hs
 have hi85:(Tryz.prog.info? 150).map (·.size)=some 256:=by kernel_rfl
 have HI:=Hy hi85
 clear hi85
 go_enter Tryz.func82,Tryz.ntmps82
 go_wp2_with fail
 refine (classes_c _).mono ?_
 rintro e w1 ⟨rfl,hx1⟩
 go_wp2_with (refine wpList_store_row rfl 150 (.tmp 5) (.tmp 7) rfl w1.heap.size (clsA 256) rfl rfl 150 (clsA 0) (by rw [← zero85];exact heap_alloc_new w1 _) (by rw [clsA_size];exact HI.out) (by rw [clsA_size,clsA_size]) (clsA_one 256) ?_)
 rw [zero85]
 have hx2:=ext_tab hx1
 have ht:=fun c hc=>tab_at (w:=w1) c hc
 have HT:=Hy ht
 clear ht
 generalize (w1.alloc (.cells (clsA 0) 150)).setRow w1.heap.size (clsA 256)=w2 at *
 go_loopw [10] (fun i wr=>∃ k:Nat,k≤s.size∧i=.int .i64 k∧((s.data.toList.take k).all fun b=>hasB bit b.toNat)=true∧w2=wr) (fun i _=>s.size-(intOf i).toNat)
 case atStart=>exact ⟨0,Nat.zero_le _,rfl,rfl,rfl⟩
 case round =>
  obtain ⟨k,hk,rfl,hall,rfl⟩:=hrel
  by_cases hlt:k<s.size
  ·have hbt:=bt_get s k hlt
   have h256:(s[k].toNat:Int)<256:=by rw [hbt];have:=bt_lt s k;omega
   have h000:(0:Int)≤(s[k].toNat:Int):=by omega
   have hc:=HT.out s[k].toNat (by rw [hbt];exact bt_lt s k)
   have hbit':=bitH bit hbit (bt s k) (bt_lt s k)
   have hsucc:=all_take s (hasB bit) k hlt
   rw [hall] at hsucc
   cases hv:hasB bit (bt s k) with
   | true =>
    rw [hv] at hbit' hsucc
    rw [← hbt] at hbit'
    have HS:=Hy hsucc
    have HA:=Hy hall
    clear hsucc hall hv hbt
    generalize cls s[k].toNat=v at *
    simp only [Bool.not_true] at hbit'
    go_wp2
    go_roundw
    case rel=>exact ⟨k+1,by omega,by go_num,by rw [HS.out];rfl,by trivial⟩
    case measure=>simp [intOf];omega
   | false =>
    have hfin:=all_false s (hasB bit) k hlt hv
    rw [hv] at hbit'
    rw [← hbt] at hbit'
    have HF:=Hy hfin
    clear hsucc hall hv hbt hfin
    generalize cls s[k].toNat=v at *
    simp only [Bool.not_false] at hbit'
    go_wp2
    go_ret
    exact ⟨ret_bool HF.out.symm,hx2⟩
  ·obtain rfl:k=s.size:=by omega
   rw [List.take_of_length_le (by simp)] at hall
   have HA:=Hy hall
   clear hall
   go_wp2
   go_ret
   exact ⟨ret_bool HA.out.symm,hx2⟩
theorem Token_c (s:ByteArray) (hs:s.size≤maxLen) (w:World) :
  Calls Tryz.prog 54 #[.string s] w (Gives (.bool ((s.data.toList.all fun b=>tokB b.toNat) && decide (0<s.size))) w):=by
 have hsz:s.data.toList.length=s.size:=by simp
 cases h0:s.data.toList with
 | nil =>
  have hs0:s.toList.isEmpty=true:=by
   have:s.toList=s.data.toList:=by rw [ByteArray.toList_eq]
   rw [this,h0];rfl
  have e2:decide (0<s.size)=false:=by rw [← hsz,h0];simp
  rw [e2,Bool.and_false]
  clear e2 h0 hsz
  go_enter Tryz.func54,Tryz.ntmps54
  go_wp2
  go_ret
  exact ⟨rfl,Ext.rfl' _⟩
 | cons b t =>
  have hs0:s.toList.isEmpty=false:=by
   have:s.toList=s.data.toList:=by rw [ByteArray.toList_eq]
   rw [this,h0];rfl
  have e:((b::t).all fun b=>tokB b.toNat)=(s.data.toList.all fun b=>hasB 1 b.toNat):=by rw [h0];rfl
  have e2:decide (0<s.size)=true:=by rw [← hsz,h0];simp
  rw [e,e2,Bool.and_true]
  clear e e2 h0 hsz
  generalize hA:(s.data.toList.all fun b=>hasB 1 b.toNat)=A
  have HA:=Hy hA
  clear hA
  go_enter Tryz.func54,Tryz.ntmps54
  go_wp2_with (go_at_call 82;refine (all_c s 1 (.inl rfl) hs _).mono ?_;rintro e w1 ⟨rfl,hx⟩;rw [HA.out])
  go_ret
  exact ⟨rfl,hx⟩
@[simp] theorem str_get (l:List UInt8) (i:Nat) (h:i<(str l).size):(str l)[i]=l[i]'(by simpa using h):=rfl
@[simp] theorem str_extract (l:List UInt8) (a b:Nat):(str l).extract a b=str ((l.take b).drop a):=by
 have h:((str l).extract a b).data.toList=(l.take b).drop a:=by
  rw [Lib.extract_data,str_data,List.drop_take]
 rw [← str_toList ((str l).extract a b),h]
def blkB (c:Nat):Bool:=decide (c=9) || decide (c=32)
def trimL (l:List UInt8):List UInt8:=Lib.trimS l [32,9]
theorem blk_mem (b:UInt8):[32,9].contains b=blkB b.toNat:=by
 have:∀ c,c<256→([32,9]:List UInt8).contains c.toUInt8=blkB c:=by decide +kernel
 have h:=this b.toNat (UInt8.toNat_lt _)
 simpa using h
theorem Trim_c (l:List UInt8) (hs:l.length≤maxLen) (w:World):Calls Tryz.prog 79 #[.string (str l)] w (Gives (.string (str (trimL l))) w):=by
 unfold maxLen at hs
 go_enter Tryz.func79,Tryz.ntmps79
 go_wp2_with fail
 refine (Any.strings_Trim_laid Tryz.lays160 (by kernel_rfl) (str l) ⟨#[32,9]⟩ _ (by rw [str_size];omega) (by decide) (ascii_of_all (by decide))).mono ?_
 rintro e w1 ⟨rfl,hx⟩
 go_wp2
 go_ret
 exact ⟨rfl,hx⟩
theorem dw_nil {p:UInt8→Bool}:∀ {l:List UInt8},l.dropWhile p=[]↔∀ x∈l,p x=true
 | []=>by simp
 | a::t=>by
  by_cases h:p a=true
  ·rw [List.dropWhile_cons_of_pos h,dw_nil (l:=t)];simp [h]
  ·rw [List.dropWhile_cons_of_neg h];simp [h]
theorem trim_comm (p:UInt8→Bool) (l:List UInt8):(((l.reverse.dropWhile p).reverse).dropWhile p)=(((l.dropWhile p).reverse.dropWhile p).reverse):=by
 by_cases h:l.all p=true
 ·have h1:l.dropWhile p=[]:=dw_nil.2 fun x hx=>List.all_eq_true.1 h x hx
  have h2:l.reverse.dropWhile p=[]:=dw_nil.2 fun x hx=>List.all_eq_true.1 h x (List.mem_reverse.1 hx)
  rw [h1,h2];rfl
 ·induction l with
  | nil=>simp at h
  | cons a t ih =>
   by_cases ha:p a=true
   ·have ht:¬ t.all p=true:=by simpa [ha] using h
    have ih:=ih ht
    rw [List.dropWhile_cons_of_pos ha,← ih]
    have hne:(t.reverse.dropWhile p)≠[]:=by
     intro h0
     apply ht
     rw [dw_nil] at h0
     exact List.all_eq_true.2 fun x hx=>h0 x (List.mem_reverse.2 hx)
    rw [List.reverse_cons,List.dropWhile_append,if_neg (by simpa using hne),List.reverse_append]
    simp [ha]
   ·rw [List.dropWhile_cons_of_neg ha]
    have e:((a::t).reverse.dropWhile p).reverse=a::(t.reverse.dropWhile p).reverse:=by
     rw [List.reverse_cons,List.dropWhile_append]
     split
     ·rename_i h0
      have h0:t.reverse.dropWhile p=[]:=by simpa using h0
      rw [h0]
      simp [ha]
     ·simp
    rw [e,List.dropWhile_cons_of_neg ha]
def blk (b:UInt8):Bool:=blkB b.toNat
theorem trimL_eq (l:List UInt8):trimL l=((l.dropWhile blk).reverse.dropWhile blk).reverse:=by
 have hp:(fun b=>([32,9]:List UInt8).contains b)=blk:=funext blk_mem
 unfold trimL Lib.trimS Lib.trimLeftS Lib.trimRightS
 rw [hp]
 exact trim_comm blk l
theorem nil_or_snoc (l:List UInt8):l=[]∨∃ t b,l=t++[b]:=by
 rcases List.eq_nil_or_concat l with h | ⟨t,b,h⟩
 ·exact .inl h
 ·exact .inr ⟨t,b,by simpa using h⟩
def strLen:Value→Nat | .string s=>s.size | _=>0
@[simp] theorem str_tl (l:List UInt8):(str l).toList=l:=by rw [ByteArray.toList_eq];rfl
def endsB (l:List UInt8):Bool:=match l with
 | []=>true
 | b::t=>!blk b && !blk ((b::t).getLast (List.cons_ne_nil _ _))
theorem last_snoc (b:UInt8) (m:List UInt8) (b2:UInt8):∀ h,(b::(m++[b2])).getLast h=b2:=by
 intro h
 rw [List.getLast_eq_getElem]
 simp
theorem trim_ends (l:List UInt8):(trimL l == l)=endsB l:=by
 rw [trimL_eq,Bool.eq_iff_iff,beq_iff_eq]
 rcases nil_or_snoc l with rfl | ⟨t,b2,rfl⟩
 ·simp [endsB]
 ·cases t with
  | nil =>
   simp only [List.nil_append,endsB,List.getLast_singleton]
   by_cases h:blk b2=true <;> simp [List.dropWhile,h]
  | cons b m =>
   simp only [List.cons_append,endsB]
   have hl:=last_snoc b m b2 (List.cons_ne_nil _ _)
   rw [hl]
   by_cases h:blk b=true
   ·rw [List.dropWhile_cons_of_pos h]
    simp only [h,Bool.not_true,Bool.false_and,Bool.false_eq_true,iff_false]
    intro he
    have h1:=congrArg List.length he
    have h2:∀ (p:UInt8→Bool) (x:List UInt8),(x.dropWhile p).length≤x.length:=fun p x=>(List.dropWhile_suffix p).length_le
    have h3:=h2 blk (List.dropWhile blk (m++[b2])).reverse
    have h4:=h2 blk (m++[b2])
    simp only [List.length_reverse,List.length_cons] at h1 h3
    omega
   ·rw [List.dropWhile_cons_of_neg h]
    have e:(b::(m++[b2])).reverse=b2::(m.reverse++[b]):=by simp
    rw [e]
    by_cases h':blk b2=true
    ·rw [List.dropWhile_cons_of_pos h']
     simp only [h',Bool.not_true,Bool.and_false,Bool.false_eq_true,iff_false]
     intro he
     have h1:=congrArg List.length he
     have h3:=(List.dropWhile_suffix (l:=m.reverse++[b]) blk).length_le
     simp only [List.length_reverse,List.length_cons,List.length_append,List.length_nil] at h1 h3
     omega
    ·rw [List.dropWhile_cons_of_neg h']
     simp [h,h']
theorem Value_c (l:List UInt8) (hs:l.length≤maxLen) (w:World) :
  Calls Tryz.prog 80 #[.string (str l)] w (Gives (.bool ((l.all fun b=>valB b.toNat) && endsB l)) w):=by
 have e:(l.all fun b=>valB b.toNat)=((str l).data.toList.all fun b=>hasB 2 b.toNat):=by rfl
 rw [e,← trim_ends]
 generalize hA:((str l).data.toList.all fun b=>hasB 2 b.toNat)=A
 have HA:=Hy hA
 clear hA e
 cases A with
 | true =>
  go_enter Tryz.func80,Tryz.ntmps80
  go_wp2_with (first
   | (go_at_call 82;refine (all_c (str l) 2 (.inr (.inl rfl)) (by rw [str_size];exact hs) _).mono ?_;rintro e w1 ⟨rfl,hx⟩;rw [HA.out])
   | (go_at_call 79;refine (Trim_c l hs _).mono ?_;rintro e w1 ⟨rfl,hx2⟩))
  go_ret
  exact ⟨ret_bool (by simp),Xw⟩
 | false =>
  go_enter Tryz.func80,Tryz.ntmps80
  go_wp2_with (first
   | (go_at_call 82;refine (all_c (str l) 2 (.inr (.inl rfl)) (by rw [str_size];exact hs) _).mono ?_;rintro e w1 ⟨rfl,hx⟩;rw [HA.out])
   | (go_at_call 79;refine (Trim_c l hs _).mono ?_;rintro e w1 ⟨rfl,hx2⟩))
  go_ret
  exact ⟨rfl,Xw⟩
def Own (w:World) (g:Nat) (l:List UInt8):Prop :=
 ∃ C t fr,w.heap[g]?=some (.cells C t fr)∧∀ j (h:j<l.length),C[j]?=some (.int .u8 (l[j].toNat:Int))∧(decide (fr.1≤j) && decide (j<fr.2))=false
theorem Own.cell {w:World} {g:Nat} {l:List UInt8} (h:Own w g l) (j:Nat) (hj:j<l.length):w.cell? ⟨g,j,none⟩=some (.int .u8 (l[j].toNat:Int)):=by
 obtain ⟨C,t,fr,hh,hc⟩:=h
 rw [cell_of_row w g j C t fr hh];exact (hc j hj).1
theorem Own.free {w:World} {g:Nat} {l:List UInt8} (h:Own w g l) (j:Nat) (hj:j<l.length):w.frozen? ⟨g,j,none⟩=false:=by
 obtain ⟨C,t,fr,hh,hc⟩:=h
 unfold World.frozen?
 simp only [hh]
 exact (hc j hj).2
theorem Own.set_ {w:World} {g:Nat} {l:List UInt8} (h:Own w g l) (j:Nat) (hj:j<l.length) (b:UInt8):Own (w.setCell ⟨g,j,none⟩ (.int .u8 (b.toNat:Int))) g (l.set j b):=by
 obtain ⟨C,t,fr,hh,hc⟩:=h
 refine ⟨C.setIfInBounds j (.int .u8 (b.toNat:Int)),t,fr,?_,?_⟩
 ·simp [World.setCell,Array.getElem?_modify,hh]
 ·intro i hi
  simp only [List.length_set] at hi
  have h0:=hc i hi
  refine ⟨?_,h0.2⟩
  by_cases hij:j=i
  ·subst hij
   have hs:j<C.size:=(Array.getElem?_eq_some_iff.1 h0.1).1
   rw [Array.getElem?_setIfInBounds_self_of_lt hs]
   simp
  ·rw [Array.getElem?_setIfInBounds_ne hij,h0.1]
   simp [List.getElem_set,hij]
theorem Own.rd {w:World} {g:Nat} {l:List UInt8} (h:Own w g l):Rd w (some ⟨g,0,none⟩) (bc l):=by
 refine .inr ⟨g,0,rfl,fun j u hj=>?_⟩
 have hl:j<l.length:=by have:=(List.getElem?_eq_some_iff.1 hj).1;simpa using this
 rw [bc_at l j hl] at hj
 rw [Nat.zero_add,h.cell j hl,← hj]
def cvC (w:World) (e:TypeId) (n:Nat):Nat:=grownCap w n 0 e
def cvW (w:World) (e:TypeId) (s:ByteArray):World :=
 w.drew.alloc (.cells (bytesRow s (grownCap w s.size 0 e)) e ((bytesRow s (grownCap w s.size 0 e)).size,(bytesRow s (grownCap w s.size 0 e)).size+1))
theorem cv_run {P:Program} {src dst e:TypeId} (s:ByteArray) (hs:P.underlying src=some .string) (hd:P.underlying dst=some (.slice e)) (he:P.underlying e=some (.int .u8)) (w:World) :
  (convert src dst (.string s)).run P w=.ok (.slice (some ⟨w.heap.size,0,none⟩) s.size (cvC w e s.size)) (cvW w e s):=run_bytes_of_string w src dst e s hs hd he
theorem cv_ext (w:World) (e:TypeId) (s:ByteArray):Ext w (cvW w e s):=by unfold cvW;exact Ext.al (Ext.dr (Ext.rfl' w)) _
theorem cv_size (w:World) (e:TypeId) (s:ByteArray):w.heap.size<(cvW w e s).heap.size:=by unfold cvW;simp
theorem cv_own (w:World) (e:TypeId) (l:List UInt8):Own (cvW w e (str l)) w.heap.size l:=by
 refine ⟨_,_,_,heap_alloc_new w.drew _,fun j hj=>⟨?_,?_⟩⟩
 ·exact bytesRow_at (str l) _ j (by simpa [str] using hj)
 ·have:j<(bytesRow (str l) (grownCap w (str l).size 0 e)).size:=by simp [bytesRow,str];omega
  simp only [Bool.and_eq_false_iff,decide_eq_false_iff_not]
  exact .inl (by omega)
theorem cv_cap (w:World) (e:TypeId) (n:Nat) (h:n≤maxLen):n≤cvC w e n∧cvC w e n≤maxLen:=⟨grownCap_ge _ _ _ _,grownCap_le_maxLen _ _ _ _ h⟩
def lowB (b:UInt8):UInt8:=if uppB b.toNat then b+32 else b
def lowL (l:List UInt8):List UInt8:=l.map lowB
theorem low_set (l:List UInt8) (k:Nat) (h:k<l.length):(lowL (l.take k)++l.drop k).set k (lowB l[k])=lowL (l.take (k+1))++l.drop (k+1):=by
 unfold lowL
 rw [List.take_succ_eq_append_getElem h,List.map_append]
 rw [List.set_append_right _ _ (by simp;omega)]
 have:k-(List.map lowB (List.take k l)).length=0:=by simp;omega
 rw [this,List.drop_eq_getElem_cons h,List.set_cons_zero];simp
theorem low_at (l:List UInt8) (k:Nat) (h:k<l.length):(lowL (l.take k)++l.drop k)[k]'(by simp [lowL];omega)=l[k]:=by
 have h1:(lowL (l.take k)).length=k:=by simp [lowL];omega
 rw [List.getElem_append_right (by omega)]
 simp [h1]
theorem low_same (l:List UInt8) (k:Nat) (h:k<l.length) (hu:uppB l[k].toNat=false):lowL (l.take k)++l.drop k=lowL (l.take (k+1))++l.drop (k+1):=by
 rw [← low_set l k h]
 have hb:lowB l[k]=l[k]:=by unfold lowB;rw [hu];rfl
 rw [hb]
 have:=low_at l k h
 conv=>rhs;rw [← this]
 rw [List.set_getElem_self]
theorem low_len (l:List UInt8) (k:Nat):(lowL (l.take k)++l.drop k).length=l.length:=by simp [lowL];omega
theorem Lower_c (l:List UInt8) (hs:l.length≤maxLen) (w:World) :
  Calls Tryz.prog 89 #[.string (str l)] w (Gives (.string (str (lowL l))) w):=by
 unfold maxLen at hs
 have hi85:(Tryz.prog.info? 150).map (·.size)=some 256:=by kernel_rfl
 have HI:=Hy hi85
 clear hi85
 have kc:=fun W=>cv_run (P:=Tryz.prog) (src:=9) (dst:=22) (e:=5) (str l) Tryz.underlying9 Tryz.underlying22 Tryz.underlying5 W
 go_enter Tryz.func89,Tryz.ntmps89
 go_wp2_with fail
 refine (classes_c _).mono ?_
 rintro e w1 ⟨rfl,hx1⟩
 go_wp2_with (refine wpList_store_row rfl 150 (.tmp 3) (.tmp 7) rfl w1.heap.size (clsA 256) rfl rfl 150 (clsA 0) (by rw [← zero85];exact heap_alloc_new w1 _) (by rw [clsA_size];exact HI.out) (by rw [clsA_size,clsA_size]) (clsA_one 256) ?_)
 rw [zero85]
 have hx2:=ext_tab hx1
 have ht:=fun c hc=>tab_at (w:=w1) c hc
 have HT:=Hy ht
 clear ht kc
 have hz:((w1.alloc (.cells (clsA 0) 150)).setRow w1.heap.size (clsA 256)).heap.size=w1.heap.size+1:=by simp [World.setRow]
 generalize (w1.alloc (.cells (clsA 0) 150)).setRow w1.heap.size (clsA 256)=w2 at *
 have ho:=cv_own w2 5 l
 rw [hz] at ho
 have HZ:=Hy hz
 clear hz
 have hx3:=cv_ext w2 5 (str l)
 obtain ⟨hc1,hc2⟩:=cv_cap w2 5 l.length (by unfold maxLen;omega)
 generalize cvW w2 5 (str l)=w3 at *
 generalize cvC w2 5 l.length=c at *
 go_loopw [12] (fun i wr=>∃ k:Nat,k≤l.length∧i=.int .i64 k∧Own wr (w1.heap.size+1) (lowL (l.take k)++l.drop k)∧Ext w2 wr) (fun i _=>l.length-(intOf i).toNat)
 case atStart=>exact ⟨0,Nat.zero_le _,rfl,ho,hx3⟩
 case round =>
  clear hx3 ho
  obtain ⟨k,hk,rfl,hown,hext⟩:=hrel
  have HO:=Hy hown
  clear hown
  by_cases hlt:k<l.length
  ·have ce:=HO.out.cell k (by rw [low_len];exact hlt)
   have fe:=HO.out.free k (by rw [low_len];exact hlt)
   rw [low_at l k hlt] at ce
   have h256:(l[k].toNat:Int)<256:=by have:=UInt8.toNat_lt l[k];omega
   have h000:(0:Int)≤(l[k].toNat:Int):=by omega
   have hc:=HT.out l[k].toNat (UInt8.toNat_lt _)
   have hc':=(hext.cell (p:=⟨w1.heap.size,l[k].toNat,none⟩) (by rw [HZ.out];simp)).trans hc
   clear hc
   have hb4:=bit4 l[k].toNat (UInt8.toNat_lt _)
   have hadd:((l[k].toNat:Int)+32) % 256=((l[k]+32).toNat:Int):=by
    rw [UInt8.toNat_add];simp
   have HAD:=Hy hadd
   clear hadd
   go_wp2
   ·have hu:uppB l[k].toNat=true:=by
     have h:(bits BinOp.and IntKind.i64 (cls l[k].toNat) 4 != 0)=true:=by assumption
     unfold bne at h
     rw [hb4] at h
     simpa using h
    go_roundw
    case rel =>
     refine ⟨k+1,by omega,by go_num,?_,Ext.st hext (by rw [HZ.out];exact Nat.le_refl _) _⟩
     rw [← low_set l k hlt,HAD.out]
     have hb:lowB l[k]=l[k]+32:=by unfold lowB;rw [hu];rfl
     rw [hb]
     exact HO.out.set_ k (by rw [low_len];exact hlt) _
    case measure=>simp [intOf];omega
   ·have hu:uppB l[k].toNat=false:=by
     have h:(bits BinOp.and IntKind.i64 (cls l[k].toNat) 4 != 0)=false:=by assumption
     unfold bne at h
     rw [hb4] at h
     simpa using h
    go_roundw
    case rel=>exact ⟨k+1,by omega,by go_num,by rw [← low_same l k hlt hu];exact HO.out,hext⟩
    case measure=>simp [intOf];omega
  ·obtain rfl:k=l.length:=by omega
   rw [List.take_of_length_le (Nat.le_refl _),List.drop_of_length_le (Nat.le_refl _),List.append_nil] at HO
   have kb:=conv_bs (P:=Tryz.prog) 22 9 5 Tryz.underlying22 Tryz.underlying5 Tryz.underlying9 HO.out.rd l.length c (by simp [lowL])
   go_wp2
   go_ret
   exact ⟨rfl,hx2.tr hext⟩
theorem str_inj (a b:List UInt8):(str a=str b)↔a=b:=by
 constructor
 ·intro h;have:=congrArg (fun s:ByteArray=>s.data.toList) h;simpa [str] using this
 ·rintro rfl;rfl
theorem low_length (l:List UInt8):(lowL l).length=l.length:=by simp [lowL]
theorem Equal_c (a b:List UInt8) (ha:a.length≤maxLen) (hb:b.length≤maxLen) (w:World) :
  Calls Tryz.prog 62 #[.string (str a),.string (str b)] w (Gives (.bool (lowL a == lowL b)) w):=by
 by_cases hl:a.length=b.length
 ·have hl':((a.length:Int) == (b.length:Int))=true:=by rw [beq_iff_eq];omega
  have HL:=Hy hl
  clear hl
  go_enter Tryz.func62,Tryz.ntmps62
  go_wp2_with (go_at_call 89;refine (Lower_c _ (by assumption) _).mono ?_;rintro e w1 ⟨rfl,hx⟩)
  go_ret
  exact ⟨ret_bool (by try simp [str_inj]),Xw⟩
 ·have hl':((a.length:Int) == (b.length:Int))=false:=by rw [beq_eq_false_iff_ne];omega
  have hne:(lowL a == lowL b)=false:=by
   rw [beq_eq_false_iff_ne];intro h;have:=congrArg List.length h;simp [lowL] at this;exact hl this
  have HN:=Hy hne
  clear hne hl
  go_enter Tryz.func62,Tryz.ntmps62
  go_wp2_with (go_at_call 89;refine (Lower_c _ (by assumption) _).mono ?_;rintro e w1 ⟨rfl,hx⟩)
  go_ret
  exact ⟨ret_bool (by rw [HN.out]),Xw⟩
def sc (ps:List (List UInt8)):List Value:=ps.map fun p=>.string (str p)
@[simp] theorem sc_len (ps:List (List UInt8)):(sc ps).length=ps.length:=by simp [sc]
theorem sc_at (ps:List (List UInt8)) (k:Nat) (h:k<ps.length):(sc ps)[k]?=some (.string (str ps[k])):=by simp [sc,h]
theorem sc_app (a b:List (List UInt8)):sc (a++b)=sc a++sc b:=by simp [sc]
def IsSlS (ps:List (List UInt8)) (v:Value) (w:World):Prop:=∃ A c,v=.slice A ps.length c∧Rd w A (sc ps)∧c≤maxLen
theorem IsSlS.mk {ps:List (List UInt8)} {w:World} {A:Option Addr} {n c:Nat} (hn:n=ps.length) (h:Rd w A (sc ps)) (hc:c≤maxLen):IsSlS ps (.slice A n c) w:=⟨A,c,by rw [hn],h,hc⟩
theorem slt_str:SlT Tryz.prog 49 9 (.string ⟨#[]⟩) 1 16:=⟨Tryz.underlying49,by kernel_rfl,rfl,by omega⟩
def pieces (sep:UInt8):List UInt8→List (List UInt8)
 | []=>[[]]
 | b::t=>if b=sep then []::pieces sep t else match pieces sep t with
  | []=>[[b]]
  | p::ps=>(b::p)::ps
def keepS (ps:List (List UInt8)):List (List UInt8):=(ps.map trimL).filter fun p=>!p.isEmpty
def splitL (sep:UInt8) (l:List UInt8):List (List UInt8):=keepS (pieces sep l)
theorem pieces_len (sep:UInt8):∀ l,(pieces sep l).length≤l.length+1
 | []=>by simp [pieces]
 | b::t=>by
  have ih:=pieces_len sep t
  unfold pieces
  split
  ·simp only [List.length_cons];omega
  ·split
   ·simp only [List.length_cons,List.length_nil];omega
   ·rename_i h;rw [h] at ih;simp only [List.length_cons] at *;omega
theorem keepS_len (ps:List (List UInt8)):(keepS ps).length≤ps.length:=by
 unfold keepS;exact Nat.le_trans (List.length_filter_le _ _) (by simp)
theorem splitL_len (sep:UInt8) (l:List UInt8):(splitL sep l).length≤l.length+1:=Nat.le_trans (keepS_len _) (pieces_len sep l)
theorem pieces_one (sep:UInt8):∀ l:List UInt8,sep∉l→pieces sep l=[l]
 | [],_=>rfl
 | b::t,h=>by
  simp only [List.mem_cons,not_or] at h
  unfold pieces
  rw [if_neg (fun e=>h.1 e.symm),pieces_one sep t h.2]
theorem pieces_cut (sep:UInt8):∀ (l r:List UInt8),sep∉l→pieces sep (l++sep::r)=l::pieces sep r
 | [],r,_=>by simp [pieces]
 | b::t,r,h=>by
  simp only [List.mem_cons,not_or] at h
  rw [List.cons_append,pieces,if_neg (fun e=>h.1 e.symm),pieces_cut sep t r h.2]
theorem keepS_cons (p:List UInt8) (ps:List (List UInt8)):keepS (p::ps)=(if trimL p=[] then [] else [trimL p])++keepS ps:=by
 unfold keepS
 rw [List.map_cons,List.filter_cons]
 by_cases h:trimL p=[]
 ·simp [h]
 ·rw [if_neg h,if_pos (by cases hh:trimL p <;> simp_all)];rfl
theorem trim_nil:trimL []=[]:=by rw [trimL_eq];rfl
theorem splitL_nil (sep:UInt8):splitL sep []=[]:=by unfold splitL pieces;rw [keepS_cons,if_pos trim_nil];rfl
theorem splitL_one (sep:UInt8) (l:List UInt8) (h:sep∉l):splitL sep l=if trimL l=[] then [] else [trimL l]:=by
 unfold splitL;rw [pieces_one sep l h,keepS_cons];simp [keepS]
theorem splitL_cut (sep:UInt8) (l:List UInt8) (k:Nat) (hk:l[k]?=some sep) (hn:∀ j,j<k→l[j]?≠some sep) :
  splitL sep l=(if trimL (l.take k)=[] then [] else [trimL (l.take k)])++splitL sep (l.drop (k+1)):=by
 obtain ⟨hl,hg⟩:=List.getElem?_eq_some_iff.1 hk
 have e:l=l.take k++sep::l.drop (k+1):=by
  conv=>lhs;rw [← List.take_append_drop k l,List.drop_eq_getElem_cons hl,hg]
 have hm:sep∉l.take k:=by
  intro h
  obtain ⟨j,hj,hj2⟩:=List.getElem_of_mem h
  simp only [List.length_take] at hj
  refine hn j (by omega) ?_
  rw [List.getElem_take] at hj2
  rw [List.getElem?_eq_getElem (by omega),hj2]
 unfold splitL
 conv=>lhs;rw [e]
 rw [pieces_cut sep _ _ hm,keepS_cons]
theorem not_mem_of {l:List UInt8} {c:UInt8} (h:∀ k:Nat,l[k]?≠some c):c∉l:=by
 intro hm
 obtain ⟨j,hj,hj2⟩:=List.getElem_of_mem hm
 exact h j (by rw [List.getElem?_eq_getElem hj,hj2])
theorem trim_len (l:List UInt8):(trimL l).length≤l.length:=by
 rw [trimL_eq,List.length_reverse]
 refine Nat.le_trans (List.dropWhile_suffix _).length_le ?_
 rw [List.length_reverse]
 exact (List.dropWhile_suffix _).length_le
theorem idx_cases (l:List UInt8) (c:UInt8):(Lib.indexByte l c=-1∧c∉l)∨∃ k:Nat,Lib.indexByte l c=(k:Int)∧k<l.length∧l[k]?=some c∧∀ j,j<k→l[j]?≠some c:=by
 have h:=Lib.indexByte_ge l c
 by_cases h0:Lib.indexByte l c=-1
 ·exact .inl ⟨h0,not_mem_of (Lib.indexByte_none h0)⟩
 ·obtain ⟨k,hk⟩:∃ k:Nat,Lib.indexByte l c=(k:Int):=⟨(Lib.indexByte l c).toNat,by omega⟩
  have:=Lib.indexByte_some hk
  exact .inr ⟨k,hk,(List.getElem?_eq_some_iff.1 this.1).1,this.1,this.2⟩
theorem Split_c (l:List UInt8) (sep:UInt8) (hs:l.length≤1099511627776) (w:World) :
  Calls Tryz.prog 98 #[.string (str l),.int .u8 (sep.toNat:Int)] w (Ret (IsSlS (splitL sep l)) w):=by
 have hms:maxLen=9223372036854775807:=rfl
 have htot:=splitL_len sep l
 go_enter Tryz.func98,Tryz.ntmps98
 go_wp2
 go_loopw [0,5] (fun s v wr=>∃ acc l',s=.string (str l')∧splitL sep l=acc++splitL sep l'∧l'.length≤l.length∧wr.ownsRow w.heap.size 9 1 v acc.length (sc acc)∧Ext w wr) (fun s _ _=>strLen s)
 case atStart=>exact ⟨[],l,rfl,rfl,Nat.le_refl _,World.ownsRow_nil _ _ _ _,Ext.rfl' _⟩
 case round =>
  obtain ⟨acc,l',rfl,hinv,hll,hown,hext⟩:=hrel
  have hacc:acc.length≤l.length+1:=by
   have:=congrArg List.length hinv;rw [List.length_append] at this;omega
  have HI:=Hy hinv
  clear hinv
  by_cases h0:0<l'.length
  ·have HO:=Hy hown
   clear hown
   have hu:(sep.toNat:Int).toNat.toUInt8=sep:=by simp
   rcases idx_cases l' sep with ⟨hi,hn⟩ | ⟨k,hi,hk,hk1,hk2⟩
   ·have HS:=Hy (splitL_one sep l' hn)
    have HX:=Hy hi
    clear hi hn
    by_cases hq:trimL l'=[]
    ·have HQ:=Hy hq
     clear hq
     skip
     go_wp2_with (first
      | (go_at_call 109;refine (Tryz.strings_IndexByte _ _ _).mono ?_;rintro e w1 ⟨rfl,rfl⟩;rw [str_data,hu,HX.out])
      | (go_at_call 79;refine (Trim_c l' (by first | omega | (rw [List.length_take];omega)) _).mono ?_;rintro e w2 ⟨rfl,hx2⟩;rw [HQ.out]))
     go_roundw
     case rel=>exact ⟨acc,[],by try rfl,by rw [HI.out,HS.out,if_pos HQ.out];simp [splitL_nil],by simp only [List.length_drop,List.length_nil];omega,own_ext HO.out Xq,Xq⟩
     case measure=>first | (simp only [strLen,str_size];exact h0) | (simp [strLen];omega)
    ·obtain ⟨q,hq0⟩:∃ q,q=trimL l':=⟨_,rfl⟩
     have hqn:q.isEmpty=false:=by
      cases hh:q with
      | nil=>exact absurd (hq0.symm.trans hh) hq
      | cons _ _=>rfl
     have HQ:=Hy hq
     have HQ0:=Hy hq0
     clear hq hq0
     skip
     go_wp2_with (first
      | (go_at_call 109;refine (Tryz.strings_IndexByte _ _ _).mono ?_;rintro e w1 ⟨rfl,rfl⟩;rw [str_data,hu,HX.out])
      | (go_at_call 79;refine (Trim_c l' (by first | omega | (rw [List.length_take];omega)) _).mono ?_;rintro e w2 ⟨rfl,hx2⟩;rw [← HQ0.out])
      | (at_builtin;refine wpL_app slt_str (.tmp 28) (.tmp 30) rfl rfl rfl rfl (Ext.al Xq _) ((own_ext HO.out Xq).alloc _) (by rfl) (new_cells w2 #[.string (str q)] 9) (by simp [Value.oneCell']) (by omega) (by simp only [maxLen];omega) ?_;intro v' w' hown' hext' hgg;clear hgg))
     go_roundw
     case rel=>exact ⟨acc++[q],[],by try rfl,by rw [HI.out,HS.out,if_neg HQ.out,← HQ0.out];simp [splitL_nil],by simp only [List.length_drop,List.length_nil];omega,by rw [sc_app,List.length_append];exact hown',hext'⟩
     case measure=>first | (simp only [strLen,str_size];exact h0) | (simp [strLen];omega)
   ·have HS:=Hy (splitL_cut sep l' k hk1 hk2)
    have HX:=Hy hi
    clear hi hk1 hk2
    by_cases hq:trimL (l'.take k)=[]
    ·have HQ:=Hy hq
     clear hq
     (go_wp2_with (go_at_call 109;refine (Tryz.strings_IndexByte _ _ _).mono ?_;rintro e w1 ⟨rfl,rfl⟩;rw [str_data,hu,HX.out]);go_quiet (fail))
     go_wp2_with (first
      | (go_at_call 109;refine (Tryz.strings_IndexByte _ _ _).mono ?_;rintro e w1 ⟨rfl,rfl⟩;rw [str_data,hu,HX.out])
      | (go_at_call 79;refine (Trim_c (l'.take k) (by first | omega | (rw [List.length_take];omega)) _).mono ?_;rintro e w2 ⟨rfl,hx2⟩;rw [HQ.out]))
     go_roundw
     case rel=>exact ⟨acc,l'.drop (k+1),by try rfl,by rw [HI.out,HS.out,if_pos HQ.out];simp [splitL_nil],by simp only [List.length_drop,List.length_nil];omega,own_ext HO.out Xq,Xq⟩
     case measure=>first | (simp only [strLen,str_size];exact h0) | (simp [strLen];omega)
    ·obtain ⟨q,hq0⟩:∃ q,q=trimL (l'.take k):=⟨_,rfl⟩
     have hqn:q.isEmpty=false:=by
      cases hh:q with
      | nil=>exact absurd (hq0.symm.trans hh) hq
      | cons _ _=>rfl
     have HQ:=Hy hq
     have HQ0:=Hy hq0
     clear hq hq0
     (go_wp2_with (go_at_call 109;refine (Tryz.strings_IndexByte _ _ _).mono ?_;rintro e w1 ⟨rfl,rfl⟩;rw [str_data,hu,HX.out]);go_quiet (fail))
     go_wp2_with (first
      | (go_at_call 109;refine (Tryz.strings_IndexByte _ _ _).mono ?_;rintro e w1 ⟨rfl,rfl⟩;rw [str_data,hu,HX.out])
      | (go_at_call 79;refine (Trim_c (l'.take k) (by first | omega | (rw [List.length_take];omega)) _).mono ?_;rintro e w2 ⟨rfl,hx2⟩;rw [← HQ0.out])
      | (at_builtin;refine wpL_app slt_str (.tmp 28) (.tmp 30) rfl rfl rfl rfl (Ext.al Xq _) ((own_ext HO.out Xq).alloc _) (by rfl) (new_cells w2 #[.string (str q)] 9) (by simp [Value.oneCell']) (by omega) (by simp only [maxLen];omega) ?_;intro v' w' hown' hext' hgg;clear hgg))
     go_roundw
     case rel=>exact ⟨acc++[q],l'.drop (k+1),by try rfl,by rw [HI.out,HS.out,if_neg HQ.out,← HQ0.out];simp [splitL_nil],by simp only [List.length_drop,List.length_nil];omega,by rw [sc_app,List.length_append];exact hown',hext'⟩
     case measure=>first | (simp only [strLen,str_size];exact h0) | (simp [strLen];omega)
  ·have he:l'=[]:=List.eq_nil_of_length_eq_zero (by omega)
   subst he
   rw [splitL_nil,List.append_nil] at HI
   obtain ⟨A',c',rfl,hcc,hcm,hr,_⟩:=Rd.of_own hown
   clear hown
   go_wp2
   go_ret
   exact Ret.is rfl (IsSlS.mk (by rw [HI.out]) (by rw [HI.out];exact hr) hcm) hext
theorem splitL_at (sep:UInt8) (l:List UInt8) (f i:Nat) (hf:f≤i) (hi:l[i]?=some sep) (hn:∀ j,f≤j→j<i→l[j]?≠some sep) :
  splitL sep (l.drop f)=(if trimL ((l.take i).drop f)=[] then [] else [trimL ((l.take i).drop f)])++splitL sep (l.drop (i+1)):=by
 have h:=splitL_cut sep (l.drop f) (i-f) (by rw [List.getElem?_drop,Nat.add_sub_cancel' hf];exact hi) (fun j hj=>by rw [List.getElem?_drop];exact hn _ (by omega) (by omega))
 rw [h,List.drop_take,List.drop_drop]
 rw [show f+(i-f+1)=i+1 from by omega]
theorem splitL_end (sep:UInt8) (l:List UInt8) (f:Nat) (hn:∀ j,f≤j→j<l.length→l[j]?≠some sep) :
  splitL sep (l.drop f)=if trimL (l.drop f)=[] then [] else [trimL (l.drop f)]:=by
 refine splitL_one sep _ (not_mem_of fun k=>?_)
 rw [List.getElem?_drop]
 rcases Nat.lt_or_ge (f+k) l.length with h | h
 ·exact hn _ (by omega) h
 ·rw [List.getElem?_eq_none h];simp
theorem Rd.text {w:World} {A:Option Addr} {ps:List (List UInt8)} (h:Rd w A (sc ps)) {k:Nat} (hk:k<ps.length) :
  ∃ b o,A=some ⟨b,o,none⟩∧b<w.heap.size∧Hid (∀ w',Ext w w'→w'.cell? ⟨b,o+k,none⟩=some (.string (str ps[k]))):=by
 obtain ⟨b,o,rfl,hb,_⟩:=h.at_ (by rw [sc_len];omega)
 refine ⟨b,o,rfl,hb,fun w' e=>?_⟩
 obtain ⟨b',o',he,_,hc'⟩:=(h.ext e).at_ (by rw [sc_len];omega)
 cases he
 exact hc' k _ (sc_at ps k hk)
end Go.Proofs.YthbofilcnpdghaaGreatDoor
end
