/-
A head as bytes: plain laws.
-/
import Derived.Test.YthbofilcnpdghaaGreatDoorZaq
import Derived.Test.YthbofilcnpdghaaGreatDoorZao
import Derived.Test.YthbofilcnpdghaaGreatDoorShelf
import Derived.Test.YthbofilcnpdghaaGreatDoorZab
import Derived.Lib.Builder
import Derived.Lib.AppendStr
import Derived.Lib.UnsafeStr
import Derived.Lib.Walk
import Derived.Laws.Externs
set_option maxRecDepth 100000
set_option maxHeartbeats 8000000
set_option linter.unusedVariables false
set_option linter.unusedSimpArgs false
section
namespace Go.Proofs.YthbofilcnpdghaaGreatDoor
open Go.RowKit
def okF (f:Fld):Bool:=tokL f.1 && vlL f.2
def lenF (f:Fld):Nat:=f.1.length + 2 + f.2.length
def lenS (fs:List Fld):Nat:=(fs.map fun f=>lenF f + 2).sum
def wrF (f:Fld):List UInt8:=f.1 ++ ([58,32] ++ (f.2 ++ [13,10]))
def wrS (fs:List Fld):List UInt8:=fs.flatMap wrF
def longH (n:Nat) (fs:List Fld):Bool:=decide (8192 < n) || decide (100 < fs.length) || fs.any (fun f=>decide (8192 < lenF f)) || decide (32768 < n + 4 + lenS fs)
def wrH (first:List UInt8) (fs:List Fld):List UInt8 × Int :=
 if fs.all okF=false then ([],42) else if longH first.length fs=true then ([],44) else (first ++ ([13,10] ++ (wrS fs ++ [13,10])),0)
theorem wrF_len (f:Fld):(wrF f).length=lenF f + 2:=by unfold wrF lenF; simp; omega
theorem wrS_len:∀ fs:List Fld,(wrS fs).length=lenS fs
 | []=>rfl
 | f :: fs=>by
  have ih:=wrS_len fs
  unfold wrS lenS at *
  rw [List.flatMap_cons,List.length_append,ih,wrF_len,List.map_cons,List.sum_cons]
theorem lenS_take (fs:List Fld) (k:Nat) (h:k < fs.length):lenS (fs.take (k + 1))=lenS (fs.take k) + (lenF fs[k] + 2):=by
 unfold lenS
 rw [List.take_succ_eq_append_getElem h,List.map_append,List.sum_append]
 simp
theorem lenS_mono (fs:List Fld):∀ (k j:Nat),k ≤ j → lenS (fs.take k) ≤ lenS (fs.take j):=by
 intro k j h
 induction j with
 | zero=>rw [Nat.le_zero.1 h]; exact Nat.le_refl _
 | succ j ih =>
  rcases Nat.lt_or_ge k (j + 1) with h1 | h1
  ·have h2:=ih (by omega)
   by_cases hj:j < fs.length
   ·rw [lenS_take fs j hj]; omega
   ·have e1:fs.take (j + 1)=fs:=List.take_of_length_le (by omega)
    have e2:fs.take j=fs:=List.take_of_length_le (by omega)
    rw [e1]; rw [e2] at h2; exact h2
  ·rw [show k=j + 1 by omega]; exact Nat.le_refl _
theorem lenS_all (fs:List Fld) (k:Nat):lenS (fs.take k) ≤ lenS fs:=by
 have:=lenS_mono fs k (max k fs.length) (by omega)
 rw [List.take_of_length_le (show fs.length ≤ max k fs.length by omega)] at this
 exact this
theorem wrS_take (fs:List Fld) (k:Nat) (h:k < fs.length):wrS (fs.take (k + 1))=wrS (fs.take k) ++ wrF fs[k]:=by
 unfold wrS
 rw [List.take_succ_eq_append_getElem h,List.flatMap_append]
 simp
theorem wrH_bad {first:List UInt8} {fs:List Fld} {k:Nat} (h:k < fs.length) (hb:okF fs[k]=false):wrH first fs=([],42):=by
 unfold wrH
 rw [if_pos]
 rw [List.all_eq_false]
 exact ⟨fs[k],List.getElem_mem h,by rw [hb]; decide⟩
theorem all_ok {fs:List Fld} (h:∀ j (hj:j < fs.length),okF fs[j]=true):fs.all okF=true:=by
 rw [List.all_eq_true]
 intro f hf
 obtain ⟨j,hj,rfl⟩:=List.getElem_of_mem hf
 exact h j hj
theorem wrH_long {first:List UInt8} {fs:List Fld} (h:fs.all okF=true) (hl:longH first.length fs=true):wrH first fs=([],44):=by
 unfold wrH
 rw [if_neg (by rw [h]; decide),if_pos hl]
theorem wrH_good {first:List UInt8} {fs:List Fld} (h:fs.all okF=true) (hl:longH first.length fs=false):wrH first fs=(first ++ ([13,10] ++ (wrS fs ++ [13,10])),0):=by
 unfold wrH
 rw [if_neg (by rw [h]; decide),if_neg (by rw [hl]; decide)]
def anyL (fs:List Fld) (k:Nat):Bool:=(fs.take k).any fun f=>decide (8192 < lenF f)
theorem anyL_succ (fs:List Fld) (k:Nat) (h:k < fs.length):anyL fs (k + 1)=(anyL fs k || decide (8192 < lenF fs[k])):=by
 unfold anyL
 rw [List.take_succ_eq_append_getElem h,List.any_append]
 simp
end Go.Proofs.YthbofilcnpdghaaGreatDoor
end
section
namespace Go.Proofs.YthbofilcnpdghaaGreatDoor
open Go.RowKit
def IsBy (r:List UInt8 × Int) (v:Value) (w:World):Prop:=∃ A c,v=.tuple #[.slice A r.1.length c,.int .i64 r.2]∧Rd w A (bc r.1)
def SizeAt (n0:Nat) (fs:List Fld) (k S:Nat):Prop:=(S ≤ 32768∧S=n0 + 4 + lenS (fs.take k)) ∨ (32768 < S∧S ≤ 140737488500000∧32768 < n0 + 4 + lenS (fs.take k))
theorem size_zero (n0:Nat) (fs:List Fld) (h:n0 ≤ 140737488400000):SizeAt n0 fs 0 (n0 + 4):=by
 unfold SizeAt
 have:lenS (fs.take 0)=0:=rfl
 omega
theorem size_next {n0 k S m:Nat} {fs:List Fld} (h:SizeAt n0 fs k S) (hk:k < fs.length) (hS:S ≤ 32768) (hm:m=lenF fs[k]):SizeAt n0 fs (k + 1) (S + (min m 32768 + 2)):=by
 unfold SizeAt at *
 rw [lenS_take fs k hk,← hm]
 omega
theorem size_same {n0 k S:Nat} {fs:List Fld} (h:SizeAt n0 fs k S) (hk:k < fs.length) (hS:¬ S ≤ 32768):SizeAt n0 fs (k + 1) S:=by
 unfold SizeAt at *
 rw [lenS_take fs k hk]
 omega
theorem long_or {n0:Nat} {fs:List Fld} {S:Nat} (h:SizeAt n0 fs fs.length S):longH n0 fs=((decide (8192 < n0) || decide (100 < fs.length)) || anyL fs fs.length || decide (32768 < S)):=by
 unfold longH anyL
 unfold SizeAt at h
 rw [List.take_of_length_le (Nat.le_refl _)] at h ⊢
 congr 1
 rw [decide_eq_decide]
 omega
end Go.Proofs.YthbofilcnpdghaaGreatDoor
end
section
namespace Go.Proofs.YthbofilcnpdghaaGreatDoor
open Go.RowKit
def Bld (B b:Nat) (l:List UInt8) (w:World):Prop:=Lib.IsBuilder 165 5 B b (bc l) w
theorem bld_size:∃ j,Tryz.prog.info? 165=some j∧j.size=2:=by
 have h:(Tryz.prog.info? 165).map (·.size)=some 2:=by kernel_rfl
 obtain ⟨j,hj,hs⟩:=Option.map_eq_some_iff.1 h
 exact ⟨j,hj,hs⟩
theorem bld_lies:liesAt Tryz.prog Tryz.prog.depth 165 (2 / Tryz.prog.cellsOf 165) 0 165 1=true:=by kernel_rfl
theorem check_fresh (b:Nat) (w:World) (h0:w.cell? ⟨b,0,none⟩=some (.pointer none)) (hsh:w.shape? b=some (165,2)) (hfz:w.frozen? ⟨b,0,none⟩=false) :
  Calls Tryz.prog 146 #[.pointer (some ⟨b,0,none⟩)] w fun e w'=>e=.returned (.tuple #[])∧w'=w.setCell ⟨b,0,none⟩ (.pointer (some ⟨b,0,none⟩)):=by
 obtain ⟨j,hj,hjs⟩:=bld_size
 have HJ:=Lib.hid hj
 have HS:=Lib.hid hjs
 have HH:=Lib.hid hsh
 clear hj hjs hsh
 go_enter Tryz.func146,Tryz.ntmps146
 go_wp2
 rw [Lib.run_to_unsafe w ⟨b,0,none⟩ Tryz.underlying163 Tryz.underlying200 HJ.out (by rw [HS.out]; decide) HH.out (Nat.zero_lt_succ 1)]
 simp only [Result.andThen]
 rw [Oper.upon_value]
 go_wp2
 rw [run_callFunc_extern Tryz.func162 (by kernel_rfl) (by kernel_rfl) (by kernel_rfl) (e:=Extern.AbiNoEscape.same) (by kernel_rfl)]
 rw [Lib.run_noEscape]
 simp only [Result.andThen]
 rw [Oper.upon_value]
 go_wp2
 rw [Lib.run_from_unsafe w ⟨b,0,none⟩ Tryz.underlying200 Tryz.underlying163 HJ.out HH.out bld_lies]
 simp only [Result.andThen]
 rw [Oper.upon_value]
 go_wp2
 go_end0
 exact ⟨rfl,rfl⟩
theorem check_used (b:Nat) (w:World) (h0:w.cell? ⟨b,0,none⟩=some (.pointer (some ⟨b,0,none⟩))) :
  Calls Tryz.prog 146 #[.pointer (some ⟨b,0,none⟩)] w fun e w'=>e=.returned (.tuple #[])∧w'=w:=by
 obtain ⟨j,hj,hjs⟩:=bld_size
 have HJ:=Lib.hid hj
 clear hj hjs
 go_enter Tryz.func146,Tryz.ntmps146
 go_wp2
 rw [Lib.run_neq_ptr_same w _ Tryz.underlying163 HJ.out]
 go_wp2
 go_end0
 exact ⟨rfl,rfl⟩
theorem info_u8:(Tryz.prog.info? 5).map (fun i=>(i.zero,i.size,i.bytes))=some (some (.int .u8 0),1,1):=by kernel_rfl
theorem bString_c (B b:Nat) (l:List UInt8) (w:World) (h:Bld B b l w) (hBw:B ≤ w.heap.size) :
  Calls Tryz.prog 120 #[.pointer (some ⟨b,0,none⟩)] w fun e w'=>e=.returned (.string (str l))∧Below B w w' :=
 Tryz.Builder_String_any B b l w h hBw
theorem bldAt_ext {B b:Nat} {p:Value} {l:List Value} {w w':World} (h:Lib.BuilderAt 165 5 B b p l w) (x:Ext w w'):Lib.BuilderAt 165 5 B b p l w':=by
 obtain ⟨hB,v,hb,hown,hne⟩:=h
 exact ⟨hB,v,(x.block b (Array.getElem?_eq_some_iff.1 hb).1).trans hb,own_ext hown x,hne⟩
theorem Bld.ext {B b:Nat} {l:List UInt8} {w w':World} (h:Bld B b l w) (x:Ext w w'):Bld B b l w':=by
 rcases h with h | h
 ·exact .inl (bldAt_ext h x)
 ·exact .inr (bldAt_ext h x)
end Go.Proofs.YthbofilcnpdghaaGreatDoor
end
section
namespace Go.Proofs.YthbofilcnpdghaaGreatDoor
open Go.RowKit
def BldAt (B b B2:Nat) (p:Value) (l:List UInt8) (w:World):Prop :=
 B ≤ b∧b < B2∧B2 ≤ w.heap.size∧∃ v,w.heap[b]?=some (.cells #[p,v] 165 (0,0))∧w.ownsRow B2 5 1 v (bc l).length (bc l)
def BldJ (B b B2:Nat) (l:List UInt8) (w:World):Prop:=BldAt B b B2 (.pointer none) l w ∨ BldAt B b B2 (.pointer (some ⟨b,0,none⟩)) l w
def FrJ (B b B2:Nat) (w w':World):Prop:=Below B w w'∧∀ j,j < B2 → j ≠ b → w'.heap[j]?=w.heap[j]?
theorem FrJ.rfl' (B b B2:Nat) (w:World):FrJ B b B2 w w:=⟨Below.refl _ _,fun _ _ _=>rfl⟩
theorem FrJ.tr {B b B2:Nat} {w w1 w2:World} (h:FrJ B b B2 w w1) (k:FrJ B b B2 w1 w2):FrJ B b B2 w w2:=⟨Below.trans h.1 k.1,fun j h1 h2=>(k.2 j h1 h2).trans (h.2 j h1 h2)⟩
theorem FrJ.set {B b B2:Nat} {w w1:World} (h:FrJ B b B2 w w1) (hB:B ≤ b) (k:Nat) (v:Value):FrJ B b B2 w (w1.setCell ⟨b,k,none⟩ v) :=
 ⟨h.1.setCell (p:=⟨b,k,none⟩) hB v,fun j h1 h2=>(Below.heap_setCell _ _ _ _ h2).trans (h.2 j h1 h2)⟩
theorem FrJ.ext {B b B2:Nat} {w w1:World} (hB:B2 ≤ w.heap.size) (hb:B ≤ w.heap.size) (h:Ext w w1):FrJ B b B2 w w1:=⟨h.mono hb,fun j h1 _=>h.block j (by omega)⟩
theorem own_base {w:World} {base base' e size n:Nat} {v:Value} {xs:List Value} (h:w.ownsRow base e size v n xs) (hb:base' ≤ base):w.ownsRow base' e size v n xs:=by
 refine ⟨h.1,?_⟩
 rcases h.2 with h2 | ⟨g,cap,cur,hv,hg,r⟩
 ·exact .inl h2
 ·exact .inr ⟨g,cap,cur,hv,by omega,r⟩
theorem BldAt.at_ {B b B2:Nat} {p:Value} {l:List UInt8} {w:World} (h:BldAt B b B2 p l w):Lib.BuilderAt 165 5 B b p (bc l) w:=by
 obtain ⟨h1,h2,h3,v,hb,ho⟩:=h
 exact ⟨h1,v,hb,own_base ho (by omega),fun e=>by have:=(ho.lt _ e).1; omega⟩
theorem BldJ.toBld {B b B2:Nat} {l:List UInt8} {w:World} (h:BldJ B b B2 l w):Bld B b l w:=by
 rcases h with h | h
 ·exact .inl h.at_
 ·exact .inr h.at_
theorem BldAt.ext {B b B2:Nat} {p:Value} {l:List UInt8} {w w':World} (h:BldAt B b B2 p l w) (x:Ext w w'):BldAt B b B2 p l w':=by
 obtain ⟨h1,h2,h3,v,hb,ho⟩:=h
 exact ⟨h1,h2,Nat.le_trans h3 x.size,v,(x.block b (by omega)).trans hb,own_ext ho x⟩
theorem BldJ.ext {B b B2:Nat} {l:List UInt8} {w w':World} (h:BldJ B b B2 l w) (x:Ext w w'):BldJ B b B2 l w':=by
 rcases h with h | h
 ·exact .inl (h.ext x)
 ·exact .inr (h.ext x)
theorem bldJ_new {w':World} {B b B2:Nat} (hB:B ≤ b) (hb:b < B2) (h2:B2 ≤ w'.heap.size) (h:w'.heap[b]?=some (.cells #[.pointer none,.slice none 0 0] 165 (0,0))):BldJ B b B2 [] w' :=
 .inl ⟨hB,hb,h2,_,h,World.ownsRow_nil _ _ _ _⟩
theorem checkJ_c (B b B2:Nat) (l:List UInt8) (w:World) (h:BldJ B b B2 l w) :
  Calls Tryz.prog 146 #[.pointer (some ⟨b,0,none⟩)] w fun e w'=>e=.returned (.tuple #[])∧(BldAt B b B2 (.pointer (some ⟨b,0,none⟩)) l w'∧FrJ B b B2 w w'):=by
 rcases h with h | h
 ·have h0:=h.at_
  refine (check_fresh b w h0.cell0 h0.shape h0.frozen0).mono ?_
  rintro e w' ⟨rfl,rfl⟩
  obtain ⟨h1,h2,h3,v,hb,ho⟩:=h
  refine ⟨rfl,⟨h1,h2,by simpa using h3,v,by simp [World.setCell,Array.getElem?_modify,hb],?_⟩,(FrJ.rfl' B b B2 w).set h1 0 _⟩
  refine ⟨ho.1,?_⟩
  rcases ho.2 with h2' | ⟨g,cap,cur,hv,hg,hh,r⟩
  ·exact .inl h2'
  ·exact .inr ⟨g,cap,cur,hv,hg,by rw [Below.heap_setCell _ _ _ _ (show g ≠ b by omega)]; exact hh,r⟩
 ·refine (check_used b w h.at_.cell0).mono ?_
  rintro e w' ⟨rfl,rfl⟩
  exact ⟨rfl,h,FrJ.rfl' _ _ _ _⟩
theorem WriteStringJ_c (B b B2:Nat) (l m:List UInt8) (w:World) (h:BldJ B b B2 l w) (hl:l.length + m.length ≤ 140737488355328) :
  Calls Tryz.prog 119 #[.pointer (some ⟨b,0,none⟩),.string (str m)] w fun e w'=>e=.returned (.tuple #[.int .i64 (m.length:Int),.nilIface])∧(BldJ B b B2 (l ++ m) w'∧FrJ B b B2 w w'):=by
 obtain ⟨i0,hi,hz0,hz1,hz2⟩:=info_parts info_u8
 have hms:maxLen=9223372036854775807:=rfl
 have CK:=Lib.hid (checkJ_c B b B2 l w h)
 have hbl:(bc l).length=l.length:=bc_len l
 have hsm:(str m).size=m.length:=str_size m
 go_enter Tryz.func119,Tryz.ntmps119
 go_wp2_with (go_at_call 146; refine CK.out.mono ?_)
 rintro e w1 ⟨rfl,h1,hb1⟩
 obtain ⟨hB,hbB,hB2,v,hbk,hown⟩:=h1
 have c0:w1.cell? ⟨b,0,none⟩=some (.pointer (some ⟨b,0,none⟩)):=by rw [Lib.cell_of_heap hbk]; rfl
 have c1:w1.cell? ⟨b,1,none⟩=some v:=by rw [Lib.cell_of_heap hbk]; rfl
 go_wp2_with (at_builtin; refine Lib.wpList_append_own_string _ rfl _ _ 22 9 rfl B2 5 i0 Tryz.underlying22 Tryz.underlying9 hi hz0 hz1 hz2 _ _ _ rfl hown (str m) rfl (by omega) (by omega) (by omega) ?_)
 intro v' w2 hown' hgrow _
 have hfar:∀ j,j < B2 → w2.heap[j]?=w1.heap[j]?:=fun j hj=>by
  rw [hgrow.block j (by omega) (fun e=>by have:=(hown.lt j e.symm).1; omega)]
 have hb2:w2.heap[b]?=some (.cells #[.pointer (some ⟨b,0,none⟩),v] 165 (0,0)):=(hfar b hbB).trans hbk
 have d0:w2.cell? ⟨b,0,none⟩=some (.pointer (some ⟨b,0,none⟩)):=by rw [Lib.cell_of_heap hb2]; rfl
 have d1:w2.cell? ⟨b,1,none⟩=some v:=by rw [Lib.cell_of_heap hb2]; rfl
 have f1:w2.frozen? ⟨b,1,none⟩=false:=Lib.frozen_of_heap hb2 1
 have hs2:w1.heap.size ≤ w2.heap.size:=hgrow.size
 obtain ⟨A,n',cap,rfl⟩:∃ A n' cap,v'=.slice A n' cap:=by
  rcases hown'.2 with ⟨hv,_⟩ | ⟨g,cap,cur,hv,_⟩
  ·exact ⟨_,_,_,hv⟩
  ·exact ⟨_,_,_,hv⟩
 go_wp2
 go_ret2
 refine ⟨rfl,.inr ⟨hB,hbB,by simp; omega,.slice A n' cap,by simp [World.setCell,Array.getElem?_modify,hb2],?_⟩,?_⟩
 ·have ho:w2.ownsRow B2 5 1 (.slice A n' cap) (bc (l ++ m)).length (bc (l ++ m)):=by rw [bc_app]; simpa [bc,Lib.strCells,str] using hown'
  refine ⟨ho.1,?_⟩
  rcases ho.2 with h2' | ⟨g,cap,cur,hv,hg,hh,r⟩
  ·exact .inl h2'
  ·exact .inr ⟨g,cap,cur,hv,hg,by rw [Below.heap_setCell _ _ _ _ (show g ≠ b by omega)]; exact hh,r⟩
 ·refine ((hb1.tr ⟨?_,fun j h1 h2=>hfar j h1⟩).set hB 1 _)
  exact ((Below.refl B w1).grown hgrow (by omega) (fun k hk=>by have:=(hown.lt k hk).1; omega))
theorem bStringJ_c (B b B2:Nat) (l:List UInt8) (w:World) (h:BldJ B b B2 l w) :
  Calls Tryz.prog 120 #[.pointer (some ⟨b,0,none⟩)] w fun e w'=>e=.returned (.string (str l))∧Below B w w' :=
 bString_c B b l w h.toBld (by rcases h with h | h <;> (obtain ⟨h1,h2,h3,_⟩:=h; omega))
end Go.Proofs.YthbofilcnpdghaaGreatDoor
end
