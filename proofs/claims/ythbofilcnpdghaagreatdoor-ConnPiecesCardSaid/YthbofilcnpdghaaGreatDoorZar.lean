/-
Head's write: a head that may not be written.
-/
import Derived.Test.YthbofilcnpdghaaGreatDoorZaq
import Derived.Test.YthbofilcnpdghaaGreatDoorZam
import Derived.Test.YthbofilcnpdghaaGreatDoorShelf
import Derived.Test.YthbofilcnpdghaaGreatDoorZab
import Derived.Lib.Builder
import Derived.Lib.AppendStr
import Derived.Lib.UnsafeStr
import Derived.Lib.Walk
import Derived.Laws.Externs
import Derived.Test.YthbofilcnpdghaaGreatDoorZao
import Derived.Deep.DeepCutAuto
set_option maxRecDepth 100000
set_option maxHeartbeats 8000000
set_option linter.unusedVariables false
set_option linter.unusedSimpArgs false
section
namespace Go.Proofs.YthbofilcnpdghaaGreatDoor
open Go.RowKit
def IsBy (r:List UInt8 × Int) (v:Value) (w:World):Prop:=∃ A c,v=.tuple #[.slice A r.1.length c,.int .i64 r.2]∧Rd w A (bc r.1)
def SizeAt (n0:Nat) (fs:List Fld) (k S:Nat):Prop:=(S≤32768∧S=n0+4+lenS (fs.take k))∨(32768<S∧S≤140737488500000∧32768<n0+4+lenS (fs.take k))
theorem size_zero (n0:Nat) (fs:List Fld) (h:n0≤140737488400000):SizeAt n0 fs 0 (n0+4):=by
 unfold SizeAt
 have:lenS (fs.take 0)=0:=rfl
 omega
theorem size_next {n0 k S m:Nat} {fs:List Fld} (h:SizeAt n0 fs k S) (hk:k<fs.length) (hS:S≤32768) (hm:m=lenF fs[k]):SizeAt n0 fs (k+1) (S+(min m 32768+2)):=by
 unfold SizeAt at *
 rw [lenS_take fs k hk,← hm]
 omega
theorem size_same {n0 k S:Nat} {fs:List Fld} (h:SizeAt n0 fs k S) (hk:k<fs.length) (hS:¬ S≤32768):SizeAt n0 fs (k+1) S:=by
 unfold SizeAt at *
 rw [lenS_take fs k hk]
 omega
theorem long_or {n0:Nat} {fs:List Fld} {S:Nat} (h:SizeAt n0 fs fs.length S):longH n0 fs=((decide (8192<n0) || decide (100<fs.length)) || anyL fs fs.length || decide (32768<S)):=by
 unfold longH anyL
 unfold SizeAt at h
 rw [List.take_of_length_le (Nat.le_refl _)] at h ⊢
 congr 1
 rw [decide_eq_decide]
 omega
def Bld (B b:Nat) (l:List UInt8) (w:World):Prop:=Lib.IsBuilder 165 5 B b (bc l) w
theorem bld_size:∃ j,Tryz.prog.info? 165=some j∧j.size=2:=by
 have h:(Tryz.prog.info? 165).map (·.size)=some 2:=by kernel_rfl
 obtain ⟨j,hj,hs⟩:=Option.map_eq_some_iff.1 h
 exact ⟨j,hj,hs⟩
theorem bld_lies:liesAt Tryz.prog Tryz.prog.depth 165 (2/Tryz.prog.cellsOf 165) 0 165 1=true:=by kernel_rfl
theorem check_fresh (b:Nat) (w:World) (h0:w.cell? ⟨b,0,none⟩=some (.pointer none)) (hsh:w.shape? b=some (165,2)) (hfz:w.frozen? ⟨b,0,none⟩=false) :
  Calls Tryz.prog 146 #[.pointer (some ⟨b,0,none⟩)] w fun e w'=>e=.returned (.tuple #[])∧w'=w.setCell ⟨b,0,none⟩ (.pointer (some ⟨b,0,none⟩)):=by
 obtain ⟨j,hj,hjs⟩:=bld_size
 have HJ:=Hy hj
 have HS:=Hy hjs
 have HH:=Hy hsh
 clear hj hjs hsh
 go_enter Tryz.func146,Tryz.ntmps146
 go_wp2
 rw [Lib.run_to_unsafe w ⟨b,0,none⟩ Tryz.underlying163 Tryz.underlying200 HJ.out (by rw [HS.out];decide) HH.out (Nat.zero_lt_succ 1)]
 simp only [Result.andThen]
 rw [Oper.upon_value]
 go_wp2
 rw [run_callFunc_extern Tryz.func162 (by kernel_rfl) (by kernel_rfl) (by kernel_rfl) (e:=Extern.AbiNoEscape.same) (by kernel_rfl)]
 rw [Lib.run_noEscape]
 simp only [Result.andThen]
 rw [Oper.upon_value]
 go_wp2
 rw [Lib.run_from_unsafe w ⟨b,0,none⟩ Tryz.underlying200 Tryz.underlying163 HJ.out HH.out bld_lies]
 simp only [Result.andThen]
 rw [Oper.upon_value]
 go_wp2
 go_end0
 exact ⟨rfl,rfl⟩
theorem check_used (b:Nat) (w:World) (h0:w.cell? ⟨b,0,none⟩=some (.pointer (some ⟨b,0,none⟩))) :
  Calls Tryz.prog 146 #[.pointer (some ⟨b,0,none⟩)] w fun e w'=>e=.returned (.tuple #[])∧w'=w:=by
 obtain ⟨j,hj,hjs⟩:=bld_size
 have HJ:=Hy hj
 clear hj hjs
 go_enter Tryz.func146,Tryz.ntmps146
 go_wp2
 rw [Lib.run_neq_ptr_same w _ Tryz.underlying163 HJ.out]
 go_wp2
 go_end0
 exact ⟨rfl,rfl⟩
theorem info_u8:(Tryz.prog.info? 5).map (fun i=>(i.zero,i.size,i.bytes))=some (some (.int .u8 0),1,1):=by kernel_rfl
theorem bString_c (B b:Nat) (l:List UInt8) (w:World) (h:Bld B b l w) (hBw:B≤w.heap.size) :
  Calls Tryz.prog 120 #[.pointer (some ⟨b,0,none⟩)] w fun e w'=>e=.returned (.string (str l))∧Below B w w' :=
 Tryz.Builder_String_any B b l w h hBw
theorem bldAt_ext {B b:Nat} {p:Value} {l:List Value} {w w':World} (h:Lib.BuilderAt 165 5 B b p l w) (x:Ext w w'):Lib.BuilderAt 165 5 B b p l w':=by
 obtain ⟨hB,v,hb,hown,hne⟩:=h
 exact ⟨hB,v,(x.block b (Array.getElem?_eq_some_iff.1 hb).1).trans hb,own_ext hown x,hne⟩
theorem Bld.ext {B b:Nat} {l:List UInt8} {w w':World} (h:Bld B b l w) (x:Ext w w'):Bld B b l w':=by
 rcases h with h | h
 ·exact .inl (bldAt_ext h x)
 ·exact .inr (bldAt_ext h x)
def BldAt (B b B2:Nat) (p:Value) (l:List UInt8) (w:World):Prop :=
 B≤b∧b<B2∧B2≤w.heap.size∧∃ v,w.heap[b]?=some (.cells #[p,v] 165 (0,0))∧w.ownsRow B2 5 1 v (bc l).length (bc l)
def BldJ (B b B2:Nat) (l:List UInt8) (w:World):Prop:=BldAt B b B2 (.pointer none) l w∨BldAt B b B2 (.pointer (some ⟨b,0,none⟩)) l w
def FrJ (B b B2:Nat) (w w':World):Prop:=Below B w w'∧∀ j,j<B2→j≠b→w'.heap[j]?=w.heap[j]?
theorem FrJ.rfl' (B b B2:Nat) (w:World):FrJ B b B2 w w:=⟨Below.refl _ _,fun _ _ _=>rfl⟩
theorem FrJ.tr {B b B2:Nat} {w w1 w2:World} (h:FrJ B b B2 w w1) (k:FrJ B b B2 w1 w2):FrJ B b B2 w w2:=⟨Below.trans h.1 k.1,fun j h1 h2=>(k.2 j h1 h2).trans (h.2 j h1 h2)⟩
theorem FrJ.set {B b B2:Nat} {w w1:World} (h:FrJ B b B2 w w1) (hB:B≤b) (k:Nat) (v:Value):FrJ B b B2 w (w1.setCell ⟨b,k,none⟩ v) :=
 ⟨h.1.setCell (p:=⟨b,k,none⟩) hB v,fun j h1 h2=>(Below.heap_setCell _ _ _ _ h2).trans (h.2 j h1 h2)⟩
theorem FrJ.ext {B b B2:Nat} {w w1:World} (hB:B2≤w.heap.size) (hb:B≤w.heap.size) (h:Ext w w1):FrJ B b B2 w w1:=⟨h.mono hb,fun j h1 _=>h.block j (by omega)⟩
theorem own_base {w:World} {base base' e size n:Nat} {v:Value} {xs:List Value} (h:w.ownsRow base e size v n xs) (hb:base'≤base):w.ownsRow base' e size v n xs:=by
 refine ⟨h.1,?_⟩
 rcases h.2 with h2 | ⟨g,cap,cur,hv,hg,r⟩
 ·exact .inl h2
 ·exact .inr ⟨g,cap,cur,hv,by omega,r⟩
theorem BldAt.at_ {B b B2:Nat} {p:Value} {l:List UInt8} {w:World} (h:BldAt B b B2 p l w):Lib.BuilderAt 165 5 B b p (bc l) w:=by
 obtain ⟨h1,h2,h3,v,hb,ho⟩:=h
 exact ⟨h1,v,hb,own_base ho (by omega),fun e=>by have:=(ho.lt _ e).1;omega⟩
theorem BldJ.toBld {B b B2:Nat} {l:List UInt8} {w:World} (h:BldJ B b B2 l w):Bld B b l w:=by
 rcases h with h | h
 ·exact .inl h.at_
 ·exact .inr h.at_
theorem BldAt.ext {B b B2:Nat} {p:Value} {l:List UInt8} {w w':World} (h:BldAt B b B2 p l w) (x:Ext w w'):BldAt B b B2 p l w':=by
 obtain ⟨h1,h2,h3,v,hb,ho⟩:=h
 exact ⟨h1,h2,Nat.le_trans h3 x.size,v,(x.block b (by omega)).trans hb,own_ext ho x⟩
theorem BldJ.ext {B b B2:Nat} {l:List UInt8} {w w':World} (h:BldJ B b B2 l w) (x:Ext w w'):BldJ B b B2 l w':=by
 rcases h with h | h
 ·exact .inl (h.ext x)
 ·exact .inr (h.ext x)
theorem bldJ_new {w':World} {B b B2:Nat} (hB:B≤b) (hb:b<B2) (h2:B2≤w'.heap.size) (h:w'.heap[b]?=some (.cells #[.pointer none,.slice none 0 0] 165 (0,0))):BldJ B b B2 [] w' :=
 .inl ⟨hB,hb,h2,_,h,World.ownsRow_nil _ _ _ _⟩
theorem checkJ_c (B b B2:Nat) (l:List UInt8) (w:World) (h:BldJ B b B2 l w) :
  Calls Tryz.prog 146 #[.pointer (some ⟨b,0,none⟩)] w fun e w'=>e=.returned (.tuple #[])∧(BldAt B b B2 (.pointer (some ⟨b,0,none⟩)) l w'∧FrJ B b B2 w w'):=by
 rcases h with h | h
 ·have h0:=h.at_
  refine (check_fresh b w h0.cell0 h0.shape h0.frozen0).mono ?_
  rintro e w' ⟨rfl,rfl⟩
  obtain ⟨h1,h2,h3,v,hb,ho⟩:=h
  refine ⟨rfl,⟨h1,h2,by simpa using h3,v,by simp [World.setCell,Array.getElem?_modify,hb],?_⟩,(FrJ.rfl' B b B2 w).set h1 0 _⟩
  refine ⟨ho.1,?_⟩
  rcases ho.2 with h2' | ⟨g,cap,cur,hv,hg,hh,r⟩
  ·exact .inl h2'
  ·exact .inr ⟨g,cap,cur,hv,hg,by rw [Below.heap_setCell _ _ _ _ (show g≠b by omega)];exact hh,r⟩
 ·refine (check_used b w h.at_.cell0).mono ?_
  rintro e w' ⟨rfl,rfl⟩
  exact ⟨rfl,h,FrJ.rfl' _ _ _ _⟩
theorem WriteStringJ_c (B b B2:Nat) (l m:List UInt8) (w:World) (h:BldJ B b B2 l w) (hl:l.length+m.length≤140737488355328) :
  Calls Tryz.prog 119 #[.pointer (some ⟨b,0,none⟩),.string (str m)] w fun e w'=>e=.returned (.tuple #[.int .i64 (m.length:Int),.nilIface])∧(BldJ B b B2 (l++m) w'∧FrJ B b B2 w w'):=by
 obtain ⟨i0,hi,hz0,hz1,hz2⟩:=info_parts info_u8
 have hms:maxLen=9223372036854775807:=rfl
 have CK:=Hy (checkJ_c B b B2 l w h)
 have hbl:(bc l).length=l.length:=bc_len l
 have hsm:(str m).size=m.length:=str_size m
 go_enter Tryz.func119,Tryz.ntmps119
 go_wp2_with (go_at_call 146;refine CK.out.mono ?_)
 rintro e w1 ⟨rfl,h1,hb1⟩
 obtain ⟨hB,hbB,hB2,v,hbk,hown⟩:=h1
 have c0:w1.cell? ⟨b,0,none⟩=some (.pointer (some ⟨b,0,none⟩)):=by rw [Lib.cell_of_heap hbk];rfl
 have c1:w1.cell? ⟨b,1,none⟩=some v:=by rw [Lib.cell_of_heap hbk];rfl
 go_wp2_with (at_builtin;refine Lib.wpList_append_own_string _ rfl _ _ 22 9 rfl B2 5 i0 Tryz.underlying22 Tryz.underlying9 hi hz0 hz1 hz2 _ _ _ rfl hown (str m) rfl (by omega) (by omega) (by omega) ?_)
 intro v' w2 hown' hgrow _
 have hfar:∀ j,j<B2→w2.heap[j]?=w1.heap[j]?:=fun j hj=>by
  rw [hgrow.block j (by omega) (fun e=>by have:=(hown.lt j e.symm).1;omega)]
 have hb2:w2.heap[b]?=some (.cells #[.pointer (some ⟨b,0,none⟩),v] 165 (0,0)):=(hfar b hbB).trans hbk
 have d0:w2.cell? ⟨b,0,none⟩=some (.pointer (some ⟨b,0,none⟩)):=by rw [Lib.cell_of_heap hb2];rfl
 have d1:w2.cell? ⟨b,1,none⟩=some v:=by rw [Lib.cell_of_heap hb2];rfl
 have f1:w2.frozen? ⟨b,1,none⟩=false:=Lib.frozen_of_heap hb2 1
 have hs2:w1.heap.size≤w2.heap.size:=hgrow.size
 obtain ⟨A,n',cap,rfl⟩:∃ A n' cap,v'=.slice A n' cap:=by
  rcases hown'.2 with ⟨hv,_⟩ | ⟨g,cap,cur,hv,_⟩
  ·exact ⟨_,_,_,hv⟩
  ·exact ⟨_,_,_,hv⟩
 go_wp2
 go_ret2
 refine ⟨rfl,.inr ⟨hB,hbB,by simp;omega,.slice A n' cap,by simp [World.setCell,Array.getElem?_modify,hb2],?_⟩,?_⟩
 ·have ho:w2.ownsRow B2 5 1 (.slice A n' cap) (bc (l++m)).length (bc (l++m)):=by rw [bc_app];simpa [bc,Lib.strCells,str] using hown'
  refine ⟨ho.1,?_⟩
  rcases ho.2 with h2' | ⟨g,cap,cur,hv,hg,hh,r⟩
  ·exact .inl h2'
  ·exact .inr ⟨g,cap,cur,hv,hg,by rw [Below.heap_setCell _ _ _ _ (show g≠b by omega)];exact hh,r⟩
 ·refine ((hb1.tr ⟨?_,fun j h1 h2=>hfar j h1⟩).set hB 1 _)
  exact ((Below.refl B w1).grown hgrow (by omega) (fun k hk=>by have:=(hown.lt k hk).1;omega))
theorem bStringJ_c (B b B2:Nat) (l:List UInt8) (w:World) (h:BldJ B b B2 l w) :
  Calls Tryz.prog 120 #[.pointer (some ⟨b,0,none⟩)] w fun e w'=>e=.returned (.string (str l))∧Below B w w' :=
 bString_c B b l w h.toBld (by rcases h with h | h <;> (obtain ⟨h1,h2,h3,_⟩:=h;omega))
def IsBs (w0:World) (r:List UInt8 × Int) (v:Value) (w:World):Prop:=∃ A c,v=.tuple #[.slice A r.1.length c,.int .i64 r.2]∧(A=none→c=0)∧∃ o':Ow,(∀ b,b<w0.heap.size→o' b=0)∧Sl w o' 7 1 A r.1.length c (bc r.1)
theorem IsBs.no (w0 w:World) (e:Int):IsBs w0 ([],e) (.tuple #[.slice none 0 0,.int .i64 e]) w:=⟨none,0,rfl,fun _=>rfl,fun _=>0,fun _ _=>rfl,Sl.nil_ _ _ _ _ _⟩
theorem IsBs.by_ {w0:World} {r:List UInt8 × Int} {v:Value} {w:World} (h:IsBs w0 r v w):IsBy r v w:=by
 obtain ⟨A,c,hv,_,o',_,hs⟩:=h
 exact ⟨A,c,hv,hs.rd⟩
theorem cv_slW (w:World) (o:Ow) (k:Nat) (e:TypeId) (l:List UInt8) (h:l.length≤maxLen):Sl (cvW w e (str l)) (fun b=>if b<w.heap.size then o b else k) k 1 (some ⟨w.heap.size,0,none⟩) l.length (cvC w e l.length) (bc l):=by
 have hc:=cv_cap w e l.length h
 have hr:=(cv_own w e l).rd
 have hh:(cvW w e (str l)).heap[w.heap.size]?=_:=heap_alloc_new w.drew _
 refine ⟨by rw [bc_len,Nat.mul_one],hc.1,hc.2,.inr ⟨w.heap.size,0,rfl,by simp,cv_size w e (str l),fun j u hu=>?_,fun j hj=>?_⟩⟩
 ·rcases hr with h0 | ⟨b,f,hA,hcc⟩
  ·rw [h0] at hu;simp at hu
  ·cases hA
   exact hcc j u hu
 ·have hsz:j<(bytesRow (str l) (grownCap w (str l).size 0 e)).size:=by
   rw [Nat.mul_one] at hj
   unfold cvC at hj
   rw [str_size]
   simp [bytesRow]
   omega
  rw [Nat.zero_add]
  constructor
  ·unfold World.cell?
   simp only [hh]
   rw [Array.getElem?_eq_getElem hsz];rfl
  ·unfold World.frozen?
   simp only [hh,Bool.and_eq_false_iff,decide_eq_false_iff_not]
   exact .inl (by omega)
theorem hWriteS_big (first:List UInt8) (fs:List Fld) (A:Option Addr) (n c:Nat) (hn:fs.length=n) (hb:n≤8796093022206) (hfl:first.length≤140737488400000) (c1:8192<first.length) (hsz:∀ p∈fs,p.1.length≤140737488351232∧p.2.length≤140737488351232) (w:World) (h:Rd w A (fc fs)) :
  Calls Tryz.prog 90 #[.string (str first),.slice A n c] w (Ret (IsBs w (wrH first fs)) w):=by
 obtain ⟨R,hR⟩:∃ R,R=wrH first fs:=⟨_,rfl⟩
 rw [← hR]
 have HR:=Hy hR
 clear hR
 obtain ⟨sf,hsf⟩:∃ s,s=str first:=⟨_,rfl⟩
 have hsfz:sf.size=first.length:=by rw [hsf];exact str_size first
 have HSF:=Hy hsf
 rw [← hsf]
 clear hsf
 obtain ⟨n0,hn0⟩:∃ q,q=first.length:=⟨_,rfl⟩
 rw [← hn0] at hsfz hfl c1
 have HN0:=Hy hn0
 clear hn0
 have s0:IntKind.i64.wrap ((n0:Int)+4)=((n0+4:Nat):Int):=by rw [IntKind.wrap_i64];omega
 have HNF:=Hy hn
 have c2:(8192:Int)<(n0:Int):=by omega
 go_enter Tryz.func90,Tryz.ntmps90
 go_wp2
 go_loopw [6,7,27] (fun vs vl vi wr=>∃ (k S:Nat) (lg:Bool),vs=.int .i64 (S:Int)∧vl=.bool lg∧vi=.int .i64 (k:Int)∧k≤n∧(∀ j (hj:j<fs.length),j<k→okF fs[j]=true)∧lg=(true || anyL fs k)∧SizeAt n0 fs k S∧Ext w wr) (fun _ _ vi _=>n-(intOf vi).toNat)
 case atStart=>exact ⟨0,n0+4,true,by go_num,rfl,rfl,Nat.zero_le _,fun j _ h=>by omega,by simp [anyL],size_zero n0 fs hfl,Ext.rfl' _⟩
 case round =>
  obtain ⟨k,S,lg,rfl,rfl,rfl,hk,hok,hlg,hsiz,hext⟩:=hrel
  have HLG:=Hy hlg
  clear hlg
  by_cases hlt:k<n
  ·obtain ⟨b,o,rfl,hbl,hS⟩:=h.fld (k:=k) (by omega)
   obtain ⟨a0,a1⟩:=hS.out wr hext
   have hf1:=hsz _ (List.getElem_mem (show k<fs.length by omega))
   have hNX:=fun m (hm:m=lenF (fs[k]'(by omega))) hS=>size_next hsiz (show k<fs.length by omega) hS hm
   have hSM:=fun hS=>size_same hsiz (show k<fs.length by omega) hS
   have hAN:=anyL_succ fs k (by omega)
   have hBD:=fun (hb:okF (fs[k]'(by omega))=false)=>wrH_bad (first:=first) (show k<fs.length by omega) hb
   obtain ⟨⟨x,y⟩,hp⟩:∃ p,p=fs[k]:=⟨_,rfl⟩
   rw [← hp] at a0 a1 hf1 hNX hAN hBD
   dsimp only at a0 a1 hf1
   have HOK:=Hy hok
   have HPK:=Hy hp
   have hk0:(0:Int)≤(k:Int):=by omega
   have hk1:(k:Int)<(n:Int):=by omega
   have CT:=fun w=>Token_h x (by unfold maxLen;omega) w
   have CV:=fun w=>Value_h y (by unfold maxLen;omega) w
   have hSB:S≤140737488500000:=by unfold SizeAt at hsiz;omega
   have HBD:=Hy hBD
   have HNX:=Hy hNX
   have HSM:=Hy hSM
   have HAN:=Hy hAN
   clear hp hok hS hbl hNX hSM hAN hBD hsiz
   cases hvt:tokL x with
   | false =>
    rw [hvt] at CT
    have CT:=Hy CT
    have HV:=Hy (show R=([],42) from by rw [HR.out];exact HBD.out (by unfold okF;rw [hvt];rfl))
    clear hvt
    go_wp2_with (first
     | (go_at_call 54;refine (CT.out _).mono ?_;rintro e w2 ⟨rfl,hx2⟩;have t0:=hx2.new 0 _ rfl;have t1:=hx2.new 1 _ rfl))
    go_ret2
    rw [HV.out]
    exact Ret.mk (IsBs.no _ _ _) Xq
   | true =>
    rw [hvt] at CT
    have CT:=Hy CT
    cases hvv:vlL y with
    | false =>
     rw [hvv] at CV
     have CV:=Hy CV
     have HV:=Hy (show R=([],42) from by rw [HR.out];exact HBD.out (by unfold okF;rw [hvt];dsimp only;rw [hvv];rfl))
     clear hvt hvv
     go_wp2_with (first
      | (go_at_call 54;refine (CT.out _).mono ?_;rintro e w2 ⟨rfl,hx2⟩;have t0:=hx2.new 0 _ rfl;have t1:=hx2.new 1 _ rfl)
      | (go_at_call 80;refine (CV.out _).mono ?_;rintro e w3 ⟨rfl,hx3⟩;have g0:=(hx3.cell (lt_of_cell t0)).trans t0;have g1:=(hx3.cell (lt_of_cell t1)).trans t1;clear t0 t1))
     go_ret2
     rw [HV.out]
     exact Ret.mk (IsBs.no _ _ _) Xq
    | true =>
     rw [hvv] at CV
     have CV:=Hy CV
     have HV:=Hy (show okF (x,y)=true from by unfold okF;rw [hvt];dsimp only;rw [hvv];rfl)
     obtain ⟨m,hm⟩:∃ m,m=x.length+2+y.length:=⟨_,rfl⟩
     have HM:=Hy hm
     have r1:IntKind.i64.wrap ((x.length:Int)+2)=(x.length:Int)+2:=by rw [IntKind.wrap_i64];omega
     have r2:IntKind.i64.wrap ((x.length:Int)+2+(y.length:Int))=(m:Int):=by rw [IntKind.wrap_i64];omega
     have hmb:m≤281474976702470:=by omega
     clear hvt hvv hf1
     obtain ⟨M,hM⟩:∃ M,M=min m 32768:=⟨_,rfl⟩
     have r3:min (m:Int) 32768=(M:Int):=by omega
     have r4:IntKind.i64.wrap ((M:Int)+2)=(M:Int)+2:=by rw [IntKind.wrap_i64];omega
     have r5:IntKind.i64.wrap ((S:Int)+((M:Int)+2))=((S+(M+2):Nat):Int):=by rw [IntKind.wrap_i64];omega
     have HMM:=Hy hM
     clear hm hM
     have HAK:=Hy (fun j (hj:j<fs.length) (h2:j<k+1)=>(show okF fs[j]=true from by
      rcases Nat.lt_or_ge j k with h3 | h3
      ·exact HOK.out j hj h3
      ·obtain rfl:j=k:=by omega
       rw [← HPK.out];exact HV.out))
     have HLF:=Hy (show lenF (x,y)=m from by rw [HM.out];rfl)
     cases lg with
     | true =>
      have HL2:=Hy (show true=(true || anyL fs (k+1)) from by rw [HAN.out,← Bool.or_assoc,← HLG.out];rfl)
      by_cases c3:S≤32768
      ·have c4:(S:Int)≤32768:=by omega
       have HS2:=Hy (show SizeAt n0 fs (k+1) (S+(M+2)) from by rw [HMM.out];exact HNX.out m HLF.out.symm c3)
       go_wp2_with (first
        | (go_at_call 54;refine (CT.out _).mono ?_;rintro e w2 ⟨rfl,hx2⟩;have t0:=hx2.new 0 _ rfl;have t1:=hx2.new 1 _ rfl)
        | (go_at_call 80;refine (CV.out _).mono ?_;rintro e w3 ⟨rfl,hx3⟩;have g0:=(hx3.cell (lt_of_cell t0)).trans t0;have g1:=(hx3.cell (lt_of_cell t1)).trans t1;clear t0 t1))
       go_roundw
       case rel=>exact ⟨k+1,S+(M+2),true,by go_num,by first | rfl | trivial,by go_num,by omega,fun j hj h2=>HAK.out j hj h2,HL2.out,HS2.out,hext.tr Xq⟩
       case measure=>simp [intOf];omega
      ·have c4:¬(S:Int)≤32768:=by omega
       have HS2:=Hy (HSM.out c3)
       go_wp2_with (first
        | (go_at_call 54;refine (CT.out _).mono ?_;rintro e w2 ⟨rfl,hx2⟩;have t0:=hx2.new 0 _ rfl;have t1:=hx2.new 1 _ rfl)
        | (go_at_call 80;refine (CV.out _).mono ?_;rintro e w3 ⟨rfl,hx3⟩;have g0:=(hx3.cell (lt_of_cell t0)).trans t0;have g1:=(hx3.cell (lt_of_cell t1)).trans t1;clear t0 t1))
       go_roundw
       case rel=>exact ⟨k+1,S,true,by go_num,by first | rfl | trivial,by go_num,by omega,fun j hj h2=>HAK.out j hj h2,HL2.out,HS2.out,hext.tr Xq⟩
       case measure=>simp [intOf];omega
     | false=>exact absurd HLG.out (by simp)
  ·have hk1:¬(k:Int)<(n:Int):=by omega
   have hall:=all_ok (fs:=fs) (fun j hj=>hok j hj (by have:=HNF.out;omega))
   have hlt2:=HLG.out
   rw [Bool.true_or] at hlt2
   subst hlt2
   have HV:=Hy (show R=([],44) from by rw [HR.out];exact wrH_long hall (by unfold longH;rw [decide_eq_true (by rw [← HN0.out];exact c1)];simp))
   clear hok hall hsiz
   go_wp2
   go_ret2
   rw [HV.out]
   exact Ret.mk (IsBs.no _ _ _) hext
theorem good_bd {n0:Nat} {fs:List Fld} (h:longH n0 fs=false):n0≤8192∧fs.length≤100∧n0+4+lenS fs≤32768:=by
 unfold longH at h
 simp only [Bool.or_eq_false_iff,decide_eq_false_iff_not] at h
 omega
theorem hWriteS_c (first:List UInt8) (fs:List Fld) (A:Option Addr) (n c:Nat) (hn:fs.length=n) (hb:n≤8796093022206) (hfl:first.length≤140737488400000) (hsz:∀ p∈fs,p.1.length≤140737488351232∧p.2.length≤140737488351232) (w:World) (h:Rd w A (fc fs)) :
  Calls Tryz.prog 90 #[.string (str first),.slice A n c] w (Ret (IsBs w (wrH first fs)) w):=by
 by_cases c1:8192<first.length
 ·exact hWriteS_big first fs A n c hn hb hfl c1 hsz w h
 ·obtain ⟨R,hR⟩:∃ R,R=wrH first fs:=⟨_,rfl⟩
  rw [← hR]
  have HR:=Hy hR
  clear hR
  obtain ⟨sf,hsf⟩:∃ s,s=str first:=⟨_,rfl⟩
  have hsfz:sf.size=first.length:=by rw [hsf];exact str_size first
  have HSF:=Hy hsf
  rw [← hsf]
  clear hsf
  obtain ⟨n0,hn0⟩:∃ q,q=first.length:=⟨_,rfl⟩
  rw [← hn0] at hsfz hfl c1
  have HN0:=Hy hn0
  clear hn0
  have s0:IntKind.i64.wrap ((n0:Int)+4)=((n0+4:Nat):Int):=by rw [IntKind.wrap_i64];omega
  have HNF:=Hy hn
  have c2:¬(8192:Int)<(n0:Int):=by omega
  obtain ⟨L0,hL0⟩:∃ L,L=decide ((100:Int)<(n:Int)):=⟨_,rfl⟩
  go_enter Tryz.func90,Tryz.ntmps90
  go_wp2
  rw [← hL0]
  have HL0:=Hy hL0
  clear hL0
  go_loopw [6,7,27] (fun vs vl vi wr=>∃ (k S:Nat) (lg:Bool),vs=.int .i64 (S:Int)∧vl=.bool lg∧vi=.int .i64 (k:Int)∧k≤n∧(∀ j (hj:j<fs.length),j<k→okF fs[j]=true)∧lg=(L0 || anyL fs k)∧SizeAt n0 fs k S∧Ext w wr) (fun _ _ vi _=>n-(intOf vi).toNat)
  case atStart=>exact ⟨0,n0+4,L0,by go_num,rfl,rfl,Nat.zero_le _,fun j _ h=>by omega,by simp [anyL],size_zero n0 fs hfl,Ext.rfl' _⟩
  case round =>
   obtain ⟨k,S,lg,rfl,rfl,rfl,hk,hok,hlg,hsiz,hext⟩:=hrel
   have HLG:=Hy hlg
   clear hlg
   by_cases hlt:k<n
   ·obtain ⟨b,o,rfl,hbl,hS⟩:=h.fld (k:=k) (by omega)
    obtain ⟨a0,a1⟩:=hS.out wr hext
    have hf1:=hsz _ (List.getElem_mem (show k<fs.length by omega))
    have hNX:=fun m (hm:m=lenF (fs[k]'(by omega))) hS=>size_next hsiz (show k<fs.length by omega) hS hm
    have hSM:=fun hS=>size_same hsiz (show k<fs.length by omega) hS
    have hAN:=anyL_succ fs k (by omega)
    have hBD:=fun (hb:okF (fs[k]'(by omega))=false)=>wrH_bad (first:=first) (show k<fs.length by omega) hb
    obtain ⟨⟨x,y⟩,hp⟩:∃ p,p=fs[k]:=⟨_,rfl⟩
    rw [← hp] at a0 a1 hf1 hNX hAN hBD
    dsimp only at a0 a1 hf1
    have HOK:=Hy hok
    have HPK:=Hy hp
    have hk0:(0:Int)≤(k:Int):=by omega
    have hk1:(k:Int)<(n:Int):=by omega
    have CT:=fun w=>Token_h x (by unfold maxLen;omega) w
    have CV:=fun w=>Value_h y (by unfold maxLen;omega) w
    have hSB:S≤140737488500000:=by unfold SizeAt at hsiz;omega
    have HBD:=Hy hBD
    have HNX:=Hy hNX
    have HSM:=Hy hSM
    have HAN:=Hy hAN
    clear hp hok hS hbl hNX hSM hAN hBD hsiz
    cases hvt:tokL x with
    | false =>
     rw [hvt] at CT
     have CT:=Hy CT
     have HV:=Hy (show R=([],42) from by rw [HR.out];exact HBD.out (by unfold okF;rw [hvt];rfl))
     clear hvt
     go_wp2_with (first
      | (go_at_call 54;refine (CT.out _).mono ?_;rintro e w2 ⟨rfl,hx2⟩;have t0:=hx2.new 0 _ rfl;have t1:=hx2.new 1 _ rfl))
     go_ret2
     rw [HV.out]
     exact Ret.mk (IsBs.no _ _ _) Xq
    | true =>
     rw [hvt] at CT
     have CT:=Hy CT
     cases hvv:vlL y with
     | false =>
      rw [hvv] at CV
      have CV:=Hy CV
      have HV:=Hy (show R=([],42) from by rw [HR.out];exact HBD.out (by unfold okF;rw [hvt];dsimp only;rw [hvv];rfl))
      clear hvt hvv
      go_wp2_with (first
       | (go_at_call 54;refine (CT.out _).mono ?_;rintro e w2 ⟨rfl,hx2⟩;have t0:=hx2.new 0 _ rfl;have t1:=hx2.new 1 _ rfl)
       | (go_at_call 80;refine (CV.out _).mono ?_;rintro e w3 ⟨rfl,hx3⟩;have g0:=(hx3.cell (lt_of_cell t0)).trans t0;have g1:=(hx3.cell (lt_of_cell t1)).trans t1;clear t0 t1))
      go_ret2
      rw [HV.out]
      exact Ret.mk (IsBs.no _ _ _) Xq
     | true =>
      rw [hvv] at CV
      have CV:=Hy CV
      have HV:=Hy (show okF (x,y)=true from by unfold okF;rw [hvt];dsimp only;rw [hvv];rfl)
      obtain ⟨m,hm⟩:∃ m,m=x.length+2+y.length:=⟨_,rfl⟩
      have HM:=Hy hm
      have r1:IntKind.i64.wrap ((x.length:Int)+2)=(x.length:Int)+2:=by rw [IntKind.wrap_i64];omega
      have r2:IntKind.i64.wrap ((x.length:Int)+2+(y.length:Int))=(m:Int):=by rw [IntKind.wrap_i64];omega
      have hmb:m≤281474976702470:=by omega
      clear hvt hvv hf1
      obtain ⟨M,hM⟩:∃ M,M=min m 32768:=⟨_,rfl⟩
      have r3:min (m:Int) 32768=(M:Int):=by omega
      have r4:IntKind.i64.wrap ((M:Int)+2)=(M:Int)+2:=by rw [IntKind.wrap_i64];omega
      have r5:IntKind.i64.wrap ((S:Int)+((M:Int)+2))=((S+(M+2):Nat):Int):=by rw [IntKind.wrap_i64];omega
      have HMM:=Hy hM
      clear hm hM
      have HAK:=Hy (fun j (hj:j<fs.length) (h2:j<k+1)=>(show okF fs[j]=true from by
       rcases Nat.lt_or_ge j k with h3 | h3
       ·exact HOK.out j hj h3
       ·obtain rfl:j=k:=by omega
        rw [← HPK.out];exact HV.out))
      have HLF:=Hy (show lenF (x,y)=m from by rw [HM.out];rfl)
      cases lg with
      | true =>
       have HL2:=Hy (show true=(L0 || anyL fs (k+1)) from by rw [HAN.out,← Bool.or_assoc,← HLG.out];rfl)
       by_cases c3:S≤32768
       ·have c4:(S:Int)≤32768:=by omega
        have HS2:=Hy (show SizeAt n0 fs (k+1) (S+(M+2)) from by rw [HMM.out];exact HNX.out m HLF.out.symm c3)
        go_wp2_with (first
         | (go_at_call 54;refine (CT.out _).mono ?_;rintro e w2 ⟨rfl,hx2⟩;have t0:=hx2.new 0 _ rfl;have t1:=hx2.new 1 _ rfl)
         | (go_at_call 80;refine (CV.out _).mono ?_;rintro e w3 ⟨rfl,hx3⟩;have g0:=(hx3.cell (lt_of_cell t0)).trans t0;have g1:=(hx3.cell (lt_of_cell t1)).trans t1;clear t0 t1))
        go_roundw
        case rel=>exact ⟨k+1,S+(M+2),true,by go_num,by first | rfl | trivial,by go_num,by omega,fun j hj h2=>HAK.out j hj h2,HL2.out,HS2.out,hext.tr Xq⟩
        case measure=>simp [intOf];omega
       ·have c4:¬(S:Int)≤32768:=by omega
        have HS2:=Hy (HSM.out c3)
        go_wp2_with (first
         | (go_at_call 54;refine (CT.out _).mono ?_;rintro e w2 ⟨rfl,hx2⟩;have t0:=hx2.new 0 _ rfl;have t1:=hx2.new 1 _ rfl)
         | (go_at_call 80;refine (CV.out _).mono ?_;rintro e w3 ⟨rfl,hx3⟩;have g0:=(hx3.cell (lt_of_cell t0)).trans t0;have g1:=(hx3.cell (lt_of_cell t1)).trans t1;clear t0 t1))
        go_roundw
        case rel=>exact ⟨k+1,S,true,by go_num,by first | rfl | trivial,by go_num,by omega,fun j hj h2=>HAK.out j hj h2,HL2.out,HS2.out,hext.tr Xq⟩
        case measure=>simp [intOf];omega
      | false =>
       have HL2:=Hy (show decide ((8192:Int)<(m:Int))=(L0 || anyL fs (k+1)) from by rw [HAN.out,← Bool.or_assoc,← HLG.out,HLF.out,Bool.false_or,decide_eq_decide];omega)
       by_cases c3:S≤32768
       ·have c4:(S:Int)≤32768:=by omega
        have HS2:=Hy (show SizeAt n0 fs (k+1) (S+(M+2)) from by rw [HMM.out];exact HNX.out m HLF.out.symm c3)
        go_wp2_with (first
         | (go_at_call 54;refine (CT.out _).mono ?_;rintro e w2 ⟨rfl,hx2⟩;have t0:=hx2.new 0 _ rfl;have t1:=hx2.new 1 _ rfl)
         | (go_at_call 80;refine (CV.out _).mono ?_;rintro e w3 ⟨rfl,hx3⟩;have g0:=(hx3.cell (lt_of_cell t0)).trans t0;have g1:=(hx3.cell (lt_of_cell t1)).trans t1;clear t0 t1))
        go_roundw
        case rel=>exact ⟨k+1,S+(M+2),decide ((8192:Int)<(m:Int)),by go_num,by first | rfl | trivial,by go_num,by omega,fun j hj h2=>HAK.out j hj h2,HL2.out,HS2.out,hext.tr Xq⟩
        case measure=>simp [intOf];omega
       ·have c4:¬(S:Int)≤32768:=by omega
        have HS2:=Hy (HSM.out c3)
        go_wp2_with (first
         | (go_at_call 54;refine (CT.out _).mono ?_;rintro e w2 ⟨rfl,hx2⟩;have t0:=hx2.new 0 _ rfl;have t1:=hx2.new 1 _ rfl)
         | (go_at_call 80;refine (CV.out _).mono ?_;rintro e w3 ⟨rfl,hx3⟩;have g0:=(hx3.cell (lt_of_cell t0)).trans t0;have g1:=(hx3.cell (lt_of_cell t1)).trans t1;clear t0 t1))
        go_roundw
        case rel=>exact ⟨k+1,S,decide ((8192:Int)<(m:Int)),by go_num,by first | rfl | trivial,by go_num,by omega,fun j hj h2=>HAK.out j hj h2,HL2.out,HS2.out,hext.tr Xq⟩
        case measure=>simp [intOf];omega
   ·have hk1:¬(k:Int)<(n:Int):=by omega
    have hkn:k=fs.length:=by have:=HNF.out;omega
    have hall:=all_ok (fs:=fs) (fun j hj=>hok j hj (by omega))
    subst hkn
    have hlong:=long_or hsiz
    have hb0:(decide (8192<n0) || decide (100<fs.length))=L0:=by rw [decide_eq_false c1,Bool.false_or,HL0.out,decide_eq_decide];have:=HNF.out;omega
    rw [hb0,← HLG.out] at hlong
    rw [HN0.out] at hlong
    cases lg with
    | true =>
     have HV:=Hy (show R=([],44) from by rw [HR.out];exact wrH_long hall (by rw [hlong];rfl))
     clear hok hall hsiz hlong hb0
     go_wp2
     go_ret2
     rw [HV.out]
     exact Ret.mk (IsBs.no _ _ _) hext
    | false =>
     rw [Bool.false_or] at hlong
     by_cases c5:32768<S
     ·have c6:(32768:Int)<(S:Int):=by omega
      have HV:=Hy (show R=([],44) from by rw [HR.out];exact wrH_long hall (by rw [hlong];simpa using c5))
      clear hok hall hsiz hlong hb0
      go_wp2
      go_ret2
      rw [HV.out]
      exact Ret.mk (IsBs.no _ _ _) hext
     ·have c6:¬(32768:Int)<(S:Int):=by omega
      have hlg2:longH first.length fs=false:=by rw [hlong];simpa using c5
      have HV:=Hy (show R=(first++([13,10]++(wrS fs++[13,10])),0) from by rw [HR.out];exact wrH_good hall hlg2)
      obtain ⟨g1,g2,g3⟩:=good_bd hlg2
      clear hok hall hsiz hlong hb0 hlg2
      have hN:=HNF.out
      obtain ⟨b,hbw⟩:∃ b,b=wr.heap.size:=⟨_,rfl⟩
      have hwb:w.heap.size≤b:=by rw [hbw];exact hext.size
      obtain ⟨W2,hW2⟩:∃ W,W=wr.alloc (.cells #[.pointer none,.slice none 0 0] 165):=⟨_,rfl⟩
      have hj0:BldJ w.heap.size b (b+1) [] W2:=bldJ_new hwb (by omega) (by rw [hW2,hbw];simp) (by rw [hW2,hbw];exact heap_alloc_new wr _)
      have xw2:Ext w W2:=by rw [hW2];exact hext.al _
      obtain ⟨s1,hs1⟩:∃ s,s=str (first++[13,10]):=⟨_,rfl⟩
      have K1:∀ w,(Op.stringOp .add sf ⟨#[13,10]⟩).run Tryz.prog w=.ok (.string s1) w:=fun w=>by rw [HSF.out,hs1,cat_ok _ _ (by rw [str_size];show first.length+2≤_;omega) w];simp
      have C0:=WriteStringJ_c w.heap.size b (b+1) [] (first++[13,10]) W2 hj0 (by simp;omega)
      rw [← hs1] at C0
      have C0:=Hy C0
      have XW2:=Hy xw2
      have HW2:=Hy hW2
      have HBW:=Hy hbw
      have hall2:=lenS_all fs
      clear hs1 hj0 xw2 hW2 hbw hext
      go_wp2_with (first
       | (go_at_call 119;rw [← HBW.out,← HW2.out];refine C0.out.mono ?_;rintro e w2 ⟨rfl,hj2,hfr2⟩))
      have xw3:Ext w w2:=Below.trans XW2.out hfr2.1
      have hj3:BldJ w.heap.size b (b+1) (first++([13,10]++wrS (fs.take 0))) w2:=by simpa [wrS] using hj2
      clear hj2 hfr2
      go_loopw [72] (fun vi wx=>∃ k:Nat,vi=.int .i64 (k:Int)∧k≤n∧BldJ w.heap.size b (b+1) (first++([13,10]++wrS (fs.take k))) wx∧Ext w wx) (fun vi _=>n-(intOf vi).toNat)
      case atStart=>exact ⟨0,rfl,Nat.zero_le _,hj3,xw3⟩
      case round =>
       clear hj3 xw3
       obtain ⟨k,rfl,hk2,hj,hx⟩:=hrel
       have HJ:=Hy hj
       by_cases hlt2:k<n
       ·obtain ⟨g,f,rfl,hgl,hS2⟩:=h.fld (k:=k) (by omega)
        obtain ⟨a0,a1⟩:=hS2.out _ hx
        have hTK:=wrS_take fs k (by omega)
        have hLK:=lenS_all fs (k+1)
        obtain ⟨⟨x,y⟩,hp⟩:∃ p,p=fs[k]:=⟨_,rfl⟩
        rw [← hp] at a0 a1 hTK
        dsimp only at a0 a1
        have hL2:=congrArg List.length hTK
        rw [List.length_append,wrS_len,wrS_len,wrF_len] at hL2
        have hml:lenF (x,y)=x.length+2+y.length:=rfl
        have HTK:=Hy hTK
        have hk0:(0:Int)≤(k:Int):=by omega
        have hk3:(k:Int)<(n:Int):=by omega
        obtain ⟨sa,hsa⟩:∃ s,s=str (x++[58,32]):=⟨_,rfl⟩
        obtain ⟨sb,hsb⟩:∃ s,s=str (x++([58,32]++y)):=⟨_,rfl⟩
        obtain ⟨sc1,hsc⟩:∃ s,s=str (wrF (x,y)):=⟨_,rfl⟩
        have E1:∀ w,(Op.stringOp .add (str x) ⟨#[58,32]⟩).run Tryz.prog w=.ok (.string sa) w:=fun w=>by rw [hsa,cat_ok _ _ (by rw [str_size];show x.length+2≤_;omega) w];simp
        have E2:∀ w,(Op.stringOp .add sa (str y)).run Tryz.prog w=.ok (.string sb) w:=fun w=>by rw [hsa,hsb,cat_ok _ _ (by rw [str_size,str_size];simp;omega) w];simp
        have E3:∀ w,(Op.stringOp .add sb ⟨#[13,10]⟩).run Tryz.prog w=.ok (.string sc1) w:=fun w=>by rw [hsb,hsc,cat_ok _ _ (by rw [str_size];show (x++([58,32]++y)).length+2≤_;simp;omega) w];simp [wrF]
        have CW:=fun W (hJ:BldJ w.heap.size b (b+1) (first++([13,10]++wrS (fs.take k))) W)=>WriteStringJ_c w.heap.size b (b+1) (first++([13,10]++wrS (fs.take k))) (wrF (x,y)) W hJ (by rw [List.length_append,List.length_append,wrS_len,wrF_len];show _+(2+_)+_≤_;omega)
        rw [← hsc] at CW
        have CW:=Hy CW
        clear hp hTK hL2 hLK hsa hsb hsc hj hgl hS2 hml
        go_wp2_with (first
         | (go_at_call 119;refine (CW.out _ (HJ.out.ext Xq)).mono ?_;rintro e w9 ⟨rfl,hj9,hfr9⟩))
        go_roundw
        case rel=>exact ⟨k+1,by go_num,by omega,by rw [HTK.out];simpa using hj9,Below.trans (hx.tr Xq) hfr9.1⟩
        case measure=>simp [intOf];omega
       ·have hk3:¬(k:Int)<(n:Int):=by omega
        rw [List.take_of_length_le (show fs.length≤k by omega)] at hj
        have HJ:=Hy hj
        clear hj
        obtain ⟨so,hso⟩:∃ s,s=str (first++([13,10]++wrS fs)):=⟨_,rfl⟩
        obtain ⟨sr,hsr⟩:∃ s,s=str (first++([13,10]++(wrS fs++[13,10]))):=⟨_,rfl⟩
        have hsl:(first++([13,10]++(wrS fs++[13,10]))).length=n0+4+lenS fs:=by simp [wrS_len];have:=HN0.out;omega
        have K2:∀ w,(Op.stringOp .add so ⟨#[13,10]⟩).run Tryz.prog w=.ok (.string sr) w:=fun w=>by rw [hso,hsr,cat_ok _ _ (by rw [str_size];show (first++([13,10]++wrS fs)).length+2≤_;simp [wrS_len];have:=HN0.out;omega) w];simp
        have CB:=fun W (hJ:BldJ w.heap.size b (b+1) (first++([13,10]++wrS fs)) W)=>bStringJ_c w.heap.size b (b+1) (first++([13,10]++wrS fs)) W hJ
        rw [← hso] at CB
        have CB:=Hy CB
        have RL:=Hy (fun W=>(by have h0:=cv_slW W (fun _=>0) 7 5 (first++([13,10]++(wrS fs++[13,10]))) (by simp only [maxLen];omega);rw [← hsr] at h0;exact h0:Sl (cvW W 5 sr) (fun b=>if b<W.heap.size then 0 else 7) 7 1 (some ⟨W.heap.size,0,none⟩) (first++([13,10]++(wrS fs++[13,10]))).length (cvC W 5 (first++([13,10]++(wrS fs++[13,10]))).length) (bc (first++([13,10]++(wrS fs++[13,10]))))))
        rw [hsl] at RL
        have CV:∀ w,(convert 9 22 (.string sr)).run Tryz.prog w=.ok (.slice (some ⟨w.heap.size,0,none⟩) (n0+4+lenS fs) (cvC w 5 (n0+4+lenS fs))) (cvW w 5 sr):=fun w=>by
         have h0:=cv_run (P:=Tryz.prog) (e:=5) sr Tryz.underlying9 Tryz.underlying22 Tryz.underlying5 w
         have hz:sr.size=n0+4+lenS fs:=by rw [hsr,str_size,hsl]
         rw [hz] at h0
         exact h0
        have HSL:=Hy hsl
        clear hso hsr hsl
        go_wp2_with (first
         | (go_at_call 120;refine (CB.out _ HJ.out).mono ?_;rintro e w9 ⟨rfl,hb9⟩))
        go_ret2
        rw [HV.out]
        exact Ret.mk ⟨some ⟨w9.heap.size,0,none⟩,_,by rw [HSL.out];rfl,(fun h=>by cases h),_,fun b hb=>if_pos (Nat.lt_of_lt_of_le hb (Below.trans hx hb9).size),by have h0:=RL.out w9;rw [← HSL.out] at h0 ⊢;exact h0⟩ (Ext.tr (Below.trans hx hb9) (cv_ext _ _ _))
end Go.Proofs.YthbofilcnpdghaaGreatDoor
end
