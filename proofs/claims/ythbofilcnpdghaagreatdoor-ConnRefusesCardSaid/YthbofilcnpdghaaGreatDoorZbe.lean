/-
A refusal's bytes; an answer's bytes.
-/
import Derived.Test.YthbofilcnpdghaaGreatDoorZaz
import Derived.Test.YthbofilcnpdghaaGreatDoorZas
import Derived.Lib.SlBytesConst
import Derived.Test.YthbofilcnpdghaaGreatDoorZax
import Derived.Test.YthbofilcnpdghaaGreatDoorZay
set_option maxRecDepth 100000
set_option maxHeartbeats 8000000
set_option linter.unusedVariables false
set_option linter.unusedSimpArgs false
section
namespace Go.Proofs.YthbofilcnpdghaaGreatDoor
open Go.RowKit
def IsYJ (l:List UInt8) (v:Value) (w:World):Prop:=∃ A c,v=.slice A l.length c∧Rd w A (bc l)
theorem src_strJ (l:List UInt8) (w:World):Src Tryz.prog 1 9 (.string (str l)) l.length (bc l) w:=by
 have h:=Src.ofString (w:=w) Tryz.underlying9 (str l)
 rw [str_size] at h
 exact h
theorem rd_newJ (w:World) (g:Nat) (hg:w.heap.size=g) (cs:Array Value) (t:TypeId):Rd (w.alloc (.cells cs t)) (some ⟨g,0,none⟩) cs.toList:=by
 subst hg
 exact .inr ⟨_,0,rfl,fun j u hu=>by have:=new_cells w cs t j u hu; rw [add_mk] at this; exact this⟩
theorem rsW_le (st:Int) (fs:List Fld):(rsW st fs).1.length ≤ 32768:=by
 unfold rsW
 split
 ·unfold wrH
  split
  ·exact Nat.zero_le _
  ·split
   ·exact Nat.zero_le _
   ·rename_i h
    obtain ⟨_,_,h3⟩:=good_bd (by simpa using h:longH (rsF st).length fs=false)
    simp only [List.length_append,wrS_len]
    show _ + (2 + (_ + 2)) ≤ _
    omega
 ·exact Nat.zero_le _
theorem old7 {w0 w w':World} {o o':Ow} {K:Nat → Prop} (x:Ext w0 w) (h:∀ b,b < w0.heap.size → o b=0) (s:Stp K w o w' o') (hk:¬ K 0):Old w0 w' o':=Old.sto ⟨x,h⟩ s.sto hk
theorem nRefused_c (st:Int) (h1:100 ≤ st) (h2:st ≤ 599) (w:World) (hP:Pow w) (hM:Mx w):Calls Tryz.prog 43 #[.int .i64 st] w (Ret (IsYJ (refusedC st)) w):=by
 have HP:=Lib.hid hP
 have HM:=Lib.hid hM
 have hrl:=rea_len st
 have CR:=Lib.hid (fun (w:World) (hM:Mx w) (hP:Pow w)=>hReason_c st (by omega) (by omega) w hM hP)
 obtain ⟨sr,hsr⟩:∃ s,s=str (reaL st):=⟨_,rfl⟩
 obtain ⟨sb,hsb⟩:∃ s,s=str (bodyR st):=⟨_,rfl⟩
 have E1:∀ w,(Op.stringOp .add sr ⟨#[10]⟩).run Tryz.prog w=.ok (.string sb) w:=fun w=>by
  rw [hsr,hsb,cat_ok _ _ (by rw [str_size]; show _ + 1 ≤ _; omega) w]
  simp [bodyR]
 have hbl:(bodyR st).length ≤ 200:=by unfold bodyR; simp; omega
 have hsz:sb.size=(bodyR st).length:=by rw [hsb]; exact str_size _
 obtain ⟨sd,hsd⟩:∃ s,s=decB ((bodyR st).length:Int):=⟨_,rfl⟩
 have CD:=Lib.hid (fun (w:World) (hP:Pow w)=>(by have:=Digits_c ((bodyR st).length:Int) w hP (by omega) (by omega); rw [← hsd,← hsz] at this; exact this:Calls Tryz.prog 18 #[.int .i64 (sb.size:Int)] w (Gives (.string sd) w)))
 have hfc:fc [(ctN,tpW),(clN,Lib.itoa (bodyR st).length),(cnN,clW)]=(#[.string ⟨#[67,111,110,116,101,110,116,45,84,121,112,101]⟩,.string ⟨#[116,101,120,116,47,112,108,97,105,110]⟩,.string ⟨#[67,111,110,116,101,110,116,45,76,101,110,103,116,104]⟩,.string sd,.string ⟨#[67,111,110,110,101,99,116,105,111,110]⟩,.string ⟨#[99,108,111,115,101]⟩]:Array Value).toList:=by rw [hsd]; rfl
 have hil:=Lib.itoa_length_le ((bodyR st).length:Int) (by omega) (by omega)
 have CW:=Lib.hid (fun (A:Option Addr) (c:Nat) (w:World) (h:Rd w A (fc [(ctN,tpW),(clN,Lib.itoa (bodyR st).length),(cnN,clW)])) (hP:Pow w) (hM:Mx w)=>hWriteRspS_c st [(ctN,tpW),(clN,Lib.itoa (bodyR st).length),(cnN,clW)] A 3 c (by omega) (by omega) rfl (by omega) (by
  intro p hp
  simp only [List.mem_cons,List.not_mem_nil,or_false] at hp
  rcases hp with rfl | rfl | rfl
  ·exact ⟨by decide,by decide⟩
  ·exact ⟨(by show (14:Nat) ≤ _; omega),(by show (Lib.itoa ((bodyR st).length:Int)).length ≤ _; omega)⟩
  ·exact ⟨by decide,by decide⟩) w h hP hM)
 obtain ⟨rs,hrs⟩:∃ r,r=rsW st [(ctN,tpW),(clN,Lib.itoa (bodyR st).length),(cnN,clW)]:=⟨_,rfl⟩
 have HQ:=Lib.hid (show refusedC st=rs.1 ++ bodyR st from by rw [hrs]; rfl)
 have hrle:rs.1.length ≤ 32768:=by rw [hrs]; exact rsW_le _ _
 rw [hfc] at CW
 rw [← hrs] at CW
 have HS:=Lib.hid hsb
 rw [← hsr] at CR
 obtain ⟨bl,hbl2⟩:∃ b,b=bodyR st:=⟨_,rfl⟩
 rw [← hbl2] at HQ HS hbl
 clear hsr hsb hsz hsd hfc hil hrs hbl2 hP hM hrl
 go_enter Tryz.func43,Tryz.ntmps43
 go_wp2_with (first
  | (go_at_call 65; refine (CR.out _ (HM.out.ext (by (repeat first | exact Ex0 | assumption | refine Ex1 ?_ | refine Ex2 ?_ | refine Ex3 ?_ | refine Ex4 ?_ | refine Ex5 ?_))) (HP.out.ext (by (repeat first | exact Ex0 | assumption | refine Ex1 ?_ | refine Ex2 ?_ | refine Ex3 ?_ | refine Ex4 ?_ | refine Ex5 ?_)))).mono ?_; rintro e w2 ⟨rfl,hx2⟩)
  | (go_at_call 18; refine (CD.out _ (HP.out.ext (by (repeat first | exact Ex0 | assumption | refine Ex1 ?_ | refine Ex2 ?_ | refine Ex3 ?_ | refine Ex4 ?_ | refine Ex5 ?_)))).mono ?_; rintro e w3 ⟨rfl,hx3⟩)
  | (go_at_call 63; refine (CW.out _ _ _ (rd_newJ _ _ rfl _ _) (HP.out.ext (by (repeat first | exact Ex0 | assumption | refine Ex1 ?_ | refine Ex2 ?_ | refine Ex3 ?_ | refine Ex4 ?_ | refine Ex5 ?_))) (HM.out.ext (by (repeat first | exact Ex0 | assumption | refine Ex1 ?_ | refine Ex2 ?_ | refine Ex3 ?_ | refine Ex4 ?_ | refine Ex5 ?_)))).mono ?_; rintro e w6 ⟨v,rfl,⟨A6,c6,rfl,hn6,o6,ho6,hs6⟩,hx6⟩)
  | (at_builtin; refine wpL_put slt_u8 (.tmp 21) (.tmp 22) rfl rfl rfl rfl hs6 hn6 (show Src Tryz.prog 1 9 (.string sb) bl.length (bc bl) _ from by rw [HS.out]; exact src_strJ bl _) (by omega) (by simp only [maxLen]; omega) ?_; intro A7 c7 w7 o7 hs7 st7 hn7))
 go_ret
 have x6:Ext w w6:=by (repeat first | exact Ex0 | assumption | refine Ex1 ?_ | refine Ex2 ?_ | refine Ex3 ?_ | refine Ex4 ?_ | refine Ex5 ?_)
 have h7:=old7 x6 (fun b hb=>ho6 b (by simp; have:=hx2.size; have:=hx3.size; omega)) st7 (by omega)
 refine Ret.mk ⟨A7,c7,?_,?_⟩ h7.ext
 ·rw [HQ.out,List.length_append]; rfl
 ·rw [HQ.out,bc_app]; exact hs7.rd
theorem hWithout_none (B:Option Addr) (m d:Nat) (w:World):Calls Tryz.prog 66 #[.slice none 0 0,.slice B m d] w (Gives (.slice none 0 0) w):=by
 go_enter Tryz.func66,Tryz.ntmps66
 go_wp2
 go_step3
 go_wp2
 go_step3
 go_wp2
 go_loopw [5,12] (fun v i wr=>v=.slice none 0 0∧i=.int .i64 0∧Ext w wr) (fun _ _ _=>0)
 case atStart=>exact ⟨rfl,rfl,Ext.rfl' _⟩
 case round =>
  obtain ⟨rfl,rfl,hext⟩:=hrel
  go_wp2
  go_ret
  exact ⟨rfl,hext⟩
end Go.Proofs.YthbofilcnpdghaaGreatDoor
end
section
namespace Go.Proofs.YthbofilcnpdghaaGreatDoor
open Go.RowKit
def heaN:List UInt8:=[72,69,65,68]
def conN:List UInt8:=[67,79,78,78,69,67,84]
def bareR (m:List UInt8) (st:Int):Prop:=m=heaN ∨ st < 200 ∨ st=204 ∨ st=304 ∨ (m=conN∧st < 300)
instance (m:List UInt8) (st:Int):Decidable (bareR m st):=by unfold bareR; infer_instance
end Go.Proofs.YthbofilcnpdghaaGreatDoor
end
section
namespace Go.Proofs.YthbofilcnpdghaaGreatDoor
open Go.RowKit
end Go.Proofs.YthbofilcnpdghaaGreatDoor
end
section
namespace Go.Proofs.YthbofilcnpdghaaGreatDoor
open Go.RowKit
theorem vals_subU {fs:List Fld} {nm v:List UInt8} (h:v ∈ valsH fs nm):∃ p ∈ fs,v=p.2:=by
 unfold valsH at h
 obtain ⟨p,hp,rfl⟩:=List.mem_map.1 h
 exact ⟨p,(List.mem_filter.1 hp).1,rfl⟩
theorem vals_lenU (fs:List Fld) (nm:List UInt8):(valsH fs nm).length ≤ fs.length:=by
 unfold valsH
 rw [List.length_map]
 exact List.length_filter_le _ _
theorem flat_bd {α:Type} (f:List UInt8 → List α) (L:Nat):∀ (vs:List (List UInt8)),(∀ v ∈ vs,(f v).length ≤ L) → (vs.flatMap f).length ≤ vs.length * L
 | [],_=>by simp
 | v :: vs,h=>by
  have h1:=h v List.mem_cons_self
  have h2:=flat_bd f L vs (fun u hu=>h u (List.mem_cons_of_mem _ hu))
  rw [List.flatMap_cons,List.length_append,List.length_cons,Nat.succ_mul]
  omega
theorem split_in {s v:List UInt8} (h:s ∈ splitL 44 v):s.length ≤ v.length:=keep_len h
theorem fit_of {fs:List Fld} (h:∀ x ∈ fs,x.1.length + x.2.length + 2 + fs.length ≤ 1048576):FitF fs:=by
 have hn:fs.length ≤ 1048576:=by
  cases fs with
  | nil=>exact Nat.zero_le _
  | cons p fs=>have:=h p List.mem_cons_self; omega
 have hv:∀ nm,∀ v ∈ valsH fs nm,v.length + 2 + fs.length ≤ 1048576:=fun nm v hv=>by
  obtain ⟨p,hp,rfl⟩:=vals_subU hv
  have:=h p hp; omega
 have hprod:fs.length * (1048576 - fs.length) ≤ 1099511627776:=by
  have h1:fs.length * (1048576 - fs.length) ≤ 1048576 * 1048576:=Nat.mul_le_mul hn (Nat.sub_le _ _)
  omega
 have hb:∀ (nm:List UInt8) {α:Type} (f:List UInt8 → List α),(∀ v,(f v).length ≤ v.length + 1) → ((valsH fs nm).flatMap f).length ≤ 1099511627776:=fun nm α f hf=>by
  have h1:=flat_bd f (1048576 - fs.length) (valsH fs nm) (fun v hv2=>by have:=hv nm v hv2; have:=hf v; omega)
  have h2:=Nat.mul_le_mul_right (1048576 - fs.length) (vals_lenU fs nm)
  omega
 refine ⟨by omega,fun p hp=>by have:=h p hp; unfold maxLen; omega,fun v hv2=>by have:=hv teN v hv2; omega,hb teN _ toks_len,by have:=vals_lenU fs teN; omega,fun v hv2=>by have:=hv clN v hv2; omega,hb clN _ (splitL_len 44),?_,by have:=vals_lenU fs clN; omega⟩
 intro s hs
 obtain ⟨v,hv2,hs2⟩:=List.mem_flatMap.1 hs
 have h1:=split_in hs2
 have h2:=hv clN v hv2
 omega
end Go.Proofs.YthbofilcnpdghaaGreatDoor
end
section
namespace Go.Proofs.YthbofilcnpdghaaGreatDoor
open Go.RowKit
end Go.Proofs.YthbofilcnpdghaaGreatDoor
end
section
namespace Go.Proofs.YthbofilcnpdghaaGreatDoor
open Go.RowKit
def autB (b:UInt8):Bool:=!(b == 47 || b == 63)
end Go.Proofs.YthbofilcnpdghaaGreatDoor
end
section
namespace Go.Proofs.YthbofilcnpdghaaGreatDoor
open Go.RowKit
theorem results_four {fn:Func} {t u v x:Tmp} (h:fn.results=#[.tmp t,.tmp u,.tmp v,.tmp x]) (tmps:Array Value) (P:Program) (w:World) :
  (results fn tmps).run P w=.ok (.tuple #[tmps.getD t undef,tmps.getD u undef,tmps.getD v undef,tmps.getD x undef]) w:=by
 simp [results,h]
macro "go_ret4" : tactic => `(tactic|
 ((try simp only [Exit.inBlock,Exit.then]); refine bodyPost_ret (results_four rfl _ _ _) rfl ?_))
end Go.Proofs.YthbofilcnpdghaaGreatDoor
end
section
namespace Go.Proofs.YthbofilcnpdghaaGreatDoor
open Go.RowKit
def tgtV (x:TgtT × Int):Value:=.tuple #[.agg #[.int .i64 x.1.1,.string (str x.1.2.1),.int .i64 x.1.2.2.1,.string (str x.1.2.2.2.1),.string (str x.1.2.2.2.2.1),.bool x.1.2.2.2.2.2],.int .i64 x.2]
theorem put6 {W:World} {b:Nat} {x0 x1 x2 x3 x4 x5:Value} {t:TypeId} (h:W.heap[b]?=some (.cells #[x0,x1,x2,x3,x4,x5] t (0,0))) (v0 v1 v2 v3 v4 v5:Value) :
  ((((((W.setCell ⟨b,0,none⟩ v0).setCell ⟨b,1,none⟩ v1).setCell ⟨b,2,none⟩ v2).setCell ⟨b,3,none⟩ v3).setCell ⟨b,4,none⟩ v4).setCell ⟨b,5,none⟩ v5).heap[b]?=some (.cells #[v0,v1,v2,v3,v4,v5] t (0,0)):=by
 simp [World.setCell,Array.getElem?_modify,h]
theorem ext6 {w W:World} (x:Ext w W) (v0 v1 v2 v3 v4 v5:Value) :
  Ext w ((((((W.setCell ⟨w.heap.size,0,none⟩ v0).setCell ⟨w.heap.size,1,none⟩ v1).setCell ⟨w.heap.size,2,none⟩ v2).setCell ⟨w.heap.size,3,none⟩ v3).setCell ⟨w.heap.size,4,none⟩ v4).setCell ⟨w.heap.size,5,none⟩ v5) :=
 ((((((x.st (Nat.le_refl _) _).st (Nat.le_refl _) _).st (Nat.le_refl _) _).st (Nat.le_refl _) _).st (Nat.le_refl _) _).st (Nat.le_refl _) _)
def conL:List UInt8:=[67,79,78,78,69,67,84]
def optL:List UInt8:=[79,80,84,73,79,78,83]
end Go.Proofs.YthbofilcnpdghaaGreatDoor
end
section
namespace Go.Proofs.YthbofilcnpdghaaGreatDoor
open Go.RowKit
theorem strN {m t:List UInt8} (h:¬ m=t):((str m).toList == t)=false:=by rw [beq_eq_false_iff_ne,Lib.toList_data]; exact h
end Go.Proofs.YthbofilcnpdghaaGreatDoor
end
section
namespace Go.Proofs.YthbofilcnpdghaaGreatDoor
open Go.RowKit
theorem two (w:World) (o1 o2:Obj):((w.alloc o1).alloc o2).heap[w.heap.size]?=some o1∧((w.alloc o1).alloc o2).heap[w.heap.size + 1]?=some o2:=by
 refine ⟨(heap_next (by simp)).trans (heap_alloc_new w o1),?_⟩
 have:=heap_alloc_new (w.alloc o1) o2
 simpa using this
end Go.Proofs.YthbofilcnpdghaaGreatDoor
end
section
namespace Go.Proofs.YthbofilcnpdghaaGreatDoor
open Go.RowKit
end Go.Proofs.YthbofilcnpdghaaGreatDoor
end
section
namespace Go.Proofs.YthbofilcnpdghaaGreatDoor
open Go.RowKit
end Go.Proofs.YthbofilcnpdghaaGreatDoor
end
section
namespace Go.Proofs.YthbofilcnpdghaaGreatDoor
open Go.RowKit
def forT:List UInt8:=[34,35,60,62,63,92,94,96,123,124,125]
theorem may_no0:∀ b:Fin 256,mayB false b.val.toUInt8=((decide (32 < b.val.toUInt8.toNat) && decide (b.val.toUInt8.toNat < 127) && decide (Lib.indexByte forT b.val.toUInt8 < 0)) || decide (0 ≤ Lib.indexByte [] b.val.toUInt8)):=by decide +kernel
theorem may_qu0:∀ b:Fin 256,mayB true b.val.toUInt8=((decide (32 < b.val.toUInt8.toNat) && decide (b.val.toUInt8.toNat < 127) && decide (Lib.indexByte forT b.val.toUInt8 < 0)) || decide (0 ≤ Lib.indexByte [63] b.val.toUInt8)):=by decide +kernel
theorem may_no (b:UInt8):mayB false b=((decide (32 < b.toNat) && decide (b.toNat < 127) && decide (Lib.indexByte forT b < 0)) || decide (0 ≤ Lib.indexByte [] b)):=by
 have:=may_no0 ⟨b.toNat,UInt8.toNat_lt b⟩; simpa using this
theorem may_qu (b:UInt8):mayB true b=((decide (32 < b.toNat) && decide (b.toNat < 127) && decide (Lib.indexByte forT b < 0)) || decide (0 ≤ Lib.indexByte [63] b)):=by
 have:=may_qu0 ⟨b.toNat,UInt8.toNat_lt b⟩; simpa using this
theorem upathF_no (b:UInt8) (Bn:Nat) (w:World) (hB:w.cell? ⟨Bn,0,none⟩=some (.string ⟨#[]⟩)) :
  Calls Tryz.prog 118 #[.int .u8 (b.toNat:Int),.pointer (some ⟨Bn,0,none⟩)] w fun e w'=>e=.returned (.bool (mayB false b))∧w=w':=by
 have hm:=may_no b
 obtain ⟨v,hv⟩:∃ v,v=mayB false b:=⟨_,rfl⟩
 rw [← hv] at hm ⊢
 clear hv
 obtain ⟨z1,hz1⟩:∃ z,Lib.indexByte [34,35,60,62,63,92,94,96,123,124,125] b=z:=⟨_,rfl⟩
 obtain ⟨z2,hz2⟩:∃ z,Lib.indexByte [] b=z:=⟨_,rfl⟩
 rw [show forT=[34,35,60,62,63,92,94,96,123,124,125] from rfl,hz1,hz2] at hm
 by_cases c1:32 < b.toNat
 ·have d1:(32:Int) < (b.toNat:Int):=by omega
  by_cases c2:b.toNat < 127
  ·have d2:(b.toNat:Int) < 127:=by omega
   by_cases c3:z1 < 0
   ·have HV:=Lib.hid (show v=true by rw [hm]; simp [c1,c2,c3])
    clear hm c1 c2
    go_enter Tryz.func118,Tryz.ntmps118
    go_wp2_with (go_at_call 109; refine (IndexByteK_c _ _ _ (by assumption) _).mono ?_; rintro e w1 ⟨rfl,rfl⟩)
    go_ret
    exact ⟨ret_bool (by rw [HV.out]; try (first | rfl | (simp only [Bool.or_eq_false_iff,decide_eq_false_iff_not,Bool.or_eq_true,decide_eq_true_eq]; omega))),rfl⟩
   ·by_cases c4:0 ≤ z2
    ·have HV:=Lib.hid (show v=true by rw [hm]; simp [c4])
     clear hm c1 c2
     go_enter Tryz.func118,Tryz.ntmps118
     go_wp2_with (go_at_call 109; refine (IndexByteK_c _ _ _ (by assumption) _).mono ?_; rintro e w1 ⟨rfl,rfl⟩)
     go_ret
     exact ⟨ret_bool (by rw [HV.out]; try (first | rfl | (simp only [Bool.or_eq_false_iff,decide_eq_false_iff_not,Bool.or_eq_true,decide_eq_true_eq]; omega))),rfl⟩
    ·have HV:=Lib.hid (show v=false by rw [hm]; simp [c3,c4])
     clear hm c1 c2
     go_enter Tryz.func118,Tryz.ntmps118
     go_wp2_with (go_at_call 109; refine (IndexByteK_c _ _ _ (by assumption) _).mono ?_; rintro e w1 ⟨rfl,rfl⟩)
     go_ret
     exact ⟨ret_bool (by rw [HV.out]; try (first | rfl | (simp only [Bool.or_eq_false_iff,decide_eq_false_iff_not,Bool.or_eq_true,decide_eq_true_eq]; omega))),rfl⟩
  ·have d2:¬ (b.toNat:Int) < 127:=by omega
   by_cases c4:0 ≤ z2
   ·have HV:=Lib.hid (show v=true by rw [hm]; simp [c4])
    clear hm c1 c2
    go_enter Tryz.func118,Tryz.ntmps118
    go_wp2_with (go_at_call 109; refine (IndexByteK_c _ _ _ (by assumption) _).mono ?_; rintro e w1 ⟨rfl,rfl⟩)
    go_ret
    exact ⟨ret_bool (by rw [HV.out]; try (first | rfl | (simp only [Bool.or_eq_false_iff,decide_eq_false_iff_not,Bool.or_eq_true,decide_eq_true_eq]; omega))),rfl⟩
   ·have HV:=Lib.hid (show v=false by rw [hm]; simp [c2,c4])
    clear hm c1 c2
    go_enter Tryz.func118,Tryz.ntmps118
    go_wp2_with (go_at_call 109; refine (IndexByteK_c _ _ _ (by assumption) _).mono ?_; rintro e w1 ⟨rfl,rfl⟩)
    go_ret
    exact ⟨ret_bool (by rw [HV.out]; try (first | rfl | (simp only [Bool.or_eq_false_iff,decide_eq_false_iff_not,Bool.or_eq_true,decide_eq_true_eq]; omega))),rfl⟩
 ·have d1:¬ (32:Int) < (b.toNat:Int):=by omega
  by_cases c4:0 ≤ z2
  ·have HV:=Lib.hid (show v=true by rw [hm]; simp [c4])
   clear hm c1
   go_enter Tryz.func118,Tryz.ntmps118
   go_wp2_with (go_at_call 109; refine (IndexByteK_c _ _ _ (by assumption) _).mono ?_; rintro e w1 ⟨rfl,rfl⟩)
   go_ret
   exact ⟨ret_bool (by rw [HV.out]; try (first | rfl | (simp only [Bool.or_eq_false_iff,decide_eq_false_iff_not,Bool.or_eq_true,decide_eq_true_eq]; omega))),rfl⟩
  ·have HV:=Lib.hid (show v=false by rw [hm]; simp [c1,c4])
   clear hm c1
   go_enter Tryz.func118,Tryz.ntmps118
   go_wp2_with (go_at_call 109; refine (IndexByteK_c _ _ _ (by assumption) _).mono ?_; rintro e w1 ⟨rfl,rfl⟩)
   go_ret
   exact ⟨ret_bool (by rw [HV.out]; try (first | rfl | (simp only [Bool.or_eq_false_iff,decide_eq_false_iff_not,Bool.or_eq_true,decide_eq_true_eq]; omega))),rfl⟩
theorem upathF_qu (b:UInt8) (Bn:Nat) (w:World) (hB:w.cell? ⟨Bn,0,none⟩=some (.string ⟨#[63]⟩)) :
  Calls Tryz.prog 118 #[.int .u8 (b.toNat:Int),.pointer (some ⟨Bn,0,none⟩)] w fun e w'=>e=.returned (.bool (mayB true b))∧w=w':=by
 have hm:=may_qu b
 obtain ⟨v,hv⟩:∃ v,v=mayB true b:=⟨_,rfl⟩
 rw [← hv] at hm ⊢
 clear hv
 obtain ⟨z1,hz1⟩:∃ z,Lib.indexByte [34,35,60,62,63,92,94,96,123,124,125] b=z:=⟨_,rfl⟩
 obtain ⟨z2,hz2⟩:∃ z,Lib.indexByte [63] b=z:=⟨_,rfl⟩
 rw [show forT=[34,35,60,62,63,92,94,96,123,124,125] from rfl,hz1,hz2] at hm
 by_cases c1:32 < b.toNat
 ·have d1:(32:Int) < (b.toNat:Int):=by omega
  by_cases c2:b.toNat < 127
  ·have d2:(b.toNat:Int) < 127:=by omega
   by_cases c3:z1 < 0
   ·have HV:=Lib.hid (show v=true by rw [hm]; simp [c1,c2,c3])
    clear hm c1 c2
    go_enter Tryz.func118,Tryz.ntmps118
    go_wp2_with (go_at_call 109; refine (IndexByteK_c _ _ _ (by assumption) _).mono ?_; rintro e w1 ⟨rfl,rfl⟩)
    go_ret
    exact ⟨ret_bool (by rw [HV.out]; try (first | rfl | (simp only [Bool.or_eq_false_iff,decide_eq_false_iff_not,Bool.or_eq_true,decide_eq_true_eq]; omega))),rfl⟩
   ·by_cases c4:0 ≤ z2
    ·have HV:=Lib.hid (show v=true by rw [hm]; simp [c4])
     clear hm c1 c2
     go_enter Tryz.func118,Tryz.ntmps118
     go_wp2_with (go_at_call 109; refine (IndexByteK_c _ _ _ (by assumption) _).mono ?_; rintro e w1 ⟨rfl,rfl⟩)
     go_ret
     exact ⟨ret_bool (by rw [HV.out]; try (first | rfl | (simp only [Bool.or_eq_false_iff,decide_eq_false_iff_not,Bool.or_eq_true,decide_eq_true_eq]; omega))),rfl⟩
    ·have HV:=Lib.hid (show v=false by rw [hm]; simp [c3,c4])
     clear hm c1 c2
     go_enter Tryz.func118,Tryz.ntmps118
     go_wp2_with (go_at_call 109; refine (IndexByteK_c _ _ _ (by assumption) _).mono ?_; rintro e w1 ⟨rfl,rfl⟩)
     go_ret
     exact ⟨ret_bool (by rw [HV.out]; try (first | rfl | (simp only [Bool.or_eq_false_iff,decide_eq_false_iff_not,Bool.or_eq_true,decide_eq_true_eq]; omega))),rfl⟩
  ·have d2:¬ (b.toNat:Int) < 127:=by omega
   by_cases c4:0 ≤ z2
   ·have HV:=Lib.hid (show v=true by rw [hm]; simp [c4])
    clear hm c1 c2
    go_enter Tryz.func118,Tryz.ntmps118
    go_wp2_with (go_at_call 109; refine (IndexByteK_c _ _ _ (by assumption) _).mono ?_; rintro e w1 ⟨rfl,rfl⟩)
    go_ret
    exact ⟨ret_bool (by rw [HV.out]; try (first | rfl | (simp only [Bool.or_eq_false_iff,decide_eq_false_iff_not,Bool.or_eq_true,decide_eq_true_eq]; omega))),rfl⟩
   ·have HV:=Lib.hid (show v=false by rw [hm]; simp [c2,c4])
    clear hm c1 c2
    go_enter Tryz.func118,Tryz.ntmps118
    go_wp2_with (go_at_call 109; refine (IndexByteK_c _ _ _ (by assumption) _).mono ?_; rintro e w1 ⟨rfl,rfl⟩)
    go_ret
    exact ⟨ret_bool (by rw [HV.out]; try (first | rfl | (simp only [Bool.or_eq_false_iff,decide_eq_false_iff_not,Bool.or_eq_true,decide_eq_true_eq]; omega))),rfl⟩
 ·have d1:¬ (32:Int) < (b.toNat:Int):=by omega
  by_cases c4:0 ≤ z2
  ·have HV:=Lib.hid (show v=true by rw [hm]; simp [c4])
   clear hm c1
   go_enter Tryz.func118,Tryz.ntmps118
   go_wp2_with (go_at_call 109; refine (IndexByteK_c _ _ _ (by assumption) _).mono ?_; rintro e w1 ⟨rfl,rfl⟩)
   go_ret
   exact ⟨ret_bool (by rw [HV.out]; try (first | rfl | (simp only [Bool.or_eq_false_iff,decide_eq_false_iff_not,Bool.or_eq_true,decide_eq_true_eq]; omega))),rfl⟩
  ·have HV:=Lib.hid (show v=false by rw [hm]; simp [c1,c4])
   clear hm c1
   go_enter Tryz.func118,Tryz.ntmps118
   go_wp2_with (go_at_call 109; refine (IndexByteK_c _ _ _ (by assumption) _).mono ?_; rintro e w1 ⟨rfl,rfl⟩)
   go_ret
   exact ⟨ret_bool (by rw [HV.out]; try (first | rfl | (simp only [Bool.or_eq_false_iff,decide_eq_false_iff_not,Bool.or_eq_true,decide_eq_true_eq]; omega))),rfl⟩
theorem all_path (l:List UInt8) (hs:l.length ≤ 140737488355328) (Bn:Nat) (w:World) (hB:w.cell? ⟨Bn,0,none⟩=some (.string ⟨#[]⟩)) :
  Calls Tryz.prog 87 #[.string (str l),.func (.func 118) #[] #[.pointer (some ⟨Bn,0,none⟩)]] w fun e w'=>e=.returned (.bool (l.all (mayB false)))∧w=w':=by
 have HC:=Lib.hid (fun b=>upathF_no b Bn w hB)
 clear hB
 obtain ⟨v,hv⟩:∃ v,v=l.all (mayB false):=⟨_,rfl⟩
 rw [← hv]
 have HV:=Lib.hid hv
 clear hv
 go_enter Tryz.func87,Tryz.ntmps87
 go_wp2
 go_loopw [8] (fun i wr=>∃ k:Nat,i=.int .i64 (k:Nat)∧k ≤ l.length∧(l.take k).all (mayB false)=true∧w=wr) (fun i _=>l.length - (intOf i).toNat)
 case atStart=>exact ⟨0,rfl,Nat.zero_le _,rfl,rfl⟩
 case round =>
  obtain ⟨k,rfl,hk,hall,rfl⟩:=hrel
  have HA:=Lib.hid hall
  clear hall
  by_cases hlt:k < l.length
  ·have HS:=Lib.hid (all_succ_l l (mayB false) k hlt)
   have hki:(k:Int) + 1 ≤ 9223372036854775807:=by omega
   by_cases hp:mayB false l[k]=true
   ·have HP:=Lib.hid hp
    clear hp
    go_wp2_with (go_at_call 118; refine (HC.out _).mono ?_; rintro e w1 ⟨rfl,rfl⟩; rw [HP.out])
    go_roundw
    case rel=>exact ⟨k + 1,by go_num,by omega,by rw [HS.out,HA.out,HP.out]; rfl,by trivial⟩
    case measure=>simp [intOf]; omega
   ·have HP:=Lib.hid (show mayB false l[k]=false by simpa using hp)
    have HN:=Lib.hid (show v=false by rw [HV.out,List.all_eq_false]; exact ⟨l[k],List.getElem_mem hlt,by rw [HP.out]; simp⟩)
    clear hp
    go_wp2_with (go_at_call 118; refine (HC.out _).mono ?_; rintro e w1 ⟨rfl,rfl⟩; rw [HP.out])
    go_ret
    exact ⟨ret_bool (by rw [HN.out]),rfl⟩
  ·obtain rfl:k=l.length:=by omega
   have HN:=Lib.hid (show v=true by rw [HV.out]; have:=HA.out; rwa [List.take_length] at this)
   go_wp2
   go_ret
   exact ⟨ret_bool (by rw [HN.out]),rfl⟩
theorem all_query (l:List UInt8) (hs:l.length ≤ 140737488355328) (Bn:Nat) (w:World) (hB:w.cell? ⟨Bn,0,none⟩=some (.string ⟨#[63]⟩)) :
  Calls Tryz.prog 87 #[.string (str l),.func (.func 118) #[] #[.pointer (some ⟨Bn,0,none⟩)]] w fun e w'=>e=.returned (.bool (l.all (mayB true)))∧w=w':=by
 have HC:=Lib.hid (fun b=>upathF_qu b Bn w hB)
 clear hB
 obtain ⟨v,hv⟩:∃ v,v=l.all (mayB true):=⟨_,rfl⟩
 rw [← hv]
 have HV:=Lib.hid hv
 clear hv
 go_enter Tryz.func87,Tryz.ntmps87
 go_wp2
 go_loopw [8] (fun i wr=>∃ k:Nat,i=.int .i64 (k:Nat)∧k ≤ l.length∧(l.take k).all (mayB true)=true∧w=wr) (fun i _=>l.length - (intOf i).toNat)
 case atStart=>exact ⟨0,rfl,Nat.zero_le _,rfl,rfl⟩
 case round =>
  obtain ⟨k,rfl,hk,hall,rfl⟩:=hrel
  have HA:=Lib.hid hall
  clear hall
  by_cases hlt:k < l.length
  ·have HS:=Lib.hid (all_succ_l l (mayB true) k hlt)
   have hki:(k:Int) + 1 ≤ 9223372036854775807:=by omega
   by_cases hp:mayB true l[k]=true
   ·have HP:=Lib.hid hp
    clear hp
    go_wp2_with (go_at_call 118; refine (HC.out _).mono ?_; rintro e w1 ⟨rfl,rfl⟩; rw [HP.out])
    go_roundw
    case rel=>exact ⟨k + 1,by go_num,by omega,by rw [HS.out,HA.out,HP.out]; rfl,by trivial⟩
    case measure=>simp [intOf]; omega
   ·have HP:=Lib.hid (show mayB true l[k]=false by simpa using hp)
    have HN:=Lib.hid (show v=false by rw [HV.out,List.all_eq_false]; exact ⟨l[k],List.getElem_mem hlt,by rw [HP.out]; simp⟩)
    clear hp
    go_wp2_with (go_at_call 118; refine (HC.out _).mono ?_; rintro e w1 ⟨rfl,rfl⟩; rw [HP.out])
    go_ret
    exact ⟨ret_bool (by rw [HN.out]),rfl⟩
  ·obtain rfl:k=l.length:=by omega
   have HN:=Lib.hid (show v=true by rw [HV.out]; have:=HA.out; rwa [List.take_length] at this)
   go_wp2
   go_ret
   exact ⟨ret_bool (by rw [HN.out]),rfl⟩
def mq (m:ByteArray):Bool:=!m.data.isEmpty
theorem all_px (l:List UInt8) (m:ByteArray) (Bn:Nat) (w:World) (hs:l.length ≤ 140737488355328) (hB:w.cell? ⟨Bn,0,none⟩=some (.string m)) (hm:m=⟨#[]⟩ ∨ m=⟨#[63]⟩) :
  Calls Tryz.prog 87 #[.string (str l),.func (.func 118) #[] #[.pointer (some ⟨Bn,0,none⟩)]] w fun e w'=>e=.returned (.bool (l.all (mayB (mq m))))∧w=w':=by
 rcases hm with rfl | rfl
 ·exact all_path l hs Bn w hB
 ·exact all_query l hs Bn w hB
theorem new_at_g {w:World} {g:Nat} (hg:w.heap.size=g) (cs:Array Value) (t:TypeId) (j:Nat) (u:Value) (h:cs[j]?=some u):(w.alloc (.cells cs t)).cell? ⟨g,j,none⟩=some u:=by
 subst hg; exact new_at w cs t j u h
def cutL (r:List UInt8):List UInt8 × List UInt8 × Bool :=
 (r.takeWhile (fun b=>b != 63),r.drop ((r.takeWhile (fun b=>b != 63)).length + 1),decide ((r.takeWhile (fun b=>b != 63)).length < r.length))
theorem local_cut (r:List UInt8):localL r=if (cutL r).1.all (mayB false)=true∧(cutL r).2.1.all (mayB true)=true then some (cutL r) else none:=rfl
theorem cutL_none (r:List UInt8) (h:63 ∉ r):cutL r=(r,[],false):=by
 have e:r.takeWhile (fun b=>b != 63)=r:=by
  have:=tw_eq (fun b=>b != 63) r r.length (Nat.le_refl _) (by rw [List.take_length,List.all_eq_true]; intro x hx; simp only [bne_iff_ne]; intro e; exact h (e ▸ hx)) (fun h=>by omega)
  rw [this,List.take_length]
 unfold cutL
 rw [e,List.drop_eq_nil_of_le (by omega)]
 simp
theorem cut_some (p q:List UInt8) (h:63 ∉ p):cutL (p ++ 63 :: q)=(p,q,true):=by
 have e:(p ++ 63 :: q).takeWhile (fun b=>b != 63)=p:=by
  have:=tw_eq (fun b=>b != 63) (p ++ 63 :: q) p.length (by simp) (by rw [List.take_left,List.all_eq_true]; intro x hx; simp only [bne_iff_ne]; intro e; exact h (e ▸ hx)) (fun h=>by rw [List.getElem_append_right (Nat.le_refl _)]; simp)
  rw [this,List.take_left]
 unfold cutL
 rw [e]
 have e2:(p ++ 63 :: q).drop (p.length + 1)=q:=by
  rw [List.drop_append]
  simp [List.drop_eq_nil_of_le]
 have e3:decide (p.length < (p ++ 63 :: q).length)=true:=by simp
 rw [e2,e3]
theorem cut_len (r:List UInt8):(cutL r).1.length ≤ r.length∧(cutL r).2.1.length ≤ r.length:=⟨tw_len _ _,by show (r.drop _).length ≤ _; rw [List.length_drop]; omega⟩
theorem Cut63_c (r:List UInt8) (hs:r.length ≤ maxLen) (w:World) :
  Calls Tryz.prog 78 #[.string (str r),.string ⟨#[63]⟩] w (Gives (.tuple #[.string (str (cutL r).1),.string (str (cutL r).2.1),.bool (cutL r).2.2]) w):=by
 rcases cut_cases r 63 with h | ⟨p,q,rfl,h⟩
 ·rw [cutL_none r h]
  refine (Cut_no r 63 h w).mono ?_
  rintro e w' ⟨rfl,rfl⟩
  exact ⟨rfl,Ext.rfl' _⟩
 ·rw [cut_some p q h]
  refine (Cut_at p q 63 h (by simp at hs; omega) w).mono ?_
  rintro e w' ⟨rfl,n,rfl⟩
  exact ⟨rfl,(Ext.rfl' _).drN n⟩
end Go.Proofs.YthbofilcnpdghaaGreatDoor
end
