/-
How long the body of any request and of any response is: the law as a walk.
-/
import Derived.Test.YthbofilcnpdghaaGreatDoorZbd
import Derived.Test.YthbofilcnpdghaaGreatDoorZbe
import Derived.Test.YthbofilcnpdghaaGreatDoorZau
import Derived.Test.YthbofilcnpdghaaGreatDoorZav
import Derived.Laws.RangeAny
import Derived.Lib.IndexAny
import Derived.Test.YthbofilcnpdghaaGreatDoorZag
import Derived.Deep.LoopGhost
import Derived.WalkMore
import Derived.Lib.OthersKept
import Derived.Shelf.Strings.IndexAnyAll
set_option maxRecDepth 100000
set_option maxHeartbeats 8000000
set_option linter.unusedVariables false
set_option linter.unusedSimpArgs false
section
namespace Go.Proofs.YthbofilcnpdghaaGreatDoor
open Go.RowKit
theorem vals_subU {fs:List Fld} {nm v:List UInt8} (h:v∈valsH fs nm):∃ p∈fs,v=p.2:=by
 unfold valsH at h
 obtain ⟨p,hp,rfl⟩:=List.mem_map.1 h
 exact ⟨p,(List.mem_filter.1 hp).1,rfl⟩
theorem vals_lenU (fs:List Fld) (nm:List UInt8):(valsH fs nm).length≤fs.length:=by
 unfold valsH
 rw [List.length_map]
 exact List.length_filter_le _ _
theorem flat_bd {α:Type} (f:List UInt8→List α) (L:Nat):∀ (vs:List (List UInt8)),(∀ v∈vs,(f v).length≤L)→(vs.flatMap f).length≤vs.length*L
 | [],_=>by simp
 | v::vs,h=>by
  have h1:=h v List.mem_cons_self
  have h2:=flat_bd f L vs (fun u hu=>h u (List.mem_cons_of_mem _ hu))
  rw [List.flatMap_cons,List.length_append,List.length_cons,Nat.succ_mul]
  omega
theorem split_in {s v:List UInt8} (h:s∈splitL 44 v):s.length≤v.length:=keep_len h
theorem fit_of {fs:List Fld} (h:∀ x∈fs,x.1.length+x.2.length+2+fs.length≤1048576):FitF fs:=by
 have hn:fs.length≤1048576:=by
  cases fs with
  | nil=>exact Nat.zero_le _
  | cons p fs=>have:=h p List.mem_cons_self;omega
 have hv:∀ nm,∀ v∈valsH fs nm,v.length+2+fs.length≤1048576:=fun nm v hv=>by
  obtain ⟨p,hp,rfl⟩:=vals_subU hv
  have:=h p hp;omega
 have hprod:fs.length*(1048576-fs.length)≤1099511627776:=by
  have h1:fs.length*(1048576-fs.length)≤1048576*1048576:=Nat.mul_le_mul hn (Nat.sub_le _ _)
  omega
 have hb:∀ (nm:List UInt8) {α:Type} (f:List UInt8→List α),(∀ v,(f v).length≤v.length+1)→((valsH fs nm).flatMap f).length≤1099511627776:=fun nm α f hf=>by
  have h1:=flat_bd f (1048576-fs.length) (valsH fs nm) (fun v hv2=>by have:=hv nm v hv2;have:=hf v;omega)
  have h2:=Nat.mul_le_mul_right (1048576-fs.length) (vals_lenU fs nm)
  omega
 refine ⟨by omega,fun p hp=>by have:=h p hp;unfold maxLen;omega,fun v hv2=>by have:=hv teN v hv2;omega,hb teN _ toks_len,by have:=vals_lenU fs teN;omega,fun v hv2=>by have:=hv clN v hv2;omega,hb clN _ (splitL_len 44),?_,by have:=vals_lenU fs clN;omega⟩
 intro s hs
 obtain ⟨v,hv2,hs2⟩:=List.mem_flatMap.1 hs
 have h1:=split_in hs2
 have h2:=hv clN v hv2
 omega
def autB (b:UInt8):Bool:=!(b == 47 || b == 63)
theorem results_four {fn:Func} {t u v x:Tmp} (h:fn.results=#[.tmp t,.tmp u,.tmp v,.tmp x]) (tmps:Array Value) (P:Program) (w:World) :
  (results fn tmps).run P w=.ok (.tuple #[tmps.getD t undef,tmps.getD u undef,tmps.getD v undef,tmps.getD x undef]) w:=by
 simp [results,h]
macro "go_ret4" : tactic => `(tactic|
 ((try simp only [Exit.inBlock,Exit.then]);refine bodyPost_ret (results_four rfl _ _ _) rfl ?_))
def tgtV (x:TgtT × Int):Value:=.tuple #[.agg #[.int .i64 x.1.1,.string (str x.1.2.1),.int .i64 x.1.2.2.1,.string (str x.1.2.2.2.1),.string (str x.1.2.2.2.2.1),.bool x.1.2.2.2.2.2],.int .i64 x.2]
theorem put6 {W:World} {b:Nat} {x0 x1 x2 x3 x4 x5:Value} {t:TypeId} (h:W.heap[b]?=some (.cells #[x0,x1,x2,x3,x4,x5] t (0,0))) (v0 v1 v2 v3 v4 v5:Value) :
  ((((((W.setCell ⟨b,0,none⟩ v0).setCell ⟨b,1,none⟩ v1).setCell ⟨b,2,none⟩ v2).setCell ⟨b,3,none⟩ v3).setCell ⟨b,4,none⟩ v4).setCell ⟨b,5,none⟩ v5).heap[b]?=some (.cells #[v0,v1,v2,v3,v4,v5] t (0,0)):=by
 simp [World.setCell,Array.getElem?_modify,h]
theorem ext6 {w W:World} (x:Ext w W) (v0 v1 v2 v3 v4 v5:Value) :
  Ext w ((((((W.setCell ⟨w.heap.size,0,none⟩ v0).setCell ⟨w.heap.size,1,none⟩ v1).setCell ⟨w.heap.size,2,none⟩ v2).setCell ⟨w.heap.size,3,none⟩ v3).setCell ⟨w.heap.size,4,none⟩ v4).setCell ⟨w.heap.size,5,none⟩ v5) :=
 ((((((x.st (Nat.le_refl _) _).st (Nat.le_refl _) _).st (Nat.le_refl _) _).st (Nat.le_refl _) _).st (Nat.le_refl _) _).st (Nat.le_refl _) _)
def conL:List UInt8:=[67,79,78,78,69,67,84]
def optL:List UInt8:=[79,80,84,73,79,78,83]
theorem strN {m t:List UInt8} (h:¬ m=t):((str m).toList == t)=false:=by rw [beq_eq_false_iff_ne,Lib.toList_data];exact h
theorem two (w:World) (o1 o2:Obj):((w.alloc o1).alloc o2).heap[w.heap.size]?=some o1∧((w.alloc o1).alloc o2).heap[w.heap.size+1]?=some o2:=by
 refine ⟨(heap_next (by simp)).trans (heap_alloc_new w o1),?_⟩
 have:=heap_alloc_new (w.alloc o1) o2
 simpa using this
def forT:List UInt8:=[34,35,60,62,63,92,94,96,123,124,125]
theorem may_no0:∀ b:Fin 256,mayB false b.val.toUInt8=((decide (32<b.val.toUInt8.toNat) && decide (b.val.toUInt8.toNat<127) && decide (Lib.indexByte forT b.val.toUInt8<0)) || decide (0≤Lib.indexByte [] b.val.toUInt8)):=by decide +kernel
theorem may_qu0:∀ b:Fin 256,mayB true b.val.toUInt8=((decide (32<b.val.toUInt8.toNat) && decide (b.val.toUInt8.toNat<127) && decide (Lib.indexByte forT b.val.toUInt8<0)) || decide (0≤Lib.indexByte [63] b.val.toUInt8)):=by decide +kernel
theorem may_no (b:UInt8):mayB false b=((decide (32<b.toNat) && decide (b.toNat<127) && decide (Lib.indexByte forT b<0)) || decide (0≤Lib.indexByte [] b)):=by
 have:=may_no0 ⟨b.toNat,UInt8.toNat_lt b⟩;simpa using this
theorem may_qu (b:UInt8):mayB true b=((decide (32<b.toNat) && decide (b.toNat<127) && decide (Lib.indexByte forT b<0)) || decide (0≤Lib.indexByte [63] b)):=by
 have:=may_qu0 ⟨b.toNat,UInt8.toNat_lt b⟩;simpa using this
theorem upathF_no (b:UInt8) (Bn:Nat) (w:World) (hB:w.cell? ⟨Bn,0,none⟩=some (.string ⟨#[]⟩)) :
  Calls Tryz.prog 118 #[.int .u8 (b.toNat:Int),.pointer (some ⟨Bn,0,none⟩)] w fun e w'=>e=.returned (.bool (mayB false b))∧w=w':=by
 have hm:=may_no b
 obtain ⟨v,hv⟩:∃ v,v=mayB false b:=⟨_,rfl⟩
 rw [← hv] at hm ⊢
 clear hv
 obtain ⟨z1,hz1⟩:∃ z,Lib.indexByte [34,35,60,62,63,92,94,96,123,124,125] b=z:=⟨_,rfl⟩
 obtain ⟨z2,hz2⟩:∃ z,Lib.indexByte [] b=z:=⟨_,rfl⟩
 rw [show forT=[34,35,60,62,63,92,94,96,123,124,125] from rfl,hz1,hz2] at hm
 by_cases c1:32<b.toNat
 ·have d1:(32:Int)<(b.toNat:Int):=by omega
  by_cases c2:b.toNat<127
  ·have d2:(b.toNat:Int)<127:=by omega
   by_cases c3:z1<0
   ·have HV:=Hy (show v=true by rw [hm];simp [c1,c2,c3])
    clear hm c1 c2
    go_enter Tryz.func118,Tryz.ntmps118
    go_wp2_with (go_at_call 109;refine (IndexByteK_c _ _ _ (by assumption) _).mono ?_;rintro e w1 ⟨rfl,rfl⟩)
    go_ret
    exact ⟨ret_bool (by rw [HV.out];try (first | rfl | (simp only [Bool.or_eq_false_iff,decide_eq_false_iff_not,Bool.or_eq_true,decide_eq_true_eq];omega))),rfl⟩
   ·by_cases c4:0≤z2
    ·have HV:=Hy (show v=true by rw [hm];simp [c4])
     clear hm c1 c2
     go_enter Tryz.func118,Tryz.ntmps118
     go_wp2_with (go_at_call 109;refine (IndexByteK_c _ _ _ (by assumption) _).mono ?_;rintro e w1 ⟨rfl,rfl⟩)
     go_ret
     exact ⟨ret_bool (by rw [HV.out];try (first | rfl | (simp only [Bool.or_eq_false_iff,decide_eq_false_iff_not,Bool.or_eq_true,decide_eq_true_eq];omega))),rfl⟩
    ·have HV:=Hy (show v=false by rw [hm];simp [c3,c4])
     clear hm c1 c2
     go_enter Tryz.func118,Tryz.ntmps118
     go_wp2_with (go_at_call 109;refine (IndexByteK_c _ _ _ (by assumption) _).mono ?_;rintro e w1 ⟨rfl,rfl⟩)
     go_ret
     exact ⟨ret_bool (by rw [HV.out];try (first | rfl | (simp only [Bool.or_eq_false_iff,decide_eq_false_iff_not,Bool.or_eq_true,decide_eq_true_eq];omega))),rfl⟩
  ·have d2:¬(b.toNat:Int)<127:=by omega
   by_cases c4:0≤z2
   ·have HV:=Hy (show v=true by rw [hm];simp [c4])
    clear hm c1 c2
    go_enter Tryz.func118,Tryz.ntmps118
    go_wp2_with (go_at_call 109;refine (IndexByteK_c _ _ _ (by assumption) _).mono ?_;rintro e w1 ⟨rfl,rfl⟩)
    go_ret
    exact ⟨ret_bool (by rw [HV.out];try (first | rfl | (simp only [Bool.or_eq_false_iff,decide_eq_false_iff_not,Bool.or_eq_true,decide_eq_true_eq];omega))),rfl⟩
   ·have HV:=Hy (show v=false by rw [hm];simp [c2,c4])
    clear hm c1 c2
    go_enter Tryz.func118,Tryz.ntmps118
    go_wp2_with (go_at_call 109;refine (IndexByteK_c _ _ _ (by assumption) _).mono ?_;rintro e w1 ⟨rfl,rfl⟩)
    go_ret
    exact ⟨ret_bool (by rw [HV.out];try (first | rfl | (simp only [Bool.or_eq_false_iff,decide_eq_false_iff_not,Bool.or_eq_true,decide_eq_true_eq];omega))),rfl⟩
 ·have d1:¬(32:Int)<(b.toNat:Int):=by omega
  by_cases c4:0≤z2
  ·have HV:=Hy (show v=true by rw [hm];simp [c4])
   clear hm c1
   go_enter Tryz.func118,Tryz.ntmps118
   go_wp2_with (go_at_call 109;refine (IndexByteK_c _ _ _ (by assumption) _).mono ?_;rintro e w1 ⟨rfl,rfl⟩)
   go_ret
   exact ⟨ret_bool (by rw [HV.out];try (first | rfl | (simp only [Bool.or_eq_false_iff,decide_eq_false_iff_not,Bool.or_eq_true,decide_eq_true_eq];omega))),rfl⟩
  ·have HV:=Hy (show v=false by rw [hm];simp [c1,c4])
   clear hm c1
   go_enter Tryz.func118,Tryz.ntmps118
   go_wp2_with (go_at_call 109;refine (IndexByteK_c _ _ _ (by assumption) _).mono ?_;rintro e w1 ⟨rfl,rfl⟩)
   go_ret
   exact ⟨ret_bool (by rw [HV.out];try (first | rfl | (simp only [Bool.or_eq_false_iff,decide_eq_false_iff_not,Bool.or_eq_true,decide_eq_true_eq];omega))),rfl⟩
theorem upathF_qu (b:UInt8) (Bn:Nat) (w:World) (hB:w.cell? ⟨Bn,0,none⟩=some (.string ⟨#[63]⟩)) :
  Calls Tryz.prog 118 #[.int .u8 (b.toNat:Int),.pointer (some ⟨Bn,0,none⟩)] w fun e w'=>e=.returned (.bool (mayB true b))∧w=w':=by
 have hm:=may_qu b
 obtain ⟨v,hv⟩:∃ v,v=mayB true b:=⟨_,rfl⟩
 rw [← hv] at hm ⊢
 clear hv
 obtain ⟨z1,hz1⟩:∃ z,Lib.indexByte [34,35,60,62,63,92,94,96,123,124,125] b=z:=⟨_,rfl⟩
 obtain ⟨z2,hz2⟩:∃ z,Lib.indexByte [63] b=z:=⟨_,rfl⟩
 rw [show forT=[34,35,60,62,63,92,94,96,123,124,125] from rfl,hz1,hz2] at hm
 by_cases c1:32<b.toNat
 ·have d1:(32:Int)<(b.toNat:Int):=by omega
  by_cases c2:b.toNat<127
  ·have d2:(b.toNat:Int)<127:=by omega
   by_cases c3:z1<0
   ·have HV:=Hy (show v=true by rw [hm];simp [c1,c2,c3])
    clear hm c1 c2
    go_enter Tryz.func118,Tryz.ntmps118
    go_wp2_with (go_at_call 109;refine (IndexByteK_c _ _ _ (by assumption) _).mono ?_;rintro e w1 ⟨rfl,rfl⟩)
    go_ret
    exact ⟨ret_bool (by rw [HV.out];try (first | rfl | (simp only [Bool.or_eq_false_iff,decide_eq_false_iff_not,Bool.or_eq_true,decide_eq_true_eq];omega))),rfl⟩
   ·by_cases c4:0≤z2
    ·have HV:=Hy (show v=true by rw [hm];simp [c4])
     clear hm c1 c2
     go_enter Tryz.func118,Tryz.ntmps118
     go_wp2_with (go_at_call 109;refine (IndexByteK_c _ _ _ (by assumption) _).mono ?_;rintro e w1 ⟨rfl,rfl⟩)
     go_ret
     exact ⟨ret_bool (by rw [HV.out];try (first | rfl | (simp only [Bool.or_eq_false_iff,decide_eq_false_iff_not,Bool.or_eq_true,decide_eq_true_eq];omega))),rfl⟩
    ·have HV:=Hy (show v=false by rw [hm];simp [c3,c4])
     clear hm c1 c2
     go_enter Tryz.func118,Tryz.ntmps118
     go_wp2_with (go_at_call 109;refine (IndexByteK_c _ _ _ (by assumption) _).mono ?_;rintro e w1 ⟨rfl,rfl⟩)
     go_ret
     exact ⟨ret_bool (by rw [HV.out];try (first | rfl | (simp only [Bool.or_eq_false_iff,decide_eq_false_iff_not,Bool.or_eq_true,decide_eq_true_eq];omega))),rfl⟩
  ·have d2:¬(b.toNat:Int)<127:=by omega
   by_cases c4:0≤z2
   ·have HV:=Hy (show v=true by rw [hm];simp [c4])
    clear hm c1 c2
    go_enter Tryz.func118,Tryz.ntmps118
    go_wp2_with (go_at_call 109;refine (IndexByteK_c _ _ _ (by assumption) _).mono ?_;rintro e w1 ⟨rfl,rfl⟩)
    go_ret
    exact ⟨ret_bool (by rw [HV.out];try (first | rfl | (simp only [Bool.or_eq_false_iff,decide_eq_false_iff_not,Bool.or_eq_true,decide_eq_true_eq];omega))),rfl⟩
   ·have HV:=Hy (show v=false by rw [hm];simp [c2,c4])
    clear hm c1 c2
    go_enter Tryz.func118,Tryz.ntmps118
    go_wp2_with (go_at_call 109;refine (IndexByteK_c _ _ _ (by assumption) _).mono ?_;rintro e w1 ⟨rfl,rfl⟩)
    go_ret
    exact ⟨ret_bool (by rw [HV.out];try (first | rfl | (simp only [Bool.or_eq_false_iff,decide_eq_false_iff_not,Bool.or_eq_true,decide_eq_true_eq];omega))),rfl⟩
 ·have d1:¬(32:Int)<(b.toNat:Int):=by omega
  by_cases c4:0≤z2
  ·have HV:=Hy (show v=true by rw [hm];simp [c4])
   clear hm c1
   go_enter Tryz.func118,Tryz.ntmps118
   go_wp2_with (go_at_call 109;refine (IndexByteK_c _ _ _ (by assumption) _).mono ?_;rintro e w1 ⟨rfl,rfl⟩)
   go_ret
   exact ⟨ret_bool (by rw [HV.out];try (first | rfl | (simp only [Bool.or_eq_false_iff,decide_eq_false_iff_not,Bool.or_eq_true,decide_eq_true_eq];omega))),rfl⟩
  ·have HV:=Hy (show v=false by rw [hm];simp [c1,c4])
   clear hm c1
   go_enter Tryz.func118,Tryz.ntmps118
   go_wp2_with (go_at_call 109;refine (IndexByteK_c _ _ _ (by assumption) _).mono ?_;rintro e w1 ⟨rfl,rfl⟩)
   go_ret
   exact ⟨ret_bool (by rw [HV.out];try (first | rfl | (simp only [Bool.or_eq_false_iff,decide_eq_false_iff_not,Bool.or_eq_true,decide_eq_true_eq];omega))),rfl⟩
theorem all_path (l:List UInt8) (hs:l.length≤140737488355328) (Bn:Nat) (w:World) (hB:w.cell? ⟨Bn,0,none⟩=some (.string ⟨#[]⟩)) :
  Calls Tryz.prog 87 #[.string (str l),.func (.func 118) #[] #[.pointer (some ⟨Bn,0,none⟩)]] w fun e w'=>e=.returned (.bool (l.all (mayB false)))∧w=w':=by
 have HC:=Hy (fun b=>upathF_no b Bn w hB)
 clear hB
 obtain ⟨v,hv⟩:∃ v,v=l.all (mayB false):=⟨_,rfl⟩
 rw [← hv]
 have HV:=Hy hv
 clear hv
 go_enter Tryz.func87,Tryz.ntmps87
 go_wp2
 go_loopw [8] (fun i wr=>∃ k:Nat,i=.int .i64 (k:Nat)∧k≤l.length∧(l.take k).all (mayB false)=true∧w=wr) (fun i _=>l.length-(intOf i).toNat)
 case atStart=>exact ⟨0,rfl,Nat.zero_le _,rfl,rfl⟩
 case round =>
  obtain ⟨k,rfl,hk,hall,rfl⟩:=hrel
  have HA:=Hy hall
  clear hall
  by_cases hlt:k<l.length
  ·have HS:=Hy (all_succ_l l (mayB false) k hlt)
   have hki:(k:Int)+1≤9223372036854775807:=by omega
   by_cases hp:mayB false l[k]=true
   ·have HP:=Hy hp
    clear hp
    go_wp2_with (go_at_call 118;refine (HC.out _).mono ?_;rintro e w1 ⟨rfl,rfl⟩;rw [HP.out])
    go_roundw
    case rel=>exact ⟨k+1,by go_num,by omega,by rw [HS.out,HA.out,HP.out];rfl,by trivial⟩
    case measure=>simp [intOf];omega
   ·have HP:=Hy (show mayB false l[k]=false by simpa using hp)
    have HN:=Hy (show v=false by rw [HV.out,List.all_eq_false];exact ⟨l[k],List.getElem_mem hlt,by rw [HP.out];simp⟩)
    clear hp
    go_wp2_with (go_at_call 118;refine (HC.out _).mono ?_;rintro e w1 ⟨rfl,rfl⟩;rw [HP.out])
    go_ret
    exact ⟨ret_bool (by rw [HN.out]),rfl⟩
  ·obtain rfl:k=l.length:=by omega
   have HN:=Hy (show v=true by rw [HV.out];have:=HA.out;rwa [List.take_length] at this)
   go_wp2
   go_ret
   exact ⟨ret_bool (by rw [HN.out]),rfl⟩
theorem all_query (l:List UInt8) (hs:l.length≤140737488355328) (Bn:Nat) (w:World) (hB:w.cell? ⟨Bn,0,none⟩=some (.string ⟨#[63]⟩)) :
  Calls Tryz.prog 87 #[.string (str l),.func (.func 118) #[] #[.pointer (some ⟨Bn,0,none⟩)]] w fun e w'=>e=.returned (.bool (l.all (mayB true)))∧w=w':=by
 have HC:=Hy (fun b=>upathF_qu b Bn w hB)
 clear hB
 obtain ⟨v,hv⟩:∃ v,v=l.all (mayB true):=⟨_,rfl⟩
 rw [← hv]
 have HV:=Hy hv
 clear hv
 go_enter Tryz.func87,Tryz.ntmps87
 go_wp2
 go_loopw [8] (fun i wr=>∃ k:Nat,i=.int .i64 (k:Nat)∧k≤l.length∧(l.take k).all (mayB true)=true∧w=wr) (fun i _=>l.length-(intOf i).toNat)
 case atStart=>exact ⟨0,rfl,Nat.zero_le _,rfl,rfl⟩
 case round =>
  obtain ⟨k,rfl,hk,hall,rfl⟩:=hrel
  have HA:=Hy hall
  clear hall
  by_cases hlt:k<l.length
  ·have HS:=Hy (all_succ_l l (mayB true) k hlt)
   have hki:(k:Int)+1≤9223372036854775807:=by omega
   by_cases hp:mayB true l[k]=true
   ·have HP:=Hy hp
    clear hp
    go_wp2_with (go_at_call 118;refine (HC.out _).mono ?_;rintro e w1 ⟨rfl,rfl⟩;rw [HP.out])
    go_roundw
    case rel=>exact ⟨k+1,by go_num,by omega,by rw [HS.out,HA.out,HP.out];rfl,by trivial⟩
    case measure=>simp [intOf];omega
   ·have HP:=Hy (show mayB true l[k]=false by simpa using hp)
    have HN:=Hy (show v=false by rw [HV.out,List.all_eq_false];exact ⟨l[k],List.getElem_mem hlt,by rw [HP.out];simp⟩)
    clear hp
    go_wp2_with (go_at_call 118;refine (HC.out _).mono ?_;rintro e w1 ⟨rfl,rfl⟩;rw [HP.out])
    go_ret
    exact ⟨ret_bool (by rw [HN.out]),rfl⟩
  ·obtain rfl:k=l.length:=by omega
   have HN:=Hy (show v=true by rw [HV.out];have:=HA.out;rwa [List.take_length] at this)
   go_wp2
   go_ret
   exact ⟨ret_bool (by rw [HN.out]),rfl⟩
def mq (m:ByteArray):Bool:=!m.data.isEmpty
theorem all_px (l:List UInt8) (m:ByteArray) (Bn:Nat) (w:World) (hs:l.length≤140737488355328) (hB:w.cell? ⟨Bn,0,none⟩=some (.string m)) (hm:m=⟨#[]⟩∨m=⟨#[63]⟩) :
  Calls Tryz.prog 87 #[.string (str l),.func (.func 118) #[] #[.pointer (some ⟨Bn,0,none⟩)]] w fun e w'=>e=.returned (.bool (l.all (mayB (mq m))))∧w=w':=by
 rcases hm with rfl | rfl
 ·exact all_path l hs Bn w hB
 ·exact all_query l hs Bn w hB
theorem new_at_g {w:World} {g:Nat} (hg:w.heap.size=g) (cs:Array Value) (t:TypeId) (j:Nat) (u:Value) (h:cs[j]?=some u):(w.alloc (.cells cs t)).cell? ⟨g,j,none⟩=some u:=by
 subst hg;exact new_at w cs t j u h
def cutL (r:List UInt8):List UInt8 × List UInt8 × Bool :=
 (r.takeWhile (fun b=>b != 63),r.drop ((r.takeWhile (fun b=>b != 63)).length+1),decide ((r.takeWhile (fun b=>b != 63)).length<r.length))
theorem local_cut (r:List UInt8):localL r=if (cutL r).1.all (mayB false)=true∧(cutL r).2.1.all (mayB true)=true then some (cutL r) else none:=rfl
theorem cutL_none (r:List UInt8) (h:63∉r):cutL r=(r,[],false):=by
 have e:r.takeWhile (fun b=>b != 63)=r:=by
  have:=tw_eq (fun b=>b != 63) r r.length (Nat.le_refl _) (by rw [List.take_length,List.all_eq_true];intro x hx;simp only [bne_iff_ne];intro e;exact h (e ▸ hx)) (fun h=>by omega)
  rw [this,List.take_length]
 unfold cutL
 rw [e,List.drop_eq_nil_of_le (by omega)]
 simp
theorem cut_some (p q:List UInt8) (h:63∉p):cutL (p++63::q)=(p,q,true):=by
 have e:(p++63::q).takeWhile (fun b=>b != 63)=p:=by
  have:=tw_eq (fun b=>b != 63) (p++63::q) p.length (by simp) (by rw [List.take_left,List.all_eq_true];intro x hx;simp only [bne_iff_ne];intro e;exact h (e ▸ hx)) (fun h=>by rw [List.getElem_append_right (Nat.le_refl _)];simp)
  rw [this,List.take_left]
 unfold cutL
 rw [e]
 have e2:(p++63::q).drop (p.length+1)=q:=by
  rw [List.drop_append]
  simp [List.drop_eq_nil_of_le]
 have e3:decide (p.length<(p++63::q).length)=true:=by simp
 rw [e2,e3]
theorem cut_len (r:List UInt8):(cutL r).1.length≤r.length∧(cutL r).2.1.length≤r.length:=⟨tw_len _ _,by show (r.drop _).length≤_;rw [List.length_drop];omega⟩
theorem Cut63_c (r:List UInt8) (hs:r.length≤maxLen) (w:World) :
  Calls Tryz.prog 78 #[.string (str r),.string ⟨#[63]⟩] w (Gives (.tuple #[.string (str (cutL r).1),.string (str (cutL r).2.1),.bool (cutL r).2.2]) w):=by
 rcases cut_cases r 63 with h | ⟨p,q,rfl,h⟩
 ·rw [cutL_none r h]
  refine (Cut_no r 63 h w).mono ?_
  rintro e w' ⟨rfl,rfl⟩
  exact ⟨rfl,Ext.rfl' _⟩
 ·rw [cut_some p q h]
  refine (Cut_at p q 63 h (by simp at hs;omega) w).mono ?_
  rintro e w' ⟨rfl,n,rfl⟩
  exact ⟨rfl,(Ext.rfl' _).drN n⟩
theorem get_of (s:ByteArray) (p:Nat) (b:UInt8) (h:s.data.toList[p]?=some b):s.get! p=b:=by
 have hp:p<s.data.size:=by
  rcases Nat.lt_or_ge p s.data.size with h1 | h1
  ·exact h1
  ·rw [List.getElem?_eq_none (by simpa using h1)] at h;cases h
 have:s.data.toList[p]?=some (s.data[p]):=by simp
 rw [this] at h
 have hb:=Option.some.inj h
 show s.data[p]! = b
 rw [← hb]
 exact getElem!_pos s.data p hp
def hiG (s:ByteArray) (pos n:Nat):Prop:=pos+n≤s.size∧1≤n∧∀ k,k<n→128≤(s.get! (pos+k)).toNat
theorem dec_hi (s:ByteArray) (pos:Nat) (h:pos<s.size) (ha:128≤(s.get! pos).toNat) :
  hiG s pos (Utf8.decode s pos).2∧((Utf8.decode s pos).1=65533∨(128≤(Utf8.decode s pos).1∧Utf8.valid (Utf8.decode s pos).1=true)):=by
 have one:hiG s pos 1:=⟨by omega,Nat.le_refl _,fun k hk=>by obtain rfl:k=0:=(by omega);exact ha⟩
 have hb:∀ k,(s.get! (pos+k)).toNat<256:=fun k=>(s.get! (pos+k)).toNat_lt
 have h0:=hb 0;have h1:=hb 1;have h2:=hb 2;have h3:=hb 3
 have hn:¬(s.get! (pos+0)).toNat<128:=by rw [Nat.add_zero];omega
 have ha0:128≤(s.get! (pos+0)).toNat:=by omega
 simp only [Utf8.decode,hn,if_false]
 obtain ⟨x0,e0⟩:∃ x,(s.get! (pos+0)).toNat=x:=⟨_,rfl⟩
 obtain ⟨x1,e1⟩:∃ x,(s.get! (pos+1)).toNat=x:=⟨_,rfl⟩
 obtain ⟨x2,e2⟩:∃ x,(s.get! (pos+2)).toNat=x:=⟨_,rfl⟩
 obtain ⟨x3,e3⟩:∃ x,(s.get! (pos+3)).toNat=x:=⟨_,rfl⟩
 rw [e0] at h0 hn ha0;rw [e1] at h1;rw [e2] at h2;rw [e3] at h3
 simp only [e0,e1,e2,e3]
 split
 ·rename_i hc
  simp only [Bool.and_eq_true,beq_iff_eq,decide_eq_true_eq] at hc
  split
  ·refine ⟨⟨by omega,by omega,fun k hk=>?_⟩,.inr ⟨by omega,?_⟩⟩
   ·have:k=0∨k=1:=by omega
    rcases this with rfl | rfl <;> omega
   ·simp only [Utf8.valid,Bool.or_eq_true,Bool.and_eq_true,decide_eq_true_eq];omega
  ·exact ⟨one,.inl rfl⟩
 ·split
  ·rename_i hc
   simp only [Bool.and_eq_true,beq_iff_eq,decide_eq_true_eq] at hc
   split
   ·rename_i hv
    simp only [Bool.and_eq_true,decide_eq_true_eq] at hv
    refine ⟨⟨by omega,by omega,fun k hk=>?_⟩,.inr ⟨by omega,hv.2⟩⟩
    have:k=0∨k=1∨k=2:=by omega
    rcases this with rfl | rfl | rfl <;> omega
   ·exact ⟨one,.inl rfl⟩
  ·split
   ·rename_i hc
    simp only [Bool.and_eq_true,beq_iff_eq,decide_eq_true_eq] at hc
    split
    ·rename_i hv
     simp only [Bool.and_eq_true,decide_eq_true_eq] at hv
     refine ⟨⟨by omega,by omega,fun k hk=>?_⟩,.inr ⟨by omega,hv.2⟩⟩
     have:k=0∨k=1∨k=2∨k=3:=by omega
     rcases this with rfl | rfl | rfl | rfl <;> omega
    ·exact ⟨one,.inl rfl⟩
   ·exact ⟨one,.inl rfl⟩
theorem enc_hi (r:Nat) (h:128≤r) (hv:Utf8.valid (r:Int)=true) :
  ∃ l:List UInt8,Utf8.encode (r:Int)=⟨l.toArray⟩∧2≤l.length∧l.length≤4∧∀ b∈l,128≤b.toNat:=by
 have hr:r≤1114111:=by
  simp only [Utf8.valid,Bool.or_eq_true,Bool.and_eq_true,decide_eq_true_eq] at hv;omega
 have hn:¬ r<128:=by omega
 simp only [Utf8.encode,hv,if_true,Int.toNat_natCast,hn,if_false]
 split
 ·refine ⟨[_,_],rfl,by simp,by simp,?_⟩
  intro b hb
  simp only [List.mem_cons,List.mem_nil_iff,or_false] at hb
  rcases hb with rfl | rfl <;> (rw [UInt8.toNat_ofNat'];omega)
 ·split
  ·refine ⟨[_,_,_],rfl,by simp,by simp,?_⟩
   intro b hb
   simp only [List.mem_cons,List.mem_nil_iff,or_false] at hb
   rcases hb with rfl | rfl | rfl <;> (rw [UInt8.toNat_ofNat'];omega)
  ·refine ⟨[_,_,_,_],rfl,by simp,by simp,?_⟩
   intro b hb
   simp only [List.mem_cons,List.mem_nil_iff,or_false] at hb
   rcases hb with rfl | rfl | rfl | rfl <;> (rw [UInt8.toNat_ofNat'];omega)
theorem noAny_hi {s:ByteArray} {c:List UInt8} {pos n:Nat} (h:Lib.NoAny s.data.toList c pos) (hn:hiG s pos n) (hc:∀ b:UInt8,128≤b.toNat→c.contains b=false):Lib.NoAny s.data.toList c (pos+n):=by
 intro j b hj hb
 rcases Nat.lt_or_ge j pos with h1 | h1
 ·exact h j b h1 hb
 ·have h2:=hn.2.2 (j-pos) (by omega)
  rw [show pos+(j-pos)=j by omega,get_of s j b hb] at h2
  exact hc b h2
theorem c47:∀ b:UInt8,128≤b.toNat→([47,63]:List UInt8).contains b=false:=fun b h=>by
 rw [List.contains_eq_any_beq]
 simp only [List.any_cons,List.any_nil,Bool.or_false,Bool.or_eq_false_iff,beq_eq_false_iff_ne]
 exact ⟨fun e=>by rw [e] at h;exact absurd h (by decide),fun e=>by rw [e] at h;exact absurd h (by decide)⟩
theorem aut_c (b:UInt8):([47,63]:List UInt8).contains b=!autB b:=by
 unfold autB
 rw [List.contains_eq_any_beq]
 simp
theorem ia_auth (r:List UInt8):Lib.indexAny r [47,63]=if authL r<r.length then (authL r:Int) else -1:=by
 have hle:(r.takeWhile autB).length≤r.length:=tw_len autB r
 have hno:Lib.NoAny r [47,63] (r.takeWhile autB).length:=by
  intro j b hj hb
  have h1:(r.takeWhile autB)[j]?=some b:=by
   rw [← tw_take autB r,List.getElem?_take,if_pos hj];exact hb
  have h2:=List.all_eq_true.1 (tw_all autB r) b (List.mem_of_getElem? h1)
  rw [aut_c,h2];rfl
 show _=if (r.takeWhile autB).length<r.length then ((r.takeWhile autB).length:Int) else -1
 split
 ·rename_i hlt
  have h1:=tw_stop autB r hlt
  exact Lib.indexAny_hit hno (List.getElem?_eq_getElem hlt) (by rw [aut_c,h1];rfl)
 ·rename_i hlt
  have he:(r.takeWhile autB).length=r.length:=by omega
  rw [he] at hno
  exact Lib.indexAny_none hno
theorem Ext.it {a b:World} (h:Ext a b) (s:ByteArray) (p:Nat):Ext a (b.iter s p):=h.al _
theorem IndexRune_err (w:World) :
  Calls Tryz.prog 114 #[.string ⟨#[47,63]⟩,.int .i32 65533] w fun e w'=>e=.returned (.int .i64 (-1))∧Ext w w':=by
 obtain ⟨s,hs⟩:∃ s:ByteArray,s=⟨#[47,63]⟩:=⟨_,rfl⟩
 have h2:s.size=2:=by rw [hs];rfl
 have HS:=Hy (show ∀ i (h:i<s.size),(s[i]'h).toNat=47∨(s[i]'h).toNat=63 by
  subst hs
  intro i h
  have:i=0∨i=1:=by have:i<2:=h;omega
  rcases this with rfl | rfl
  ·exact .inl rfl
  ·exact .inr rfl)
 rw [← hs]
 clear hs
 go_enter Tryz.func114,Tryz.ntmps114
 go_wp2
 go_loopg [176,177] s.size (fun g _ _ wx=>∃ i:Nat,i+g=s.size∧wx=w.iter s i)
 case atStart=>exact ⟨0,by omega,rfl⟩
 case round =>
  obtain ⟨i,hig,rfl⟩:=hrel
  cases gk with
  | zero =>
   obtain rfl:i=2:=by omega
   have hnx:=fun ty=>run_next_end (P:=Tryz.prog) w s 2 ty (by omega)
   go_wp2
   go_ret
   exact ⟨rfl,(Ext.rfl' w).it _ _⟩
  | succ g =>
   have hi:i<s.size:=by omega
   have hx:=HS.out i hi
   obtain ⟨x,hx0⟩:∃ x:Int,x=((s[i]'hi).toNat:Int):=⟨_,rfl⟩
   have hnx:=fun ty=>run_next_ascii (P:=Tryz.prog) w s i ty hi (by omega)
   rw [← hx0] at hnx
   have hne:(x == 65533)=false:=by rw [beq_eq_false_iff_ne];omega
   clear hx hx0
   go_wp2
   go_roundg g
   case measure=>omega
   case rel=>exact ⟨i+1,by omega,rfl⟩
theorem ValidRune_yes (r:Nat) (hv:Utf8.valid (r:Int)=true) (w:World) :
  Calls Tryz.prog 143 #[.int .i32 (r:Int)] w fun e w'=>e=.returned (.bool true)∧w=w':=by
 have h:r<55296∨(57343<r∧r≤1114111):=by
  simp only [Utf8.valid,Bool.or_eq_true,Bool.and_eq_true,decide_eq_true_eq] at hv;omega
 clear hv
 rcases h with h | ⟨h1,h2⟩
 ·have c1:(r:Int)<55296:=by omega
  go_enter Tryz.func143,Tryz.ntmps143
  go_wp2
  go_ret
  exact ⟨rfl,rfl⟩
 ·have c1:¬(r:Int)<55296:=by omega
  have c2:(57343:Int)<(r:Int):=by omega
  have c3:(r:Int)≤1114111:=by omega
  go_enter Tryz.func143,Tryz.ntmps143
  go_wp2
  go_ret
  exact ⟨rfl,rfl⟩
theorem IndexRune_hi (r:Nat) (h:128≤r) (hv:Utf8.valid (r:Int)=true) (h9:r≠65533) (w:World) :
  Calls Tryz.prog 114 #[.string ⟨#[47,63]⟩,.int .i32 (r:Int)] w fun e w'=>e=.returned (.int .i64 (-1))∧Ext w w':=by
 obtain ⟨l,hl,l2,l4,lall⟩:=enc_hi r h hv
 have HV:=Hy (fun w=>ValidRune_yes r hv w)
 have IB:=Hy (fun (k:Int) (w:World)=>IndexByteS_c [] k (-1) rfl w)
 have c1:(0:Int)≤(r:Int):=by omega
 have c2:¬(r:Int)<128:=by omega
 have c3:((r:Int) == 65533)=false:=by rw [beq_eq_false_iff_ne];omega
 have x1:ByteArray.extract ⟨#[47,63]⟩ 2 2=⟨#[]⟩:=by decide
 have hcv:∀ w,(convert 21 9 (.int .i32 (r:Int))).run Tryz.prog w=.ok (.string ⟨l.toArray⟩) w:=fun w=>by
  rw [← hl];exact run_convert_int_string w _ _ _ _ (by kernel_rfl) (by kernel_rfl)
 clear hv h h9 hl
 match l,l2,l4,lall with
 | [a,b],_,_,lall =>
  have hb:=lall b (by simp)
  have c5:((63:Int) != (b.toNat:Int))=true:=by rw [bne_iff_ne];omega
  have c4:((((⟨#[47,63]⟩:ByteArray)[1]'(by decide)).toNat:Int) != (((⟨#[a,b]⟩:ByteArray)[1]'(Nat.lt_succ_self 1)).toNat:Int))=true:=c5
  clear c5
  clear lall hb
  go_enter Tryz.func114,Tryz.ntmps114
  go_wp2_with (first
   | (go_at_call 143;refine (HV.out _).mono ?_;rintro e w1 ⟨rfl,rfl⟩))
  go_step3
  go_wp2
  go_loopw [9] (fun i wr=>i=.int .i64 1∧w=wr) (fun i _=>0)
  case atStart=>exact ⟨rfl,rfl⟩
  case round =>
   obtain ⟨rfl,rfl⟩:=hrel
   go_wp2
   (go_step3;go_wp2;go_quiet (fail);go_wp2;go_region_with (go_at_call 109;refine (IB.out _ _).mono ?_;rintro e w1 ⟨rfl,rfl⟩);go_wp2)
   all_goals (
    first | (go_ret;exact ⟨rfl,Xq⟩) | (simp (zetaDelta:=true) only [Exit.noGoto_ret,Exit.inBlock,Exit.then];go_ret;exact ⟨rfl,Xq⟩))
 | [a,b,c],_,_,lall =>
  clear lall
  go_enter Tryz.func114,Tryz.ntmps114
  go_wp2_with (first
   | (go_at_call 143;refine (HV.out _).mono ?_;rintro e w1 ⟨rfl,rfl⟩))
  go_step3
  go_wp2
  go_loopw [9] (fun i wr=>i=.int .i64 2∧w=wr) (fun i _=>0)
  case atStart=>exact ⟨rfl,rfl⟩
  case round =>
   obtain ⟨rfl,rfl⟩:=hrel
   go_wp2
   skip
   all_goals (
    first | (go_ret;exact ⟨rfl,Xq⟩) | (simp (zetaDelta:=true) only [Exit.noGoto_ret,Exit.inBlock,Exit.then];go_ret;exact ⟨rfl,Xq⟩))
 | [a,b,c,d],_,_,lall =>
  clear lall
  go_enter Tryz.func114,Tryz.ntmps114
  go_wp2_with (first
   | (go_at_call 143;refine (HV.out _).mono ?_;rintro e w1 ⟨rfl,rfl⟩))
  go_step3
  go_wp2
  go_loopw [9] (fun i wr=>i=.int .i64 3∧w=wr) (fun i _=>0)
  case atStart=>exact ⟨rfl,rfl⟩
  case round =>
   obtain ⟨rfl,rfl⟩:=hrel
   go_wp2
   skip
   all_goals (
    first | (go_ret;exact ⟨rfl,Xq⟩) | (simp (zetaDelta:=true) only [Exit.noGoto_ret,Exit.inBlock,Exit.then];go_ret;exact ⟨rfl,Xq⟩))
theorem IndexAny_short (s:ByteArray) (hr:s.size≤8) (w:World) :
  Calls Tryz.prog 86 #[.string s,.string ⟨#[47,63]⟩] w (Gives (.int .i64 (Lib.indexAny s.data.toList [47,63])) w):=by
 have h8z:decide ((8:Int)<(s.size:Int))=false:=decide_eq_false (by omega)
 obtain ⟨R,hR⟩:∃ R,R=Lib.indexAny s.data.toList [47,63]:=⟨_,rfl⟩
 rw [← hR]
 have HR:=Hy hR
 clear hR
 go_enter Tryz.func86,Tryz.ntmps86
 go_wp2_with (go_at_call 115;refine (Tryz.strings_shouldUseASCIISet _ _).mono ?_;rintro e w' ⟨rfl,hw⟩;rw [hw,h8z])
 go_loopg [9,10] s.size (fun g _ _ wx=>∃ i:Nat,i≤s.size∧i+g=s.size∧wx.heap[w.heap.size]?=some (.stringIter s i)∧Ext w wx∧Lib.NoAny s.data.toList [47,63] i)
 case atStart=>exact ⟨0,by omega,by omega,World.iter_heap w s 0,(Ext.rfl' w).it s 0,Lib.NoAny.zero _ _⟩
 case round =>
  obtain ⟨i,hi,hig,hk,hxx,hno⟩:=hrel
  have HN:=Hy hno
  clear hno
  by_cases hlt:i<s.size
  ·obtain ⟨x,hx⟩:∃ x:UInt8,s.get! i=x:=⟨_,rfl⟩
   have hxl:s.data.toList[i]?=some x:=by
    have h1:i<s.data.size:=hlt
    have h2:s.data.toList[i]?=some (s.data[i]):=by simp [h1]
    rw [h2,← hx]
    exact congrArg some (getElem!_pos s.data i h1).symm
   have hxi:s[i]'hlt=x:=by
    rw [← hx];exact (get_at s i hlt).symm
   by_cases ha:x.toNat<128
   ·have hnx:=fun ty=>Lib.run_next_ascii_at (P:=Tryz.prog) _ w.heap.size s i ty hk hlt (by rw [hxi];exact ha)
    rw [hxi] at hnx
    have hk2:=Lib.iterAt_heap _ w.heap.size s i (i+1) hk
    have hxm:=Lib.below_iterAt hxx (Nat.le_refl _) s (i+1)
    have Hx:=Hy hxl
    have hcon:=Lib.contains_iff_indexByte [47,63] x
    have IR:=Hy (fun w=>Tryz.strings_IndexRune_ascii ⟨#[47,63]⟩ (x.toNat:Int) w (by omega) (by omega))
    obtain ⟨z,hz⟩:∃ z,z=Lib.indexByte [47,63] x:=⟨_,rfl⟩
    rw [← hz] at hcon
    have HZ:=Hy (show Lib.indexByte (⟨#[47,63]⟩:ByteArray).data.toList ((x.toNat:Int)).toNat.toUInt8=z by rw [hz];simp)
    clear hxl hx hxi hz
    by_cases hin:([47,63]:List UInt8).contains x=true
    ·rw [hin] at hcon
     have hge:(0:Int)≤z:=of_decide_eq_true hcon.symm
     have HE:=Hy (show R=(i:Int) by rw [HR.out];exact Lib.indexAny_hit HN.out Hx.out hin)
     clear hcon hin
     go_wp2_with (go_at_call 114;refine (IR.out _).mono ?_;rintro e w2 ⟨rfl,hw⟩;rw [hw,HZ.out])
     go_ret
     exact ⟨ret_int (by rw [HE.out]),hxm⟩
    ·have hin:([47,63]:List UInt8).contains x=false:=by simpa using hin
     rw [hin] at hcon
     have hge:¬(0:Int)≤z:=of_decide_eq_false hcon.symm
     have HI:=Hy hin
     clear hcon hin
     go_wp2_with (go_at_call 114;refine (IR.out _).mono ?_;rintro e w2 ⟨rfl,hw⟩;rw [hw,HZ.out])
     go_roundg (gk-1)
     case measure=>omega
     case rel=>exact ⟨i+1,by omega,by omega,hk2,hxm,HN.out.succ Hx.out HI.out⟩
   ·have hd:=dec_hi s i hlt (by rw [hx];omega)
    have hnx:=fun ty=>Lib.run_next_any_at (P:=Tryz.prog) _ w.heap.size s i ty hk hlt
    obtain ⟨rr,hrr⟩:∃ r,r=(Utf8.decode s i).1:=⟨_,rfl⟩
    obtain ⟨nn,hnn⟩:∃ n,n=(Utf8.decode s i).2:=⟨_,rfl⟩
    rw [← hrr,← hnn] at hnx hd
    have hk2:=Lib.iterAt_heap _ w.heap.size s i (i+nn) hk
    have hxm:=Lib.below_iterAt hxx (Nat.le_refl _) s (i+nn)
    have HG:=Hy hd.1
    have hn1:=hd.1.1
    have hn2:=hd.1.2.1
    have hc:=hd.2
    clear hrr hnn hd hx hxl hxi ha
    by_cases h9:rr=65533
    ·subst h9
     clear hc
     go_wp2_with (go_at_call 114;refine (IndexRune_err _).mono ?_;rintro e w2 ⟨rfl,hx2⟩)
     go_roundg (gk-nn)
     case measure=>omega
     case rel =>
      refine ⟨i+nn,by omega,by omega,?_,Ext.tr hxm (hx2),noAny_hi HN.out HG.out c47⟩
      exact ((hx2).block _ (Array.getElem?_eq_some_iff.1 hk2).1).trans hk2
    ·have hc:=hc.resolve_left h9
     have IR:=Hy (fun w=>IndexRune_hi rr hc.1 hc.2 h9 w)
     clear hc h9
     go_wp2_with (go_at_call 114;refine (IR.out _).mono ?_;rintro e w2 ⟨rfl,hx2⟩)
     go_roundg (gk-nn)
     case measure=>omega
     case rel =>
      refine ⟨i+nn,by omega,by omega,?_,Ext.tr hxm (hx2),noAny_hi HN.out HG.out c47⟩
      exact ((hx2).block _ (Array.getElem?_eq_some_iff.1 hk2).1).trans hk2
  ·obtain rfl:i=s.size:=by omega
   have hnx:=fun ty=>Lib.run_next_end_at (P:=Tryz.prog) _ w.heap.size s s.size ty hk hlt
   have HE:=Hy (show R=-1 by rw [HR.out];exact Lib.indexAny_none (by rw [← Lib.size_eq];exact HN.out))
   go_wp2
   go_ret
   exact ⟨ret_int (by rw [HE.out]),hxx⟩
theorem IndexAny_c (r:List UInt8) (hr:r.length≤8192) (w:World) :
  Calls Tryz.prog 86 #[.string (str r),.string ⟨#[47,63]⟩] w (Gives (.int .i64 (Lib.indexAny r [47,63])) w):=by
 by_cases h8:r.length≤8
 ·exact IndexAny_short (str r) (by simpa using h8) w
 ·refine (Tryz.strings_IndexAny_long (zero_of_info (n:=256) (by kernel_rfl)).1 (str r) ⟨#[47,63]⟩ w (by decide) (by simp;omega) (by simp;omega) (by decide) (fun j b h=>?_)).mono ?_
  ·have hm:=List.mem_of_getElem? h
   revert hm
   exact (by decide:∀ b∈([47,63]:List UInt8),b.toNat<128) b
  ·rintro e w' ⟨rfl,hw⟩
   exact ⟨rfl,by rw [hw];exact ((Ext.rfl' w).al _).al _⟩
end Go.Proofs.YthbofilcnpdghaaGreatDoor
end
