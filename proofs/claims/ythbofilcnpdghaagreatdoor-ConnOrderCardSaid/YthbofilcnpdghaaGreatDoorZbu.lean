/-
Arguments of a row that are a slice of bytes, a slice of numbers, read as lists.
-/
import Derived.Test.YthbofilcnpdghaaGreatDoorZba
import Derived.Test.YthbofilcnpdghaaGreatDoorZae
import Derived.Lib.LaidTab
set_option maxRecDepth 100000
set_option maxHeartbeats 8000000
set_option linter.unusedVariables false
set_option linter.unusedSimpArgs false
section
namespace Go.Proofs.YthbofilcnpdghaaGreatDoor
open Go.RowKit Go.ChangeShapes Go.WideShapes Go.Deep Go.Joins
theorem u8_nat7 {n:Int} (h:(Lit.int .u8 n).wf=true):((UInt8.ofNat n.toNat).toNat:Int)=n:=by
 simp only [Lit.wf,IntKind.min,IntKind.max,IntKind.signed,IntKind.bits,Bool.and_eq_true,decide_eq_true_eq] at h
 rw [UInt8.toNat_ofNat']
 simp at h
 omega
theorem i64_bd7 {n:Int} (h:(Lit.int .i64 n).wf=true):-9223372036854775808≤n∧n≤9223372036854775807:=by
 simp only [Lit.wf,IntKind.min,IntKind.max,IntKind.signed,IntKind.bits,Bool.and_eq_true,decide_eq_true_eq,if_true] at h
 omega
section
variable {H:Type} {enc:TypeId × Value→H} {P:Program} {W:World} {base:Nat}
theorem open_bytes7 {t e:TypeId} {v:Value} {d:DataW H} {p:List MemPlace} (ht:P.underlying t=some (.slice e)) (he:P.underlying e=some (.int .u8)) (ce:P.cellsOf e=1)
  (hval:Value.okWide P W .any base t v) (h:DataW.Trod enc P W 0 (fun _=>true) true t v d p) (hw:∀ n∈d.weights P t,n≤reachBytes) :
  ∃ A c xs,v=.slice A (List.length xs) c∧Rd W A (bc xs)∧List.length xs≤c∧xs.length*P.bytesOf e≤reachBytes:=by
 obtain ⟨a0,len,cap,rfl⟩:=okWide_slice ht hval
 obtain ⟨fuel,hf⟩:=h
 rcases open_slice ht hf with ⟨hcs,hx⟩ | ⟨a,len',cap',m,n,D,Pl,hcs,_,hlc,hcm,hm,hx,hi⟩
 ·simp only [Value.cells,List.cons.injEq,and_true] at hcs
  injection hcs with h1 h2 h3
  subst h1;subst h2;subst h3
  exact ⟨none,0,[],rfl,.inl rfl,Nat.le_refl _,by simp⟩
 ·simp only [Value.cells,List.cons.injEq,and_true] at hcs
  injection hcs with h1 h2 h3
  subst h1;subst h2;subst h3
  simp only [if_true] at hm
  subst hm
  have hd:=(Prod.mk.inj hx).1
  have hlen:len*P.bytesOf e≤reachBytes:=by
   have hmem:(len+(m-len))*P.bytesOf e∈d.weights P t:=by
    rw [hd];simp [DataW.weights,ht]
   have:=hw _ hmem
   have h2:len*P.bytesOf e≤(len+(m-len))*P.bytesOf e:=Nat.mul_le_mul_right _ (by omega)
   omega
  have each:∀ i,∃ x:UInt8,i<len→W.cell? (a.add i)=some (.int .u8 (x.toNat:Int)):=fun i=>by
   by_cases hil:i<len
   ·obtain ⟨cs',g1,g2⟩:=hi i (by omega)
    rw [ce] at g1
    obtain ⟨_,hl3,hcell⟩:=World.cells?_some g1
    obtain ⟨n,rfl,_,z⟩:=DataW.trod_int he g2
    refine ⟨UInt8.ofNat n.toNat,fun _=>?_⟩
    rw [u8_nat7 z]
    have e:=hcell 0 (by omega)
    rw [add_add] at e
    simpa using e
   ·exact ⟨0,fun h=>absurd h hil⟩
  obtain ⟨X,hX⟩:=Classical.axiomOfChoice each
  refine ⟨some a,m,(List.range len).map X,by simp,?_,by simpa using hlc,by simpa using hlen⟩
  ·refine rd_of6 fun i u hu=>?_
   have hil:i<len:=by have:=(List.getElem?_eq_some_iff.1 hu).1;simpa [bc] using this
   have hu2:u=.int .u8 ((X i).toNat:Int):=by
    have:(bc ((List.range len).map X))[i]?=some (.int .u8 ((X i).toNat:Int)):=by simp [bc,hil]
    rw [this] at hu
    exact (Option.some.inj hu).symm
   rw [hu2]
   exact hX i hil
theorem open_ints7 {t e:TypeId} {v:Value} {d:DataW H} {p:List MemPlace} (ht:P.underlying t=some (.slice e)) (he:P.underlying e=some (.int .i64)) (ce:P.cellsOf e=1)
  (hval:Value.okWide P W .any base t v) (h:DataW.Trod enc P W 0 (fun _=>true) true t v d p) (hw:∀ n∈d.weights P t,n≤reachBytes) :
  ∃ A c xs,v=.slice A (List.length xs) c∧Rd W A (xs.map (Value.int .i64))∧(∀ x∈xs,-9223372036854775808≤x∧x≤9223372036854775807)∧xs.length*P.bytesOf e≤reachBytes:=by
 obtain ⟨a0,len,cap,rfl⟩:=okWide_slice ht hval
 obtain ⟨fuel,hf⟩:=h
 rcases open_slice ht hf with ⟨hcs,hx⟩ | ⟨a,len',cap',m,n,D,Pl,hcs,_,hlc,hcm,hm,hx,hi⟩
 ·simp only [Value.cells,List.cons.injEq,and_true] at hcs
  injection hcs with h1 h2 h3
  subst h1;subst h2;subst h3
  exact ⟨none,0,[],rfl,.inl rfl,fun x hx=>(by cases hx),by simp⟩
 ·simp only [Value.cells,List.cons.injEq,and_true] at hcs
  injection hcs with h1 h2 h3
  subst h1;subst h2;subst h3
  simp only [if_true] at hm
  subst hm
  have hd:=(Prod.mk.inj hx).1
  have hlen:len*P.bytesOf e≤reachBytes:=by
   have hmem:(len+(m-len))*P.bytesOf e∈d.weights P t:=by
    rw [hd];simp [DataW.weights,ht]
   have:=hw _ hmem
   have h2:len*P.bytesOf e≤(len+(m-len))*P.bytesOf e:=Nat.mul_le_mul_right _ (by omega)
   omega
  have each:∀ i,∃ x:Int,i<len→((-9223372036854775808≤x∧x≤9223372036854775807)∧W.cell? (a.add i)=some (.int .i64 x)):=fun i=>by
   by_cases hil:i<len
   ·obtain ⟨cs',g1,g2⟩:=hi i (by omega)
    rw [ce] at g1
    obtain ⟨_,hl3,hcell⟩:=World.cells?_some g1
    obtain ⟨n,rfl,_,z⟩:=DataW.trod_int he g2
    refine ⟨n,fun _=>⟨i64_bd7 z,?_⟩⟩
    have e:=hcell 0 (by omega)
    rw [add_add] at e
    simpa using e
   ·exact ⟨0,fun h=>absurd h hil⟩
  obtain ⟨X,hX⟩:=Classical.axiomOfChoice each
  refine ⟨some a,m,(List.range len).map X,by simp,?_,fun x hx=>?_,by simpa using hlen⟩
  ·refine rd_of6 fun i u hu=>?_
   have hil:i<len:=by have:=(List.getElem?_eq_some_iff.1 hu).1;simpa using this
   have hu2:u=.int .i64 (X i):=by
    have:(((List.range len).map X).map (Value.int .i64))[i]?=some (.int .i64 (X i)):=by simp [hil]
    rw [this] at hu
    exact (Option.some.inj hu).symm
   rw [hu2]
   exact (hX i hil).2
  ·obtain ⟨i,hil,rfl⟩:=List.mem_map.1 hx
   exact (hX i (List.mem_range.1 hil)).1
end
end Go.Proofs.YthbofilcnpdghaaGreatDoor
end
section
namespace Go.Proofs.YthbofilcnpdghaaGreatDoor
open Go.RowKit Go.ChangeShapes
theorem tPow:(Tryz.prog.globals[0]?).map (·.type)=some 171:=by kernel_rfl
theorem cells20:Tryz.prog.cellsOf 171=20:=by kernel_rfl
theorem cells_u64:Tryz.prog.cellsOf 138=1:=by kernel_rfl
theorem pow_of {W : World} {rest : List (String × DataW Unit)} (h : laidMet Tryz.prog (("internal/strconv.uint64pow10", Lib.tabData .u64 Lib.pow10Tab) :: rest) W) : Pow W :=
 Lib.tabIs_of_head gPow tPow Tryz.underlying171 Tryz.underlying138 cells_u64 cells20 h
end Go.Proofs.YthbofilcnpdghaaGreatDoor
end
