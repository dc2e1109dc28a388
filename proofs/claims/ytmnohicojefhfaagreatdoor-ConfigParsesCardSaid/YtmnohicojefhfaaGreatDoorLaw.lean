/-
How a walk that answers true and leaves at most new memory gives a law's row: for any program.
-/
import Derived.Test.YtmnohicojefhfaaGreatDoorBytes
import Derived.ProofKit
import Derived.OpenShut
import Derived.Deep.DeepHandedRow
import Derived.Deep.SlicePairs
import Derived.Lib.LaidTab
import Derived.SizedLaws
import Derived.Lib.SmallJoins
import Derived.WideKeyArgs
import Derived.SevenTiedAt
set_option maxRecDepth 100000
set_option maxHeartbeats 8000000
set_option linter.unusedVariables false
set_option linter.unusedSimpArgs false
namespace Go.Proofs.YtmnohicojefhfaaGreatDoor
open Go.RowKit Go.ChangeShapes Go.WideShapes Go.Joins Go.Deep
section
variable {H:Type} {enc:TypeId × Value → H} {P:Program}
theorem trodAll_stays (hl:laidOutB P=true) {W W':World} (hx:Ext W W') {sp:Nat → Bool}:∀ {ts:List TypeId} {vs:List Value} {ds:List (DataW H)} {ps:List MemPlace},
  (∀ t ∈ ts,P.readableRec t=true∧t < P.types.size) → DataW.TrodAll enc P W 0 (fun _=>true) true ts vs ds ps → (∀ p ∈ ps,p.block < W.heap.size) → (∀ p ∈ ps,sp p.block=true) →
  DataW.TrodAll enc P W' 0 sp true ts vs ds ps
 | [],[],[],ps,_,h,_,_=>h
 | t :: ts,v :: vs,d :: ds,ps,hr,h,hlt,hs=>by
  obtain ⟨p,q,h1,h2,rfl⟩:=h
  refine ⟨p,q,WideElems.Trod_stays hl (hr t (by simp)).1 (hr t (by simp)).2 h1 (fun x hm=>hx.same (hlt x (by simp [hm]))) (fun x hm=>hs x (by simp [hm])),?_,rfl⟩
  exact trodAll_stays hl hx (fun t ht=>hr t (by simp [ht])) h2 (fun x hm=>hlt x (by simp [hm])) (fun x hm=>hs x (by simp [hm]))
 | [],_ :: _,_,_,_,h,_,_=>by cases h
 | [],[],_ :: _,_,_,h,_,_=>by cases h
 | _ :: _,[],_,_,_,h,_,_=>by cases h
 | _ :: _,_ :: _,[],_,_,h,_,_=>by cases h
theorem law_post {f:Func} {s:ChangeSpec} {apart fresh:Bool} {W W':World} {args:Array Value} {ds gs:List (DataW H)} {before:List MemPlace} {tb:TypeId}
  (hrt:f.resultTypes=#[tb]) (hb4:P.underlying tb=some .bool) (hl:laidOutB P=true) (hpar:∀ t ∈ f.params.toList,P.readableRec t=true∧t < P.types.size) (hv:s.vars=[])
  (hW:DataW.Whole enc P f.params.toList s.vars apart W args.toList ds gs before)
  (hspec:(s.fn H (ds ++ gs)).results=[.lit (.bool true)]∧(s.fn H (ds ++ gs)).args=ds∧(s.fn H (ds ++ gs)).vars=[]) (hx:Ext W W') :
  s.post enc P f apart fresh false false W args (.bool true) W':=by
 have hW':=hW
 have hlt:∀ p ∈ before,p.block < W.heap.size:=fun p hp=>hW.lt p hp
 obtain ⟨p,q,hA,hV,rfl,hfz,hnd⟩:=hW
 rw [hv] at hV
 obtain ⟨rfl,rfl⟩:=trodVars_none hV
 obtain ⟨h1,h2,h3⟩:=hspec
 refine ⟨ds,[],p ++ [],[],p,[],hW',?_,?_,?_,hx.frame _,fun h=>by cases h⟩
 ·rw [h1,hrt]
  exact trodAll_mk1 (shut_bool hb4 true)
 ·rw [h2]
  exact trodAll_stays hl hx hpar hA (fun x hm=>hlt x (by simp [hm])) (fun x hm=>by have:=hlt x (by simp [hm]); simpa using this)
 ·rw [h3,hv]; rfl
end
end Go.Proofs.YtmnohicojefhfaaGreatDoor
