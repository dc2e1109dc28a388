/-
slices.IndexFunc, slices.ContainsFunc and config.all at each type that the configuration's check asks for.
-/
import Derived.Test.YtmnohicojefhfaaGreatDoorOWa
import Derived.WalkMore
import Derived.Deep.CutBlock
import Derived.Maps.OwnOps
import Derived.Maps.OwnSet
import Derived.Maps.RangeWalk
set_option maxRecDepth 100000
set_option maxHeartbeats 8000000
set_option linter.unusedVariables false
set_option linter.unusedSimpArgs false
section
namespace Go.Proofs.YtmnohicojefhfaaGreatDoor
open Go.RowKit
theorem wpL_call1 {P:Program} {ops:Array Oper} {rest:List Oper} {o:Oper} {a:Act} {Q:Exit → Act → World → Prop} {w:World} (hg:o.guard=none) (fv x:Operand) {t1:TypeId}
  (ho:o.op=.call { callee:=.value fv,args:=#[x],argTypes:=#[t1] }) {f:FuncId} {cap:Array Value} {xv:Value} (hf:a.eval fv=.func (.func f) #[] cap) (hx:a.eval x=xv)
  (he:(callFunc f (#[xv] ++ cap)).run P w=.ok (.enter f (#[xv] ++ cap)) w) {R:Ending → World → Prop} (hC:Calls P f (#[xv] ++ cap) w R)
  (h:∀ e w',R e w' → ∃ v,e=.returned v∧wpList P ops Q rest (a.put o.dst v) w'):wpList P ops Q (o :: rest) a w:=by
 refine wpList_plain hg fun K' hK'=>?_
 have hr:(execOp a.eval o).run P w=.ok (.enter f (#[xv] ++ cap)) w:=by
  simp only [execOp,ho,resolve,Deferred.ofValue,hf,List.map_toArray,List.map_cons,List.map_nil,hx]
  have e:(do let d ← (pure { target:=Target.fn (Fn.func f) cap,args:=#[] ++ #[xv] }:Sem Deferred); invoke d.target d.args:Sem Next).run P w=(callFunc f (#[xv] ++ cap)).run P w:=by simp [invoke,go_sem]
  exact e.trans he
 unfold Oper.wp
 rw [hr,Oper.upon_enter]
 refine hC.mono ?_
 intro e w' hR
 obtain ⟨v,rfl,hw⟩:=h e w' hR
 exact hK' _ _ hw
def EntF (P:Program) (f:FuncId):Prop:=∀ (args:Array Value) (w:World),(callFunc f args).run P w=.ok (.enter f args) w
section
variable {α:Type}
def idxL (R:α → Bool):List α → Int → Int
 | [],_=>-1
 | x :: r,k=>if R x then k else idxL R r (k + 1)
theorem idxL_any (R:α → Bool):∀ (l:List α) (k:Int),0 ≤ k → decide (0 ≤ idxL R l k)=l.any R:=by
 intro l
 induction l with
 | nil=>intro k _; rfl
 | cons x r ih =>
  intro k hk
  unfold idxL
  rw [List.any_cons]
  by_cases h:R x=true
  ·rw [if_pos h,h]; simpa using hk
  ·rw [if_neg h,show R x=false by simpa using h,Bool.false_or]
   exact ih (k + 1) (by omega)
theorem idxL_at (R:α → Bool) {l:List α} {k:Nat} (h:k < l.length) (v:Int):idxL R (l.drop k) v=if R l[k] then v else idxL R (l.drop (k + 1)) (v + 1):=by
 rw [List.drop_eq_getElem_cons h]; rfl
theorem fm_len (cf:α → List Value) (sz:Nat) (hs:∀ x,(cf x).length=sz) (l:List α):(l.flatMap cf).length=l.length * sz:=by
 induction l with
 | nil=>simp
 | cons x l ih=>rw [List.flatMap_cons,List.length_append,ih,hs,List.length_cons,Nat.add_mul]; omega
theorem fm_at (cf:α → List Value) (sz:Nat) (hs:∀ x,(cf x).length=sz) {l:List α} {k:Nat} (h:k < l.length) (i:Nat) (hi:i < sz):(l.flatMap cf)[k * sz + i]?=(cf l[k])[i]?:=by
 have e:l.flatMap cf=(l.take k).flatMap cf ++ (cf l[k] ++ (l.drop (k + 1)).flatMap cf):=by
  conv=>lhs; rw [← List.take_append_drop k l,List.drop_eq_getElem_cons h,List.flatMap_append,List.flatMap_cons]
 have e2:((l.take k).flatMap cf).length=k * sz:=by rw [fm_len cf sz hs,List.length_take,Nat.min_eq_left (Nat.le_of_lt h)]
 rw [e,List.getElem?_append_right (by omega),e2,show k * sz + i - k * sz=i from by omega,List.getElem?_append_left (by rw [hs]; exact hi)]
theorem Rd.row {w:World} {A:Option Addr} {cf:α → List Value} {sz:Nat} (hs:∀ x,(cf x).length=sz) (h0:0 < sz) {l:List α} (h:Rd w A (l.flatMap cf)) {k:Nat} (hk:k < l.length) :
  ∃ b g,A=some ⟨b,g,none⟩∧b < w.heap.size∧∀ i u,(cf l[k])[i]?=some u → w.cell? ⟨b,g + k * sz + i,none⟩=some u:=by
 have hz:0 < (l.flatMap cf).length:=by rw [fm_len cf sz hs]; exact Nat.mul_pos (by omega) h0
 obtain ⟨b,g,hA,hb,hc⟩:=h.at_ hz
 refine ⟨b,g,hA,hb,fun i u hu=>?_⟩
 rw [Nat.add_assoc]
 have hi:i < sz:=by
  have:=(List.getElem?_eq_some_iff.1 hu).1
  rw [hs] at this; exact this
 exact hc _ _ (by rw [fm_at cf sz hs hk i hi]; exact hu)
end
theorem idxU_c {α:Type} (f0 f1 f2 f3:α → Value) (l:List α) (A:Option Addr) (c:Nat) (fi:FuncId) (cap:Array Value) (R:α → Bool) (w:World) (hl:l.length ≤ 1099511627776) (hE:EntF Tryz.prog fi) (hrd:Rd w A (l.flatMap fun x=>[f0 x,f1 x,f2 x,f3 x]))
  (hC:∀ x ∈ l,∀ w',Ext w w' → Calls Tryz.prog fi (#[.agg #[f0 x,f1 x,f2 x,f3 x]] ++ cap) w' (Gives (.bool (R x)) w')) :
  Calls Tryz.prog 113 #[.slice A l.length c,.func (.func fi) #[] cap] w (Gives (.int .i64 (idxL R l 0)) w):=by
 have HRD:=Lib.hid hrd
 have HC:=Lib.hid hC
 have HE:Hid (∀ (args:Array Value) (w:World),(callFunc fi args).run Tryz.prog w=.ok (.enter fi args) w):=Lib.hid hE
 clear hrd hC hE
 go_enter Tryz.func113,Tryz.ntmps113
 go_wp2
 go_loopw [8] (fun v8 wr=>∃ k:Nat,v8=.int .i64 (k:Int)∧k ≤ l.length∧Ext w wr∧Hid (idxL R l 0=idxL R (l.drop k) (k:Int))) (fun v8 _=>l.length - (intOf v8).toNat)
 case atStart=>exact ⟨0,rfl,Nat.zero_le _,Ext.rfl' w,Lib.hid rfl⟩
 case round =>
  obtain ⟨k,rfl,hk,hx,HI⟩:=hrel
  by_cases hlt:k < l.length
  ·obtain ⟨b,g,rfl,hbl,hc⟩:=(HRD.out.ext hx).row (sz:=4) (fun _=>rfl) (by omega) hlt
   have HCK:=Lib.hid (HC.out l[k] (List.getElem_mem hlt) wr hx)
   have HAT:=Lib.hid (idxL_at R hlt (k:Int))
   have j0:(0:Int) ≤ (k:Int):=by omega
   have j1:(k:Int) < (l.length:Int):=by omega
   have hkk:IntKind.i64.wrap ((k:Int) + 1)=((k + 1:Nat):Int):=by rw [IntKind.wrap_i64]; omega
   obtain ⟨x,hxk⟩:∃ x,x=l[k]:=⟨_,rfl⟩
   rw [← hxk] at HCK HAT hc
   clear hxk
   have k0:wr.cell? ⟨b,g + k * 4,none⟩=some (f0 x):=hc 0 _ rfl; have k1:=hc 1 _ rfl; have k2:=hc 2 _ rfl; have k3:=hc 3 _ rfl
   clear hc
   by_cases hr:R x=true
   ·rw [hr] at HAT HCK
    have HEN:Hid (idxL R l 0=(k:Int)):=Lib.hid (by rw [HI.out,HAT.out]; rfl)
    clear hr HAT HI
    go_wp2_with ((with_reducible refine wpL_call1 (o:=⟨some 16,_,_,_,_,_⟩) rfl (.tmp 11) (.tmp 15) rfl ?_ ?_ (HE.out _ _) HCK.out ?_); (exact rfl); (exact rfl); rintro e w2 ⟨rfl,hx2⟩; refine ⟨_,rfl,?_⟩)
    go_ret
    exact ⟨ret_int HEN.out.symm,hx.tr hx2⟩
   ·rw [show R x=false by simpa using hr] at HAT HCK
    have HEN:Hid (idxL R l 0=idxL R (l.drop (k + 1)) ((k + 1:Nat):Int)):=Lib.hid (by rw [HI.out,HAT.out]; push_cast; rfl)
    clear hr HAT HI
    go_wp2_with ((with_reducible refine wpL_call1 (o:=⟨some 16,_,_,_,_,_⟩) rfl (.tmp 11) (.tmp 15) rfl ?_ ?_ (HE.out _ _) HCK.out ?_); (exact rfl); (exact rfl); rintro e w2 ⟨rfl,hx2⟩; refine ⟨_,rfl,?_⟩)
    go_roundw
    case rel=>exact ⟨k + 1,rfl,by omega,hx.tr hx2,HEN⟩
    case measure=>simp [intOf]; omega
  ·have HEN:Hid (idxL R l 0=-1):=Lib.hid (by rw [HI.out,List.drop_of_length_le (by omega)]; rfl)
   clear HI
   go_wp2
   go_ret
   exact ⟨ret_int HEN.out.symm,hx⟩
theorem conU_c {α:Type} (f0 f1 f2 f3:α → Value) (l:List α) (A:Option Addr) (c:Nat) (fi:FuncId) (cap:Array Value) (R:α → Bool) (w:World) (hl:l.length ≤ 1099511627776) (hE:EntF Tryz.prog fi) (hrd:Rd w A (l.flatMap fun x=>[f0 x,f1 x,f2 x,f3 x]))
  (hC:∀ x ∈ l,∀ w',Ext w w' → Calls Tryz.prog fi (#[.agg #[f0 x,f1 x,f2 x,f3 x]] ++ cap) w' (Gives (.bool (R x)) w')) :
  Calls Tryz.prog 69 #[.slice A l.length c,.func (.func fi) #[] cap] w (Gives (.bool (l.any R)) w):=by
 have C:=Lib.hid (idxU_c f0 f1 f2 f3 l A c fi cap R w hl hE hrd hC)
 have HA:=Lib.hid (idxL_any R l 0 (by omega))
 generalize idxL R l 0=ix at *
 clear hrd hC hE
 go_enter Tryz.func69,Tryz.ntmps69
 go_wp2_with (go_at_call 113; refine C.out.mono ?_; rintro e w2 ⟨rfl,hx2⟩)
 go_ret
 exact ⟨ret_bool HA.out,hx2⟩
theorem idxS_c {α:Type} (f0 f1 f2:α → Value) (l:List α) (A:Option Addr) (c:Nat) (fi:FuncId) (cap:Array Value) (R:α → Bool) (w:World) (hl:l.length ≤ 1099511627776) (hE:EntF Tryz.prog fi) (hrd:Rd w A (l.flatMap fun x=>[f0 x,f1 x,f2 x]))
  (hC:∀ x ∈ l,∀ w',Ext w w' → Calls Tryz.prog fi (#[.agg #[f0 x,f1 x,f2 x]] ++ cap) w' (Gives (.bool (R x)) w')) :
  Calls Tryz.prog 117 #[.slice A l.length c,.func (.func fi) #[] cap] w (Gives (.int .i64 (idxL R l 0)) w):=by
 have HRD:=Lib.hid hrd
 have HC:=Lib.hid hC
 have HE:Hid (∀ (args:Array Value) (w:World),(callFunc fi args).run Tryz.prog w=.ok (.enter fi args) w):=Lib.hid hE
 clear hrd hC hE
 go_enter Tryz.func117,Tryz.ntmps117
 go_wp2
 go_loopw [8] (fun v8 wr=>∃ k:Nat,v8=.int .i64 (k:Int)∧k ≤ l.length∧Ext w wr∧Hid (idxL R l 0=idxL R (l.drop k) (k:Int))) (fun v8 _=>l.length - (intOf v8).toNat)
 case atStart=>exact ⟨0,rfl,Nat.zero_le _,Ext.rfl' w,Lib.hid rfl⟩
 case round =>
  obtain ⟨k,rfl,hk,hx,HI⟩:=hrel
  by_cases hlt:k < l.length
  ·obtain ⟨b,g,rfl,hbl,hc⟩:=(HRD.out.ext hx).row (sz:=3) (fun _=>rfl) (by omega) hlt
   have HCK:=Lib.hid (HC.out l[k] (List.getElem_mem hlt) wr hx)
   have HAT:=Lib.hid (idxL_at R hlt (k:Int))
   have j0:(0:Int) ≤ (k:Int):=by omega
   have j1:(k:Int) < (l.length:Int):=by omega
   have hkk:IntKind.i64.wrap ((k:Int) + 1)=((k + 1:Nat):Int):=by rw [IntKind.wrap_i64]; omega
   obtain ⟨x,hxk⟩:∃ x,x=l[k]:=⟨_,rfl⟩
   rw [← hxk] at HCK HAT hc
   clear hxk
   have k0:wr.cell? ⟨b,g + k * 3,none⟩=some (f0 x):=hc 0 _ rfl; have k1:=hc 1 _ rfl; have k2:=hc 2 _ rfl
   clear hc
   by_cases hr:R x=true
   ·rw [hr] at HAT HCK
    have HEN:Hid (idxL R l 0=(k:Int)):=Lib.hid (by rw [HI.out,HAT.out]; rfl)
    clear hr HAT HI
    go_wp2_with ((with_reducible refine wpL_call1 (o:=⟨some 16,_,_,_,_,_⟩) rfl (.tmp 11) (.tmp 15) rfl ?_ ?_ (HE.out _ _) HCK.out ?_); (exact rfl); (exact rfl); rintro e w2 ⟨rfl,hx2⟩; refine ⟨_,rfl,?_⟩)
    go_ret
    exact ⟨ret_int HEN.out.symm,hx.tr hx2⟩
   ·rw [show R x=false by simpa using hr] at HAT HCK
    have HEN:Hid (idxL R l 0=idxL R (l.drop (k + 1)) ((k + 1:Nat):Int)):=Lib.hid (by rw [HI.out,HAT.out]; push_cast; rfl)
    clear hr HAT HI
    go_wp2_with ((with_reducible refine wpL_call1 (o:=⟨some 16,_,_,_,_,_⟩) rfl (.tmp 11) (.tmp 15) rfl ?_ ?_ (HE.out _ _) HCK.out ?_); (exact rfl); (exact rfl); rintro e w2 ⟨rfl,hx2⟩; refine ⟨_,rfl,?_⟩)
    go_roundw
    case rel=>exact ⟨k + 1,rfl,by omega,hx.tr hx2,HEN⟩
    case measure=>simp [intOf]; omega
  ·have HEN:Hid (idxL R l 0=-1):=Lib.hid (by rw [HI.out,List.drop_of_length_le (by omega)]; rfl)
   clear HI
   go_wp2
   go_ret
   exact ⟨ret_int HEN.out.symm,hx⟩
theorem conS_c {α:Type} (f0 f1 f2:α → Value) (l:List α) (A:Option Addr) (c:Nat) (fi:FuncId) (cap:Array Value) (R:α → Bool) (w:World) (hl:l.length ≤ 1099511627776) (hE:EntF Tryz.prog fi) (hrd:Rd w A (l.flatMap fun x=>[f0 x,f1 x,f2 x]))
  (hC:∀ x ∈ l,∀ w',Ext w w' → Calls Tryz.prog fi (#[.agg #[f0 x,f1 x,f2 x]] ++ cap) w' (Gives (.bool (R x)) w')) :
  Calls Tryz.prog 76 #[.slice A l.length c,.func (.func fi) #[] cap] w (Gives (.bool (l.any R)) w):=by
 have C:=Lib.hid (idxS_c f0 f1 f2 l A c fi cap R w hl hE hrd hC)
 have HA:=Lib.hid (idxL_any R l 0 (by omega))
 generalize idxL R l 0=ix at *
 clear hrd hC hE
 go_enter Tryz.func76,Tryz.ntmps76
 go_wp2_with (go_at_call 117; refine C.out.mono ?_; rintro e w2 ⟨rfl,hx2⟩)
 go_ret
 exact ⟨ret_bool HA.out,hx2⟩
theorem idxP_c {α:Type} (f0 f1:α → Value) (l:List α) (A:Option Addr) (c:Nat) (fi:FuncId) (cap:Array Value) (R:α → Bool) (w:World) (hl:l.length ≤ 1099511627776) (hE:EntF Tryz.prog fi) (hrd:Rd w A (l.flatMap fun x=>[f0 x,f1 x]))
  (hC:∀ x ∈ l,∀ w',Ext w w' → Calls Tryz.prog fi (#[.agg #[f0 x,f1 x]] ++ cap) w' (Gives (.bool (R x)) w')) :
  Calls Tryz.prog 145 #[.slice A l.length c,.func (.func fi) #[] cap] w (Gives (.int .i64 (idxL R l 0)) w):=by
 have HRD:=Lib.hid hrd
 have HC:=Lib.hid hC
 have HE:Hid (∀ (args:Array Value) (w:World),(callFunc fi args).run Tryz.prog w=.ok (.enter fi args) w):=Lib.hid hE
 clear hrd hC hE
 go_enter Tryz.func145,Tryz.ntmps145
 go_wp2
 go_loopw [8] (fun v8 wr=>∃ k:Nat,v8=.int .i64 (k:Int)∧k ≤ l.length∧Ext w wr∧Hid (idxL R l 0=idxL R (l.drop k) (k:Int))) (fun v8 _=>l.length - (intOf v8).toNat)
 case atStart=>exact ⟨0,rfl,Nat.zero_le _,Ext.rfl' w,Lib.hid rfl⟩
 case round =>
  obtain ⟨k,rfl,hk,hx,HI⟩:=hrel
  by_cases hlt:k < l.length
  ·obtain ⟨b,g,rfl,hbl,hc⟩:=(HRD.out.ext hx).row (sz:=2) (fun _=>rfl) (by omega) hlt
   have HCK:=Lib.hid (HC.out l[k] (List.getElem_mem hlt) wr hx)
   have HAT:=Lib.hid (idxL_at R hlt (k:Int))
   have j0:(0:Int) ≤ (k:Int):=by omega
   have j1:(k:Int) < (l.length:Int):=by omega
   have hkk:IntKind.i64.wrap ((k:Int) + 1)=((k + 1:Nat):Int):=by rw [IntKind.wrap_i64]; omega
   obtain ⟨x,hxk⟩:∃ x,x=l[k]:=⟨_,rfl⟩
   rw [← hxk] at HCK HAT hc
   clear hxk
   have k0:wr.cell? ⟨b,g + k * 2,none⟩=some (f0 x):=hc 0 _ rfl; have k1:=hc 1 _ rfl
   clear hc
   by_cases hr:R x=true
   ·rw [hr] at HAT HCK
    have HEN:Hid (idxL R l 0=(k:Int)):=Lib.hid (by rw [HI.out,HAT.out]; rfl)
    clear hr HAT HI
    go_wp2_with ((with_reducible refine wpL_call1 (o:=⟨some 16,_,_,_,_,_⟩) rfl (.tmp 11) (.tmp 15) rfl ?_ ?_ (HE.out _ _) HCK.out ?_); (exact rfl); (exact rfl); rintro e w2 ⟨rfl,hx2⟩; refine ⟨_,rfl,?_⟩)
    go_ret
    exact ⟨ret_int HEN.out.symm,hx.tr hx2⟩
   ·rw [show R x=false by simpa using hr] at HAT HCK
    have HEN:Hid (idxL R l 0=idxL R (l.drop (k + 1)) ((k + 1:Nat):Int)):=Lib.hid (by rw [HI.out,HAT.out]; push_cast; rfl)
    clear hr HAT HI
    go_wp2_with ((with_reducible refine wpL_call1 (o:=⟨some 16,_,_,_,_,_⟩) rfl (.tmp 11) (.tmp 15) rfl ?_ ?_ (HE.out _ _) HCK.out ?_); (exact rfl); (exact rfl); rintro e w2 ⟨rfl,hx2⟩; refine ⟨_,rfl,?_⟩)
    go_roundw
    case rel=>exact ⟨k + 1,rfl,by omega,hx.tr hx2,HEN⟩
    case measure=>simp [intOf]; omega
  ·have HEN:Hid (idxL R l 0=-1):=Lib.hid (by rw [HI.out,List.drop_of_length_le (by omega)]; rfl)
   clear HI
   go_wp2
   go_ret
   exact ⟨ret_int HEN.out.symm,hx⟩
theorem conP_c {α:Type} (f0 f1:α → Value) (l:List α) (A:Option Addr) (c:Nat) (fi:FuncId) (cap:Array Value) (R:α → Bool) (w:World) (hl:l.length ≤ 1099511627776) (hE:EntF Tryz.prog fi) (hrd:Rd w A (l.flatMap fun x=>[f0 x,f1 x]))
  (hC:∀ x ∈ l,∀ w',Ext w w' → Calls Tryz.prog fi (#[.agg #[f0 x,f1 x]] ++ cap) w' (Gives (.bool (R x)) w')) :
  Calls Tryz.prog 115 #[.slice A l.length c,.func (.func fi) #[] cap] w (Gives (.bool (l.any R)) w):=by
 have C:=Lib.hid (idxP_c f0 f1 l A c fi cap R w hl hE hrd hC)
 have HA:=Lib.hid (idxL_any R l 0 (by omega))
 generalize idxL R l 0=ix at *
 clear hrd hC hE
 go_enter Tryz.func115,Tryz.ntmps115
 go_wp2_with (go_at_call 145; refine C.out.mono ?_; rintro e w2 ⟨rfl,hx2⟩)
 go_ret
 exact ⟨ret_bool HA.out,hx2⟩
theorem idxT_c {α:Type} (f0:α → Value) (l:List α) (A:Option Addr) (c:Nat) (fi:FuncId) (cap:Array Value) (R:α → Bool) (w:World) (hl:l.length ≤ 1099511627776) (hE:EntF Tryz.prog fi) (hrd:Rd w A (l.flatMap fun x=>[f0 x]))
  (hC:∀ x ∈ l,∀ w',Ext w w' → Calls Tryz.prog fi (#[f0 x] ++ cap) w' (Gives (.bool (R x)) w')) :
  Calls Tryz.prog 146 #[.slice A l.length c,.func (.func fi) #[] cap] w (Gives (.int .i64 (idxL R l 0)) w):=by
 have HRD:=Lib.hid hrd
 have HC:=Lib.hid hC
 have HE:Hid (∀ (args:Array Value) (w:World),(callFunc fi args).run Tryz.prog w=.ok (.enter fi args) w):=Lib.hid hE
 clear hrd hC hE
 go_enter Tryz.func146,Tryz.ntmps146
 go_wp2
 go_loopw [8] (fun v8 wr=>∃ k:Nat,v8=.int .i64 (k:Int)∧k ≤ l.length∧Ext w wr∧Hid (idxL R l 0=idxL R (l.drop k) (k:Int))) (fun v8 _=>l.length - (intOf v8).toNat)
 case atStart=>exact ⟨0,rfl,Nat.zero_le _,Ext.rfl' w,Lib.hid rfl⟩
 case round =>
  obtain ⟨k,rfl,hk,hx,HI⟩:=hrel
  by_cases hlt:k < l.length
  ·obtain ⟨b,g,rfl,hbl,hc⟩:=(HRD.out.ext hx).row (sz:=1) (fun _=>rfl) (by omega) hlt
   have HCK:=Lib.hid (HC.out l[k] (List.getElem_mem hlt) wr hx)
   have HAT:=Lib.hid (idxL_at R hlt (k:Int))
   have j0:(0:Int) ≤ (k:Int):=by omega
   have j1:(k:Int) < (l.length:Int):=by omega
   have hkk:IntKind.i64.wrap ((k:Int) + 1)=((k + 1:Nat):Int):=by rw [IntKind.wrap_i64]; omega
   obtain ⟨x,hxk⟩:∃ x,x=l[k]:=⟨_,rfl⟩
   rw [← hxk] at HCK HAT hc
   clear hxk
   have k0:wr.cell? ⟨b,g + k,none⟩=some (f0 x):=by have:=hc 0 _ rfl; rwa [Nat.mul_one,Nat.add_zero] at this
   clear hc
   by_cases hr:R x=true
   ·rw [hr] at HAT HCK
    have HEN:Hid (idxL R l 0=(k:Int)):=Lib.hid (by rw [HI.out,HAT.out]; rfl)
    clear hr HAT HI
    go_wp2_with ((with_reducible refine wpL_call1 (o:=⟨some 16,_,_,_,_,_⟩) rfl (.tmp 11) (.tmp 15) rfl ?_ ?_ (HE.out _ _) HCK.out ?_); (exact rfl); (exact rfl); rintro e w2 ⟨rfl,hx2⟩; refine ⟨_,rfl,?_⟩)
    go_ret
    exact ⟨ret_int HEN.out.symm,hx.tr hx2⟩
   ·rw [show R x=false by simpa using hr] at HAT HCK
    have HEN:Hid (idxL R l 0=idxL R (l.drop (k + 1)) ((k + 1:Nat):Int)):=Lib.hid (by rw [HI.out,HAT.out]; push_cast; rfl)
    clear hr HAT HI
    go_wp2_with ((with_reducible refine wpL_call1 (o:=⟨some 16,_,_,_,_,_⟩) rfl (.tmp 11) (.tmp 15) rfl ?_ ?_ (HE.out _ _) HCK.out ?_); (exact rfl); (exact rfl); rintro e w2 ⟨rfl,hx2⟩; refine ⟨_,rfl,?_⟩)
    go_roundw
    case rel=>exact ⟨k + 1,rfl,by omega,hx.tr hx2,HEN⟩
    case measure=>simp [intOf]; omega
  ·have HEN:Hid (idxL R l 0=-1):=Lib.hid (by rw [HI.out,List.drop_of_length_le (by omega)]; rfl)
   clear HI
   go_wp2
   go_ret
   exact ⟨ret_int HEN.out.symm,hx⟩
theorem conT_c {α:Type} (f0:α → Value) (l:List α) (A:Option Addr) (c:Nat) (fi:FuncId) (cap:Array Value) (R:α → Bool) (w:World) (hl:l.length ≤ 1099511627776) (hE:EntF Tryz.prog fi) (hrd:Rd w A (l.flatMap fun x=>[f0 x]))
  (hC:∀ x ∈ l,∀ w',Ext w w' → Calls Tryz.prog fi (#[f0 x] ++ cap) w' (Gives (.bool (R x)) w')) :
  Calls Tryz.prog 118 #[.slice A l.length c,.func (.func fi) #[] cap] w (Gives (.bool (l.any R)) w):=by
 have C:=Lib.hid (idxT_c f0 l A c fi cap R w hl hE hrd hC)
 have HA:=Lib.hid (idxL_any R l 0 (by omega))
 generalize idxL R l 0=ix at *
 clear hrd hC hE
 go_enter Tryz.func118,Tryz.ntmps118
 go_wp2_with (go_at_call 146; refine C.out.mono ?_; rintro e w2 ⟨rfl,hx2⟩)
 go_ret
 exact ⟨ret_bool HA.out,hx2⟩
theorem idxL_c {α:Type} (f0 f1 f2 f3 f4 f5 f6 f7 f8 f9 fa fb:α → Value) (l:List α) (A:Option Addr) (c:Nat) (fi:FuncId) (cap:Array Value) (R:α → Bool) (w:World) (hl:l.length ≤ 1099511627776) (hE:EntF Tryz.prog fi) (hrd:Rd w A (l.flatMap fun x=>[f0 x,f1 x,f2 x,f3 x,f4 x,f5 x,f6 x,f7 x,f8 x,f9 x,fa x,fb x]))
  (hC:∀ x ∈ l,∀ w',Ext w w' → Calls Tryz.prog fi (#[.agg #[f0 x,f1 x,f2 x,f3 x,f4 x,f5 x,f6 x,f7 x,f8 x,f9 x,fa x,fb x]] ++ cap) w' (Gives (.bool (R x)) w')) :
  Calls Tryz.prog 155 #[.slice A l.length c,.func (.func fi) #[] cap] w (Gives (.int .i64 (idxL R l 0)) w):=by
 have HRD:=Lib.hid hrd
 have HC:=Lib.hid hC
 have HE:Hid (∀ (args:Array Value) (w:World),(callFunc fi args).run Tryz.prog w=.ok (.enter fi args) w):=Lib.hid hE
 clear hrd hC hE
 go_enter Tryz.func155,Tryz.ntmps155
 go_wp2
 go_loopw [8] (fun v8 wr=>∃ k:Nat,v8=.int .i64 (k:Int)∧k ≤ l.length∧Ext w wr∧Hid (idxL R l 0=idxL R (l.drop k) (k:Int))) (fun v8 _=>l.length - (intOf v8).toNat)
 case atStart=>exact ⟨0,rfl,Nat.zero_le _,Ext.rfl' w,Lib.hid rfl⟩
 case round =>
  obtain ⟨k,rfl,hk,hx,HI⟩:=hrel
  by_cases hlt:k < l.length
  ·obtain ⟨b,g,rfl,hbl,hc⟩:=(HRD.out.ext hx).row (sz:=12) (fun _=>rfl) (by omega) hlt
   have HCK:=Lib.hid (HC.out l[k] (List.getElem_mem hlt) wr hx)
   have HAT:=Lib.hid (idxL_at R hlt (k:Int))
   have j0:(0:Int) ≤ (k:Int):=by omega
   have j1:(k:Int) < (l.length:Int):=by omega
   have hkk:IntKind.i64.wrap ((k:Int) + 1)=((k + 1:Nat):Int):=by rw [IntKind.wrap_i64]; omega
   obtain ⟨x,hxk⟩:∃ x,x=l[k]:=⟨_,rfl⟩
   rw [← hxk] at HCK HAT hc
   clear hxk
   have k0:wr.cell? ⟨b,g + k * 12,none⟩=some (f0 x):=hc 0 _ rfl; have k1:=hc 1 _ rfl; have k2:=hc 2 _ rfl; have k3:=hc 3 _ rfl; have k4:=hc 4 _ rfl; have k5:=hc 5 _ rfl; have k6:=hc 6 _ rfl; have k7:=hc 7 _ rfl; have k8:=hc 8 _ rfl; have k9:=hc 9 _ rfl; have ka:=hc 10 _ rfl; have kb:=hc 11 _ rfl
   clear hc
   by_cases hr:R x=true
   ·rw [hr] at HAT HCK
    have HEN:Hid (idxL R l 0=(k:Int)):=Lib.hid (by rw [HI.out,HAT.out]; rfl)
    clear hr HAT HI
    go_wp2_with ((with_reducible refine wpL_call1 (o:=⟨some 16,_,_,_,_,_⟩) rfl (.tmp 11) (.tmp 15) rfl ?_ ?_ (HE.out _ _) HCK.out ?_); (exact rfl); (exact rfl); rintro e w2 ⟨rfl,hx2⟩; refine ⟨_,rfl,?_⟩)
    go_ret
    exact ⟨ret_int HEN.out.symm,hx.tr hx2⟩
   ·rw [show R x=false by simpa using hr] at HAT HCK
    have HEN:Hid (idxL R l 0=idxL R (l.drop (k + 1)) ((k + 1:Nat):Int)):=Lib.hid (by rw [HI.out,HAT.out]; push_cast; rfl)
    clear hr HAT HI
    go_wp2_with ((with_reducible refine wpL_call1 (o:=⟨some 16,_,_,_,_,_⟩) rfl (.tmp 11) (.tmp 15) rfl ?_ ?_ (HE.out _ _) HCK.out ?_); (exact rfl); (exact rfl); rintro e w2 ⟨rfl,hx2⟩; refine ⟨_,rfl,?_⟩)
    go_roundw
    case rel=>exact ⟨k + 1,rfl,by omega,hx.tr hx2,HEN⟩
    case measure=>simp [intOf]; omega
  ·have HEN:Hid (idxL R l 0=-1):=Lib.hid (by rw [HI.out,List.drop_of_length_le (by omega)]; rfl)
   clear HI
   go_wp2
   go_ret
   exact ⟨ret_int HEN.out.symm,hx⟩
theorem conL_c {α:Type} (f0 f1 f2 f3 f4 f5 f6 f7 f8 f9 fa fb:α → Value) (l:List α) (A:Option Addr) (c:Nat) (fi:FuncId) (cap:Array Value) (R:α → Bool) (w:World) (hl:l.length ≤ 1099511627776) (hE:EntF Tryz.prog fi) (hrd:Rd w A (l.flatMap fun x=>[f0 x,f1 x,f2 x,f3 x,f4 x,f5 x,f6 x,f7 x,f8 x,f9 x,fa x,fb x]))
  (hC:∀ x ∈ l,∀ w',Ext w w' → Calls Tryz.prog fi (#[.agg #[f0 x,f1 x,f2 x,f3 x,f4 x,f5 x,f6 x,f7 x,f8 x,f9 x,fa x,fb x]] ++ cap) w' (Gives (.bool (R x)) w')) :
  Calls Tryz.prog 122 #[.slice A l.length c,.func (.func fi) #[] cap] w (Gives (.bool (l.any R)) w):=by
 have C:=Lib.hid (idxL_c f0 f1 f2 f3 f4 f5 f6 f7 f8 f9 fa fb l A c fi cap R w hl hE hrd hC)
 have HA:=Lib.hid (idxL_any R l 0 (by omega))
 generalize idxL R l 0=ix at *
 clear hrd hC hE
 go_enter Tryz.func122,Tryz.ntmps122
 go_wp2_with (go_at_call 155; refine C.out.mono ?_; rintro e w2 ⟨rfl,hx2⟩)
 go_ret
 exact ⟨ret_bool HA.out,hx2⟩
end Go.Proofs.YtmnohicojefhfaaGreatDoor
end
section
namespace Go.Proofs.YtmnohicojefhfaaGreatDoor
open Go.RowKit
theorem allFU_c (s0:ByteArray) (a1:Option Addr) (n1 d1:Nat) (i2:Int) (i3:Int) (gc:Nat) (fi:FuncId) (cap:Array Value) (b:Bool) (w:World) (hE:EntF Tryz.prog fi) (hc:w.cell? ⟨gc,0,none⟩=some (.func (.func fi) #[] cap))
  (hC:∀ w',Ext w w' → Calls Tryz.prog fi (#[.agg #[.string s0,.slice a1 n1 d1,.int .i64 i2,.int .i64 i3]] ++ cap) w' (Gives (.bool b) w')):Calls Tryz.prog 70 #[.agg #[.string s0,.slice a1 n1 d1,.int .i64 i2,.int .i64 i3],.pointer (some ⟨gc,0,none⟩)] w (Gives (.bool (!b)) w):=by
 have HE:Hid (∀ (args:Array Value) (w:World),(callFunc fi args).run Tryz.prog w=.ok (.enter fi args) w):=Lib.hid hE
 have HC:=Lib.hid hC
 have hgc:=lt_of_cell hc
 have hne:gc ≠ w.heap.size:=by have:gc < w.heap.size:=hgc; omega
 have hc2:=fun o=>((show Ext w (w.alloc o) from (Ext.rfl' w).al o).cell hgc).trans hc
 clear hE hC
 go_enter Tryz.func70,Tryz.ntmps70
 go_wp2_with ((first | (with_reducible refine wpL_call1 (o:=⟨some 6,_,_,_,_,_⟩) rfl (.tmp 4) (.tmp 5) rfl ?_ ?_ (HE.out _ _) (HC.out _ ((Ext.rfl' w).al _)) ?_) | (with_reducible refine wpL_call1 (o:=⟨some 6,_,_,_,_,_⟩) rfl (.tmp 4) (.tmp 5) rfl ?_ ?_ (HE.out _ _) (HC.out _ (Ext.rfl' w)) ?_)); (exact rfl); (exact rfl); rintro e w2 ⟨rfl,hx2⟩; refine ⟨_,rfl,?_⟩)
 go_ret
 exact ⟨rfl,by (repeat first | exact Ex0 | assumption | refine Ex1 ?_ | refine Ex2 ?_ | refine Ex3 ?_ | refine Ex4 ?_ | refine Ex5 ?_)⟩
theorem allU_c {α:Type} (s0:α → ByteArray) (a1:α → Option Addr) (n1 d1:α → Nat) (i2:α → Int) (i3:α → Int) (l:List α) (A:Option Addr) (c:Nat) (fi:FuncId) (cap:Array Value) (R:α → Bool) (w:World) (hl:l.length ≤ 1099511627776) (hE:EntF Tryz.prog fi) (hrd:Rd w A (l.flatMap fun x=>[.string (s0 x),.slice (a1 x) (n1 x) (d1 x),.int .i64 (i2 x),.int .i64 (i3 x)]))
  (hC:∀ x ∈ l,∀ w',Ext w w' → Calls Tryz.prog fi (#[.agg #[.string (s0 x),.slice (a1 x) (n1 x) (d1 x),.int .i64 (i2 x),.int .i64 (i3 x)]] ++ cap) w' (Gives (.bool (R x)) w')) :
  Calls Tryz.prog 30 #[.slice A l.length c,.func (.func fi) #[] cap] w (Gives (.bool (l.all R)) w):=by
 have HA:=Lib.hid (show l.all R=!(l.any fun x=>!(R x)) from List.all_eq_not_any_not)
 have hb:(w.alloc (.cells #[.func (.func fi) #[] cap] 93)).cell? ⟨w.heap.size,0,none⟩=some (.func (.func fi) #[] cap):=new_at w _ _ 0 _ rfl
 have hx:Ext w (w.alloc (.cells #[.func (.func fi) #[] cap] 93)):=(Ext.rfl' w).al _
 have C:=Lib.hid (conU_c (fun x=>.string (s0 x)) (fun x=>.slice (a1 x) (n1 x) (d1 x)) (fun x=>.int .i64 (i2 x)) (fun x=>.int .i64 (i3 x)) l A c 70 #[.pointer (some ⟨w.heap.size,0,none⟩)] (fun x=>!(R x)) (w.alloc (.cells #[.func (.func fi) #[] cap] 93)) hl (fun _ _=>by kernel_rfl) (hrd.ext hx)
  (fun x hxl w' hw=>by
   refine (allFU_c (s0 x) (a1 x) (n1 x) (d1 x) (i2 x) (i3 x) w.heap.size fi cap (R x) w' hE ((hw.cell (lt_of_cell hb)).trans hb) (fun w2 h2=>hC x hxl w2 (hx.tr (hw.tr h2))))))
 have hmf:∀ (fn:Fn) (first cap:Array Value) (w:World),(Instr.makeFunc fn first cap).run Tryz.prog w=.ok (.func fn first cap) w:=fun _ _ _ _=>rfl
 clear hrd hC hE hb hx
 go_enter Tryz.func30,Tryz.ntmps30
 go_wp2_with (go_at_call 69; refine C.out.mono ?_; rintro e w2 ⟨rfl,hx2⟩)
 go_ret
 exact ⟨ret_bool HA.out.symm,by (repeat first | exact Ex0 | assumption | refine Ex1 ?_ | refine Ex2 ?_ | refine Ex3 ?_ | refine Ex4 ?_ | refine Ex5 ?_)⟩
theorem allFS_c (a0:Option Addr) (n0 d0:Nat) (b1:Bool) (a2:Option Addr) (n2 d2:Nat) (gc:Nat) (fi:FuncId) (cap:Array Value) (b:Bool) (w:World) (hE:EntF Tryz.prog fi) (hc:w.cell? ⟨gc,0,none⟩=some (.func (.func fi) #[] cap))
  (hC:∀ w',Ext w w' → Calls Tryz.prog fi (#[.agg #[.slice a0 n0 d0,.bool b1,.slice a2 n2 d2]] ++ cap) w' (Gives (.bool b) w')):Calls Tryz.prog 77 #[.agg #[.slice a0 n0 d0,.bool b1,.slice a2 n2 d2],.pointer (some ⟨gc,0,none⟩)] w (Gives (.bool (!b)) w):=by
 have HE:Hid (∀ (args:Array Value) (w:World),(callFunc fi args).run Tryz.prog w=.ok (.enter fi args) w):=Lib.hid hE
 have HC:=Lib.hid hC
 have hgc:=lt_of_cell hc
 have hne:gc ≠ w.heap.size:=by have:gc < w.heap.size:=hgc; omega
 have hc2:=fun o=>((show Ext w (w.alloc o) from (Ext.rfl' w).al o).cell hgc).trans hc
 clear hE hC
 go_enter Tryz.func77,Tryz.ntmps77
 go_wp2_with ((first | (with_reducible refine wpL_call1 (o:=⟨some 6,_,_,_,_,_⟩) rfl (.tmp 4) (.tmp 5) rfl ?_ ?_ (HE.out _ _) (HC.out _ ((Ext.rfl' w).al _)) ?_) | (with_reducible refine wpL_call1 (o:=⟨some 6,_,_,_,_,_⟩) rfl (.tmp 4) (.tmp 5) rfl ?_ ?_ (HE.out _ _) (HC.out _ (Ext.rfl' w)) ?_)); (exact rfl); (exact rfl); rintro e w2 ⟨rfl,hx2⟩; refine ⟨_,rfl,?_⟩)
 go_ret
 exact ⟨rfl,by (repeat first | exact Ex0 | assumption | refine Ex1 ?_ | refine Ex2 ?_ | refine Ex3 ?_ | refine Ex4 ?_ | refine Ex5 ?_)⟩
theorem allS_c {α:Type} (a0:α → Option Addr) (n0 d0:α → Nat) (b1:α → Bool) (a2:α → Option Addr) (n2 d2:α → Nat) (l:List α) (A:Option Addr) (c:Nat) (fi:FuncId) (cap:Array Value) (R:α → Bool) (w:World) (hl:l.length ≤ 1099511627776) (hE:EntF Tryz.prog fi) (hrd:Rd w A (l.flatMap fun x=>[.slice (a0 x) (n0 x) (d0 x),.bool (b1 x),.slice (a2 x) (n2 x) (d2 x)]))
  (hC:∀ x ∈ l,∀ w',Ext w w' → Calls Tryz.prog fi (#[.agg #[.slice (a0 x) (n0 x) (d0 x),.bool (b1 x),.slice (a2 x) (n2 x) (d2 x)]] ++ cap) w' (Gives (.bool (R x)) w')) :
  Calls Tryz.prog 34 #[.slice A l.length c,.func (.func fi) #[] cap] w (Gives (.bool (l.all R)) w):=by
 have HA:=Lib.hid (show l.all R=!(l.any fun x=>!(R x)) from List.all_eq_not_any_not)
 have hb:(w.alloc (.cells #[.func (.func fi) #[] cap] 98)).cell? ⟨w.heap.size,0,none⟩=some (.func (.func fi) #[] cap):=new_at w _ _ 0 _ rfl
 have hx:Ext w (w.alloc (.cells #[.func (.func fi) #[] cap] 98)):=(Ext.rfl' w).al _
 have C:=Lib.hid (conS_c (fun x=>.slice (a0 x) (n0 x) (d0 x)) (fun x=>.bool (b1 x)) (fun x=>.slice (a2 x) (n2 x) (d2 x)) l A c 77 #[.pointer (some ⟨w.heap.size,0,none⟩)] (fun x=>!(R x)) (w.alloc (.cells #[.func (.func fi) #[] cap] 98)) hl (fun _ _=>by kernel_rfl) (hrd.ext hx)
  (fun x hxl w' hw=>by
   refine (allFS_c (a0 x) (n0 x) (d0 x) (b1 x) (a2 x) (n2 x) (d2 x) w.heap.size fi cap (R x) w' hE ((hw.cell (lt_of_cell hb)).trans hb) (fun w2 h2=>hC x hxl w2 (hx.tr (hw.tr h2))))))
 have hmf:∀ (fn:Fn) (first cap:Array Value) (w:World),(Instr.makeFunc fn first cap).run Tryz.prog w=.ok (.func fn first cap) w:=fun _ _ _ _=>rfl
 clear hrd hC hE hb hx
 go_enter Tryz.func34,Tryz.ntmps34
 go_wp2_with (go_at_call 76; refine C.out.mono ?_; rintro e w2 ⟨rfl,hx2⟩)
 go_ret
 exact ⟨ret_bool HA.out.symm,by (repeat first | exact Ex0 | assumption | refine Ex1 ?_ | refine Ex2 ?_ | refine Ex3 ?_ | refine Ex4 ?_ | refine Ex5 ?_)⟩
theorem allFP_c (i0:Int) (i1:Int) (gc:Nat) (fi:FuncId) (cap:Array Value) (b:Bool) (w:World) (hE:EntF Tryz.prog fi) (hc:w.cell? ⟨gc,0,none⟩=some (.func (.func fi) #[] cap))
  (hC:∀ w',Ext w w' → Calls Tryz.prog fi (#[.agg #[.int .i64 i0,.int .i64 i1]] ++ cap) w' (Gives (.bool b) w')):Calls Tryz.prog 116 #[.agg #[.int .i64 i0,.int .i64 i1],.pointer (some ⟨gc,0,none⟩)] w (Gives (.bool (!b)) w):=by
 have HE:Hid (∀ (args:Array Value) (w:World),(callFunc fi args).run Tryz.prog w=.ok (.enter fi args) w):=Lib.hid hE
 have HC:=Lib.hid hC
 have hgc:=lt_of_cell hc
 have hne:gc ≠ w.heap.size:=by have:gc < w.heap.size:=hgc; omega
 have hc2:=fun o=>((show Ext w (w.alloc o) from (Ext.rfl' w).al o).cell hgc).trans hc
 clear hE hC
 go_enter Tryz.func116,Tryz.ntmps116
 go_wp2_with ((first | (with_reducible refine wpL_call1 (o:=⟨some 6,_,_,_,_,_⟩) rfl (.tmp 4) (.tmp 5) rfl ?_ ?_ (HE.out _ _) (HC.out _ ((Ext.rfl' w).al _)) ?_) | (with_reducible refine wpL_call1 (o:=⟨some 6,_,_,_,_,_⟩) rfl (.tmp 4) (.tmp 5) rfl ?_ ?_ (HE.out _ _) (HC.out _ (Ext.rfl' w)) ?_)); (exact rfl); (exact rfl); rintro e w2 ⟨rfl,hx2⟩; refine ⟨_,rfl,?_⟩)
 go_ret
 exact ⟨rfl,by (repeat first | exact Ex0 | assumption | refine Ex1 ?_ | refine Ex2 ?_ | refine Ex3 ?_ | refine Ex4 ?_ | refine Ex5 ?_)⟩
theorem allP_c {α:Type} (i0:α → Int) (i1:α → Int) (l:List α) (A:Option Addr) (c:Nat) (fi:FuncId) (cap:Array Value) (R:α → Bool) (w:World) (hl:l.length ≤ 1099511627776) (hE:EntF Tryz.prog fi) (hrd:Rd w A (l.flatMap fun x=>[.int .i64 (i0 x),.int .i64 (i1 x)]))
  (hC:∀ x ∈ l,∀ w',Ext w w' → Calls Tryz.prog fi (#[.agg #[.int .i64 (i0 x),.int .i64 (i1 x)]] ++ cap) w' (Gives (.bool (R x)) w')) :
  Calls Tryz.prog 72 #[.slice A l.length c,.func (.func fi) #[] cap] w (Gives (.bool (l.all R)) w):=by
 have HA:=Lib.hid (show l.all R=!(l.any fun x=>!(R x)) from List.all_eq_not_any_not)
 have hb:(w.alloc (.cells #[.func (.func fi) #[] cap] 142)).cell? ⟨w.heap.size,0,none⟩=some (.func (.func fi) #[] cap):=new_at w _ _ 0 _ rfl
 have hx:Ext w (w.alloc (.cells #[.func (.func fi) #[] cap] 142)):=(Ext.rfl' w).al _
 have C:=Lib.hid (conP_c (fun x=>.int .i64 (i0 x)) (fun x=>.int .i64 (i1 x)) l A c 116 #[.pointer (some ⟨w.heap.size,0,none⟩)] (fun x=>!(R x)) (w.alloc (.cells #[.func (.func fi) #[] cap] 142)) hl (fun _ _=>by kernel_rfl) (hrd.ext hx)
  (fun x hxl w' hw=>by
   refine (allFP_c (i0 x) (i1 x) w.heap.size fi cap (R x) w' hE ((hw.cell (lt_of_cell hb)).trans hb) (fun w2 h2=>hC x hxl w2 (hx.tr (hw.tr h2))))))
 have hmf:∀ (fn:Fn) (first cap:Array Value) (w:World),(Instr.makeFunc fn first cap).run Tryz.prog w=.ok (.func fn first cap) w:=fun _ _ _ _=>rfl
 clear hrd hC hE hb hx
 go_enter Tryz.func72,Tryz.ntmps72
 go_wp2_with (go_at_call 115; refine C.out.mono ?_; rintro e w2 ⟨rfl,hx2⟩)
 go_ret
 exact ⟨ret_bool HA.out.symm,by (repeat first | exact Ex0 | assumption | refine Ex1 ?_ | refine Ex2 ?_ | refine Ex3 ?_ | refine Ex4 ?_ | refine Ex5 ?_)⟩
theorem allFT_c (s0:ByteArray) (gc:Nat) (fi:FuncId) (cap:Array Value) (b:Bool) (w:World) (hE:EntF Tryz.prog fi) (hc:w.cell? ⟨gc,0,none⟩=some (.func (.func fi) #[] cap))
  (hC:∀ w',Ext w w' → Calls Tryz.prog fi (#[.string s0] ++ cap) w' (Gives (.bool b) w')):Calls Tryz.prog 119 #[.string s0,.pointer (some ⟨gc,0,none⟩)] w (Gives (.bool (!b)) w):=by
 have HE:Hid (∀ (args:Array Value) (w:World),(callFunc fi args).run Tryz.prog w=.ok (.enter fi args) w):=Lib.hid hE
 have HC:=Lib.hid hC
 have hgc:=lt_of_cell hc
 have hne:gc ≠ w.heap.size:=by have:gc < w.heap.size:=hgc; omega
 have hc2:=fun o=>((show Ext w (w.alloc o) from (Ext.rfl' w).al o).cell hgc).trans hc
 clear hE hC
 go_enter Tryz.func119,Tryz.ntmps119
 go_wp2_with ((first | (with_reducible refine wpL_call1 (o:=⟨some 6,_,_,_,_,_⟩) rfl (.tmp 4) (.tmp 5) rfl ?_ ?_ (HE.out _ _) (HC.out _ ((Ext.rfl' w).al _)) ?_) | (with_reducible refine wpL_call1 (o:=⟨some 6,_,_,_,_,_⟩) rfl (.tmp 4) (.tmp 5) rfl ?_ ?_ (HE.out _ _) (HC.out _ (Ext.rfl' w)) ?_)); (exact rfl); (exact rfl); rintro e w2 ⟨rfl,hx2⟩; refine ⟨_,rfl,?_⟩)
 go_ret
 exact ⟨rfl,by (repeat first | exact Ex0 | assumption | refine Ex1 ?_ | refine Ex2 ?_ | refine Ex3 ?_ | refine Ex4 ?_ | refine Ex5 ?_)⟩
theorem allT_c {α:Type} (s0:α → ByteArray) (l:List α) (A:Option Addr) (c:Nat) (fi:FuncId) (cap:Array Value) (R:α → Bool) (w:World) (hl:l.length ≤ 1099511627776) (hE:EntF Tryz.prog fi) (hrd:Rd w A (l.flatMap fun x=>[.string (s0 x)]))
  (hC:∀ x ∈ l,∀ w',Ext w w' → Calls Tryz.prog fi (#[.string (s0 x)] ++ cap) w' (Gives (.bool (R x)) w')) :
  Calls Tryz.prog 78 #[.slice A l.length c,.func (.func fi) #[] cap] w (Gives (.bool (l.all R)) w):=by
 have HA:=Lib.hid (show l.all R=!(l.any fun x=>!(R x)) from List.all_eq_not_any_not)
 have hb:(w.alloc (.cells #[.func (.func fi) #[] cap] 39)).cell? ⟨w.heap.size,0,none⟩=some (.func (.func fi) #[] cap):=new_at w _ _ 0 _ rfl
 have hx:Ext w (w.alloc (.cells #[.func (.func fi) #[] cap] 39)):=(Ext.rfl' w).al _
 have C:=Lib.hid (conT_c (fun x=>.string (s0 x)) l A c 119 #[.pointer (some ⟨w.heap.size,0,none⟩)] (fun x=>!(R x)) (w.alloc (.cells #[.func (.func fi) #[] cap] 39)) hl (fun _ _=>by kernel_rfl) (hrd.ext hx)
  (fun x hxl w' hw=>by
   refine (allFT_c (s0 x) w.heap.size fi cap (R x) w' hE ((hw.cell (lt_of_cell hb)).trans hb) (fun w2 h2=>hC x hxl w2 (hx.tr (hw.tr h2))))))
 have hmf:∀ (fn:Fn) (first cap:Array Value) (w:World),(Instr.makeFunc fn first cap).run Tryz.prog w=.ok (.func fn first cap) w:=fun _ _ _ _=>rfl
 clear hrd hC hE hb hx
 go_enter Tryz.func78,Tryz.ntmps78
 go_wp2_with (go_at_call 118; refine C.out.mono ?_; rintro e w2 ⟨rfl,hx2⟩)
 go_ret
 exact ⟨ret_bool HA.out.symm,by (repeat first | exact Ex0 | assumption | refine Ex1 ?_ | refine Ex2 ?_ | refine Ex3 ?_ | refine Ex4 ?_ | refine Ex5 ?_)⟩
theorem allFL_c (s0:ByteArray) (i1:Int) (s2:ByteArray) (s3:ByteArray) (i4:Int) (i5:Int) (s6:ByteArray) (b7:Bool) (i8:Int) (i9:Int) (i10:Int) (s11:ByteArray) (gc:Nat) (fi:FuncId) (cap:Array Value) (b:Bool) (w:World) (hE:EntF Tryz.prog fi) (hc:w.cell? ⟨gc,0,none⟩=some (.func (.func fi) #[] cap))
  (hC:∀ w',Ext w w' → Calls Tryz.prog fi (#[.agg #[.string s0,.int .i64 i1,.string s2,.string s3,.int .i64 i4,.int .i64 i5,.string s6,.bool b7,.int .i64 i8,.int .i64 i9,.int .i64 i10,.string s11]] ++ cap) w' (Gives (.bool b) w')):Calls Tryz.prog 123 #[.agg #[.string s0,.int .i64 i1,.string s2,.string s3,.int .i64 i4,.int .i64 i5,.string s6,.bool b7,.int .i64 i8,.int .i64 i9,.int .i64 i10,.string s11],.pointer (some ⟨gc,0,none⟩)] w (Gives (.bool (!b)) w):=by
 have HE:Hid (∀ (args:Array Value) (w:World),(callFunc fi args).run Tryz.prog w=.ok (.enter fi args) w):=Lib.hid hE
 have HC:=Lib.hid hC
 have hgc:=lt_of_cell hc
 have hne:gc ≠ w.heap.size:=by have:gc < w.heap.size:=hgc; omega
 have hc2:=fun o=>((show Ext w (w.alloc o) from (Ext.rfl' w).al o).cell hgc).trans hc
 clear hE hC
 go_enter Tryz.func123,Tryz.ntmps123
 go_wp2_with ((first | (with_reducible refine wpL_call1 (o:=⟨some 6,_,_,_,_,_⟩) rfl (.tmp 4) (.tmp 5) rfl ?_ ?_ (HE.out _ _) (HC.out _ ((Ext.rfl' w).al _)) ?_) | (with_reducible refine wpL_call1 (o:=⟨some 6,_,_,_,_,_⟩) rfl (.tmp 4) (.tmp 5) rfl ?_ ?_ (HE.out _ _) (HC.out _ (Ext.rfl' w)) ?_)); (exact rfl); (exact rfl); rintro e w2 ⟨rfl,hx2⟩; refine ⟨_,rfl,?_⟩)
 go_ret
 exact ⟨rfl,by (repeat first | exact Ex0 | assumption | refine Ex1 ?_ | refine Ex2 ?_ | refine Ex3 ?_ | refine Ex4 ?_ | refine Ex5 ?_)⟩
theorem allL_c {α:Type} (s0:α → ByteArray) (i1:α → Int) (s2:α → ByteArray) (s3:α → ByteArray) (i4:α → Int) (i5:α → Int) (s6:α → ByteArray) (b7:α → Bool) (i8:α → Int) (i9:α → Int) (i10:α → Int) (s11:α → ByteArray) (l:List α) (A:Option Addr) (c:Nat) (fi:FuncId) (cap:Array Value) (R:α → Bool) (w:World) (hl:l.length ≤ 1099511627776) (hE:EntF Tryz.prog fi) (hrd:Rd w A (l.flatMap fun x=>[.string (s0 x),.int .i64 (i1 x),.string (s2 x),.string (s3 x),.int .i64 (i4 x),.int .i64 (i5 x),.string (s6 x),.bool (b7 x),.int .i64 (i8 x),.int .i64 (i9 x),.int .i64 (i10 x),.string (s11 x)]))
  (hC:∀ x ∈ l,∀ w',Ext w w' → Calls Tryz.prog fi (#[.agg #[.string (s0 x),.int .i64 (i1 x),.string (s2 x),.string (s3 x),.int .i64 (i4 x),.int .i64 (i5 x),.string (s6 x),.bool (b7 x),.int .i64 (i8 x),.int .i64 (i9 x),.int .i64 (i10 x),.string (s11 x)]] ++ cap) w' (Gives (.bool (R x)) w')) :
  Calls Tryz.prog 80 #[.slice A l.length c,.func (.func fi) #[] cap] w (Gives (.bool (l.all R)) w):=by
 have HA:=Lib.hid (show l.all R=!(l.any fun x=>!(R x)) from List.all_eq_not_any_not)
 have hb:(w.alloc (.cells #[.func (.func fi) #[] cap] 148)).cell? ⟨w.heap.size,0,none⟩=some (.func (.func fi) #[] cap):=new_at w _ _ 0 _ rfl
 have hx:Ext w (w.alloc (.cells #[.func (.func fi) #[] cap] 148)):=(Ext.rfl' w).al _
 have C:=Lib.hid (conL_c (fun x=>.string (s0 x)) (fun x=>.int .i64 (i1 x)) (fun x=>.string (s2 x)) (fun x=>.string (s3 x)) (fun x=>.int .i64 (i4 x)) (fun x=>.int .i64 (i5 x)) (fun x=>.string (s6 x)) (fun x=>.bool (b7 x)) (fun x=>.int .i64 (i8 x)) (fun x=>.int .i64 (i9 x)) (fun x=>.int .i64 (i10 x)) (fun x=>.string (s11 x)) l A c 123 #[.pointer (some ⟨w.heap.size,0,none⟩)] (fun x=>!(R x)) (w.alloc (.cells #[.func (.func fi) #[] cap] 148)) hl (fun _ _=>by kernel_rfl) (hrd.ext hx)
  (fun x hxl w' hw=>by
   refine (allFL_c (s0 x) (i1 x) (s2 x) (s3 x) (i4 x) (i5 x) (s6 x) (b7 x) (i8 x) (i9 x) (i10 x) (s11 x) w.heap.size fi cap (R x) w' hE ((hw.cell (lt_of_cell hb)).trans hb) (fun w2 h2=>hC x hxl w2 (hx.tr (hw.tr h2))))))
 have hmf:∀ (fn:Fn) (first cap:Array Value) (w:World),(Instr.makeFunc fn first cap).run Tryz.prog w=.ok (.func fn first cap) w:=fun _ _ _ _=>rfl
 clear hrd hC hE hb hx
 go_enter Tryz.func80,Tryz.ntmps80
 go_wp2_with (go_at_call 122; refine C.out.mono ?_; rintro e w2 ⟨rfl,hx2⟩)
 go_ret
 exact ⟨ret_bool HA.out.symm,by (repeat first | exact Ex0 | assumption | refine Ex1 ?_ | refine Ex2 ?_ | refine Ex3 ?_ | refine Ex4 ?_ | refine Ex5 ?_)⟩
end Go.Proofs.YtmnohicojefhfaaGreatDoor
end
section
namespace Go.Proofs.YtmnohicojefhfaaGreatDoor
open Go.RowKit
open Go.Maps (Keyed)
section
variable {P:Program} {k e:TypeId} {w:World} {b n:Nat} {D:DataW Value}
theorem wpL_cnt {ops:Array Oper} {rest:List Oper} {o:Oper} {a:Act} {Q:Exit → Act → World → Prop} (hg:o.guard=none) (m x:Operand) (t:TypeId) (hop:o.op=Op.lookup t m x false) (K:Keyed P k) (ht:P.underlying t=some (.map k e)) (he:P.underlying e=some (.int .i64)) (hz:(zeroValue e).run P w=.ok (.int .i64 0) w)
  {key:Value} {kl:Lit} (hm:a.eval m=.map (some b)) (hx:a.eval x=key) (hown:w.ownsMap P k (plainElem P e) b n D) (hkey:keyOf P k key=some kl) (v:Int) (hat:D.atKey kl (.lit (.int .i64 0))=.lit (.int .i64 v))
  (hK:wpList P ops Q rest (a.put o.dst (.int .i64 v)) w):wpList P ops Q (o :: rest) a w:=by
 refine wpList_plain hg fun K' hK'=>?_
 obtain ⟨c,hrun,hat',hwc⟩:=hown.lookup_int K ht he hz hkey
 rw [hat] at hat'
 injection hat' with h1
 injection h1 with _ h1
 subst h1
 unfold Oper.wp
 simp [execOp,hop,hm,hx,hrun,Result.andThen]
 exact hK' _ _ hK
theorem ownM_same {w':World} (h:w.ownsMap P k (plainElem P e) b n D) (hb:w'.heap[b]?=w.heap[b]?):w'.ownsMap P k (plainElem P e) b n D:=by
 obtain ⟨es,clock,h0,F,h1⟩:=h; exact ⟨es,clock,hb.trans h0,F,h1⟩
theorem ownM_ext {w':World} (h:w.ownsMap P k (plainElem P e) b n D) (x:Ext w w'):w'.ownsMap P k (plainElem P e) b n D:=ownM_same h (x.block b h.lt)
def Ones (P:Program) (k e:TypeId) (w:World) (b:Nat) (ks:List Lit):Prop:=∃ D:DataW Value,w.ownsMap P k (plainElem P e) b ks.length D∧(∀ kl ∈ ks,D.atKey kl (.lit (.int .i64 0))=.lit (.int .i64 1))∧∀ kl,kl ∉ ks → D.atKey kl (.lit (.int .i64 0))=.lit (.int .i64 0)
theorem Ones.start (P:Program) (k e:TypeId) (w:World):Ones P k e (w.alloc (.map #[] 0)) w.heap.size []:=⟨.map [],World.ownsMap_made w P k _,fun _ h=>(by cases h),fun _ _=>rfl⟩
theorem ones_more {w':World} {ks:List Lit} {kl:Lit} (h:w'.ownsMap P k (plainElem P e) b (ks.length + 1) (D.put kl (.lit (.int .i64 1)))) (hD:Maps.IsMap D) (hk:WideAt.IsKeyLit kl) (h1:∀ x ∈ ks,D.atKey x (.lit (.int .i64 0))=.lit (.int .i64 1)) (h2:∀ x,x ∉ ks → D.atKey x (.lit (.int .i64 0))=.lit (.int .i64 0)) (hn:kl ∉ ks):Ones P k e w' b (ks ++ [kl]):=by
 refine ⟨_,by rw [List.length_append]; exact h,fun x hx=>?_,fun x hx=>?_⟩
 ·by_cases hxe:x=kl
  ·subst hxe; exact Maps.atKey_put_same hD hk _ _
  ·rw [Maps.atKey_put_other hxe]
   rcases List.mem_append.1 hx with h | h
   ·exact h1 x h
   ·exact absurd (List.mem_singleton.1 h) hxe
 ·have hxe:x ≠ kl:=fun e=>hx (by simp [e])
  rw [Maps.atKey_put_other hxe]
  exact h2 x (fun e=>hx (by simp [e]))
end
theorem gr_new {wr w2 w3:World} {C:Array Value} {T:TypeId} {b:Nat} (h:Ext (wr.alloc (.cells C T)) w2) (hg:w2.grownBy w3 (some b)) (hb:b < wr.heap.size) (j:Nat) (u:Value) (hu:C[j]?=some u):w3.cell? ⟨wr.heap.size,j,none⟩=some u:=by
 have h2:=h.new j u hu
 exact hg.cell h2 fun e=>by injection e with e; simp at e; omega
theorem nodup_succ {α:Type} {β:Type} (kf:α → β) (l:List α) (k:Nat) (hk:k < l.length):((l.take (k + 1)).map kf)=(l.take k).map kf ++ [kf l[k]]:=by
 rw [List.take_succ_eq_append_getElem hk,List.map_append]; rfl
theorem nodup_bad {β:Type} {ks:List β} {x:β} {r:List β} (h:x ∈ ks):¬ (ks ++ x :: r).Nodup:=by
 intro hn
 rw [List.nodup_append] at hn
 exact hn.2.2 x h x (by simp) rfl
theorem keyedS:Keyed Tryz.prog 9:=Maps.string_keyed Tryz.underlying9
theorem keyedI:Keyed Tryz.prog 3:=Maps.int_keyed Tryz.underlying3
theorem unlU_c {α:Type} (s0:α → ByteArray) (a1:α → Option Addr) (n1 d1:α → Nat) (i2:α → Int) (i3:α → Int) (l:List α) (A:Option Addr) (c:Nat) (fi:FuncId) (cap:Array Value) (kv:α → Value) (kf:α → Lit) (bb:Bool) (w:World) (hl:l.length ≤ 140737488355328) (hE:EntF Tryz.prog fi) (hrd:Rd w A (l.flatMap fun x=>[.string (s0 x),.slice (a1 x) (n1 x) (d1 x),.int .i64 (i2 x),.int .i64 (i3 x)]))
  (hkf:∀ x ∈ l,keyOf Tryz.prog 9 (kv x)=some (kf x)) (hbb:bb=true ↔ (l.map kf).Nodup)
  (hC:∀ x ∈ l,∀ w',Ext w w' → Calls Tryz.prog fi (#[.agg #[.string (s0 x),.slice (a1 x) (n1 x) (d1 x),.int .i64 (i2 x),.int .i64 (i3 x)]] ++ cap) w' (Gives (kv x) w')) :
  Calls Tryz.prog 32 #[.slice A l.length c,.func (.func fi) #[] cap] w (Gives (.bool bb) w):=by
 have HE:Hid (∀ (args:Array Value) (w:World),(callFunc fi args).run Tryz.prog w=.ok (.enter fi args) w):=Lib.hid hE
 have HRD:=Lib.hid hrd
 have HC:=Lib.hid hC
 have HKF:=Lib.hid hkf
 have HBB:=Lib.hid hbb
 have hmm:=@run_makeMap Tryz.prog
 clear hrd hC hE hkf hbb
 go_enter Tryz.func32,Tryz.ntmps32
 go_wp2
 clear hmm
 go_loopw [11] (fun v11 wr=>∃ k:Nat,v11=.int .i64 (k:Int)∧k ≤ l.length∧Ext w wr∧Hid (Ones Tryz.prog 9 3 wr w.heap.size ((l.take k).map kf))∧Hid ((l.take k).map kf).Nodup) (fun v11 _=>l.length - (intOf v11).toNat)
 case atStart=>exact ⟨0,rfl,Nat.zero_le _,(Ext.rfl' w).al _,Lib.hid (Ones.start _ _ _ w),Lib.hid List.nodup_nil⟩
 case round =>
  obtain ⟨k,rfl,hk,hx,HO,HN⟩:=hrel
  by_cases hlt:k < l.length
  ·obtain ⟨b,g,rfl,hbl,hc⟩:=(HRD.out.ext hx).row (sz:=4) (fun _=>rfl) (by omega) hlt
   have HCK:=Lib.hid (HC.out l[k] (List.getElem_mem hlt))
   have HKK:=Lib.hid (HKF.out l[k] (List.getElem_mem hlt))
   have HS:=Lib.hid (nodup_succ kf l k hlt)
   have HALL:Hid (l.map kf=(l.take k).map kf ++ kf l[k] :: (l.drop (k + 1)).map kf):=Lib.hid (by
    conv=>lhs; rw [← List.take_append_drop k l,List.drop_eq_getElem_cons hlt,List.map_append,List.map_cons])
   have j0:(0:Int) ≤ (k:Int):=by omega
   have j1:(k:Int) < (l.length:Int):=by omega
   have hkk:IntKind.i64.wrap ((k:Int) + 1)=((k + 1:Nat):Int):=by rw [IntKind.wrap_i64]; omega
   obtain ⟨D,hown,h1,h2⟩:=HO.out
   have HM:=Lib.hid hown
   have hmlt:=hown.lt
   have H1:=Lib.hid h1
   have H2:=Lib.hid h2
   have hnk:((l.take k).map kf).length=k:=by rw [List.length_map,List.length_take]; omega
   have hnm:((l.take k).map kf).length < maxLen:=by rw [hnk]; simp only [maxLen]; omega
   have HNK:=Lib.hid hnk
   clear hnk hown h1 h2 HO
   obtain ⟨x,hxk⟩:∃ x,x=l[k]:=⟨_,rfl⟩
   rw [← hxk] at HCK HKK HS HALL hc
   clear hxk
   have k0:wr.cell? ⟨b,g + k * 4,none⟩=some (.string (s0 x)):=hc 0 _ rfl; have k1:=hc 1 _ rfl; have k2:=hc 2 _ rfl; have k3:=hc 3 _ rfl
   clear hc
   by_cases hin:kf x ∈ (l.take k).map kf
   ·have HF:Hid (bb=false):=Lib.hid (by
     rw [Bool.eq_false_iff]
     intro h
     have:=HBB.out.1 h
     rw [HALL.out] at this
     exact nodup_bad hin this)
    have HAT:=Lib.hid (H1.out _ hin)
    clear hin H1 H2 HS HALL HN
    go_wp2_with (first
     | ((with_reducible refine wpL_call1 (o:=⟨some 18,_,_,_,_,_⟩) rfl (.tmp 16) (.tmp 17) rfl ?_ ?_ (HE.out _ _) (HCK.out _ (hx.tr ((Ext.rfl' wr).al _))) ?_); (exact rfl); (exact rfl); rintro e w2 ⟨rfl,hx2⟩; refine ⟨_,rfl,?_⟩; have M2:=Lib.hid (ownM_ext HM.out (w':=w2) (by (repeat first | exact Ex0 | assumption | refine Ex1 ?_ | refine Ex2 ?_ | refine Ex3 ?_ | refine Ex4 ?_ | refine Ex5 ?_))))
     | ((with_reducible refine wpL_cnt (o:=⟨some 19,_,_,_,_,_⟩) rfl (.tmp 15) (.tmp 18) 145 rfl keyedS Tryz.underlying145 Tryz.underlying3 (Tryz.zeroValue3 _) ?_ ?_ M2.out HKK.out 1 HAT.out ?_); (exact rfl); (exact rfl))
     | (at_mapUpdate; refine wpList_mapUpdate_own _ rfl _ _ _ 145 rfl 9 3 keyedS Tryz.underlying145 (plainElem Tryz.prog 3) _ _ _ rfl M2.out hnm _ _ _ rfl rfl HKK.out _ [] (plainElem_int Tryz.underlying3 (by decide)) ?_; intro w3 hown3 hg3; have M3:=Lib.hid hown3; have G3:=Lib.hid hg3; have e3:Ext w w3:=Ext.gr (a:=w) (by (repeat first | exact Ex0 | assumption | refine Ex1 ?_ | refine Ex2 ?_ | refine Ex3 ?_ | refine Ex4 ?_ | refine Ex5 ?_)) hg3 (fun i hi=>by injection hi with hi; omega); have q0:=gr_new hx2 G3.out hmlt 0 _ rfl; have q1:=gr_new hx2 G3.out hmlt 1 _ rfl; have q2:=gr_new hx2 G3.out hmlt 2 _ rfl; have q3:=gr_new hx2 G3.out hmlt 3 _ rfl; clear hown3 hg3)
     | ((with_reducible refine wpL_call1 (o:=⟨some 24,_,_,_,_,_⟩) rfl (.tmp 22) (.tmp 23) rfl ?_ ?_ (HE.out _ _) (HCK.out _ e3) ?_); (exact rfl); (exact rfl); rintro e w4 ⟨rfl,hx4⟩; refine ⟨_,rfl,?_⟩; have M4:=Lib.hid (ownM_ext M3.out hx4))
     | ((with_reducible refine wpL_cnt (o:=⟨some 25,_,_,_,_,_⟩) rfl (.tmp 21) (.tmp 24) 145 rfl keyedS Tryz.underlying145 Tryz.underlying3 (Tryz.zeroValue3 _) ?_ ?_ M4.out HKK.out 2 (Maps.atKey_put_same HM.out.isMap (keyedS.key HKK.out) _ _) ?_); (exact rfl); (exact rfl)))
    go_ret
    exact ⟨ret_bool HF.out.symm,e3.tr hx4⟩
   ·have HAT:=Lib.hid (H2.out _ hin)
    have HNI:=Lib.hid hin
    clear hin HALL
    go_wp2_with (first
     | ((with_reducible refine wpL_call1 (o:=⟨some 18,_,_,_,_,_⟩) rfl (.tmp 16) (.tmp 17) rfl ?_ ?_ (HE.out _ _) (HCK.out _ (hx.tr ((Ext.rfl' wr).al _))) ?_); (exact rfl); (exact rfl); rintro e w2 ⟨rfl,hx2⟩; refine ⟨_,rfl,?_⟩; have M2:=Lib.hid (ownM_ext HM.out (w':=w2) (by (repeat first | exact Ex0 | assumption | refine Ex1 ?_ | refine Ex2 ?_ | refine Ex3 ?_ | refine Ex4 ?_ | refine Ex5 ?_))))
     | ((with_reducible refine wpL_cnt (o:=⟨some 19,_,_,_,_,_⟩) rfl (.tmp 15) (.tmp 18) 145 rfl keyedS Tryz.underlying145 Tryz.underlying3 (Tryz.zeroValue3 _) ?_ ?_ M2.out HKK.out 0 HAT.out ?_); (exact rfl); (exact rfl))
     | (at_mapUpdate; refine wpList_mapUpdate_own _ rfl _ _ _ 145 rfl 9 3 keyedS Tryz.underlying145 (plainElem Tryz.prog 3) _ _ _ rfl M2.out hnm _ _ _ rfl rfl HKK.out _ [] (plainElem_int Tryz.underlying3 (by decide)) ?_; intro w3 hown3 hg3; have M3:=Lib.hid hown3; have G3:=Lib.hid hg3; have e3:Ext w w3:=Ext.gr (a:=w) (by (repeat first | exact Ex0 | assumption | refine Ex1 ?_ | refine Ex2 ?_ | refine Ex3 ?_ | refine Ex4 ?_ | refine Ex5 ?_)) hg3 (fun i hi=>by injection hi with hi; omega); have q0:=gr_new hx2 G3.out hmlt 0 _ rfl; have q1:=gr_new hx2 G3.out hmlt 1 _ rfl; have q2:=gr_new hx2 G3.out hmlt 2 _ rfl; have q3:=gr_new hx2 G3.out hmlt 3 _ rfl; clear hown3 hg3)
     | ((with_reducible refine wpL_call1 (o:=⟨some 24,_,_,_,_,_⟩) rfl (.tmp 22) (.tmp 23) rfl ?_ ?_ (HE.out _ _) (HCK.out _ e3) ?_); (exact rfl); (exact rfl); rintro e w4 ⟨rfl,hx4⟩; refine ⟨_,rfl,?_⟩; have M4:=Lib.hid (ownM_ext M3.out hx4))
     | ((with_reducible refine wpL_cnt (o:=⟨some 25,_,_,_,_,_⟩) rfl (.tmp 21) (.tmp 24) 145 rfl keyedS Tryz.underlying145 Tryz.underlying3 (Tryz.zeroValue3 _) ?_ ?_ M4.out HKK.out 1 (Maps.atKey_put_same HM.out.isMap (keyedS.key HKK.out) _ _) ?_); (exact rfl); (exact rfl)))
    go_roundw
    case rel =>
     refine ⟨k + 1,rfl,by omega,e3.tr hx4,Lib.hid ?_,Lib.hid ?_⟩
     ·rw [HS.out]
      exact ones_more M4.out HM.out.isMap (keyedS.key HKK.out) H1.out H2.out HNI.out
     ·rw [HS.out,List.nodup_append]
      exact ⟨HN.out,by simp,fun a ha b hb e=>HNI.out (by rw [List.mem_singleton] at hb; rw [← hb,← e]; exact ha)⟩
    case measure=>simp [intOf]; omega
  ·have HT:Hid (bb=true):=Lib.hid (HBB.out.2 (by have:=HN.out; rwa [List.take_of_length_le (by omega)] at this))
   clear HN HO
   go_wp2
   go_ret
   exact ⟨ret_bool HT.out.symm,hx⟩
theorem unlP_c {α:Type} (i0:α → Int) (i1:α → Int) (l:List α) (A:Option Addr) (c:Nat) (fi:FuncId) (cap:Array Value) (kv:α → Value) (kf:α → Lit) (bb:Bool) (w:World) (hl:l.length ≤ 140737488355328) (hE:EntF Tryz.prog fi) (hrd:Rd w A (l.flatMap fun x=>[.int .i64 (i0 x),.int .i64 (i1 x)]))
  (hkf:∀ x ∈ l,keyOf Tryz.prog 3 (kv x)=some (kf x)) (hbb:bb=true ↔ (l.map kf).Nodup)
  (hC:∀ x ∈ l,∀ w',Ext w w' → Calls Tryz.prog fi (#[.agg #[.int .i64 (i0 x),.int .i64 (i1 x)]] ++ cap) w' (Gives (kv x) w')) :
  Calls Tryz.prog 74 #[.slice A l.length c,.func (.func fi) #[] cap] w (Gives (.bool bb) w):=by
 have HE:Hid (∀ (args:Array Value) (w:World),(callFunc fi args).run Tryz.prog w=.ok (.enter fi args) w):=Lib.hid hE
 have HRD:=Lib.hid hrd
 have HC:=Lib.hid hC
 have HKF:=Lib.hid hkf
 have HBB:=Lib.hid hbb
 have hmm:=@run_makeMap Tryz.prog
 clear hrd hC hE hkf hbb
 go_enter Tryz.func74,Tryz.ntmps74
 go_wp2
 clear hmm
 go_loopw [11] (fun v11 wr=>∃ k:Nat,v11=.int .i64 (k:Int)∧k ≤ l.length∧Ext w wr∧Hid (Ones Tryz.prog 3 3 wr w.heap.size ((l.take k).map kf))∧Hid ((l.take k).map kf).Nodup) (fun v11 _=>l.length - (intOf v11).toNat)
 case atStart=>exact ⟨0,rfl,Nat.zero_le _,(Ext.rfl' w).al _,Lib.hid (Ones.start _ _ _ w),Lib.hid List.nodup_nil⟩
 case round =>
  obtain ⟨k,rfl,hk,hx,HO,HN⟩:=hrel
  by_cases hlt:k < l.length
  ·obtain ⟨b,g,rfl,hbl,hc⟩:=(HRD.out.ext hx).row (sz:=2) (fun _=>rfl) (by omega) hlt
   have HCK:=Lib.hid (HC.out l[k] (List.getElem_mem hlt))
   have HKK:=Lib.hid (HKF.out l[k] (List.getElem_mem hlt))
   have HS:=Lib.hid (nodup_succ kf l k hlt)
   have HALL:Hid (l.map kf=(l.take k).map kf ++ kf l[k] :: (l.drop (k + 1)).map kf):=Lib.hid (by
    conv=>lhs; rw [← List.take_append_drop k l,List.drop_eq_getElem_cons hlt,List.map_append,List.map_cons])
   have j0:(0:Int) ≤ (k:Int):=by omega
   have j1:(k:Int) < (l.length:Int):=by omega
   have hkk:IntKind.i64.wrap ((k:Int) + 1)=((k + 1:Nat):Int):=by rw [IntKind.wrap_i64]; omega
   obtain ⟨D,hown,h1,h2⟩:=HO.out
   have HM:=Lib.hid hown
   have hmlt:=hown.lt
   have H1:=Lib.hid h1
   have H2:=Lib.hid h2
   have hnk:((l.take k).map kf).length=k:=by rw [List.length_map,List.length_take]; omega
   have hnm:((l.take k).map kf).length < maxLen:=by rw [hnk]; simp only [maxLen]; omega
   have HNK:=Lib.hid hnk
   clear hnk hown h1 h2 HO
   obtain ⟨x,hxk⟩:∃ x,x=l[k]:=⟨_,rfl⟩
   rw [← hxk] at HCK HKK HS HALL hc
   clear hxk
   have k0:wr.cell? ⟨b,g + k * 2,none⟩=some (.int .i64 (i0 x)):=hc 0 _ rfl; have k1:=hc 1 _ rfl
   clear hc
   by_cases hin:kf x ∈ (l.take k).map kf
   ·have HF:Hid (bb=false):=Lib.hid (by
     rw [Bool.eq_false_iff]
     intro h
     have:=HBB.out.1 h
     rw [HALL.out] at this
     exact nodup_bad hin this)
    have HAT:=Lib.hid (H1.out _ hin)
    clear hin H1 H2 HS HALL HN
    go_wp2_with (first
     | ((with_reducible refine wpL_call1 (o:=⟨some 18,_,_,_,_,_⟩) rfl (.tmp 16) (.tmp 17) rfl ?_ ?_ (HE.out _ _) (HCK.out _ (hx.tr ((Ext.rfl' wr).al _))) ?_); (exact rfl); (exact rfl); rintro e w2 ⟨rfl,hx2⟩; refine ⟨_,rfl,?_⟩; have M2:=Lib.hid (ownM_ext HM.out (w':=w2) (by (repeat first | exact Ex0 | assumption | refine Ex1 ?_ | refine Ex2 ?_ | refine Ex3 ?_ | refine Ex4 ?_ | refine Ex5 ?_))))
     | ((with_reducible refine wpL_cnt (o:=⟨some 19,_,_,_,_,_⟩) rfl (.tmp 15) (.tmp 18) 174 rfl keyedI Tryz.underlying174 Tryz.underlying3 (Tryz.zeroValue3 _) ?_ ?_ M2.out HKK.out 1 HAT.out ?_); (exact rfl); (exact rfl))
     | (at_mapUpdate; refine wpList_mapUpdate_own _ rfl _ _ _ 174 rfl 3 3 keyedI Tryz.underlying174 (plainElem Tryz.prog 3) _ _ _ rfl M2.out hnm _ _ _ rfl rfl HKK.out _ [] (plainElem_int Tryz.underlying3 (by decide)) ?_; intro w3 hown3 hg3; have M3:=Lib.hid hown3; have G3:=Lib.hid hg3; have e3:Ext w w3:=Ext.gr (a:=w) (by (repeat first | exact Ex0 | assumption | refine Ex1 ?_ | refine Ex2 ?_ | refine Ex3 ?_ | refine Ex4 ?_ | refine Ex5 ?_)) hg3 (fun i hi=>by injection hi with hi; omega); have q0:=gr_new hx2 G3.out hmlt 0 _ rfl; have q1:=gr_new hx2 G3.out hmlt 1 _ rfl; clear hown3 hg3)
     | ((with_reducible refine wpL_call1 (o:=⟨some 24,_,_,_,_,_⟩) rfl (.tmp 22) (.tmp 23) rfl ?_ ?_ (HE.out _ _) (HCK.out _ e3) ?_); (exact rfl); (exact rfl); rintro e w4 ⟨rfl,hx4⟩; refine ⟨_,rfl,?_⟩; have M4:=Lib.hid (ownM_ext M3.out hx4))
     | ((with_reducible refine wpL_cnt (o:=⟨some 25,_,_,_,_,_⟩) rfl (.tmp 21) (.tmp 24) 174 rfl keyedI Tryz.underlying174 Tryz.underlying3 (Tryz.zeroValue3 _) ?_ ?_ M4.out HKK.out 2 (Maps.atKey_put_same HM.out.isMap (keyedI.key HKK.out) _ _) ?_); (exact rfl); (exact rfl)))
    go_ret
    exact ⟨ret_bool HF.out.symm,e3.tr hx4⟩
   ·have HAT:=Lib.hid (H2.out _ hin)
    have HNI:=Lib.hid hin
    clear hin HALL
    go_wp2_with (first
     | ((with_reducible refine wpL_call1 (o:=⟨some 18,_,_,_,_,_⟩) rfl (.tmp 16) (.tmp 17) rfl ?_ ?_ (HE.out _ _) (HCK.out _ (hx.tr ((Ext.rfl' wr).al _))) ?_); (exact rfl); (exact rfl); rintro e w2 ⟨rfl,hx2⟩; refine ⟨_,rfl,?_⟩; have M2:=Lib.hid (ownM_ext HM.out (w':=w2) (by (repeat first | exact Ex0 | assumption | refine Ex1 ?_ | refine Ex2 ?_ | refine Ex3 ?_ | refine Ex4 ?_ | refine Ex5 ?_))))
     | ((with_reducible refine wpL_cnt (o:=⟨some 19,_,_,_,_,_⟩) rfl (.tmp 15) (.tmp 18) 174 rfl keyedI Tryz.underlying174 Tryz.underlying3 (Tryz.zeroValue3 _) ?_ ?_ M2.out HKK.out 0 HAT.out ?_); (exact rfl); (exact rfl))
     | (at_mapUpdate; refine wpList_mapUpdate_own _ rfl _ _ _ 174 rfl 3 3 keyedI Tryz.underlying174 (plainElem Tryz.prog 3) _ _ _ rfl M2.out hnm _ _ _ rfl rfl HKK.out _ [] (plainElem_int Tryz.underlying3 (by decide)) ?_; intro w3 hown3 hg3; have M3:=Lib.hid hown3; have G3:=Lib.hid hg3; have e3:Ext w w3:=Ext.gr (a:=w) (by (repeat first | exact Ex0 | assumption | refine Ex1 ?_ | refine Ex2 ?_ | refine Ex3 ?_ | refine Ex4 ?_ | refine Ex5 ?_)) hg3 (fun i hi=>by injection hi with hi; omega); have q0:=gr_new hx2 G3.out hmlt 0 _ rfl; have q1:=gr_new hx2 G3.out hmlt 1 _ rfl; clear hown3 hg3)
     | ((with_reducible refine wpL_call1 (o:=⟨some 24,_,_,_,_,_⟩) rfl (.tmp 22) (.tmp 23) rfl ?_ ?_ (HE.out _ _) (HCK.out _ e3) ?_); (exact rfl); (exact rfl); rintro e w4 ⟨rfl,hx4⟩; refine ⟨_,rfl,?_⟩; have M4:=Lib.hid (ownM_ext M3.out hx4))
     | ((with_reducible refine wpL_cnt (o:=⟨some 25,_,_,_,_,_⟩) rfl (.tmp 21) (.tmp 24) 174 rfl keyedI Tryz.underlying174 Tryz.underlying3 (Tryz.zeroValue3 _) ?_ ?_ M4.out HKK.out 1 (Maps.atKey_put_same HM.out.isMap (keyedI.key HKK.out) _ _) ?_); (exact rfl); (exact rfl)))
    go_roundw
    case rel =>
     refine ⟨k + 1,rfl,by omega,e3.tr hx4,Lib.hid ?_,Lib.hid ?_⟩
     ·rw [HS.out]
      exact ones_more M4.out HM.out.isMap (keyedI.key HKK.out) H1.out H2.out HNI.out
     ·rw [HS.out,List.nodup_append]
      exact ⟨HN.out,by simp,fun a ha b hb e=>HNI.out (by rw [List.mem_singleton] at hb; rw [← hb,← e]; exact ha)⟩
    case measure=>simp [intOf]; omega
  ·have HT:Hid (bb=true):=Lib.hid (HBB.out.2 (by have:=HN.out; rwa [List.take_of_length_le (by omega)] at this))
   clear HN HO
   go_wp2
   go_ret
   exact ⟨ret_bool HT.out.symm,hx⟩
theorem unlT_c {α:Type} (s0:α → ByteArray) (l:List α) (A:Option Addr) (c:Nat) (fi:FuncId) (cap:Array Value) (kv:α → Value) (kf:α → Lit) (bb:Bool) (w:World) (hl:l.length ≤ 140737488355328) (hE:EntF Tryz.prog fi) (hrd:Rd w A (l.flatMap fun x=>[.string (s0 x)]))
  (hkf:∀ x ∈ l,keyOf Tryz.prog 9 (kv x)=some (kf x)) (hbb:bb=true ↔ (l.map kf).Nodup)
  (hC:∀ x ∈ l,∀ w',Ext w w' → Calls Tryz.prog fi (#[.string (s0 x)] ++ cap) w' (Gives (kv x) w')) :
  Calls Tryz.prog 37 #[.slice A l.length c,.func (.func fi) #[] cap] w (Gives (.bool bb) w):=by
 have HE:Hid (∀ (args:Array Value) (w:World),(callFunc fi args).run Tryz.prog w=.ok (.enter fi args) w):=Lib.hid hE
 have HRD:=Lib.hid hrd
 have HC:=Lib.hid hC
 have HKF:=Lib.hid hkf
 have HBB:=Lib.hid hbb
 have hmm:=@run_makeMap Tryz.prog
 clear hrd hC hE hkf hbb
 go_enter Tryz.func37,Tryz.ntmps37
 go_wp2
 clear hmm
 go_loopw [11] (fun v11 wr=>∃ k:Nat,v11=.int .i64 (k:Int)∧k ≤ l.length∧Ext w wr∧Hid (Ones Tryz.prog 9 3 wr w.heap.size ((l.take k).map kf))∧Hid ((l.take k).map kf).Nodup) (fun v11 _=>l.length - (intOf v11).toNat)
 case atStart=>exact ⟨0,rfl,Nat.zero_le _,(Ext.rfl' w).al _,Lib.hid (Ones.start _ _ _ w),Lib.hid List.nodup_nil⟩
 case round =>
  obtain ⟨k,rfl,hk,hx,HO,HN⟩:=hrel
  by_cases hlt:k < l.length
  ·obtain ⟨b,g,rfl,hbl,hc⟩:=(HRD.out.ext hx).row (sz:=1) (fun _=>rfl) (by omega) hlt
   have HCK:=Lib.hid (HC.out l[k] (List.getElem_mem hlt))
   have HKK:=Lib.hid (HKF.out l[k] (List.getElem_mem hlt))
   have HS:=Lib.hid (nodup_succ kf l k hlt)
   have HALL:Hid (l.map kf=(l.take k).map kf ++ kf l[k] :: (l.drop (k + 1)).map kf):=Lib.hid (by
    conv=>lhs; rw [← List.take_append_drop k l,List.drop_eq_getElem_cons hlt,List.map_append,List.map_cons])
   have j0:(0:Int) ≤ (k:Int):=by omega
   have j1:(k:Int) < (l.length:Int):=by omega
   have hkk:IntKind.i64.wrap ((k:Int) + 1)=((k + 1:Nat):Int):=by rw [IntKind.wrap_i64]; omega
   obtain ⟨D,hown,h1,h2⟩:=HO.out
   have HM:=Lib.hid hown
   have hmlt:=hown.lt
   have H1:=Lib.hid h1
   have H2:=Lib.hid h2
   have hnk:((l.take k).map kf).length=k:=by rw [List.length_map,List.length_take]; omega
   have hnm:((l.take k).map kf).length < maxLen:=by rw [hnk]; simp only [maxLen]; omega
   have HNK:=Lib.hid hnk
   clear hnk hown h1 h2 HO
   obtain ⟨x,hxk⟩:∃ x,x=l[k]:=⟨_,rfl⟩
   rw [← hxk] at HCK HKK HS HALL hc
   clear hxk
   have k0:wr.cell? ⟨b,g + k,none⟩=some (.string (s0 x)):=by have:=hc 0 _ rfl; rwa [Nat.mul_one,Nat.add_zero] at this
   clear hc
   by_cases hin:kf x ∈ (l.take k).map kf
   ·have HF:Hid (bb=false):=Lib.hid (by
     rw [Bool.eq_false_iff]
     intro h
     have:=HBB.out.1 h
     rw [HALL.out] at this
     exact nodup_bad hin this)
    have HAT:=Lib.hid (H1.out _ hin)
    clear hin H1 H2 HS HALL HN
    go_wp2_with (first
     | ((with_reducible refine wpL_call1 (o:=⟨some 18,_,_,_,_,_⟩) rfl (.tmp 16) (.tmp 17) rfl ?_ ?_ (HE.out _ _) (HCK.out _ hx) ?_); (exact rfl); (exact rfl); rintro e w2 ⟨rfl,hx2⟩; refine ⟨_,rfl,?_⟩; have M2:=Lib.hid (ownM_ext HM.out (w':=w2) (by (repeat first | exact Ex0 | assumption | refine Ex1 ?_ | refine Ex2 ?_ | refine Ex3 ?_ | refine Ex4 ?_ | refine Ex5 ?_))))
     | ((with_reducible refine wpL_cnt (o:=⟨some 19,_,_,_,_,_⟩) rfl (.tmp 15) (.tmp 18) 145 rfl keyedS Tryz.underlying145 Tryz.underlying3 (Tryz.zeroValue3 _) ?_ ?_ M2.out HKK.out 1 HAT.out ?_); (exact rfl); (exact rfl))
     | (at_mapUpdate; refine wpList_mapUpdate_own _ rfl _ _ _ 145 rfl 9 3 keyedS Tryz.underlying145 (plainElem Tryz.prog 3) _ _ _ rfl M2.out hnm _ _ _ rfl rfl HKK.out _ [] (plainElem_int Tryz.underlying3 (by decide)) ?_; intro w3 hown3 hg3; have M3:=Lib.hid hown3; have G3:=Lib.hid hg3; have e3:Ext w w3:=Ext.gr (a:=w) (by (repeat first | exact Ex0 | assumption | refine Ex1 ?_ | refine Ex2 ?_ | refine Ex3 ?_ | refine Ex4 ?_ | refine Ex5 ?_)) hg3 (fun i hi=>by injection hi with hi; omega); skip; clear hown3 hg3)
     | ((with_reducible refine wpL_call1 (o:=⟨some 24,_,_,_,_,_⟩) rfl (.tmp 22) (.tmp 23) rfl ?_ ?_ (HE.out _ _) (HCK.out _ e3) ?_); (exact rfl); (exact rfl); rintro e w4 ⟨rfl,hx4⟩; refine ⟨_,rfl,?_⟩; have M4:=Lib.hid (ownM_ext M3.out hx4))
     | ((with_reducible refine wpL_cnt (o:=⟨some 25,_,_,_,_,_⟩) rfl (.tmp 21) (.tmp 24) 145 rfl keyedS Tryz.underlying145 Tryz.underlying3 (Tryz.zeroValue3 _) ?_ ?_ M4.out HKK.out 2 (Maps.atKey_put_same HM.out.isMap (keyedS.key HKK.out) _ _) ?_); (exact rfl); (exact rfl)))
    go_ret
    exact ⟨ret_bool HF.out.symm,e3.tr hx4⟩
   ·have HAT:=Lib.hid (H2.out _ hin)
    have HNI:=Lib.hid hin
    clear hin HALL
    go_wp2_with (first
     | ((with_reducible refine wpL_call1 (o:=⟨some 18,_,_,_,_,_⟩) rfl (.tmp 16) (.tmp 17) rfl ?_ ?_ (HE.out _ _) (HCK.out _ hx) ?_); (exact rfl); (exact rfl); rintro e w2 ⟨rfl,hx2⟩; refine ⟨_,rfl,?_⟩; have M2:=Lib.hid (ownM_ext HM.out (w':=w2) (by (repeat first | exact Ex0 | assumption | refine Ex1 ?_ | refine Ex2 ?_ | refine Ex3 ?_ | refine Ex4 ?_ | refine Ex5 ?_))))
     | ((with_reducible refine wpL_cnt (o:=⟨some 19,_,_,_,_,_⟩) rfl (.tmp 15) (.tmp 18) 145 rfl keyedS Tryz.underlying145 Tryz.underlying3 (Tryz.zeroValue3 _) ?_ ?_ M2.out HKK.out 0 HAT.out ?_); (exact rfl); (exact rfl))
     | (at_mapUpdate; refine wpList_mapUpdate_own _ rfl _ _ _ 145 rfl 9 3 keyedS Tryz.underlying145 (plainElem Tryz.prog 3) _ _ _ rfl M2.out hnm _ _ _ rfl rfl HKK.out _ [] (plainElem_int Tryz.underlying3 (by decide)) ?_; intro w3 hown3 hg3; have M3:=Lib.hid hown3; have G3:=Lib.hid hg3; have e3:Ext w w3:=Ext.gr (a:=w) (by (repeat first | exact Ex0 | assumption | refine Ex1 ?_ | refine Ex2 ?_ | refine Ex3 ?_ | refine Ex4 ?_ | refine Ex5 ?_)) hg3 (fun i hi=>by injection hi with hi; omega); skip; clear hown3 hg3)
     | ((with_reducible refine wpL_call1 (o:=⟨some 24,_,_,_,_,_⟩) rfl (.tmp 22) (.tmp 23) rfl ?_ ?_ (HE.out _ _) (HCK.out _ e3) ?_); (exact rfl); (exact rfl); rintro e w4 ⟨rfl,hx4⟩; refine ⟨_,rfl,?_⟩; have M4:=Lib.hid (ownM_ext M3.out hx4))
     | ((with_reducible refine wpL_cnt (o:=⟨some 25,_,_,_,_,_⟩) rfl (.tmp 21) (.tmp 24) 145 rfl keyedS Tryz.underlying145 Tryz.underlying3 (Tryz.zeroValue3 _) ?_ ?_ M4.out HKK.out 1 (Maps.atKey_put_same HM.out.isMap (keyedS.key HKK.out) _ _) ?_); (exact rfl); (exact rfl)))
    go_roundw
    case rel =>
     refine ⟨k + 1,rfl,by omega,e3.tr hx4,Lib.hid ?_,Lib.hid ?_⟩
     ·rw [HS.out]
      exact ones_more M4.out HM.out.isMap (keyedS.key HKK.out) H1.out H2.out HNI.out
     ·rw [HS.out,List.nodup_append]
      exact ⟨HN.out,by simp,fun a ha b hb e=>HNI.out (by rw [List.mem_singleton] at hb; rw [← hb,← e]; exact ha)⟩
    case measure=>simp [intOf]; omega
  ·have HT:Hid (bb=true):=Lib.hid (HBB.out.2 (by have:=HN.out; rwa [List.take_of_length_le (by omega)] at this))
   clear HN HO
   go_wp2
   go_ret
   exact ⟨ret_bool HT.out.symm,hx⟩
theorem unlL_c {α:Type} (s0:α → ByteArray) (i1:α → Int) (s2:α → ByteArray) (s3:α → ByteArray) (i4:α → Int) (i5:α → Int) (s6:α → ByteArray) (b7:α → Bool) (i8:α → Int) (i9:α → Int) (i10:α → Int) (s11:α → ByteArray) (l:List α) (A:Option Addr) (c:Nat) (fi:FuncId) (cap:Array Value) (kv:α → Value) (kf:α → Lit) (bb:Bool) (w:World) (hl:l.length ≤ 140737488355328) (hE:EntF Tryz.prog fi) (hrd:Rd w A (l.flatMap fun x=>[.string (s0 x),.int .i64 (i1 x),.string (s2 x),.string (s3 x),.int .i64 (i4 x),.int .i64 (i5 x),.string (s6 x),.bool (b7 x),.int .i64 (i8 x),.int .i64 (i9 x),.int .i64 (i10 x),.string (s11 x)]))
  (hkf:∀ x ∈ l,keyOf Tryz.prog 9 (kv x)=some (kf x)) (hbb:bb=true ↔ (l.map kf).Nodup)
  (hC:∀ x ∈ l,∀ w',Ext w w' → Calls Tryz.prog fi (#[.agg #[.string (s0 x),.int .i64 (i1 x),.string (s2 x),.string (s3 x),.int .i64 (i4 x),.int .i64 (i5 x),.string (s6 x),.bool (b7 x),.int .i64 (i8 x),.int .i64 (i9 x),.int .i64 (i10 x),.string (s11 x)]] ++ cap) w' (Gives (kv x) w')) :
  Calls Tryz.prog 83 #[.slice A l.length c,.func (.func fi) #[] cap] w (Gives (.bool bb) w):=by
 have HE:Hid (∀ (args:Array Value) (w:World),(callFunc fi args).run Tryz.prog w=.ok (.enter fi args) w):=Lib.hid hE
 have HRD:=Lib.hid hrd
 have HC:=Lib.hid hC
 have HKF:=Lib.hid hkf
 have HBB:=Lib.hid hbb
 have hmm:=@run_makeMap Tryz.prog
 clear hrd hC hE hkf hbb
 go_enter Tryz.func83,Tryz.ntmps83
 go_wp2
 clear hmm
 go_loopw [11] (fun v11 wr=>∃ k:Nat,v11=.int .i64 (k:Int)∧k ≤ l.length∧Ext w wr∧Hid (Ones Tryz.prog 9 3 wr w.heap.size ((l.take k).map kf))∧Hid ((l.take k).map kf).Nodup) (fun v11 _=>l.length - (intOf v11).toNat)
 case atStart=>exact ⟨0,rfl,Nat.zero_le _,(Ext.rfl' w).al _,Lib.hid (Ones.start _ _ _ w),Lib.hid List.nodup_nil⟩
 case round =>
  obtain ⟨k,rfl,hk,hx,HO,HN⟩:=hrel
  by_cases hlt:k < l.length
  ·obtain ⟨b,g,rfl,hbl,hc⟩:=(HRD.out.ext hx).row (sz:=12) (fun _=>rfl) (by omega) hlt
   have HCK:=Lib.hid (HC.out l[k] (List.getElem_mem hlt))
   have HKK:=Lib.hid (HKF.out l[k] (List.getElem_mem hlt))
   have HS:=Lib.hid (nodup_succ kf l k hlt)
   have HALL:Hid (l.map kf=(l.take k).map kf ++ kf l[k] :: (l.drop (k + 1)).map kf):=Lib.hid (by
    conv=>lhs; rw [← List.take_append_drop k l,List.drop_eq_getElem_cons hlt,List.map_append,List.map_cons])
   have j0:(0:Int) ≤ (k:Int):=by omega
   have j1:(k:Int) < (l.length:Int):=by omega
   have hkk:IntKind.i64.wrap ((k:Int) + 1)=((k + 1:Nat):Int):=by rw [IntKind.wrap_i64]; omega
   obtain ⟨D,hown,h1,h2⟩:=HO.out
   have HM:=Lib.hid hown
   have hmlt:=hown.lt
   have H1:=Lib.hid h1
   have H2:=Lib.hid h2
   have hnk:((l.take k).map kf).length=k:=by rw [List.length_map,List.length_take]; omega
   have hnm:((l.take k).map kf).length < maxLen:=by rw [hnk]; simp only [maxLen]; omega
   have HNK:=Lib.hid hnk
   clear hnk hown h1 h2 HO
   obtain ⟨x,hxk⟩:∃ x,x=l[k]:=⟨_,rfl⟩
   rw [← hxk] at HCK HKK HS HALL hc
   clear hxk
   have k0:wr.cell? ⟨b,g + k * 12,none⟩=some (.string (s0 x)):=hc 0 _ rfl; have k1:=hc 1 _ rfl; have k2:=hc 2 _ rfl; have k3:=hc 3 _ rfl; have k4:=hc 4 _ rfl; have k5:=hc 5 _ rfl; have k6:=hc 6 _ rfl; have k7:=hc 7 _ rfl; have k8:=hc 8 _ rfl; have k9:=hc 9 _ rfl; have k10:=hc 10 _ rfl; have k11:=hc 11 _ rfl
   clear hc
   by_cases hin:kf x ∈ (l.take k).map kf
   ·have HF:Hid (bb=false):=Lib.hid (by
     rw [Bool.eq_false_iff]
     intro h
     have:=HBB.out.1 h
     rw [HALL.out] at this
     exact nodup_bad hin this)
    have HAT:=Lib.hid (H1.out _ hin)
    clear hin H1 H2 HS HALL HN
    go_wp2_with (first
     | ((with_reducible refine wpL_call1 (o:=⟨some 18,_,_,_,_,_⟩) rfl (.tmp 16) (.tmp 17) rfl ?_ ?_ (HE.out _ _) (HCK.out _ (hx.tr ((Ext.rfl' wr).al _))) ?_); (exact rfl); (exact rfl); rintro e w2 ⟨rfl,hx2⟩; refine ⟨_,rfl,?_⟩; have M2:=Lib.hid (ownM_ext HM.out (w':=w2) (by (repeat first | exact Ex0 | assumption | refine Ex1 ?_ | refine Ex2 ?_ | refine Ex3 ?_ | refine Ex4 ?_ | refine Ex5 ?_))))
     | ((with_reducible refine wpL_cnt (o:=⟨some 19,_,_,_,_,_⟩) rfl (.tmp 15) (.tmp 18) 145 rfl keyedS Tryz.underlying145 Tryz.underlying3 (Tryz.zeroValue3 _) ?_ ?_ M2.out HKK.out 1 HAT.out ?_); (exact rfl); (exact rfl))
     | (at_mapUpdate; refine wpList_mapUpdate_own _ rfl _ _ _ 145 rfl 9 3 keyedS Tryz.underlying145 (plainElem Tryz.prog 3) _ _ _ rfl M2.out hnm _ _ _ rfl rfl HKK.out _ [] (plainElem_int Tryz.underlying3 (by decide)) ?_; intro w3 hown3 hg3; have M3:=Lib.hid hown3; have G3:=Lib.hid hg3; have e3:Ext w w3:=Ext.gr (a:=w) (by (repeat first | exact Ex0 | assumption | refine Ex1 ?_ | refine Ex2 ?_ | refine Ex3 ?_ | refine Ex4 ?_ | refine Ex5 ?_)) hg3 (fun i hi=>by injection hi with hi; omega); have q0:=gr_new hx2 G3.out hmlt 0 _ rfl; have q1:=gr_new hx2 G3.out hmlt 1 _ rfl; have q2:=gr_new hx2 G3.out hmlt 2 _ rfl; have q3:=gr_new hx2 G3.out hmlt 3 _ rfl; have q4:=gr_new hx2 G3.out hmlt 4 _ rfl; have q5:=gr_new hx2 G3.out hmlt 5 _ rfl; have q6:=gr_new hx2 G3.out hmlt 6 _ rfl; have q7:=gr_new hx2 G3.out hmlt 7 _ rfl; have q8:=gr_new hx2 G3.out hmlt 8 _ rfl; have q9:=gr_new hx2 G3.out hmlt 9 _ rfl; have q10:=gr_new hx2 G3.out hmlt 10 _ rfl; have q11:=gr_new hx2 G3.out hmlt 11 _ rfl; clear hown3 hg3)
     | ((with_reducible refine wpL_call1 (o:=⟨some 24,_,_,_,_,_⟩) rfl (.tmp 22) (.tmp 23) rfl ?_ ?_ (HE.out _ _) (HCK.out _ e3) ?_); (exact rfl); (exact rfl); rintro e w4 ⟨rfl,hx4⟩; refine ⟨_,rfl,?_⟩; have M4:=Lib.hid (ownM_ext M3.out hx4))
     | ((with_reducible refine wpL_cnt (o:=⟨some 25,_,_,_,_,_⟩) rfl (.tmp 21) (.tmp 24) 145 rfl keyedS Tryz.underlying145 Tryz.underlying3 (Tryz.zeroValue3 _) ?_ ?_ M4.out HKK.out 2 (Maps.atKey_put_same HM.out.isMap (keyedS.key HKK.out) _ _) ?_); (exact rfl); (exact rfl)))
    go_ret
    exact ⟨ret_bool HF.out.symm,e3.tr hx4⟩
   ·have HAT:=Lib.hid (H2.out _ hin)
    have HNI:=Lib.hid hin
    clear hin HALL
    go_wp2_with (first
     | ((with_reducible refine wpL_call1 (o:=⟨some 18,_,_,_,_,_⟩) rfl (.tmp 16) (.tmp 17) rfl ?_ ?_ (HE.out _ _) (HCK.out _ (hx.tr ((Ext.rfl' wr).al _))) ?_); (exact rfl); (exact rfl); rintro e w2 ⟨rfl,hx2⟩; refine ⟨_,rfl,?_⟩; have M2:=Lib.hid (ownM_ext HM.out (w':=w2) (by (repeat first | exact Ex0 | assumption | refine Ex1 ?_ | refine Ex2 ?_ | refine Ex3 ?_ | refine Ex4 ?_ | refine Ex5 ?_))))
     | ((with_reducible refine wpL_cnt (o:=⟨some 19,_,_,_,_,_⟩) rfl (.tmp 15) (.tmp 18) 145 rfl keyedS Tryz.underlying145 Tryz.underlying3 (Tryz.zeroValue3 _) ?_ ?_ M2.out HKK.out 0 HAT.out ?_); (exact rfl); (exact rfl))
     | (at_mapUpdate; refine wpList_mapUpdate_own _ rfl _ _ _ 145 rfl 9 3 keyedS Tryz.underlying145 (plainElem Tryz.prog 3) _ _ _ rfl M2.out hnm _ _ _ rfl rfl HKK.out _ [] (plainElem_int Tryz.underlying3 (by decide)) ?_; intro w3 hown3 hg3; have M3:=Lib.hid hown3; have G3:=Lib.hid hg3; have e3:Ext w w3:=Ext.gr (a:=w) (by (repeat first | exact Ex0 | assumption | refine Ex1 ?_ | refine Ex2 ?_ | refine Ex3 ?_ | refine Ex4 ?_ | refine Ex5 ?_)) hg3 (fun i hi=>by injection hi with hi; omega); have q0:=gr_new hx2 G3.out hmlt 0 _ rfl; have q1:=gr_new hx2 G3.out hmlt 1 _ rfl; have q2:=gr_new hx2 G3.out hmlt 2 _ rfl; have q3:=gr_new hx2 G3.out hmlt 3 _ rfl; have q4:=gr_new hx2 G3.out hmlt 4 _ rfl; have q5:=gr_new hx2 G3.out hmlt 5 _ rfl; have q6:=gr_new hx2 G3.out hmlt 6 _ rfl; have q7:=gr_new hx2 G3.out hmlt 7 _ rfl; have q8:=gr_new hx2 G3.out hmlt 8 _ rfl; have q9:=gr_new hx2 G3.out hmlt 9 _ rfl; have q10:=gr_new hx2 G3.out hmlt 10 _ rfl; have q11:=gr_new hx2 G3.out hmlt 11 _ rfl; clear hown3 hg3)
     | ((with_reducible refine wpL_call1 (o:=⟨some 24,_,_,_,_,_⟩) rfl (.tmp 22) (.tmp 23) rfl ?_ ?_ (HE.out _ _) (HCK.out _ e3) ?_); (exact rfl); (exact rfl); rintro e w4 ⟨rfl,hx4⟩; refine ⟨_,rfl,?_⟩; have M4:=Lib.hid (ownM_ext M3.out hx4))
     | ((with_reducible refine wpL_cnt (o:=⟨some 25,_,_,_,_,_⟩) rfl (.tmp 21) (.tmp 24) 145 rfl keyedS Tryz.underlying145 Tryz.underlying3 (Tryz.zeroValue3 _) ?_ ?_ M4.out HKK.out 1 (Maps.atKey_put_same HM.out.isMap (keyedS.key HKK.out) _ _) ?_); (exact rfl); (exact rfl)))
    go_roundw
    case rel =>
     refine ⟨k + 1,rfl,by omega,e3.tr hx4,Lib.hid ?_,Lib.hid ?_⟩
     ·rw [HS.out]
      exact ones_more M4.out HM.out.isMap (keyedS.key HKK.out) H1.out H2.out HNI.out
     ·rw [HS.out,List.nodup_append]
      exact ⟨HN.out,by simp,fun a ha b hb e=>HNI.out (by rw [List.mem_singleton] at hb; rw [← hb,← e]; exact ha)⟩
    case measure=>simp [intOf]; omega
  ·have HT:Hid (bb=true):=Lib.hid (HBB.out.2 (by have:=HN.out; rwa [List.take_of_length_le (by omega)] at this))
   clear HN HO
   go_wp2
   go_ret
   exact ⟨ret_bool HT.out.symm,hx⟩
end Go.Proofs.YtmnohicojefhfaaGreatDoor
end
