/-
slices.IndexFunc, slices.ContainsFunc and config.all at each type that the configuration's check asks for.
-/
import Derived.Test.YthbofilcnpdghaaGreatDoorZab
import Derived.WalkMore
import Derived.Deep.CutBlock
import Derived.Test.YthbofilcnpdghaaGreatDoorZaw
import Derived.Test.YthbofilcnpdghaaGreatDoorBase
import Derived.Maps.RangeWalk
import Derived.Maps.OwnSet
set_option maxRecDepth 100000
set_option maxHeartbeats 8000000
set_option linter.unusedVariables false
set_option linter.unusedSimpArgs false
section
namespace Go.Proofs.YthbofilcnpdghaaGreatDoor
open Go.RowKit
theorem wpL_call1 {P:Program} {ops:Array Oper} {rest:List Oper} {o:Oper} {a:Act} {Q:Exit→Act→World→Prop} {w:World} (hg:o.guard=none) (fv x:Operand) {t1:TypeId}
  (ho:o.op=.call { callee:=.value fv,args:=#[x],argTypes:=#[t1] }) {f:FuncId} {cap:Array Value} {xv:Value} (hf:a.eval fv=.func (.func f) #[] cap) (hx:a.eval x=xv)
  (he:(callFunc f (#[xv]++cap)).run P w=.ok (.enter f (#[xv]++cap)) w) {R:Ending→World→Prop} (hC:Calls P f (#[xv]++cap) w R)
  (h:∀ e w',R e w'→∃ v,e=.returned v∧wpList P ops Q rest (a.put o.dst v) w'):wpList P ops Q (o::rest) a w:=by
 refine wpList_plain hg fun K' hK'=>?_
 have hr:(execOp a.eval o).run P w=.ok (.enter f (#[xv]++cap)) w:=by
  simp only [execOp,ho,resolve,Deferred.ofValue,hf,List.map_toArray,List.map_cons,List.map_nil,hx]
  have e:(do let d ← (pure { target:=Target.fn (Fn.func f) cap,args:=#[]++#[xv] }:Sem Deferred);invoke d.target d.args:Sem Next).run P w=(callFunc f (#[xv]++cap)).run P w:=by simp [invoke,go_sem]
  exact e.trans he
 unfold Oper.wp
 rw [hr,Oper.upon_enter]
 refine hC.mono ?_
 intro e w' hR
 obtain ⟨v,rfl,hw⟩:=h e w' hR
 exact hK' _ _ hw
def EntF (P:Program) (f:FuncId):Prop:=∀ (args:Array Value) (w:World),(callFunc f args).run P w=.ok (.enter f args) w
section
variable {α:Type}
def idxL (R:α→Bool):List α→Int→Int
 | [],_=>-1
 | x::r,k=>if R x then k else idxL R r (k+1)
theorem idxL_any (R:α→Bool):∀ (l:List α) (k:Int),0≤k→decide (0≤idxL R l k)=l.any R:=by
 intro l
 induction l with
 | nil=>intro k _;rfl
 | cons x r ih =>
  intro k hk
  unfold idxL
  rw [List.any_cons]
  by_cases h:R x=true
  ·rw [if_pos h,h];simpa using hk
  ·rw [if_neg h,show R x=false by simpa using h,Bool.false_or]
   exact ih (k+1) (by omega)
theorem idxL_at (R:α→Bool) {l:List α} {k:Nat} (h:k<l.length) (v:Int):idxL R (l.drop k) v=if R l[k] then v else idxL R (l.drop (k+1)) (v+1):=by
 rw [List.drop_eq_getElem_cons h];rfl
theorem fm_len (cf:α→List Value) (sz:Nat) (hs:∀ x,(cf x).length=sz) (l:List α):(l.flatMap cf).length=l.length*sz:=by
 induction l with
 | nil=>simp
 | cons x l ih=>rw [List.flatMap_cons,List.length_append,ih,hs,List.length_cons,Nat.add_mul];omega
theorem fm_at (cf:α→List Value) (sz:Nat) (hs:∀ x,(cf x).length=sz) {l:List α} {k:Nat} (h:k<l.length) (i:Nat) (hi:i<sz):(l.flatMap cf)[k*sz+i]?=(cf l[k])[i]?:=by
 have e:l.flatMap cf=(l.take k).flatMap cf++(cf l[k]++(l.drop (k+1)).flatMap cf):=by
  conv=>lhs;rw [← List.take_append_drop k l,List.drop_eq_getElem_cons h,List.flatMap_append,List.flatMap_cons]
 have e2:((l.take k).flatMap cf).length=k*sz:=by rw [fm_len cf sz hs,List.length_take,Nat.min_eq_left (Nat.le_of_lt h)]
 rw [e,List.getElem?_append_right (by omega),e2,show k*sz+i-k*sz=i from by omega,List.getElem?_append_left (by rw [hs];exact hi)]
theorem Rd.row {w:World} {A:Option Addr} {cf:α→List Value} {sz:Nat} (hs:∀ x,(cf x).length=sz) (h0:0<sz) {l:List α} (h:Rd w A (l.flatMap cf)) {k:Nat} (hk:k<l.length) :
  ∃ b g,A=some ⟨b,g,none⟩∧b<w.heap.size∧∀ i u,(cf l[k])[i]?=some u→w.cell? ⟨b,g+k*sz+i,none⟩=some u:=by
 have hz:0<(l.flatMap cf).length:=by rw [fm_len cf sz hs];exact Nat.mul_pos (by omega) h0
 obtain ⟨b,g,hA,hb,hc⟩:=h.at_ hz
 refine ⟨b,g,hA,hb,fun i u hu=>?_⟩
 rw [Nat.add_assoc]
 have hi:i<sz:=by
  have:=(List.getElem?_eq_some_iff.1 hu).1
  rw [hs] at this;exact this
 exact hc _ _ (by rw [fm_at cf sz hs hk i hi];exact hu)
end
theorem idxT_c {α:Type} (f0:α→Value) (l:List α) (A:Option Addr) (c:Nat) (fi:FuncId) (cap:Array Value) (R:α→Bool) (w:World) (hl:l.length≤1099511627776) (hE:EntF Tryz.prog fi) (hrd:Rd w A (l.flatMap fun x=>[f0 x]))
  (hC:∀ x∈l,∀ w',Ext w w'→Calls Tryz.prog fi (#[f0 x]++cap) w' (Gives (.bool (R x)) w')) :
  Calls Tryz.prog 171 #[.slice A l.length c,.func (.func fi) #[] cap] w (Gives (.int .i64 (idxL R l 0)) w):=by
 have HRD:=Hy hrd
 have HC:=Hy hC
 have HE:Hid (∀ (args:Array Value) (w:World),(callFunc fi args).run Tryz.prog w=.ok (.enter fi args) w):=Hy hE
 clear hrd hC hE
 go_enter Tryz.func171,Tryz.ntmps171
 go_wp2
 go_loopw [8] (fun v8 wr=>∃ k:Nat,v8=.int .i64 (k:Int)∧k≤l.length∧Ext w wr∧Hid (idxL R l 0=idxL R (l.drop k) (k:Int))) (fun v8 _=>l.length-(intOf v8).toNat)
 case atStart=>exact ⟨0,rfl,Nat.zero_le _,Ext.rfl' w,Hy rfl⟩
 case round =>
  obtain ⟨k,rfl,hk,hx,HI⟩:=hrel
  by_cases hlt:k<l.length
  ·obtain ⟨b,g,rfl,hbl,hc⟩:=(HRD.out.ext hx).row (sz:=1) (fun _=>rfl) (by omega) hlt
   have HCK:=Hy (HC.out l[k] (List.getElem_mem hlt) wr hx)
   have HAT:=Hy (idxL_at R hlt (k:Int))
   have j0:(0:Int)≤(k:Int):=by omega
   have j1:(k:Int)<(l.length:Int):=by omega
   have hkk:IntKind.i64.wrap ((k:Int)+1)=((k+1:Nat):Int):=by rw [IntKind.wrap_i64];omega
   obtain ⟨x,hxk⟩:∃ x,x=l[k]:=⟨_,rfl⟩
   rw [← hxk] at HCK HAT hc
   clear hxk
   have k0:wr.cell? ⟨b,g+k,none⟩=some (f0 x):=by have:=hc 0 _ rfl;rwa [Nat.mul_one,Nat.add_zero] at this
   clear hc
   by_cases hr:R x=true
   ·rw [hr] at HAT HCK
    have HEN:Hid (idxL R l 0=(k:Int)):=Hy (by rw [HI.out,HAT.out];rfl)
    clear hr HAT HI
    go_wp2_with ((with_reducible refine wpL_call1 (o:=⟨some 16,_,_,_,_,_⟩) rfl (.tmp 11) (.tmp 15) rfl ?_ ?_ (HE.out _ _) HCK.out ?_);(exact rfl);(exact rfl);rintro e w2 ⟨rfl,hx2⟩;refine ⟨_,rfl,?_⟩)
    go_ret
    exact ⟨ret_int HEN.out.symm,hx.tr hx2⟩
   ·rw [show R x=false by simpa using hr] at HAT HCK
    have HEN:Hid (idxL R l 0=idxL R (l.drop (k+1)) ((k+1:Nat):Int)):=Hy (by rw [HI.out,HAT.out];push_cast;rfl)
    clear hr HAT HI
    go_wp2_with ((with_reducible refine wpL_call1 (o:=⟨some 16,_,_,_,_,_⟩) rfl (.tmp 11) (.tmp 15) rfl ?_ ?_ (HE.out _ _) HCK.out ?_);(exact rfl);(exact rfl);rintro e w2 ⟨rfl,hx2⟩;refine ⟨_,rfl,?_⟩)
    go_roundw
    case rel=>exact ⟨k+1,rfl,by omega,hx.tr hx2,HEN⟩
    case measure=>simp [intOf];omega
  ·have HEN:Hid (idxL R l 0=-1):=Hy (by rw [HI.out,List.drop_of_length_le (by omega)];rfl)
   clear HI
   go_wp2
   go_ret
   exact ⟨ret_int HEN.out.symm,hx⟩
theorem conT_c {α:Type} (f0:α→Value) (l:List α) (A:Option Addr) (c:Nat) (fi:FuncId) (cap:Array Value) (R:α→Bool) (w:World) (hl:l.length≤1099511627776) (hE:EntF Tryz.prog fi) (hrd:Rd w A (l.flatMap fun x=>[f0 x]))
  (hC:∀ x∈l,∀ w',Ext w w'→Calls Tryz.prog fi (#[f0 x]++cap) w' (Gives (.bool (R x)) w')) :
  Calls Tryz.prog 163 #[.slice A l.length c,.func (.func fi) #[] cap] w (Gives (.bool (l.any R)) w):=by
 have C:=Hy (idxT_c f0 l A c fi cap R w hl hE hrd hC)
 have HA:=Hy (idxL_any R l 0 (by omega))
 generalize idxL R l 0=ix at *
 clear hrd hC hE
 go_enter Tryz.func163,Tryz.ntmps163
 go_wp2_with (go_at_call 171;refine C.out.mono ?_;rintro e w2 ⟨rfl,hx2⟩)
 go_ret
 exact ⟨ret_bool HA.out,hx2⟩
def eqsL (x:List UInt8):List UInt8→Bool:=fun y=>decide (x=y)
theorem nIdx_c (ls:List (List UInt8)) (x:List UInt8) (A:Option Addr) (c:Nat) (w:World) (hl:ls.length≤1099511627776) (h:Rd w A (sc ls)) :
  Calls Tryz.prog 172 #[.slice A ls.length c,.string (str x)] w (Gives (.int .i64 (idxL (eqsL x) ls 0)) w):=by
 have H:=Hy h
 clear h
 go_enter Tryz.func172,Tryz.ntmps172
 go_wp2
 go_loopw [8] (fun v8 wr=>∃ k:Nat,v8=.int .i64 (k:Int)∧k≤ls.length∧Ext w wr∧Hid (idxL (eqsL x) ls 0=idxL (eqsL x) (ls.drop k) (k:Int))) (fun v8 _=>ls.length-(intOf v8).toNat)
 case atStart=>exact ⟨0,rfl,Nat.zero_le _,Ext.rfl' w,Hy rfl⟩
 case round =>
  obtain ⟨k,rfl,hk,hx,HI⟩:=hrel
  by_cases hlt:k<ls.length
  ·obtain ⟨g,f,rfl,_,hc⟩:=(H.out.ext hx).at_ (by rw [sc_len];omega)
   have hck:=hc k _ (sc_at ls k hlt)
   have HAT:=Hy (idxL_at (eqsL x) hlt (k:Int))
   have j0:(0:Int)≤(k:Int):=by omega
   have j1:(k:Int)<(ls.length:Int):=by omega
   have hkk:IntKind.i64.wrap ((k:Int)+1)=((k+1:Nat):Int):=by rw [IntKind.wrap_i64];omega
   obtain ⟨y,hy⟩:∃ y,y=ls[k]:=⟨_,rfl⟩
   rw [← hy] at hck HAT
   clear hc hy
   by_cases hr:x=y
   ·subst hr
    have HEN:Hid (idxL (eqsL x) ls 0=(k:Int)):=Hy (by rw [HI.out,HAT.out];simp [eqsL])
    clear HAT HI
    go_wp2
    go_ret
    exact ⟨ret_int HEN.out.symm,Xq⟩
   ·have HEN:Hid (idxL (eqsL x) ls 0=idxL (eqsL x) (ls.drop (k+1)) ((k+1:Nat):Int)):=Hy (by rw [HI.out,HAT.out];simp [eqsL,hr])
    have g1:(x == y)=false:=by rw [beq_eq_false_iff_ne];exact hr
    clear HAT HI
    go_wp2
    go_roundw
    case rel=>exact ⟨k+1,by go_num,by omega,Xq,HEN⟩
    case measure=>simp [intOf];omega
  ·have HEN:Hid (idxL (eqsL x) ls 0=-1):=Hy (by rw [HI.out,List.drop_of_length_le (by omega)];rfl)
   clear HI
   go_wp2
   go_ret
   exact ⟨ret_int HEN.out.symm,Xq⟩
theorem nCon_c (ls:List (List UInt8)) (x:List UInt8) (A:Option Addr) (c:Nat) (w:World) (hl:ls.length≤1099511627776) (h:Rd w A (sc ls)) :
  Calls Tryz.prog 165 #[.slice A ls.length c,.string (str x)] w (Gives (.bool (ls.contains x)) w):=by
 have C:=Hy (nIdx_c ls x A c w hl h)
 have HA:=Hy (show decide (0≤idxL (eqsL x) ls 0)=ls.contains x from by
  rw [idxL_any (eqsL x) ls 0 (by omega),Bool.eq_iff_iff,List.any_eq_true,List.contains_iff_mem]
  simp [eqsL])
 generalize idxL (eqsL x) ls 0=ix at *
 clear h
 go_enter Tryz.func165,Tryz.ntmps165
 go_wp2_with (go_at_call 172;refine C.out.mono ?_;rintro e w2 ⟨rfl,hx2⟩)
 go_ret
 exact ⟨ret_bool HA.out,hx2⟩
theorem toks_few (v:List UInt8):(toksL v).1.length≤v.length+1:=by
 unfold toksL
 split
 ·rw [List.length_map];exact splitL_len 44 v
 ·exact Nat.zero_le _
theorem nSaysF_c (v x:List UInt8) (hv:v.length≤8192) (p:Nat) (w:World) (hp:w.cell? ⟨p,0,none⟩=some (.string (str x))) :
  Calls Tryz.prog 164 #[.string (str v),.pointer (some ⟨p,0,none⟩)] w (Gives (.bool ((toksL v).1.contains x)) w):=by
 have C:=Hy (fun w'=>fTokens_c v (by omega) w')
 obtain ⟨⟨ts,e⟩,ht⟩:∃ q,q=toksL v:=⟨_,rfl⟩
 have hf:=toks_few v
 have HE:=Hy (fun w' (e:Ext w w')=>(e.cell (lt_of_cell hp)).trans hp)
 rw [← ht] at C hf ⊢
 dsimp only at hf ⊢
 clear ht
 have CN:=Hy (fun (A:Option Addr) (ca:Nat) (w:World) (h:Rd w A (sc ts))=>nCon_c ts x A ca w (by omega) h)
 obtain ⟨bq,hbq⟩:∃ b,b=ts.contains x:=⟨_,rfl⟩
 rw [← hbq] at CN ⊢
 clear hbq
 go_enter Tryz.func164,Tryz.ntmps164
 go_wp2_with (first
  | (go_at_call 97;refine (C.out _).mono ?_;rintro e2 w2 ⟨u,rfl,⟨A,ca,rfl,hrd⟩,hx2⟩;have hc2:=HE.out w2 hx2;dsimp only at hrd)
  | (go_at_call 165;refine (CN.out A ca _ hrd).mono ?_;rintro e3 w3 ⟨rfl,hx3⟩))
 go_ret
 exact ⟨rfl,Xq⟩
def Fl8 (fs:List Fld):Prop:=fs.length≤100∧∀ f∈fs,f.1.length≤8192∧f.2.length≤8192
theorem vals_mem {fs:List Fld} {nm v:List UInt8} (h:v∈valsH fs nm):∃ f∈fs,f.2=v:=by
 unfold valsH at h
 rw [List.mem_map] at h
 obtain ⟨f,hf,he⟩:=h
 exact ⟨f,(List.mem_filter.1 hf).1,he⟩
theorem Fl8.vals {fs:List Fld} (h:Fl8 fs) (nm:List UInt8):(valsH fs nm).length≤100∧∀ v∈valsH fs nm,v.length≤8192:=by
 refine ⟨?_,fun v hv=>?_⟩
 ·unfold valsH
  rw [List.length_map]
  exact Nat.le_trans (List.length_filter_le _ _) h.1
 ·obtain ⟨f,hf,rfl⟩:=vals_mem hv
  exact (h.2 f hf).2
theorem sc_flat (ls:List (List UInt8)):(ls.flatMap fun l=>[Value.string (str l)])=sc ls:=by
 unfold sc
 induction ls with
 | nil=>rfl
 | cons a t ih=>rw [List.flatMap_cons,List.map_cons,ih];rfl
theorem ent_says:EntF Tryz.prog 164:=fun _ _=>by kernel_rfl
theorem nSays_c (fs:List Fld) (hf:Fl8 fs) (nm x:List UInt8) (hnm:nm.length≤100) (A:Option Addr) (c:Nat) (w:World) (h:Rd w A (fc fs)) :
  Calls Tryz.prog 147 #[.slice A fs.length c,.string (str nm),.string (str x)] w (Gives (.bool (saysC fs nm x)) w):=by
 have CV:=Hy (fun w' h'=>hValues_c fs nm A fs.length c rfl (by have:=hf.1;omega) (by simp only [maxLen];omega) (fun p hp=>by have:=(hf.2 p hp).1;simp only [maxLen];omega) w' h')
 have HA:=Hy h
 obtain ⟨v1,v2⟩:=hf.vals nm
 have HQ:=Hy (show saysC fs nm x=(valsH fs nm).any (fun v=>(toksL v).1.contains x) from rfl)
 obtain ⟨vs,hvs⟩:∃ q,q=valsH fs nm:=⟨_,rfl⟩
 rw [← hvs] at CV v1 v2 HQ
 have V2:=Hy v2
 clear hvs h v2 hf
 have CO:=Hy (fun (A2:Option Addr) (c2:Nat) (g:Nat) (w2:World) (hrd:Rd w2 A2 (sc vs)) (hg:w2.cell? ⟨g,0,none⟩=some (.string (str x)))=>conT_c (fun l=>Value.string (str l)) vs A2 c2 164 #[.pointer (some ⟨g,0,none⟩)] (fun v=>(toksL v).1.contains x) w2 (by omega) ent_says (by rw [sc_flat];exact hrd) (fun v hv w' hw=>nSaysF_c v x (V2.out v hv) g w' ((hw.cell (lt_of_cell hg)).trans hg)))
 obtain ⟨bq,hbq⟩:∃ b,b=vs.any (fun v=>(toksL v).1.contains x):=⟨_,rfl⟩
 rw [← hbq] at CO HQ
 clear hbq
 have hmf:∀ (fn:Fn) (first cap:Array Value) (w:World),(Instr.makeFunc fn first cap).run Tryz.prog w=.ok (.func fn first cap) w:=fun _ _ _ _=>rfl
 have NC:(w.alloc (.cells #[.string (str x)] 9)).cell? ⟨w.heap.size,0,none⟩=some (.string (str x)):=new_cells w #[.string (str x)] 9 0 _ rfl
 go_enter Tryz.func147,Tryz.ntmps147
 go_wp2_with (first
  | (go_at_call 68;refine (CV.out _ (HA.out.ext Xq)).mono ?_;rintro e w2 ⟨u,rfl,⟨A2,c2,rfl,hrd⟩,hx2⟩)
  | (go_at_call 163;refine (CO.out A2 c2 w.heap.size _ hrd ((hx2.cell (lt_of_cell NC)).trans NC)).mono ?_;rintro e w3 ⟨rfl,hx3⟩))
 go_ret
 exact ⟨ret_bool HQ.out.symm,Xq⟩
theorem nLasting_c (r:Rq24) (hf:Fl8 r.2.2.2) (A:Option Addr) (c:Nat) (w:World) (h:Rd w A (fc r.2.2.2)) :
  Calls Tryz.prog 121 #[.agg #[.string (str r.1),.string (str r.2.1),.int .i64 r.2.2.1,.slice A r.2.2.2.length c]] w (Gives (.bool (lastingC r)) w):=by
 obtain ⟨m,t,mi,fs⟩:=r
 dsimp only at hf h ⊢
 have C1:=fun w' h'=>nSays_c fs hf cnN kaW (by decide) A c w' h'
 have C2:=fun w' h'=>nSays_c fs hf cnN clW (by decide) A c w' h'
 rw [show str cnN=⟨#[67,111,110,110,101,99,116,105,111,110]⟩ from rfl,show str kaW=⟨#[107,101,101,112,45,97,108,105,118,101]⟩ from rfl] at C1
 rw [show str cnN=⟨#[67,111,110,110,101,99,116,105,111,110]⟩ from rfl,show str clW=⟨#[99,108,111,115,101]⟩ from rfl] at C2
 have C1:=Hy C1
 have C2:=Hy C2
 have HA:=Hy h
 have HQ:=Hy (show lastingC (m,t,mi,fs)=if mi=0 then saysC fs cnN kaW else !(saysC fs cnN clW) from rfl)
 obtain ⟨b1,hb1⟩:∃ b,b=saysC fs cnN kaW:=⟨_,rfl⟩
 obtain ⟨b2,hb2⟩:∃ b,b=saysC fs cnN clW:=⟨_,rfl⟩
 rw [← hb1] at C1 HQ
 rw [← hb2] at C2 HQ
 obtain ⟨n,hn⟩:∃ n,n=fs.length:=⟨_,rfl⟩
 rw [← hn] at C1 C2 ⊢
 obtain ⟨sm,hsm⟩:∃ s,s=str m:=⟨_,rfl⟩
 obtain ⟨st,hst⟩:∃ s,s=str t:=⟨_,rfl⟩
 rw [← hsm,← hst]
 clear hb1 hb2 hn hsm hst h hf
 have NC:=new_cells w #[.string sm,.string st,.int .i64 mi,.slice A n c] 36
 have n2:(w.alloc (.cells #[.string sm,.string st,.int .i64 mi,.slice A n c] 36)).cell? ⟨w.heap.size,2,none⟩=some (.int .i64 mi):=NC 2 _ rfl
 have n3:(w.alloc (.cells #[.string sm,.string st,.int .i64 mi,.slice A n c] 36)).cell? ⟨w.heap.size,3,none⟩=some (.slice A n c):=NC 3 _ rfl
 clear NC
 by_cases h0:mi=0
 ·subst h0
  go_enter Tryz.func121,Tryz.ntmps121
  go_wp2_with (go_at_call 147;refine (C1.out _ (HA.out.ext Xq)).mono ?_;rintro e w2 ⟨rfl,hx2⟩)
  go_ret
  exact ⟨ret_bool (by rw [HQ.out];rfl),Xq⟩
 ·have d1:(mi == 0)=false:=by rw [beq_eq_false_iff_ne];exact h0
  have HQ2:=Hy (show lastingC (m,t,mi,fs)=!b2 from by rw [HQ.out,if_neg h0])
  clear h0
  go_enter Tryz.func121,Tryz.ntmps121
  go_wp2_with (go_at_call 147;refine (C2.out _ (HA.out.ext Xq)).mono ?_;rintro e w2 ⟨rfl,hx2⟩)
  go_ret
  exact ⟨ret_bool (by rw [HQ2.out]),Xq⟩
theorem nHosted_c (r:Rq24) (hf:Fl8 r.2.2.2) (A:Option Addr) (c:Nat) (w:World) (hE:ErrR w) (h:Rd w A (fc r.2.2.2)) :
  Calls Tryz.prog 60 #[.agg #[.string (str r.1),.string (str r.2.1),.int .i64 r.2.2.1,.slice A r.2.2.2.length c]] w (Gives (.bool (hostedC r)) w):=by
 obtain ⟨m,t,mi,fs⟩:=r
 dsimp only at hf h ⊢
 have CV:=fun w' h'=>hValues_c fs hostN A fs.length c rfl (by have:=hf.1;omega) (by decide) (fun p hp=>by have:=(hf.2 p hp).1;simp only [maxLen];omega) w' h'
 rw [show str hostN=⟨#[72,111,115,116]⟩ from rfl] at CV
 obtain ⟨v1,v2⟩:=hf.vals hostN
 have HA:=Hy h
 have HE:=Hy hE
 have HQ:=Hy (show hostedC (m,t,mi,fs)=match valsH fs hostN with | [v]=>v.isEmpty || decide ((hostL v).2.2=0) | _=>false from rfl)
 obtain ⟨vs,hvs⟩:∃ q,q=valsH fs hostN:=⟨_,rfl⟩
 rw [← hvs] at CV v1 v2 HQ
 have CV:=Hy CV
 obtain ⟨n,hn⟩:∃ n,n=fs.length:=⟨_,rfl⟩
 rw [← hn] at CV ⊢
 obtain ⟨sm,hsm⟩:∃ s,s=str m:=⟨_,rfl⟩
 obtain ⟨st,hst⟩:∃ s,s=str t:=⟨_,rfl⟩
 rw [← hsm,← hst]
 clear hvs hn hsm hst h hf hE
 have NC:=new_cells w #[.string sm,.string st,.int .i64 mi,.slice A n c] 36
 have n3:(w.alloc (.cells #[.string sm,.string st,.int .i64 mi,.slice A n c] 36)).cell? ⟨w.heap.size,3,none⟩=some (.slice A n c):=NC 3 _ rfl
 clear NC
 by_cases h1:vs.length=1
 ·obtain ⟨v,rfl⟩:∃ v,vs=[v]:=List.length_eq_one_iff.1 h1
  have hv:=v2 v (by simp)
  have CH:=Hy (fun w' hE'=>uHost_c v (by omega) w' hE')
  have HQ:=Hy (show hostedC (m,t,mi,fs)=(v.isEmpty || decide ((hostL v).2.2=0)) from HQ.out)
  clear v1 v2 h1
  obtain ⟨⟨ho,po,e⟩,hq⟩:∃ q,q=hostL v:=⟨_,rfl⟩
  rw [← hq] at CH HQ
  dsimp only at HQ
  obtain ⟨sh,hsh⟩:∃ s,s=str ho:=⟨_,rfl⟩
  rw [show hostV (ho,po,e)=.tuple #[.string (str ho),.int .i64 po,.int .i64 e] from rfl,← hsh] at CH
  clear hsh
  have hst:=fun (w':World) (A2:Option Addr) (hr:Rd w' A2 (sc [v]))=>(sc_first hr)
  have HST:=Hy hst
  clear hq hst
  by_cases v0:v=[]
  ·subst v0
   have HQ2:=Hy (show hostedC (m,t,mi,fs)=true from by rw [HQ.out];rfl)
   rw [show str []=⟨#[]⟩ from rfl] at CH
   clear HQ
   go_enter Tryz.func60,Tryz.ntmps60
   go_wp2_with (first
    | (go_at_call 68;refine (CV.out _ (HA.out.ext Xq)).mono ?_;rintro e2 w2 ⟨u,rfl,⟨A2,c2,rfl,hrd⟩,hx2⟩;obtain ⟨g2,f2,rfl,k2⟩:=HST.out _ _ hrd;rw [show str []=⟨#[]⟩ from rfl] at k2;have K2:=Hy k2;have HX2:=Hy hx2)
    | (go_at_call 85;refine (CH.out _ (HE.out.ext Xq)).mono ?_;rintro e3 w3 ⟨rfl,hx3⟩;have k3:=(hx3.cell (p:=⟨g2,f2,none⟩) (lt_of_cell K2.out)).trans K2.out))
   go_ret
   exact ⟨ret_bool (by rw [HQ2.out]),Xq⟩
  ·have HQ2:=Hy (show hostedC (m,t,mi,fs)=decide (e=0) from by rw [HQ.out];cases v with
    | nil=>exact absurd rfl v0
    | cons a b=>rfl)
   have g1:(v == [])=false:=by rw [beq_eq_false_iff_ne];exact v0
   have g3:v.isEmpty=false:=by rw [List.isEmpty_eq_false_iff];exact v0
   have g4:(str v).toList.isEmpty=false:=by rw [Lib.toList_data];exact g3
   have HE0:=Hy (show decide (e=0)=(e == 0) from rfl)
   clear HQ
   go_enter Tryz.func60,Tryz.ntmps60
   go_wp2_with (first
    | (go_at_call 68;refine (CV.out _ (HA.out.ext Xq)).mono ?_;rintro e2 w2 ⟨u,rfl,⟨A2,c2,rfl,hrd⟩,hx2⟩;obtain ⟨g2,f2,rfl,k2⟩:=HST.out _ _ hrd;have K2:=Hy k2;have HX2:=Hy hx2)
    | (go_at_call 85;refine (CH.out _ (HE.out.ext Xq)).mono ?_;rintro e3 w3 ⟨rfl,hx3⟩;have k3:=(hx3.cell (p:=⟨g2,f2,none⟩) (lt_of_cell K2.out)).trans K2.out))
   all_goals go_ret
   all_goals exact ⟨ret_bool (by rw [HQ2.out,HE0.out]),Xq⟩
 ·have HQ2:=Hy (show hostedC (m,t,mi,fs)=false from by
   rw [HQ.out]
   match vs,h1 with
   | [],_=>rfl
   | [_],h=>exact absurd rfl h
   | _::_::_,_=>rfl)
  have d1:((vs.length:Int) != 1)=true:=by rw [bne_iff_ne];omega
  clear HQ h1
  go_enter Tryz.func60,Tryz.ntmps60
  go_wp2_with (go_at_call 68;refine (CV.out _ (HA.out.ext Xq)).mono ?_;rintro e2 w2 ⟨u,rfl,⟨A2,c2,rfl,hrd⟩,hx2⟩)
  go_ret
  exact ⟨ret_bool (by rw [HQ2.out]),Xq⟩
end Go.Proofs.YthbofilcnpdghaaGreatDoor
end
section
namespace Go.Proofs.YthbofilcnpdghaaGreatDoor
open Go.RowKit
open Go.Maps (Keyed IsMap Tidy)
open Go.WideMaps (keyOf_string_mk)
def heldR (v:Value):Option (DataW Value × List MemPlace):=some (.held v,[])
section
variable {α:Type}
def lkM (M:List (List UInt8 × α)) (l:List UInt8):Option α:=match M with | []=>none | (k,v)::r=>if k=l then some v else lkM r l
def putM (M:List (List UInt8 × α)) (l:List UInt8) (v:α):List (List UInt8 × α):=match M with | []=>[(l,v)] | (k,u)::r=>if k=l then (k,v)::r else (k,u)::putM r l v
theorem lk_put_same (M:List (List UInt8 × α)) (l:List UInt8) (v:α):lkM (putM M l v) l=some v:=by
 induction M with
 | nil=>simp [putM,lkM]
 | cons x r ih=>obtain ⟨k,u⟩:=x;unfold putM;by_cases h:k=l <;> simp [h,lkM,ih]
theorem lk_put_other (M:List (List UInt8 × α)) {l l':List UInt8} (h:l'≠l) (v:α):lkM (putM M l v) l'=lkM M l':=by
 induction M with
 | nil=>simp [putM,lkM,Ne.symm h]
 | cons x r ih =>
  obtain ⟨k,u⟩:=x;unfold putM
  by_cases hk:k=l
  ·subst hk;simp [lkM,Ne.symm h]
  ·simp only [hk,if_false,lkM,ih]
theorem put_len (M:List (List UInt8 × α)) (l:List UInt8) (v:α):(putM M l v).length=if (lkM M l).isSome then M.length else M.length+1:=by
 induction M with
 | nil=>simp [putM,lkM]
 | cons x r ih =>
  obtain ⟨k,u⟩:=x;unfold putM
  by_cases hk:k=l
  ·simp [hk,lkM]
  ·simp only [hk,if_false,lkM,List.length_cons,ih];split <;> rfl
theorem mem_put {M:List (List UInt8 × α)} {l:List UInt8} {v:α} {x:List UInt8 × α} (h:x∈putM M l v):x=(l,v)∨x∈M:=by
 induction M with
 | nil=>simp [putM] at h;exact .inl h
 | cons y r ih =>
  obtain ⟨k,u⟩:=y;unfold putM at h
  split at h
  ·rename_i hk;subst hk
   rcases List.mem_cons.1 h with h | h
   ·exact .inl h
   ·exact .inr (List.mem_cons_of_mem _ h)
  ·rcases List.mem_cons.1 h with h | h
   ·exact .inr (h ▸ List.mem_cons_self ..)
   ·rcases ih h with h | h
    ·exact .inl h
    ·exact .inr (List.mem_cons_of_mem _ h)
def OneM (M:List (List UInt8 × α)):Prop:=M.Pairwise (fun p q=>p.1≠q.1)
theorem OneM.put {M:List (List UInt8 × α)} (h:OneM M) (l:List UInt8) (v:α):OneM (putM M l v):=by
 induction M with
 | nil=>simp [putM,OneM]
 | cons y r ih =>
  obtain ⟨k,u⟩:=y
  have h1:=List.pairwise_cons.1 h
  unfold putM
  split
  ·exact List.pairwise_cons.2 ⟨h1.1,h1.2⟩
  ·rename_i hk
   refine List.pairwise_cons.2 ⟨fun x hx=>?_,ih h1.2⟩
   rcases mem_put hx with e | hx
   ·subst e;exact hk
   ·exact h1.1 x hx
end
def World.isM (w:World) (P:Program) (k:TypeId) (b:Nat) (M:List (List UInt8 × Value)):Prop :=
 ∃ D:DataW Value,w.ownsMap P k heldR b M.length D∧OneM M∧Maps.size D=M.length∧(∀ l,Maps.has D (.string l)=(lkM M l).isSome)∧∀ l z,D.atKey (.string l) z=match lkM M l with | some v=>.held v | none=>z
variable {P:Program} {k:TypeId} {w:World} {b:Nat} {M:List (List UInt8 × Value)}
theorem World.isM.kept {w':World} {row:Option Nat} (h:World.isM w P k b M) (hg:w.grownBy w' row) (hne:some b≠row):World.isM w' P k b M:=by
 obtain ⟨D,h1,h2⟩:=h;exact ⟨D,h1.kept hg hne,h2⟩
theorem World.isM.lt (h:World.isM w P k b M):b<w.heap.size:=by obtain ⟨D,h1,_⟩:=h;exact h1.lt
theorem World.isM.one (h:World.isM w P k b M):OneM M:=by obtain ⟨D,_,h1,_⟩:=h;exact h1
theorem World.isM.same {w':World} (h:World.isM w P k b M) (hb:w'.heap[b]?=w.heap[b]?):World.isM w' P k b M:=by
 obtain ⟨D,⟨es,clock,h0,F,h1⟩,h2⟩:=h;exact ⟨D,⟨es,clock,hb.trans h0,F,h1⟩,h2⟩
theorem World.isM.ext {w':World} {B:Nat} (h:World.isM w P k b M) (hx:Below B w w') (hb:b<B):World.isM w' P k b M:=h.same (hx.block b hb)
theorem World.isM.put (h:World.isM w P k b M) (K:Keyed P k) {t e:TypeId} (ht:P.underlying t=some (.map k e)) (hs:P.underlying k=some .string) (hn:M.length<maxLen) {l:List UInt8} (hl:l.length≤maxLen) (v:Value) :
  ∃ w',(Instr.mapUpdate t (.map (some b)) (.string ⟨l.toArray⟩) v).run P w=.ok () w'∧World.isM w' P k b (putM M l v)∧w.mapTurned w' b:=by
 obtain ⟨D,h1,h2,h3,h4,h5⟩:=h
 have hk:keyOf P k (.string ⟨l.toArray⟩)=some (.string l):=by rw [keyOf_string_mk hs (show l.toArray.size≤maxLen by simpa using hl)]
 obtain ⟨w',r,o,t⟩:=h1.store K ht hn hk (show heldR v=some (.held v,[]) from rfl)
 have hsz:Maps.size (D.put (.string l) (.held v))=(putM M l v).length:=by rw [Maps.size_put (h1.tidy K),h4,put_len,h3]
 refine ⟨w',r,⟨_,?_,h2.put l v,hsz,fun l'=>?_,fun l' z=>?_⟩,t⟩
 ·obtain ⟨es,clock,hb,F,hs',hD⟩:=o
  refine ⟨es,clock,hb,F,?_,hD⟩
  rw [← hsz,hD]
  simp [Maps.size,length_sorted]
 ·by_cases e:l'=l
  ·subst e;rw [Maps.has_put_same h1.isMap (k:=.string l') trivial,lk_put_same];rfl
  ·rw [Maps.has_put_other (by intro c;injection c with c;exact e c),lk_put_other M e];exact h4 l'
 ·by_cases e:l'=l
  ·subst e;rw [Maps.atKey_put_same h1.isMap (k:=.string l') trivial,lk_put_same]
  ·rw [Maps.atKey_put_other (by intro c;injection c with c;exact e c),lk_put_other M e];exact h5 l' z
theorem World.isM.len (h:World.isM w P k b M) {t e:TypeId} (ht:P.underlying t=some (.map k e)) (ty:TypeId):(Builtin.len_ #[t] ty #[.map (some b)]).run P w=.ok (.int .i64 M.length) w:=by
 obtain ⟨D,h1,_,h3,_⟩:=h
 rw [h1.len ht ty,h3]
section
variable {ops:Array Oper} {rest:List Oper} {o:Oper} {a:Act} {Q:Exit→Act→World→Prop}
end
end Go.Proofs.YthbofilcnpdghaaGreatDoor
end
