/-
ConnOrder: so many numbers in some order.
-/
import Derived.Test.YthbofilcnpdghaaGreatDoorJE
import Derived.Test.YthbofilcnpdghaaGreatDoorZbe
import Derived.Test.YthbofilcnpdghaaGreatDoorZbd
set_option maxRecDepth 100000
set_option maxHeartbeats 8000000
set_option linter.unusedVariables false
set_option linter.unusedSimpArgs false
section
namespace Go.Proofs.YthbofilcnpdghaaGreatDoor
open Go.RowKit
theorem slt_intO:SlT Tryz.prog 23 3 (.int .i64 0) 1 8:=⟨Tryz.underlying23,by kernel_rfl,rfl,by omega⟩
def nsV (l:List Nat):List Value:=l.map fun (n:Nat)=>Value.int .i64 (n:Int)
theorem nsV_app (a b:List Nat):nsV a++nsV b=nsV (a++b):=(List.map_append ..).symm
theorem nsV_one (l:List Nat):∀ u∈nsV l,u.oneCell'=true:=fun u hu=>by
 obtain ⟨n,_,rfl⟩:=List.mem_map.1 hu
 rfl
theorem nsV_take (l:List Nat) (k:Nat):(nsV l).take k=nsV (l.take k):=(List.map_take ..).symm
theorem nsV_drop (l:List Nat) (k:Nat):(nsV l).drop k=nsV (l.drop k):=(List.map_drop ..).symm
theorem wp_putO {P:Program} {t e:TypeId} {z:Value} {size bytes:Nat} (hT:SlT P t e z size bytes) {op:Oper} {a:Act} {K:Act→World→Prop} {Q:Exit→Act→World→Prop} (s x:Operand) {tx:TypeId}
  (ho:op.op=.call { callee:=.builtin .append,args:=#[s,x],argTypes:=#[t,tx] })
  {w:World} {o:Ow} {k n c m:Nat} {A:Option Addr} {xs news:List Value} {xv:Value} (hs:a.eval s=.slice A n c) (hx:a.eval x=xv)
  (hsl:Sl w o k size A n c xs) (hna:A=none→c=0) (src:Src P size tx xv m news w) (hbytes:(n+m)*bytes≤140737488355328) (h63:n+m≤maxLen)
  (h:∀ A' c' w' o',Sl w' o' k size A' (n+m) c' (xs++news)→Stp (fun i=>i=k) w o w' o'→(A'=none→c'=0)→K (a.put op.dst (.slice A' (n+m) c')) w'):Oper.wp P op a w K Q:=by
 obtain ⟨A',c',w',o',hr,h1,h2,h3⟩:=run_put hT op.type hsl hna src hbytes h63
 unfold Oper.wp execOp
 simp only [ho,resolve,invoke,builtin,Sem.run_bind,Sem.run_pure,Result.andThen_ok,List.map_toArray,List.map_cons,List.map_nil,hs,hx,hr]
 exact h A' c' w' o' h1 (h2.mono fun _ hi=>hi.2) h3
theorem cut_toO (g f n c X:Nat) (hX:X≤n) (hc:n≤c) (w':World) :
  (Instr.slice 23 (.slice (some ⟨g,f,none⟩) n c) none (some (.int .i64 (X:Int))) none).run Tryz.prog w'=.ok (.slice (some ⟨g,f,none⟩) X c) w':=by
 have h2:(X:Int)≤(n:Int):=by omega
 have h3:(0:Int)≤(X:Int):=by omega
 have h4:(0:Int)≤(n:Int):=by omega
 have h5:(n:Int)≤(c:Int):=by omega
 have h6:(X:Int)≤(c:Int):=by omega
 have h7:X≤c:=by omega
 have hz:∀ w',(Go.sizeOf 3).run Tryz.prog w'=.ok 1 w':=fun _=>rfl
 have hu:=Tryz.underlying23
 simp [Instr.slice,Instr.sliceBounds,Instr.sliceBound,asIntOf,run_underlying hu,go_sem,h2,h3,h4,h5,h6,h7,hz,hX,hc,Addr.add]
theorem cut_fromO (xs:List Value) (B:Option Addr) (n c X:Nat) (x:Int) (hx:x=(X:Int)) (hl:xs.length=n) (hX:X≤n) (hc:n≤c) :
  ∃ B',(∀ w',(Instr.slice 23 (.slice B n c) (some (.int .i64 x)) none none).run Tryz.prog w'=.ok (.slice B' (n-X) (c-X)) w')∧∀ w',Rd w' B xs→Rd w' B' (xs.drop X):=by
 subst hx
 have hz:∀ w',(Go.sizeOf 3).run Tryz.prog w'=.ok 1 w':=fun _=>rfl
 have hu:=Tryz.underlying23
 refine ⟨if c=X then B else B.map (·.add (X*1)),fun w'=>?_,fun w' hR=>?_⟩
 ·have h2:(X:Int)≤(n:Int):=by omega
  have h3:(0:Int)≤(X:Int):=by omega
  have h4:(0:Int)≤(n:Int):=by omega
  have h5:(n:Int)≤(c:Int):=by omega
  simp [Instr.slice,Instr.sliceBounds,Instr.sliceBound,asIntOf,run_underlying hu,go_sem,h2,h3,h4,h5,hz,hX,hc]
 ·by_cases h0:X=n
  ·exact .inl (List.drop_eq_nil_iff.2 (by omega))
  ·rw [if_neg (by omega)]
   rcases hR with h | ⟨g,f,rfl,hcc⟩
   ·exact .inl (by rw [h];simp)
   ·refine .inr ⟨g,f+X*1,by simp [Addr.add],fun j u hu=>?_⟩
    rw [Nat.mul_one,Nat.add_assoc]
    exact hcc (X+j) u (by rw [← hu,List.getElem?_drop])
theorem modN (z:Int) (n:Nat) (hn:0<n) (hb:n≤64):∃ M:Int,∃ k:Nat,wrap64 (z.tmod (n:Int)+(n:Int))=M∧M.tmod (n:Int)=(k:Int)∧k<n:=by
 obtain ⟨M,e1⟩:∃ M,wrap64 (z.tmod (n:Int)+(n:Int))=M:=⟨_,rfl⟩
 obtain ⟨Q,e2⟩:∃ Q,M.tmod (n:Int)=Q:=⟨_,rfl⟩
 have hp:(0:Int)<(n:Int):=by omega
 have h2:=Int.tmod_lt_of_pos z hp
 have h3:-(n:Int)<z.tmod (n:Int):=by
  rcases Int.le_total 0 z with h | h
  ·have:=Int.tmod_nonneg (n:Int) h;omega
  ·have h4:=Int.tmod_nonneg (n:Int) (show 0≤-z by omega)
   have h5:=Int.tmod_lt_of_pos (-z) hp
   rw [Int.neg_tmod] at h4 h5
   omega
 obtain ⟨y,hy⟩:∃ y,y=z.tmod (n:Int):=⟨_,rfl⟩
 rw [← hy] at h2 h3 e1
 have hM:0≤M:=by
  rw [← e1]
  unfold wrap64
  omega
 have hQ:0≤Q∧Q<(n:Int):=by rw [← e2];exact ⟨Int.tmod_nonneg _ hM,Int.tmod_lt_of_pos _ hp⟩
 exact ⟨M,Q.toNat,by rw [← hy];exact e1,by rw [e2];omega,by omega⟩
theorem perm_step {ot lf:List Nat} {n k x:Nat} (h:(ot++lf).Perm (List.range n)) (hk:lf[k]?=some x):((ot++[x])++(lf.take k++lf.drop (k+1))).Perm (List.range n):=by
 refine List.Perm.trans ?_ h
 obtain ⟨hl,hx⟩:=List.getElem?_eq_some_iff.1 hk
 have h1:lf=lf.take k++x::lf.drop (k+1):=by
  rw [← hx,← List.drop_eq_getElem_cons hl,List.take_append_drop]
 conv=>rhs;rw [h1]
 rw [List.append_assoc]
 exact List.Perm.append_left ot (show (x::(lf.take k++lf.drop (k+1))).Perm (lf.take k++x::lf.drop (k+1)) from List.perm_middle.symm)
def OrdL (n:Nat) (w:World) (v5 v7 v8:Value) (wr:World):Prop :=
 ∃ lf ot i A c B d o,v5=.slice A lf.length c∧v7=.slice B ot.length d∧v8=.int .i64 ((i:Nat):Int)∧i=ot.length∧(ot++lf).Perm (List.range n)∧Sl wr o 1 1 A lf.length c (nsV lf)∧(A=none→c=0)∧Sl wr o 2 1 B ot.length d (nsV ot)∧(B=none→d=0)∧Stp (fun j=>j≠0) w (fun _=>0) wr o
theorem order_c (n:Nat) (hn:n≤64) (cs:List Int) (C:Option Addr) (m q:Nat) (hm:m=cs.length) (hmb:m≤4611686018427387903) (hcs:∀ c∈cs,-9223372036854775808≤c∧c≤9223372036854775807) (w:World) (hC:Rd w C (cs.map (Value.int .i64))) :
  Calls Tryz.prog 17 #[.int .i64 (n:Int),.slice C m q] w fun e w'=>∃ A c P,e=.returned (.slice A n c)∧P.Perm (List.range n)∧NewS w n (nsV P) (.slice A n c) w'∧Ext w w':=by
 have HCC:=Hy hC
 have HCS:=Hy hcs
 have HMM:=Hy hm
 clear hC hcs hm
 go_enter Tryz.func17,Tryz.ntmps17
 go_upto_region 3 with (fail)
 go_loopw [5,6] (fun v5 v6 wr=>∃ i A c o,v6=.int .i64 ((i:Nat):Int)∧v5=.slice A i c∧i≤n∧Sl wr o 1 1 A i c (nsV (List.range i))∧(A=none→c=0)∧Stp (fun j=>j≠0) w (fun _=>0) wr o) (fun _ v6 _=>n-(intOf v6).toNat)
 case atStart=>exact ⟨0,none,0,fun _=>0,rfl,rfl,Nat.zero_le _,Sl.nil_ _ _ _ _ _,fun _=>rfl,Stp.rfl'⟩
 case round =>
  obtain ⟨i,A,c,o,rfl,rfl,hi,hs,hna,hst⟩:=hrel
  have HS:=Hy hs
  have HNA:=Hy hna
  have HST:=Hy hst
  clear hs hna hst
  by_cases hlt:i<n
  ·have k1:(i:Int)<(n:Int):=by omega
   go_wp2_with (at_builtin;go_loud (refine wpL_put slt_intO (.tmp 15) (.tmp 17) rfl rfl rfl rfl (HS.out.ext Xq) HNA.out (Sl.src Tryz.underlying23 (Rd.newZ wr #[.int .i64 (i:Int)] 3 (0,0)) (by simp) (by omega) (by simp [Value.oneCell']) 1) (by omega) (by unfold maxLen;omega) ?_;intro A7 c7 w7 o7 hs7 hst7 hz7;have HS7:=Hy hs7;have HST7:=Hy ((Stp.ext (w:=wr) Xq).tr (hst7.mono (L:=fun j=>j≠0) fun j hj=>by omega));have HZ7:=Hy hz7;clear hs7 hst7 hz7))
   go_roundw
   case rel=>exact ⟨i+1,A7,c7,o7,by go_num,rfl,by omega,by have:=HS7.out;rw [List.range_succ,← nsV_app];exact this,HZ7.out,HST.out.tr HST7.out⟩
   case measure=>simp [intOf];omega
  ·obtain rfl:i=n:=by omega
   have k1:¬(i:Int)<(i:Int):=by omega
   clear hlt hi
   go_upto_region 8 with (fail)
   go_loopw [5,7,8] (fun v5 v7 v8 wr=>OrdL i w v5 v7 v8 wr) (fun v5 _ _ _=>slN v5)
   case atStart=>exact ⟨List.range i,[],0,A,c,none,0,o,by rw [List.length_range],rfl,rfl,rfl,List.Perm.refl _,by rw [List.length_range];exact HS.out,HNA.out,Sl.nil_ _ _ _ _ _,fun _=>rfl,HST.out⟩
   case round =>
    clear HS HNA HST k1
    obtain ⟨lf,ot,j,A,c,B,d,o,rfl,rfl,rfl,hj,hperm,hs,hna,ht,hnb,hst⟩:=hrel
    have HP:=Hy hperm
    have HS:=Hy hs
    have HNA:=Hy hna
    have HT:=Hy ht
    have HNB:=Hy hnb
    have HST:=Hy hst
    have hlen:=hperm.length_eq
    rw [List.length_append,List.length_range] at hlen
    have HLE:=Hy hlen
    have HJ:=Hy hj
    clear hperm hs hna ht hnb hst hj
    cases lf with
    | nil =>
     obtain ⟨no,hno⟩:∃ k,k=ot.length:=⟨_,rfl⟩
     have hni:no=i:=by rw [hno];simpa using hlen
     rw [← hno] at HT
     rw [← hno]
     subst hni
     have HNO:=Hy hno
     clear hlen hno
     go_wp2
     go_ret
     refine ⟨B,d,ot,rfl,by have:=HP.out;rw [List.append_nil] at this;exact this,⟨B,d,rfl,HT.out.rd,?_⟩,HST.out.toExt (fun _ _ h=>h rfl)⟩
     rcases HT.out.at_ with h0 | ⟨g,f,hB,hg,_⟩
     ·left
      have:=HT.out.le
      have h3:=HNO.out
      have:ot=[]:=List.eq_nil_of_length_eq_zero (by omega)
      rw [this];rfl
     ·right
      intro a ha
      rw [hB] at ha
      cases ha
      rcases Nat.lt_or_ge g w.heap.size with h | h
      ·have:=HST.out.own g h
       rw [hg] at this;cases this
      ·exact h
    | cons x0 lt =>
     obtain ⟨lf,hlf⟩:∃ l,l=x0::lt:=⟨_,rfl⟩
     have hpos:0<lf.length:=by rw [hlf];simp
     rw [← hlf] at HS HP HLE hlen
     rw [← hlf]
     clear hlf
     obtain ⟨nl,hnl⟩:∃ k,k=lf.length:=⟨_,rfl⟩
     obtain ⟨no,hno⟩:∃ k,k=ot.length:=⟨_,rfl⟩
     rw [← hnl] at HS hlen hpos
     rw [← hno] at HT hlen HJ
     rw [← hno,← hnl]
     have hnl64:nl≤64:=by omega
     have hno64:no≤64:=by omega
     obtain ⟨g,f,hA,hcl⟩:∃ g f,A=some ⟨g,f,none⟩∧∀ j u,(nsV lf)[j]?=some u→wr.cell? ⟨g,f+j,none⟩=some u:=by
      rcases HS.out.at_ with h0 | ⟨g,f,hA,_,_,hc,_⟩
      ·have:=HS.out.le;omega
      ·exact ⟨g,f,hA,hc⟩
     subst hA
     have HCL:=Hy hcl
     have HNL:=Hy hnl
     have HNO:=Hy hno
     have hj64:j≤64:=by have:=HJ.out;omega
     have z0:¬(nl:Int)=0:=by omega
     have z1:(0:Int)<(nl:Int):=by omega
     clear hnl hno hcl hlen hpos
     go_upto_region 10 with (fail)
     go_cut [9] (fun v9 wx=>v9=.int .i64 0∧wr=wx)
     case first =>
      go_wp2
      go_meet
      exact ⟨rfl,rfl⟩
     case rest =>
      obtain ⟨rfl,hw⟩:=hcut
      subst hw
      go_step
      go_step
      go_cut [9] (fun v9 wx=>∃ k:Nat,v9=.int .i64 (k:Int)∧k<nl∧wr=wx)
      case first =>
       by_cases hjm:j<m
       ·obtain ⟨g',f',rfl,hct⟩:=int_atP (t:=j) (HCC.out.ext (HST.out.toExt (fun _ _ h=>h rfl))) (by rw [← HMM.out];exact hjm)
        have hcb:=HCS.out _ (List.getElem_mem (show j<cs.length by rw [← HMM.out];exact hjm))
        obtain ⟨ct,hcte⟩:∃ c,c=cs[j]'(by rw [← HMM.out];exact hjm):=⟨_,rfl⟩
        rw [← hcte] at hct hcb
        obtain ⟨M,k,e1,e2,hk⟩:=modN ct nl (by omega) hnl64
        have t0:(0:Int)≤(j:Int):=by omega
        have t1:(j:Int)<(m:Int):=by omega
        clear hcte hjm
        go_wp2
        go_meet
        exact ⟨k,rfl,hk,rfl⟩
       ·have t1:¬(j:Int)<(m:Int):=by omega
        go_wp2
        go_meet
        exact ⟨0,rfl,by omega,rfl⟩
      case rest =>
       obtain ⟨k,rfl,hk,hw⟩:=hcut
       subst hw
       obtain ⟨x,hx⟩:∃ x,lf[k]?=some x:=⟨_,List.getElem?_eq_getElem (by rw [← HNL.out];exact hk)⟩
       have hcell:=HCL.out k (.int .i64 (x:Int)) (by unfold nsV;rw [List.getElem?_map,hx];rfl)
       have hk0:(0:Int)≤(k:Int):=by omega
       have hk1:(k:Int)<(nl:Int):=by omega
       have HXK:=Hy hx
       clear hx
       go_upto_region 14 with (at_builtin;go_loud (refine wpL_put slt_intO (.tmp 41) (.tmp 46) rfl rfl rfl rfl (HT.out.ext Xq) HNB.out (Sl.src Tryz.underlying23 (Rd.newZ wr #[.int .i64 (x:Int)] 3 (0,0)) (by simp) (by omega) (by simp [Value.oneCell']) 1) (by omega) (by unfold maxLen;omega) ?_;intro A7 c7 w7 o7 hs7 hst7 hz7;have HS7:=Hy hs7;have HST7:=Hy ((Stp.ext (w:=wr) Xq).tr hst7);have HZ7:=Hy hz7;clear hs7 hst7 hz7))
       have HL7:=Hy (HS.out.stp HST7.out (by omega))
       obtain ⟨A',hcut2,hrd2⟩:=cut_fromO (nsV lf) (some ⟨g,f,none⟩) nl c (k+1) ((k:Int)+1) (by omega) (by unfold nsV;rw [List.length_map,HNL.out]) (by omega) HS.out.le
       have hcut1:=cut_toO g f nl c k (by omega) HS.out.le
       have hk2:IntKind.i64.wrap ((k:Int)+1)=(k:Int)+1:=by rw [IntKind.wrap_i64];omega
       have HRD2:=Hy hrd2
       obtain ⟨L,hL⟩:∃ L,L=nl-(k+1):=⟨_,rfl⟩
       obtain ⟨L2,hL2⟩:∃ L,L=c-(k+1):=⟨_,rfl⟩
       rw [← hL,← hL2] at hcut2
       have HLL:=Hy hL
       clear hrd2 hL hL2 hcell
       refine wp_region_noPanic ?_
       refine wp_region_held_drew (S:=fun _=>True) (by kernel_rfl) trivial (fun hHeld=>?_)
       refine wpAnyH_take (i:=1) (oi:=?_) (v:=?_) ?_ (by kernel_rfl) (by kernel_rfl) (by kernel_rfl) (fun _ _ _ h=>h) (Or.inl ⟨?_,?_⟩) (by assumption) ?_
       rotate_left 2
       ·(simp only [List.getElem?_toArray,List.getElem?_cons_succ,List.getElem?_cons_zero];first | done | rfl)
       ·rfl
       ·intro w hSw
        try dsimp only at hSw
        go_simp <;> with_reducible rfl
       try simp only [Act.put,List.setIfInBounds_toArray,List.set_cons_zero,List.set_cons_succ]
       refine wpAnyH_take (i:=2) (oi:=?_) (v:=?_) ?_ (by kernel_rfl) (by kernel_rfl) (by kernel_rfl) (fun _ _ _ h=>h) (Or.inl ⟨?_,?_⟩) (by assumption) ?_
       rotate_left 2
       ·(simp only [List.getElem?_toArray,List.getElem?_cons_succ,List.getElem?_cons_zero];first | done | rfl)
       ·rfl
       ·intro w hSw
        try dsimp only at hSw
        go_simp <;> with_reducible rfl
       try simp only [Act.put,List.setIfInBounds_toArray,List.set_cons_zero,List.set_cons_succ]
       refine wpAnyH_take (i:=3) (oi:=?_) (v:=?_) ?_ (by kernel_rfl) (by kernel_rfl) (by kernel_rfl) (fun _ _ _ h=>h) (Or.inl ⟨?_,?_⟩) (by assumption) ?_
       rotate_left 2
       ·(simp only [List.getElem?_toArray,List.getElem?_cons_succ,List.getElem?_cons_zero];first | done | rfl)
       ·rfl
       ·intro w hSw
        try dsimp only at hSw
        go_simp <;> with_reducible rfl
       try simp only [Act.put,List.setIfInBounds_toArray,List.set_cons_zero,List.set_cons_succ]
       refine wpAnyH_take (i:=5) (oi:=?_) (v:=?_) ?_ (by kernel_rfl) (by kernel_rfl) (by kernel_rfl) (fun _ _ _ h=>h) (Or.inl ⟨?_,?_⟩) (by assumption) ?_
       rotate_left 2
       ·(simp only [List.getElem?_toArray,List.getElem?_cons_succ,List.getElem?_cons_zero];first | done | rfl)
       ·rfl
       ·intro w hSw
        try dsimp only at hSw
        go_simp <;> with_reducible rfl
       try simp only [Act.put,List.setIfInBounds_toArray,List.set_cons_zero,List.set_cons_succ]
       refine wpAnyH_take (i:=6) (oi:=?_) (v:=?_) ?_ (by kernel_rfl) (by kernel_rfl) (by kernel_rfl) (fun _ _ _ h=>h) (Or.inl ⟨?_,?_⟩) (by assumption) ?_
       rotate_left 2
       ·(simp only [List.getElem?_toArray,List.getElem?_cons_succ,List.getElem?_cons_zero];first | done | rfl)
       ·rfl
       ·intro w hSw
        try dsimp only at hSw
        go_simp <;> with_reducible rfl
       try simp only [Act.put,List.setIfInBounds_toArray,List.set_cons_zero,List.set_cons_succ]
       refine wpAnyH_take (i:=7) (oi:=?_) (v:=?_) ?_ (by kernel_rfl) (by kernel_rfl) (by kernel_rfl) (fun _ _ _ h=>h) (Or.inl ⟨?_,?_⟩) (by assumption) ?_
       rotate_left 2
       ·(simp only [List.getElem?_toArray,List.getElem?_cons_succ,List.getElem?_cons_zero];first | done | rfl)
       ·rfl
       ·intro w hSw
        try dsimp only at hSw
        go_simp <;> with_reducible rfl
       try simp only [Act.put,List.setIfInBounds_toArray,List.set_cons_zero,List.set_cons_succ]
       refine wpAnyH_take (i:=8) (oi:=?_) (v:=?_) ?_ (by kernel_rfl) (by kernel_rfl) (by kernel_rfl) (fun _ _ _ h=>h) (Or.inl ⟨?_,?_⟩) (by assumption) ?_
       rotate_left 2
       ·(simp only [List.getElem?_toArray,List.getElem?_cons_succ,List.getElem?_cons_zero];first | done | rfl)
       ·rfl
       ·intro w hSw
        try dsimp only at hSw
        go_simp <;> with_reducible rfl
       try simp only [Act.put,List.setIfInBounds_toArray,List.set_cons_zero,List.set_cons_succ]
       refine wpAnyH_ready (rs:=[0]) (by kernel_rfl) (by simp) ?_
       refine AllReadyH.cons rfl (fun K hK=>?_) AllReadyH.nil
       go_simp
       refine hK.out _ _ trivial (fun _=>?_)
       clear hK K
       try simp only [List.getElem?_toArray,List.getElem?_cons_succ,List.getElem?_cons_zero,Act.put,List.setIfInBounds_toArray,List.set_cons_zero,List.set_cons_succ]
       have hl8:((nsV lf).take (k*1)).length=k*1:=by rw [List.length_take];unfold nsV;rw [List.length_map,← HNL.out];omega
       have hl9:((nsV lf).drop (k+1)).length=L*1:=by rw [List.length_drop];unfold nsV;rw [List.length_map,← HNL.out,HLL.out];omega
       have ho8:∀ u∈(nsV lf).take (k*1),u.oneCell'=true:=fun u hu=>nsV_one lf u (List.mem_of_mem_take hu)
       have ho9:∀ u∈(nsV lf).drop (k+1),u.oneCell'=true:=fun u hu=>nsV_one lf u (List.mem_of_mem_drop hu)
       have H89:=Hy (And.intro (And.intro hl8 hl9) (And.intro ho8 ho9))
       have HL8:=Hy (HL7.out.ext (show Ext w7 (w7.alloc (.cells #[] 3)).drew from Xq))
       have HT8:=Hy (HS7.out.ext (show Ext w7 (w7.alloc (.cells #[] 3)).drew from Xq))
       have HST8:=Hy ((HST.out.tr (HST7.out.mono (L:=fun j=>j≠0) fun i hi=>by omega)).tr (Stp.ext (show Ext w7 (w7.alloc (.cells #[] 3)).drew from Xq)))
       have hLb:L≤64:=by have:=HLL.out;omega
       clear hl8 hl9 ho8 ho9 HL7 HS7 HST7
       refine wpAnyH_ready (rs:=[4]) (by kernel_rfl) (by simp) ?_
       refine AllReadyH.cons rfl (fun K hK=>?_) AllReadyH.nil
       refine wp_putO slt_intO (.tmp 48) (.tmp 51) rfl rfl rfl (Sl.nil_ _ o7 3 1 _) (fun _=>rfl) (Sl.src Tryz.underlying23 (HL8.out.take k (by omega)).rd H89.out.1.1 (by omega) H89.out.2.1 c) (by omega) (by unfold maxLen;omega) ?_
       intro A8 c8 w8 o8 hs8 hst8 hz8
       have HS8:=Hy hs8
       have HST9:=Hy hst8
       have HZ8:=Hy hz8
       clear hs8 hst8 hz8
       refine hK.out _ _ trivial (fun _=>?_)
       clear hK K
       try simp only [List.getElem?_toArray,List.getElem?_cons_succ,List.getElem?_cons_zero,Act.put,List.setIfInBounds_toArray,List.set_cons_zero,List.set_cons_succ]
       refine wpAnyH_ready (rs:=[9]) (by kernel_rfl) (by simp) ?_
       refine AllReadyH.cons rfl (fun K hK=>?_) AllReadyH.nil
       refine wp_putO slt_intO (.tmp 52) (.tmp 56) rfl rfl rfl HS8.out HZ8.out (Sl.src Tryz.underlying23 (HRD2.out w8 (HL8.out.stp HST9.out (by omega)).rd) H89.out.1.2 (by omega) H89.out.2.2 L2) (by omega) (by unfold maxLen;omega) ?_
       intro A9 c9 w9 o9 hs9 hst9 hz9
       have HS9:=Hy hs9
       have HST10:=Hy (HST9.out.tr hst9)
       have HZ9:=Hy hz9
       clear hs9 hst9 hz9
       refine hK.out _ _ trivial (fun _=>?_)
       clear hK K
       try simp only [List.getElem?_toArray,List.getElem?_cons_succ,List.getElem?_cons_zero,Act.put,List.setIfInBounds_toArray,List.set_cons_zero,List.set_cons_succ]
       refine wpAnyH_take (i:=10) (oi:=?_) (v:=?_) ?_ (by kernel_rfl) (by kernel_rfl) (by kernel_rfl) (fun _ _ _ h=>h) (Or.inl ⟨?_,?_⟩) (by assumption) ?_
       rotate_left 2
       ·(simp only [List.getElem?_toArray,List.getElem?_cons_succ,List.getElem?_cons_zero];first | done | rfl)
       ·rfl
       ·intro w hSw
        try dsimp only at hSw
        go_simp <;> with_reducible rfl
       try simp only [Act.put,List.setIfInBounds_toArray,List.set_cons_zero,List.set_cons_succ]
       refine wpAnyH_done (by kernel_rfl) ?_ _
       refine NoPanic.normal ?_
       have hll:(lf.take k++lf.drop (k+1)).length=0+k+L:=by rw [List.length_append,List.length_take,List.length_drop,← HNL.out,HLL.out];omega
       have hmm:0+k+L<nl:=by have:=HLL.out;omega
       have HL10:=Hy hll
       have hot:(ot++[x]).length=no+1:=by rw [List.length_append,← HNO.out];rfl
       have HOT:=Hy hot
       clear hll hot
       try simp only [List.getElem?_toArray,List.getElem?_cons_succ,List.getElem?_cons_zero,Act.put,List.setIfInBounds_toArray,List.set_cons_zero,List.set_cons_succ]
       go_wp2_with fail
       go_roundw
       case rel =>
        have hN:∀ b,b<w.heap.size→(if o9 b=3 then 1 else o9 b)=0:=fun b hb=>by
         have:=((HST8.out.tr (HST10.out.mono (L:=fun j=>j≠0) fun i hi=>by omega)).own b hb)
         rw [if_neg (by rw [this];decide)]
         exact this
        refine ⟨lf.take k++lf.drop (k+1),ot++[x],j+1,A9,c9,A7,c7,fun b=>if o9 b=3 then 1 else o9 b,by rw [HL10.out,Nat.zero_add],by rw [HOT.out],by go_num,by rw [HOT.out,HJ.out],perm_step HP.out HXK.out,?_,HZ9.out,?_,HZ7.out,(HST8.out.tr (HST10.out.mono (L:=fun j=>j≠0) fun i hi=>by omega)).reown hN⟩
        ·have h9:=HS9.out.give (o':=fun b=>if o9 b=3 then 1 else o9 b) (j:=1) (fun b _ hb=>if_pos hb)
         rw [List.nil_append,Nat.mul_one,nsV_take,nsV_drop,nsV_app] at h9
         rw [HL10.out]
         exact h9
        ·have h9:=(HT8.out.stp HST10.out (by omega)).give (o':=fun b=>if o9 b=3 then 1 else o9 b) (j:=2) (fun b _ hb=>(show (if o9 b=3 then 1 else o9 b)=2 from by rw [if_neg (by omega)];exact hb))
         rw [HOT.out,← nsV_app]
         exact h9
       case measure=>simp [slN];omega
def RefOk (l:List Th24):Prop:=∀ st,Th24.ref st∈l→400≤st∧st≤503
theorem RefOk.snoc {l:List Th24} {t:Th24} (h:RefOk l) (ht:∀ st,t=.ref st→400≤st∧st≤503):RefOk (l++[t]):=fun st hx=>by
 rcases List.mem_append.1 hx with hx | hx
 ·exact h st hx
 ·exact ht st (List.mem_singleton.1 hx).symm
theorem end_ref {q:Sp24} (h:RefOk q.1.row) (hs:StOk q.2.1):RefOk (endC q).1.row:=by
 obtain ⟨s,st,r⟩:=q
 cases st with
 | none=>exact h
 | some st=>exact RefOk.snoc h (fun x hx=>by cases hx;exact hs st rfl)
theorem bodies_ref {s:Cst} (h:RefOk s.row) (b:List UInt8):RefOk (bodiesC s b).1.row:=by
 unfold bodiesC
 split
 ·exact h
 ·dsimp only
  split
  ·exact h
  ·split
   ·exact h
   ·split
    ·exact RefOk.snoc h (fun x hx=>by cases hx)
    ·exact h
theorem read_ref {s:Cst} (h:RefOk s.row) (b:List UInt8):RefOk (readC s b).1.row:=by
 by_cases hb:s.inBody=true
 ·rw [read_b _ hb];exact end_ref (bodies_ref h b) (bodies_st s b)
 ·rw [read_h _ (by simpa using hb)]
  have hh:RefOk (headsC s b).1.row:=by rw [(heads_same s b).2.1];exact h
  split
  ·exact end_ref (bodies_ref hh _) (bodies_st _ _)
  ·exact end_ref hh (heads_st s b)
theorem reads_ref:∀ (n:Nat) (s:Cst) (b:List UInt8),RefOk s.row→RefOk (readsC n s b).row
 | 0,_,_,h=>h
 | n+1,s,b,h=>by
  show RefOk (if s.reads=true∧b≠[] then readsC n (readC s b).1 (readC s b).2 else s).row
  split
  ·exact reads_ref n _ _ (read_ref h b)
  ·exact h
def connF:List (List Fld):=[[],[(cnN,clW)],[(cnN,kaW)]]
theorem fields_is (a:Ask24) (only:Bool) (x:List UInt8):∃ C∈connF,fieldsC a only x=(if a.r.1=headM then [] else [(clN,Lib.itoa x.length)])++C:=by
 refine ⟨if a.lasting=false∨only=true then [(cnN,clW)] else if a.r.2.2.1=0 then [(cnN,kaW)] else [],?_,rfl⟩
 unfold connF
 split
 ·simp
 ·split
  ·simp
  ·simp
instance (fs:List Fld):Decidable (Fl8 fs):=by unfold Fl8;infer_instance
theorem conn_known:∀ C∈connF,(rsW 200 C).2=0∧Fl8 C∧∀ n∈[0,1,2,3],(rsW 200 ([(clN,Lib.itoa (n:Nat))]++C)).2=0∧Fl8 ([(clN,Lib.itoa (n:Nat))]++C)∧rspV getM 200 ([(clN,Lib.itoa (n:Nat))]++C)=(1,((n:Nat):Int),0):=by decide +kernel
theorem ref_known:∀ k∈List.range 104,(rsW ((k:Nat)+400:Int) [(ctN,tpW),(clN,Lib.itoa (bodyR ((k:Nat)+400:Int)).length),(cnN,clW)]).2=0∧rspV getM ((k:Nat)+400:Int) [(ctN,tpW),(clN,Lib.itoa (bodyR ((k:Nat)+400:Int)).length),(cnN,clW)]=(1,((bodyR ((k:Nat)+400:Int)).length:Int),0)∧(bodyR ((k:Nat)+400:Int)).length≤1048576∧Fl8 [(ctN,tpW),(clN,Lib.itoa (bodyR ((k:Nat)+400:Int)).length),(cnN,clW)]:=by decide +kernel
theorem cont_known:(rsW 100 []).2=0:=by decide +kernel
theorem meth_in {l:List Ev24} {i:Nat} {e:Ev24} {m:List Ev24} (h:l.drop i=e::m):methL l i=if e.r.1=headM then heaN else getM:=by
 have hi:i<l.length:=by
  rcases Nat.lt_or_ge i l.length with h1 | h1
  ·exact h1
  ·rw [List.drop_eq_nil_of_le h1] at h;cases h
 have h0:=List.drop_eq_getElem_cons hi
 rw [h] at h0
 injection h0 with h0 _
 unfold methL
 rw [List.getElem?_eq_getElem hi,← h0]
 simp only [Option.map_some,Option.some.injEq]
 rfl
theorem meth_out {l:List Ev24} {i:Nat} (h:l.length≤i):methL l i=getM:=by
 unfold methL
 rw [List.getElem?_eq_none h]
 rfl
def wantR (f:Nat→List UInt8):Nat→List Ev24→List (List UInt8)
 | _,[]=>[]
 | i,e::m=>(Lib.itoa 200++(if e.r.1=headM then [] else f i))::wantR f (i+1) m
def lastR (t:List Th24):List (List UInt8):=match t with
 | .ref st::_=>[Lib.itoa st++bodyR st]
 | _=>[]
structure RspS (b:List UInt8) (st:Int) (fs:List Fld) (k:Nat):Prop where
 fd:(feedP (newP true) b).2=(k,true,0)
 tl:∃ mi re,tellP (feedP (newP true) b).1=(st,mi,re,fs)
 kp:0<k
 kl:k≤b.length
 f8:Fl8 fs
inductive BodS (l:List Ev24):Nat→List UInt8→List (List UInt8)→Prop where
 | nil (i:Nat):BodS l i [] []
 | skip {i:Nat} {b:List UInt8} {ws:List (List UInt8)} {fs:List Fld} {k:Nat}:RspS b 100 fs k→BodS l i (b.drop k) ws→BodS l i b ws
 | one {i:Nat} {b:List UInt8} {ws:List (List UInt8)} {st:Int} {fs:List Fld} {k:Nat} {body:List UInt8} {kd rn j:Nat}:RspS b st fs k→101≤st∧st≤599→rspV (methL l i) st fs=((kd:Int),(rn:Int),0)→kd≤3∧(rn=0∨kd=1)∧rn≤1048576→(feedF (newF kd rn 1048576) (b.drop k)).2=(j,body,true,0)→j≤(b.drop k).length∧body.length≤1048576→BodS l (i+1) ((b.drop k).drop j) ws→BodS l i b ((Lib.itoa st++body)::ws)
theorem rsp_at {st:Int} {fs:List Fld} (h:(rsW st fs).2=0) (h8:Fl8 fs) (m:List UInt8):RspS ((rsW st fs).1++m) st fs (rsW st fs).1.length:=by
 obtain ⟨h1,h2,_⟩:=back_rsp st fs m h
 refine ⟨h1,⟨_,_,h2⟩,List.length_pos_iff.2 (rs_some h),by rw [List.length_append];omega,h8⟩
theorem bods_one {l:List Ev24} {i:Nat} {ws:List (List UInt8)} {st:Int} {fs:List Fld} (h:(rsW st fs).2=0) (h8:Fl8 fs) (hs:101≤st∧st≤599) (body m:List UInt8) (hb:body.length≤1048576)
  (hx:(rspV (methL l i) st fs=(0,0,0)∧body=[])∨rspV (methL l i) st fs=(1,(body.length:Int),0)) (hm:BodS l (i+1) m ws) :
  BodS l i ((rsW st fs).1++(body++m)) ((Lib.itoa st++body)::ws):=by
 have hd:((rsW st fs).1++(body++m)).drop (rsW st fs).1.length=body++m:=List.drop_left ..
 rcases hx with ⟨hx,rfl⟩ | hx
 ·refine BodS.one (kd:=0) (rn:=0) (j:=0) (rsp_at h h8 _) hs hx ⟨by decide,.inl rfl,by decide⟩ ?_ ⟨Nat.zero_le _,by decide⟩ ?_
  ·exact feed_none 1048576 _
  ·rw [hd];exact hm
 ·refine BodS.one (kd:=1) (rn:=body.length) (j:=body.length) (rsp_at h h8 _) hs hx ⟨by decide,.inr rfl,hb⟩ ?_ ⟨?_,hb⟩ ?_
  ·rw [hd];exact feed_sized body.length 1048576 body m rfl hb
  ·rw [hd,List.length_append];omega
  ·rw [hd,List.drop_left];exact hm
theorem bods_all (rd:Bool) (f:Nat→List UInt8) (l:List Ev24) {t:List Th24} (ht:EndR t) (hr:RefOk t):∀ (m:List Ev24) (i:Nat),l.drop i=m→(∀ j,i≤j→j<i+m.length→(f j).length≤3) →
  BodS l i (outAll rd f t i m) (wantR f i m++lastR t)
 | [],i,hd,_=>by
  rcases ht with rfl | ⟨st,rfl⟩
  ·exact BodS.nil i
  ·obtain ⟨h1,h2⟩:=hr st List.mem_cons_self
   obtain ⟨k,hk⟩:∃ k:Nat,st=(k:Int)+400:=⟨(st-400).toNat,by omega⟩
   obtain ⟨k1,k2,k3,k4⟩:=ref_known k (List.mem_range.2 (by omega))
   rw [← hk] at k1 k2 k3 k4
   have hl:l.length≤i:=List.drop_eq_nil_iff.1 hd
   have e:outAll rd f [.ref st] i []=(rsW st [(ctN,tpW),(clN,Lib.itoa (bodyR st).length),(cnN,clW)]).1++(bodyR st++[]):=by
    show (refusedC st++(writesC rd []).1:List UInt8)=_
    unfold refusedC
    simp [writesC]
   rw [e]
   exact bods_one k1 k4 (by omega) (bodyR st) [] k3 (.inr (by rw [meth_out hl];exact k2)) (BodS.nil _)
 | e::m,i,hd,hf=>by
  have hx:(f i).length≤3:=hf i (Nat.le_refl _) (by simp)
  have hnext:l.drop (i+1)=m:=by
   have:=List.drop_drop (i:=1) (j:=i) (l:=l)
   rw [hd] at this
   simpa [Nat.add_comm] using this.symm
  have ih:=bods_all rd f l ht hr m (i+1) hnext (fun j h1 h2=>hf j (by omega) (by simp only [List.length_cons];omega))
  obtain ⟨C,hC,hfs⟩:=fields_is ⟨i,e.r,lastingC e.r,some (f i)⟩ (decide (m=[]∧t=[]) && !rd) (f i)
  obtain ⟨c1,c3,c2⟩:=conn_known C hC
  have eo:outAll rd f t i (e::m)=writtenC ⟨i,e.r,lastingC e.r,some (f i)⟩ (decide (m=[]∧t=[]) && !rd) (f i)++outAll rd f t (i+1) m:=rfl
  rw [eo]
  unfold writtenC
  rw [hfs]
  by_cases hh:e.r.1=headM
  ·rw [if_pos hh,if_pos hh,List.append_nil,List.nil_append]
   have:=bods_one (l:=l) (i:=i) c1 c3 ⟨by decide,by decide⟩ [] (outAll rd f t (i+1) m) (by decide) (.inl ⟨by rw [meth_in hd,if_pos hh];exact if_pos (.inl rfl),rfl⟩) ih
   rw [List.nil_append] at this
   show BodS l i _ ((Lib.itoa 200++(if e.r.1=headM then [] else f i))::(wantR f (i+1) m++lastR t))
   rw [if_pos hh]
   exact this
  ·rw [if_neg hh,if_neg hh]
   obtain ⟨d1,d3,d2⟩:=c2 (f i).length (by simp only [List.mem_cons,List.mem_nil_iff,or_false];omega)
   rw [List.append_assoc]
   show BodS l i _ ((Lib.itoa 200++(if e.r.1=headM then [] else f i))::(wantR f (i+1) m++lastR t))
   rw [if_neg hh]
   exact bods_one d1 d3 ⟨by decide,by decide⟩ (f i) (outAll rd f t (i+1) m) (by omega) (.inr (by rw [meth_in hd,if_neg hh];exact d2)) ih
theorem out_read {z:Cst} (ho:OutOk z) (rd:Bool) (f:Nat→List UInt8) {t:List Th24} (ht:EndR t) (hr:RefOk t) (hf:∀ j,j<z.evs.length→(f j).length≤3) :
  BodS z.evs 0 (z.out++outAll rd f t 0 z.evs) (wantR f 0 z.evs++lastR t):=by
 have h1:=bods_all rd f z.evs ht hr z.evs 0 rfl (fun j _ h=>hf j (by omega))
 rcases ho.o with h | h
 ·rw [h,List.nil_append];exact h1
 ·rw [h]
  have e:(contR++outAll rd f t 0 z.evs).drop (rsW 100 []).1.length=outAll rd f t 0 z.evs:=List.drop_left ..
  refine BodS.skip (rsp_at (m:=outAll rd f t 0 z.evs) cont_known ⟨by decide,fun x hx=>by cases hx⟩) ?_
  have h2:BodS z.evs 0 ((contR++outAll rd f t 0 z.evs).drop (rsW 100 []).1.length) (wantR f 0 z.evs++lastR t):=by rw [e];exact h1
  exact h2
theorem want_len (f:Nat→List UInt8):∀ (l:List Ev24) (i:Nat),(wantR f i l).length=l.length
 | [],_=>rfl
 | _::t,i=>congrArg (·+1) (want_len f t (i+1))
theorem want_at (f:Nat→List UInt8):∀ (l:List Ev24) (i j:Nat) (e:Ev24) (m:List Ev24),l.drop j=e::m→(wantR f i l)[j]?=some (Lib.itoa 200++(if e.r.1=headM then [] else f (i+j)))
 | [],_,j,e,m,h=>by simp at h
 | x::t,i,0,e,m,h=>by
  have:x=e:=by simpa using (List.cons.inj h).1
  rw [this];rfl
 | x::t,i,j+1,e,m,h=>by
  have:=want_at f t (i+1) j e m (by simpa using h)
  show (wantR f (i+1) t)[j]?=_
  rw [this,show i+1+j=i+(j+1) from by omega]
theorem tail_len {t:List Th24} (ht:EndR t):(t=[]∧lastR t=[])∨(lastR t).length=1:=by
 rcases ht with rfl | ⟨st,rfl⟩
 ·exact .inl ⟨rfl,rfl⟩
 ·exact .inr rfl
theorem uni_suf {p q:List Th24} (h:UnI (p++q)):UnI q:=fun p' a t e=>by
 obtain ⟨h1,h2⟩:=h (p++p') a t (by rw [e,List.append_assoc])
 exact ⟨fun b hb=>h1 b (List.mem_append_right _ hb),h2⟩
theorem writes_suf (rd:Bool):∀ l:List Th24,∃ p,l=p++(writesC rd l).2
 | []=>⟨[],rfl⟩
 | .ref st::t=>by
  obtain ⟨p,hp⟩:=writes_suf rd t
  exact ⟨.ref st::p,by show _=Th24.ref st::(p++(writesC rd t).2);rw [← hp]⟩
 | .ask a::t=>by
  cases ha:a.ans with
  | none=>exact ⟨[],by rw [writes_none rd ha];rfl⟩
  | some x =>
   obtain ⟨p,hp⟩:=writes_suf rd t
   exact ⟨.ask a::p,by rw [writes_some rd ha];show _=Th24.ask a::(p++(writesC rd t).2);rw [← hp]⟩
theorem ids_asksA (A:Nat→Bool) (f:Nat→List UInt8):∀ (l:List Ev24) (i:Nat) (t:List Th24),EndR t→∀ b,Th24.ask b∈asksA A f i l++t→i≤b.id
 | [],i,t,ht,b,hb=>by
  rcases ht with rfl | ⟨st,rfl⟩
  ·simp [asksA] at hb
  ·simp [asksA] at hb
 | e::l,i,t,ht,b,hb=>by
  rcases List.mem_cons.1 (show Th24.ask b∈Th24.ask ⟨i,e.r,lastingC e.r,if A i=true then some (f i) else none⟩::(asksA A f (i+1) l++t) from hb) with h | h
  ·have:b=⟨i,e.r,lastingC e.r,if A i=true then some (f i) else none⟩:=by simpa using h
   rw [this];exact Nat.le_refl _
  ·have:=ids_asksA A f l (i+1) t ht b h
   omega
theorem uni_asksA (A:Nat→Bool) (f:Nat→List UInt8):∀ (l:List Ev24) (i:Nat) (t:List Th24),EndR t→UnI (asksA A f i l++t)
 | [],i,t,ht=>by
  rcases ht with rfl | ⟨st,rfl⟩
  ·exact uni_nil
  ·exact uni_cons uni_nil (fun a h=>by cases h)
 | e::l,i,t,ht=>by
  refine uni_cons (x:=.ask ⟨i,e.r,lastingC e.r,if A i=true then some (f i) else none⟩) (uni_asksA A f l (i+1) t ht) (fun a ha b hb=>?_)
  have h1:=ids_asksA A f l (i+1) t ht b hb
  have h2:a=⟨i,e.r,lastingC e.r,if A i=true then some (f i) else none⟩:=by simpa using ha.symm
  rw [h2]
  show b.id≠i
  omega
theorem rowOk_asksA (A:Nat→Bool) {f:Nat→List UInt8}:∀ (l:List Ev24) (i:Nat) {t:List Th24},RowOk t→(∀ j,i≤j→j<i+l.length→(f j).length≤100)→RowOk (asksA A f i l++t)
 | [],_,_,h,_=>h
 | e::l,i,t,h,hf=>fun x hx=>by
  rcases List.mem_cons.1 (show x∈Th24.ask ⟨i,e.r,lastingC e.r,if A i=true then some (f i) else none⟩::(asksA A f (i+1) l++t) from hx) with rfl | hx
  ·intro y hy
   have h1:=hf i (Nat.le_refl _) (by simp)
   by_cases ha:A i=true
   ·rw [show (if A i=true then some (f i) else none)=some (f i) from if_pos ha] at hy
    cases hy;exact h1
   ·rw [show (if A i=true then some (f i) else none)=none from if_neg ha] at hy
    cases hy
  ·exact rowOk_asksA A l (i+1) h (fun j h1 h2=>hf j (by omega) (by simp only [List.length_cons];omega)) x hx
structure OrI (A:Nat→Bool) (f:Nat→List UInt8) (l:List Ev24) (t:List Th24) (o:List UInt8) (r:Bool) (s:Cst):Prop where
 at_:AtA A f l t o s
 rd:s.reads=r
theorem OrI.fit {A:Nat→Bool} {f:Nat→List UInt8} {l:List Ev24} {t:List Th24} {o:List UInt8} {r:Bool} {s:Cst} (h:OrI A f l t o r s) (ht:EndR t) (hk:RowOk t) (hf:∀ j,j<l.length→(f j).length≤100) (ho:o.length≤32768) (hl:l.length≤64) :
  RowOk s.row∧s.out.length+s.row.length*40000≤1099511627776∧UnI s.row:=by
 have h1:RowOk (asksA A f 0 l++t):=rowOk_asksA A l 0 hk (fun j _ hj=>hf j (by omega))
 have h2:=writes_fit s.reads _ h1
 have h3:t.length≤1:=by rcases ht with rfl | ⟨st,rfl⟩ <;> simp
 obtain ⟨p,hp⟩:=writes_suf s.reads (asksA A f 0 l++t)
 have h4:=uni_asksA A f l 0 t ht
 rw [hp] at h4
 rw [List.length_append,asksA_len] at h2
 rw [h.at_.1,h.at_.2]
 refine ⟨rowOk_writes _ _ h1,?_,uni_suf h4⟩
 rw [List.length_append]
 omega
theorem OrI.start {z:Cst} (h:InI [] z) (f:Nat→List UInt8):∃ t,EndR t∧z.row=asksC 0 z.evs++t∧OrI (fun _=>false) f z.evs t z.out z.reads (putC z):=by
 obtain ⟨t,ht,hr,_⟩:=fresh_row (z:=z) h.f
 exact ⟨t,ht,hr,at_none f hr,rfl⟩
theorem OrI.step {A:Nat→Bool} {f:Nat→List UInt8} {l:List Ev24} {t:List Th24} {o:List UInt8} {r:Bool} {s:Cst} (h:OrI A f l t o r s) {k:Nat} (hk:A k=false) (hl:k<l.length):(answerC s k (f k)).2=0∧OrI (addA A k) f l t o r (answerC s k (f k)).1:=by
 obtain ⟨h1,h2,h3⟩:=at_tell h.at_ hk hl
 exact ⟨h1,h2,h3.trans h.rd⟩
theorem OrI.all {A:Nat→Bool} {f:Nat→List UInt8} {l:List Ev24} {t:List Th24} {o:List UInt8} {r:Bool} {s:Cst} (h:OrI A f l t o r s) (ht:EndR t) (hA:∀ j,j<l.length→A j=true):s.row=[]∧s.out=o++outAll r f t 0 l:=by
 have hw:=writes_all s.reads A f ht l 0 (fun j _ hj=>hA j (by omega))
 rw [h.at_.1,h.at_.2,hw,h.rd]
 exact ⟨rfl,rfl⟩
end Go.Proofs.YthbofilcnpdghaaGreatDoor
end
