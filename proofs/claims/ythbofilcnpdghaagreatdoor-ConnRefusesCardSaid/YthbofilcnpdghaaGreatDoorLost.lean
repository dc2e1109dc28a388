/-
Parts of earlier texts that other laws did not want.
-/
import Derived.Test.YthbofilcnpdghaaGreatDoorZca
import Derived.Test.YthbofilcnpdghaaGreatDoorZbt
set_option maxRecDepth 100000
set_option maxHeartbeats 8000000
set_option linter.unusedVariables false
set_option linter.unusedSimpArgs false
namespace Go.Proofs.YthbofilcnpdghaaGreatDoor
open Go.RowKit
theorem bc_take (a:List UInt8) (k:Nat):(bc a).take k=bc (a.take k):=by simp [bc]
theorem bc_drop (a:List UInt8) (k:Nat):(bc a).drop k=bc (a.drop k):=by simp [bc]
theorem Ro.olds {w0 w:World} {o:Ow} {A:Option Addr} {xs:List Value} (h:Rd w0 A xs) (x:Old w0 w o):Ro w o A xs:=Ro.old h x.ext x.own
theorem kc_no {k j:Nat} (h1:k<80) (h2:j<80) (h:k+20≤j∨j+20≤k):(∀ i,i<13→¬ KC k (j+i))∧∀ id,¬ KC k (KA j id):=by
 refine ⟨fun i hi=>?_,fun id=>?_⟩
 ·unfold KC;omega
 ·unfold KC KA;omega
theorem nReading_c (k c:Nat) (s:Cst) (w:World) (o:Ow) (h:CnAt w o k c s):Calls Tryz.prog 11 #[.pointer (some ⟨c,0,none⟩)] w (Tells (.bool s.reads) w):=by
 obtain ⟨a,⟨ho,hr,hp⟩,hnx⟩:=h
 have c6:=hr.c6
 have c4:=hr.c4
 obtain ⟨rd,hrd⟩:∃ x,x=s.reads:=⟨_,rfl⟩
 rw [← hrd] at c4 ⊢
 clear hr hp ho hrd hnx
 go_enter Tryz.func11,Tryz.ntmps11
 go_wp2_with (go_at_call 25;refine (nNone_c _ _ _ _ (by assumption)).mono ?_;rintro e w2 ⟨rfl,rfl⟩)
 go_ret
 exact ⟨rfl,rfl⟩
theorem hFields_c (fs:List Fld) (A B:Option Addr) (n c m d:Nat) (hn:fs.length=n) (hm:fs.length=m) (hb:n≤maxLen) (w:World) (h:Rd w A (fc fs)) (hB:Rd w B (fc fs)) :
  Calls Tryz.prog 28 #[.slice A n c,.slice B m d] w (Gives (.bool true) w):=by
 obtain rfl:n=m:=hn.symm.trans hm
 unfold maxLen at hb
 go_enter Tryz.func28,Tryz.ntmps28
 go_wp2
 go_loopw [5] (fun i wr=>∃ k:Nat,k≤n∧i=.int .i64 (k:Int)∧Ext w wr) (fun i _=>n-(intOf i).toNat)
 case atStart=>exact ⟨0,Nat.zero_le _,rfl,Ext.rfl' _⟩
 case round =>
  obtain ⟨k,hk,rfl,hext⟩:=hrel
  by_cases hlt:k<n
  ·obtain ⟨b,o,rfl,hbl,hS⟩:=h.fld (k:=k) (by omega)
   obtain ⟨b',o',rfl,hbl',hS'⟩:=hB.fld (k:=k) (by omega)
   obtain ⟨a0,a1⟩:=hS.out wr hext
   obtain ⟨e0,e1⟩:=hS'.out wr hext
   obtain ⟨p,hp⟩:∃ p,p=fs[k]:=⟨_,rfl⟩
   rw [← hp] at a0 a1 e0 e1
   obtain ⟨x,y⟩:=p
   have hk0:(0:Int)≤(k:Int):=by omega
   have hk1:(k:Int)<(n:Int):=by omega
   clear hp
   go_wp2
   go_quiet (fail)
   go_wp2
   go_roundw
   case rel=>exact ⟨k+1,by omega,by go_num,hext.drN _⟩
   case measure=>simp [intOf];omega
  ·obtain rfl:k=n:=by omega
   go_wp2
   go_ret
   exact ⟨rfl,hext⟩
theorem hSame_c (m t:ByteArray) (i:Int) (fs:List Fld) (A B:Option Addr) (n k c d:Nat) (hn:fs.length=n) (hk:fs.length=k) (hb:n≤maxLen) (w:World) (h:Rd w A (fc fs)) (hB:Rd w B (fc fs)) :
  Calls Tryz.prog 12 #[.agg #[.string m,.string t,.int .i64 i,.slice A n c],.agg #[.string m,.string t,.int .i64 i,.slice B k d]] w (Gives (.bool true) w):=by
 have HA:=Lib.hid h
 have HB:=Lib.hid hB
 clear h hB
 have CF:=Lib.hid (fun w h hB=>hFields_c fs A B n c k d hn hk hb w h hB)
 clear hn hk hb
 go_enter Tryz.func12,Tryz.ntmps12
 go_wp2_with (go_at_call 28;refine (CF.out _ (HA.out.ext (by (repeat first | exact Ex0 | assumption | refine Ex1 ?_ | refine Ex2 ?_ | refine Ex3 ?_ | refine Ex4 ?_ | refine Ex5 ?_))) (HB.out.ext (by (repeat first | exact Ex0 | assumption | refine Ex1 ?_ | refine Ex2 ?_ | refine Ex3 ?_ | refine Ex4 ?_ | refine Ex5 ?_)))).mono ?_;rintro e w1 ⟨rfl,x1⟩)
 go_ret
 exact ⟨rfl,by (repeat first | exact Ex0 | assumption | refine Ex1 ?_ | refine Ex2 ?_ | refine Ex3 ?_ | refine Ex4 ?_ | refine Ex5 ?_)⟩
theorem spot_none6 {W:World} {a:Addr} {u:Value} (h:W.cell? a=some u):a.spot=none:=by
 unfold World.cell? at h
 cases hsp:a.spot with
 | none=>rfl
 | some z=>simp only [hsp,Option.isSome_some,if_true] at h;split at h <;> cases h
theorem rd_of6 {W:World} {a:Addr} {xs:List Value} (h:∀ i u,xs[i]?=some u→W.cell? (a.add i)=some u):Rd W (some a) xs:=by
 cases xs with
 | nil=>exact .inl rfl
 | cons x xs =>
  have h1:=h 0 x rfl
  have hs:=spot_none6 h1
  obtain ⟨b,f,sp⟩:=a
  have hs:sp=none:=by simpa [Addr.add] using hs
  subst hs
  exact .inr ⟨b,f,rfl,fun i u hu=>by have:=h i u hu;rwa [add_mk] at this⟩
end Go.Proofs.YthbofilcnpdghaaGreatDoor
