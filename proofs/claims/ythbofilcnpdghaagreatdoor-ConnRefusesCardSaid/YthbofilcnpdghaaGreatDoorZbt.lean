/-
A connection's calls on none, and on one that nobody made; how many wait.
-/
import Derived.Test.YthbofilcnpdghaaGreatDoorZbs
import Derived.Test.YthbofilcnpdghaaGreatDoorZae
import Derived.Lib.LaidTab
set_option maxRecDepth 100000
set_option maxHeartbeats 8000000
set_option linter.unusedVariables false
set_option linter.unusedSimpArgs false
section
namespace Go.Proofs.YthbofilcnpdghaaGreatDoor
open Go.RowKit
theorem nInput_nil (B:Option Addr) (n d:Nat) (now:Int) (w:World):Calls Tryz.prog 10 #[.pointer none,.slice B n d,.int .i64 now] w (Tells (.slice none 0 0) w):=by
 go_enter Tryz.func10,Tryz.ntmps10
 go_wp2_with (go_at_call 25; refine (nNone_nil _).mono ?_; rintro e w2 ⟨rfl,hw⟩; subst hw)
 go_ret
 exact ⟨rfl,rfl⟩
theorem nInput_unmade (c:Nat) (B:Option Addr) (n d:Nat) (now:Int) (w:World) (h:w.cell? ⟨c,6,none⟩=some .nilFunc):Calls Tryz.prog 10 #[.pointer (some ⟨c,0,none⟩),.slice B n d,.int .i64 now] w (Tells (.slice none 0 0) w):=by
 go_enter Tryz.func10,Tryz.ntmps10
 go_wp2_with (go_at_call 25; refine (nNone_unmade _ _ (by assumption)).mono ?_; rintro e w2 ⟨rfl,hw⟩; subst hw)
 go_ret
 exact ⟨rfl,rfl⟩
theorem nAnswer_nil (id:Int) (w:World):Calls Tryz.prog 13 #[.pointer none,.int .i64 id,.agg #[.int .i64 200,.slice none 0 0,.slice none 0 0]] w (Gives (.int .i64 1) w):=by
 go_enter Tryz.func13,Tryz.ntmps13
 go_wp2_with (go_at_call 25; refine (nNone_nil _).mono ?_; rintro e w2 ⟨rfl,hw⟩; subst hw)
 go_ret
 exact ⟨rfl,by (repeat first | exact Ex0 | assumption | refine Ex1 ?_ | refine Ex2 ?_ | refine Ex3 ?_ | refine Ex4 ?_ | refine Ex5 ?_)⟩
theorem nAnswer_unmade (c:Nat) (id:Int) (w:World) (h:w.cell? ⟨c,6,none⟩=some .nilFunc):Calls Tryz.prog 13 #[.pointer (some ⟨c,0,none⟩),.int .i64 id,.agg #[.int .i64 200,.slice none 0 0,.slice none 0 0]] w (Gives (.int .i64 1) w):=by
 have hc:c < w.heap.size:=lt_of_cell h
 go_enter Tryz.func13,Tryz.ntmps13
 go_wp2_with (go_at_call 25; refine (nNone_unmade _ _ (((show Ext w _ from (by (repeat first | exact Ex0 | assumption | refine Ex1 ?_ | refine Ex2 ?_ | refine Ex3 ?_ | refine Ex4 ?_ | refine Ex5 ?_))).cell (lt_of_cell h)).trans h)).mono ?_; rintro e w2 ⟨rfl,hw⟩; subst hw)
 go_ret
 exact ⟨rfl,by (repeat first | exact Ex0 | assumption | refine Ex1 ?_ | refine Ex2 ?_ | refine Ex3 ?_ | refine Ex4 ?_ | refine Ex5 ?_)⟩
theorem nWaiting_nil (w:World):Calls Tryz.prog 16 #[.pointer none] w (Tells (.int .i64 0) w):=by
 go_enter Tryz.func16,Tryz.ntmps16
 go_wp2_with (go_at_call 25; refine (nNone_nil _).mono ?_; rintro e w2 ⟨rfl,hw⟩; subst hw)
 go_ret
 exact ⟨rfl,rfl⟩
theorem nWaiting_unmade (c:Nat) (w:World) (h:w.cell? ⟨c,6,none⟩=some .nilFunc):Calls Tryz.prog 16 #[.pointer (some ⟨c,0,none⟩)] w (Tells (.int .i64 0) w):=by
 go_enter Tryz.func16,Tryz.ntmps16
 go_wp2_with (go_at_call 25; refine (nNone_unmade _ _ (by assumption)).mono ?_; rintro e w2 ⟨rfl,hw⟩; subst hw)
 go_ret
 exact ⟨rfl,rfl⟩
theorem nEnd_nil (w:World):Calls Tryz.prog 20 #[.pointer none] w (Tells (.tuple #[]) w):=by
 go_enter Tryz.func20,Tryz.ntmps20
 go_wp2_with (go_at_call 25; refine (nNone_nil _).mono ?_; rintro e w2 ⟨rfl,hw⟩; subst hw)
 go_end0
 exact ⟨rfl,rfl⟩
theorem nEnd_unmade (c:Nat) (w:World) (h:w.cell? ⟨c,6,none⟩=some .nilFunc):Calls Tryz.prog 20 #[.pointer (some ⟨c,0,none⟩)] w (Tells (.tuple #[]) w):=by
 go_enter Tryz.func20,Tryz.ntmps20
 go_wp2_with (go_at_call 25; refine (nNone_unmade _ _ (by assumption)).mono ?_; rintro e w2 ⟨rfl,hw⟩; subst hw)
 go_end0
 exact ⟨rfl,rfl⟩
theorem nTick_nil (now:Int) (w:World):Calls Tryz.prog 21 #[.pointer none,.int .i64 now] w (Tells (.tuple #[]) w):=by
 go_enter Tryz.func21,Tryz.ntmps21
 go_wp2_with (go_at_call 25; refine (nNone_nil _).mono ?_; rintro e w2 ⟨rfl,hw⟩; subst hw)
 go_end0
 exact ⟨rfl,rfl⟩
theorem nTick_unmade (c:Nat) (now:Int) (w:World) (h:w.cell? ⟨c,6,none⟩=some .nilFunc):Calls Tryz.prog 21 #[.pointer (some ⟨c,0,none⟩),.int .i64 now] w (Tells (.tuple #[]) w):=by
 go_enter Tryz.func21,Tryz.ntmps21
 go_wp2_with (go_at_call 25; refine (nNone_unmade _ _ (by assumption)).mono ?_; rintro e w2 ⟨rfl,hw⟩; subst hw)
 go_end0
 exact ⟨rfl,rfl⟩
end Go.Proofs.YthbofilcnpdghaaGreatDoor
end
section
namespace Go.Proofs.YthbofilcnpdghaaGreatDoor
open Go.RowKit
theorem Sto.allExt {K:Nat → Prop} {w w':World} {o':Ow} (h:Sto K w (fun _=>0) w' o') (h0:¬ K 0):Ext w w' :=
 ⟨h.os,h.tape,h.output,h.size,fun b hb=>h.keep b hb h0⟩
def NilL (w:World) (v7 v8:Value) (wr:World):Prop:=Ext w wr∧((v8=.int .i64 0∧v7=.pointer none) ∨ (v8=.int .i64 1∧∃ c,v7=.pointer (some ⟨c,0,none⟩)∧wr.cell? ⟨c,6,none⟩=some .nilFunc) ∨ v8=.int .i64 2)
theorem connNil_w (w:World) (hL:Lb w) (B:Option Addr) (n d:Nat) (id now:Int) :
  Calls Tryz.prog 6 #[.slice B n d,.int .i64 id,.int .i64 now] w (Gives (.bool true) w):=by
 go_enter Tryz.func6,Tryz.ntmps6
 go_upto_region 3 with (fail)
 go_loopw [7,8] (fun v7 v8 wr=>NilL w v7 v8 wr) (fun _ v8 _=>2 - (intOf v8).toNat)
 case atStart=>exact ⟨Ext.rfl' _,.inl ⟨rfl,rfl⟩⟩
 case round =>
  obtain ⟨hx,⟨rfl,rfl⟩ | ⟨rfl,c,rfl,h6⟩ | rfl⟩:=hrel
  ·go_wp2_with (first
    | (go_at_call 20; refine (nEnd_nil _).mono ?_; rintro e w2 ⟨rfl,hw⟩; subst hw)
    | (go_at_call 21; refine (nTick_nil _ _).mono ?_; rintro e w2 ⟨rfl,hw⟩; subst hw)
    | (go_at_call 10; refine (nInput_nil _ _ _ _ _).mono ?_; rintro e w2 ⟨rfl,hw⟩; subst hw)
    | (go_at_call 13; refine (nAnswer_nil _ _).mono ?_; rintro e w2 ⟨rfl,hx2⟩)
    | (go_at_call 8; refine (nNum_c _ _).mono ?_; rintro e w3 ⟨rfl,hw⟩; subst hw)
    | (go_at_call 14; refine (nOutput_nil _).mono ?_; rintro e w3 ⟨rfl,hw⟩; subst hw)
    | (go_at_call 16; refine (nWaiting_nil _).mono ?_; rintro e w3 ⟨rfl,hw⟩; subst hw)
    | (go_at_call 11; refine (nReading_nil _).mono ?_; rintro e w3 ⟨rfl,hw⟩; subst hw)
    | (go_at_call 15; refine (nClosed_nil _).mono ?_; rintro e w3 ⟨rfl,hw⟩; subst hw))
   go_roundw
   case rel=>exact ⟨hx.tr (by (repeat first | exact Ex0 | assumption | refine Ex1 ?_ | refine Ex2 ?_ | refine Ex3 ?_ | refine Ex4 ?_ | refine Ex5 ?_)),.inr (.inl ⟨rfl,_,rfl,(row_facts (heap_alloc_new _ _) 6 _ rfl).1⟩)⟩
   case measure=>simp [intOf]
  ·have hx6:=fun (w':World) (e:Ext wr w')=>(e.cell (lt_of_cell h6)).trans h6
   go_wp2_with (first
    | (go_at_call 20; refine (nEnd_unmade _ _ h6).mono ?_; rintro e w2 ⟨rfl,hw⟩; subst hw)
    | (go_at_call 21; refine (nTick_unmade _ _ _ h6).mono ?_; rintro e w2 ⟨rfl,hw⟩; subst hw)
    | (go_at_call 10; refine (nInput_unmade _ _ _ _ _ _ h6).mono ?_; rintro e w2 ⟨rfl,hw⟩; subst hw)
    | (go_at_call 13; refine (nAnswer_unmade _ _ _ h6).mono ?_; rintro e w2 ⟨rfl,hx2⟩; have h7:=hx6 w2 hx2)
    | (go_at_call 8; refine (nNum_c _ _).mono ?_; rintro e w3 ⟨rfl,hw⟩; subst hw)
    | (go_at_call 14; refine (nOutput_unmade _ _ h7).mono ?_; rintro e w3 ⟨rfl,hw⟩; subst hw)
    | (go_at_call 16; refine (nWaiting_unmade _ _ h7).mono ?_; rintro e w3 ⟨rfl,hw⟩; subst hw)
    | (go_at_call 11; refine (nReading_unmade _ _ h7).mono ?_; rintro e w3 ⟨rfl,hw⟩; subst hw)
    | (go_at_call 15; refine (nClosed_unmade _ _ h7).mono ?_; rintro e w3 ⟨rfl,hw⟩; subst hw))
   go_roundw
   case rel=>exact ⟨hx.tr (by (repeat first | exact Ex0 | assumption | refine Ex1 ?_ | refine Ex2 ?_ | refine Ex3 ?_ | refine Ex4 ?_ | refine Ex5 ?_)),.inr (.inr rfl)⟩
   case measure=>simp [intOf]
  ·go_wp2_with (go_at_call 9; refine (knows_c w hL _ (fun _=>0) ((Old.start w).exto hx) (fun _ _=>by decide)).mono ?_; rintro e w2 ⟨rfl,o2,st2,_⟩)
   go_ret
   exact ⟨rfl,hx.tr (st2.allExt (kc0 (by decide)))⟩
end Go.Proofs.YthbofilcnpdghaaGreatDoor
end
section
namespace Go.Proofs.YthbofilcnpdghaaGreatDoor
open Go.RowKit Go.ChangeShapes
theorem tPow:(Tryz.prog.globals[0]?).map (·.type)=some 171:=by kernel_rfl
theorem cells20:Tryz.prog.cellsOf 171=20:=by kernel_rfl
theorem cells_u64:Tryz.prog.cellsOf 138=1:=by kernel_rfl
theorem pow_of {W : World} {rest : List (String × DataW Unit)} (h : laidMet Tryz.prog (("internal/strconv.uint64pow10", Lib.tabData .u64 Lib.pow10Tab) :: rest) W) : Pow W :=
 Lib.tabIs_of_head gPow tPow Tryz.underlying171 Tryz.underlying138 cells_u64 cells20 h
end Go.Proofs.YthbofilcnpdghaaGreatDoor
end
