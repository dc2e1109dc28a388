/-
Dates: nothing is no date.
-/
import Derived.Test.YtemdgilifnhdpaaGreatDoorShelf
import Derived.Test.YtemdgilifnhdpaaGreatDoorZag
import Derived.Defers
import Derived.Recover
import Derived.Test.YtemdgilifnhdpaaGreatDoorZaf
import Derived.Test.YtemdgilifnhdpaaGreatDoorProg
import Derived.Test.YtemdgilifnhdpaaGreatDoorZac
import Derived.Lib.AppendIntMem
import Derived.Lib.ItoaLen
import Derived.Lib.ItoaMem
set_option linter.unusedVariables false
set_option linter.unusedSimpArgs false
section
namespace Go.Proofs.YtemdgilifnhdpaaGreatDoor
open Go.RowKit Go.Extern.Stop Go.Stop Go.Extern

def PanD (w : World) (r : Ending) (w' : World) : Prop := r = .panicked [{ v := .iface 35 (.int .i64 41), recovered := false }] ∧ Ext w w'
set_option maxRecDepth 100000 in
theorem daTake_no (g : Addr) (k : Int) (hk : 0 < k) (w : World) (hc : w.cell? g = some (.string ⟨#[]⟩)) (hg : g = ⟨g.block, 0, none⟩) : Calls Tryz.prog 140 #[.pointer (some g), .int .i64 k] w (PanD w) := by
  obtain ⟨b, hb⟩ : ∃ b, b = g.block := ⟨_, rfl⟩
  rw [← hb] at hg
  subst hg
  clear hb
  have d1 : decide ((0 : Int) < k) = true := decide_eq_true hk
  have d2 : decide (k ≤ (0 : Int)) = false := decide_eq_false (by omega)
  go_enter Tryz.func140, Tryz.ntmps140
  go_wp2
  simp [bodyPost]
  exact ⟨rfl, by (repeat (first | exact Ext.rfl' _ | assumption | refine Ext.dr ?_ | refine Ext.drN ?_ _ | refine Ext.al ?_ _ | refine Ext.st ?_ (by simp) _ | refine Ext.tr ?_ (by assumption)))⟩
set_option maxRecDepth 100000 in
theorem daFirst_no (b : Nat) (now : Int) (w : World) (hc : w.cell? ⟨b, 0, none⟩ = some (.string ⟨#[]⟩)) : Calls Tryz.prog 102 #[.pointer (some ⟨b, 0, none⟩), .int .i64 now] w (PanD w) := by
  have hc2 := ((Ext.rfl' w).al (.cells #[.int .i64 0, .int .i64 0, .int .i64 0, .int .i64 0, .int .i64 0, .int .i64 0, .int .i64 0] 169)).cell (lt_of_cell hc)
  rw [hc] at hc2
  have CT := Lib.hid (daTake_no ⟨b, 0, none⟩ 5 (by decide) _ hc2 rfl)
  go_enter Tryz.func102, Tryz.ntmps102
  go_wp2_with (go_at_call 140; refine (CT.out).mono ?_; rintro e w2 ⟨rfl, hx2⟩)
  simp [bodyPost]
  exact ⟨rfl, by (repeat (first | exact Ext.rfl' _ | assumption | refine Ext.dr ?_ | refine Ext.drN ?_ _ | refine Ext.al ?_ _ | refine Ext.st ?_ (by simp) _ | refine Ext.tr ?_ (by assumption)))⟩
set_option maxRecDepth 100000 in
theorem daSecond_no (b : Nat) (now : Int) (w : World) (hc : w.cell? ⟨b, 0, none⟩ = some (.string ⟨#[]⟩)) : Calls Tryz.prog 103 #[.pointer (some ⟨b, 0, none⟩), .int .i64 now] w (PanD w) := by
  have hc2 := fun x => ((Ext.rfl' w).al x).cell (lt_of_cell hc)
  rw [hc] at hc2
  have CT := Lib.hid (fun w' (e : Ext w w') => daTake_no ⟨b, 0, none⟩ 2 (by decide) w' ((e.cell (lt_of_cell hc)).trans hc) rfl)
  have CI : ∀ w, Calls Tryz.prog 88 #[.string ⟨#[44]⟩, .int .u8 44] w fun e w' => e = .returned (.int .i64 0) ∧ w = w' := fun w => (Tryz.strings_IndexByte _ _ _).mono fun e w' ⟨he, hw⟩ => ⟨by rw [he]; rfl, hw.symm⟩
  have CI := Lib.hid CI
  have cat : ∀ w, (Op.stringOp .add ⟨#[]⟩ ⟨#[44]⟩).run Tryz.prog w = .ok (.string ⟨#[44]⟩) w := fun w => catD [] [44] (by simp) w
  go_enter Tryz.func103, Tryz.ntmps103
  go_wp2_with (first
    | (go_at_call 88; refine (CI.out _).mono ?_; clear CI; rintro e w1 ⟨rfl, hw⟩; subst hw)
    | (go_at_call 140; refine (CT.out _ (by (repeat (first | exact Ext.rfl' _ | assumption | refine Ext.dr ?_ | refine Ext.drN ?_ _ | refine Ext.al ?_ _ | refine Ext.st ?_ (by simp) _ | refine Ext.tr ?_ (by assumption))))).mono ?_; rintro e w2 ⟨rfl, hx2⟩))
  simp [bodyPost]
  exact ⟨rfl, by (repeat (first | exact Ext.rfl' _ | assumption | refine Ext.dr ?_ | refine Ext.drN ?_ _ | refine Ext.al ?_ _ | refine Ext.st ?_ (by simp) _ | refine Ext.tr ?_ (by assumption)))⟩
set_option maxRecDepth 100000 in
theorem daThird_no (b : Nat) (now : Int) (w : World) (hc : w.cell? ⟨b, 0, none⟩ = some (.string ⟨#[]⟩)) : Calls Tryz.prog 104 #[.pointer (some ⟨b, 0, none⟩), .int .i64 now] w (PanD w) := by
  have hc2 := ((Ext.rfl' w).al (.cells #[.int .i64 0, .int .i64 0, .int .i64 0, .int .i64 0, .int .i64 0, .int .i64 0, .int .i64 0] 169)).cell (lt_of_cell hc)
  rw [hc] at hc2
  have CT := Lib.hid (daTake_no ⟨b, 0, none⟩ 4 (by decide) _ hc2 rfl)
  go_enter Tryz.func104, Tryz.ntmps104
  go_wp2_with (go_at_call 140; refine (CT.out).mono ?_; rintro e w2 ⟨rfl, hx2⟩)
  simp [bodyPost]
  exact ⟨rfl, by (repeat (first | exact Ext.rfl' _ | assumption | refine Ext.dr ?_ | refine Ext.drN ?_ _ | refine Ext.al ?_ _ | refine Ext.st ?_ (by simp) _ | refine Ext.tr ?_ (by assumption)))⟩
end Go.Proofs.YtemdgilifnhdpaaGreatDoor
end

section
namespace Go.Proofs.YtemdgilifnhdpaaGreatDoor
open Go.RowKit Go.Extern.Stop Go.Stop Go.Extern

set_option maxRecDepth 100000 in
set_option maxHeartbeats 1000000 in
theorem daTryD_caught (p q : Nat) (a b : Value) (w : World) (hp : w.heap[p]? = some (.cells #[a] 3 (0, 0))) (hq : w.heap[q]? = some (.cells #[b] 4 (0, 0))) (h1 : p ≠ q) :
    CallsD Tryz.prog 144 #[.pointer (some ⟨p, 0, none⟩), .pointer (some ⟨q, 0, none⟩)] (.panicking [{ v := .iface 35 (.int .i64 41), recovered := false }]) w fun x u' w' => x = .returned (.tuple #[]) ∧ u' = .panicking [{ v := .iface 35 (.int .i64 41), recovered := true }] ∧
      w' = ((w.setCell ⟨p, 0, none⟩ (.int .i64 0)).setCell ⟨q, 0, none⟩ (.bool false)) := by
  have p0 := row_facts hp 0 _ rfl
  have q0 := row_facts hq 0 _ rfl
  clear hp hq
  refine callsD_of_wpS Tryz.func144 rfl fun c₀ cs hu => ?_
  apply wpS_seq
  apply wpS_region
  simp [wpOpsS, go_sem, recoverD, hu, Tryz.ntmps144, Exit.thenS]
  refine wpS_cond (t := true) (by simp [Act.eval, Array.replicate]) ?_
  simp only [if_true]
  refine wpS_of_wp ?_
  simp only [Array.replicate_succ, Array.replicate_zero, List.push_toArray, List.nil_append, List.cons_append, List.setIfInBounds_toArray, List.set_cons_zero, List.set_cons_succ, List.append_toArray]
  go_wp2
  all_goals cases c₀
  all_goals simp_all [bodyPostS, results, Tryz.results144, Exit.thenS]
theorem tryX (w : World) : ∀ w2, Ext (((w.alloc (.cells #[.int .i64 0] 3)).alloc (.cells #[.bool false] 4)).alloc (.cells #[.string ⟨#[]⟩] 223)) w2 → w2.heap[w.heap.size]? = some (.cells #[.int .i64 0] 3 (0, 0)) ∧ w2.heap[w.heap.size + 1]? = some (.cells #[.bool false] 4 (0, 0)) := by
  intro w2 e
  obtain ⟨a1, ha1⟩ : ∃ a, a = w.alloc (.cells #[.int .i64 0] 3) := ⟨_, rfl⟩
  have r0 : a1.heap[w.heap.size]? = some (.cells #[.int .i64 0] 3 (0, 0)) := by rw [ha1]; exact heap_alloc_new w _
  have s1 : a1.heap.size = w.heap.size + 1 := by rw [ha1]; simp
  have r1 : (a1.alloc (.cells #[.bool false] 4)).heap[w.heap.size + 1]? = some (.cells #[.bool false] 4 (0, 0)) := by rw [← s1]; exact heap_alloc_new a1 _
  rw [← ha1] at e
  have e1 : Ext (a1.alloc (.cells #[.bool false] 4)) w2 := Ext.tr ((Ext.rfl' _).al _) e
  have e0 : Ext a1 w2 := Ext.tr ((Ext.rfl' _).al _) e1
  exact ⟨(e0.block _ (row_lt r0)).trans r0, (e1.block _ (row_lt r1)).trans r1⟩
theorem tryC (w : World) : (((w.alloc (.cells #[.int .i64 0] 3)).alloc (.cells #[.bool false] 4)).alloc (.cells #[.string ⟨#[]⟩] 223)).cell? ⟨w.heap.size + 1 + 1, 0, none⟩ = some (.string ⟨#[]⟩) := by
  have h := heap_alloc_new ((w.alloc (.cells #[.int .i64 0] 3)).alloc (.cells #[.bool false] 4)) (.cells #[.string ⟨#[]⟩] 223)
  have hs : ((w.alloc (.cells #[.int .i64 0] 3)).alloc (.cells #[.bool false] 4)).heap.size = w.heap.size + 1 + 1 := by simp
  rw [hs] at h
  exact (row_facts h 0 _ rfl).1
theorem oth_row {w : World} {g b : Nat} {x : Obj} (h : w.heap[g]? = some x) (hb : b ≠ g) (v : Value) : (w.setCell ⟨b, 0, none⟩ v).heap[g]? = some x := by
  simp [World.setCell, Array.getElem?_modify, h, hb]
theorem tryZ (w : World) (p q : Nat) (a b : Value) (hp : w.heap[p]? = some (.cells #[a] 3 (0, 0))) (hq : w.heap[q]? = some (.cells #[b] 4 (0, 0))) (h : p ≠ q) :
    ((w.setCell ⟨p, 0, none⟩ (.int .i64 0)).setCell ⟨q, 0, none⟩ (.bool false)).cell? ⟨p, 0, none⟩ = some (.int .i64 0) ∧ ((w.setCell ⟨p, 0, none⟩ (.int .i64 0)).setCell ⟨q, 0, none⟩ (.bool false)).cell? ⟨q, 0, none⟩ = some (.bool false) := by
  have p1 := row_set hp 0 (.int .i64 0)
  have q1 : (w.setCell ⟨p, 0, none⟩ (.int .i64 0)).heap[q]? = some (.cells #[b] 4 (0, 0)) := oth_row hq h _
  have p2 := oth_row p1 (fun e => h e.symm) (.bool false)
  have q2 := row_set q1 0 (.bool false)
  exact ⟨(row_facts p2 0 _ rfl).1, (row_facts q2 0 _ rfl).1⟩
set_option maxRecDepth 100000 in
set_option maxHeartbeats 1000000 in
theorem daTryFirst_no (i now : Int) (w : World) :
    Calls Tryz.prog 105 #[.string ⟨#[]⟩, .int .i64 i, .int .i64 now, .func (.func 102) #[] #[]] w (Gives (.tuple #[.int .i64 0, .bool false]) w) := by
  have hmf : ∀ (fn : Fn) (first cap : Array Value) (w : World), (Instr.makeFunc fn first cap).run Tryz.prog w = .ok (.func fn first cap) w := fun _ _ _ _ => rfl
  have HX := Lib.hid (tryX w)
  have CF := Lib.hid (daFirst_no (w.heap.size + 1 + 1) now _ (tryC w))
  go_enter_defers Tryz.func105, Tryz.ntmps105
  go_wp2_with (go_at_call 102; refine (CF.out).mono ?_; rintro e w2 ⟨rfl, hx2⟩)
  obtain ⟨hp, hq⟩ := HX.out _ hx2
  refine leaves_cons (f := 144) (args := #[.pointer (some ⟨w.heap.size, 0, none⟩), .pointer (some ⟨w.heap.size + 1, 0, none⟩)]) (by simp) (by simp [go_sem]) ?_
  refine (daTryD_caught w.heap.size (w.heap.size + 1) _ _ w2 hp hq (by omega)).mono ?_
  rintro e u' w'' ⟨rfl, rfl, rfl⟩
  obtain ⟨z0, z1⟩ := tryZ w2 w.heap.size (w.heap.size + 1) _ _ hp hq (by omega)
  refine ⟨.tuple #[.int .i64 0, .bool false], by simp [results, Tryz.results105, go_sem, z0, z1], ?_⟩
  exact ⟨rfl, by (repeat (first | exact Ext.rfl' _ | assumption | refine Ext.dr ?_ | refine Ext.drN ?_ _ | refine Ext.al ?_ _ | refine Ext.st ?_ (by simp) _ | refine Ext.tr ?_ (by assumption)))⟩
set_option maxRecDepth 100000 in
set_option maxHeartbeats 1000000 in
theorem daTrySecond_no (i now : Int) (w : World) :
    Calls Tryz.prog 105 #[.string ⟨#[]⟩, .int .i64 i, .int .i64 now, .func (.func 103) #[] #[]] w (Gives (.tuple #[.int .i64 0, .bool false]) w) := by
  have hmf : ∀ (fn : Fn) (first cap : Array Value) (w : World), (Instr.makeFunc fn first cap).run Tryz.prog w = .ok (.func fn first cap) w := fun _ _ _ _ => rfl
  have HX := Lib.hid (tryX w)
  have CF := Lib.hid (daSecond_no (w.heap.size + 1 + 1) now _ (tryC w))
  go_enter_defers Tryz.func105, Tryz.ntmps105
  go_wp2_with (go_at_call 103; refine (CF.out).mono ?_; rintro e w2 ⟨rfl, hx2⟩)
  obtain ⟨hp, hq⟩ := HX.out _ hx2
  refine leaves_cons (f := 144) (args := #[.pointer (some ⟨w.heap.size, 0, none⟩), .pointer (some ⟨w.heap.size + 1, 0, none⟩)]) (by simp) (by simp [go_sem]) ?_
  refine (daTryD_caught w.heap.size (w.heap.size + 1) _ _ w2 hp hq (by omega)).mono ?_
  rintro e u' w'' ⟨rfl, rfl, rfl⟩
  obtain ⟨z0, z1⟩ := tryZ w2 w.heap.size (w.heap.size + 1) _ _ hp hq (by omega)
  refine ⟨.tuple #[.int .i64 0, .bool false], by simp [results, Tryz.results105, go_sem, z0, z1], ?_⟩
  exact ⟨rfl, by (repeat (first | exact Ext.rfl' _ | assumption | refine Ext.dr ?_ | refine Ext.drN ?_ _ | refine Ext.al ?_ _ | refine Ext.st ?_ (by simp) _ | refine Ext.tr ?_ (by assumption)))⟩
set_option maxRecDepth 100000 in
set_option maxHeartbeats 1000000 in
theorem daTryThird_no (i now : Int) (w : World) :
    Calls Tryz.prog 105 #[.string ⟨#[]⟩, .int .i64 i, .int .i64 now, .func (.func 104) #[] #[]] w (Gives (.tuple #[.int .i64 0, .bool false]) w) := by
  have hmf : ∀ (fn : Fn) (first cap : Array Value) (w : World), (Instr.makeFunc fn first cap).run Tryz.prog w = .ok (.func fn first cap) w := fun _ _ _ _ => rfl
  have HX := Lib.hid (tryX w)
  have CF := Lib.hid (daThird_no (w.heap.size + 1 + 1) now _ (tryC w))
  go_enter_defers Tryz.func105, Tryz.ntmps105
  go_wp2_with (go_at_call 104; refine (CF.out).mono ?_; rintro e w2 ⟨rfl, hx2⟩)
  obtain ⟨hp, hq⟩ := HX.out _ hx2
  refine leaves_cons (f := 144) (args := #[.pointer (some ⟨w.heap.size, 0, none⟩), .pointer (some ⟨w.heap.size + 1, 0, none⟩)]) (by simp) (by simp [go_sem]) ?_
  refine (daTryD_caught w.heap.size (w.heap.size + 1) _ _ w2 hp hq (by omega)).mono ?_
  rintro e u' w'' ⟨rfl, rfl, rfl⟩
  obtain ⟨z0, z1⟩ := tryZ w2 w.heap.size (w.heap.size + 1) _ _ hp hq (by omega)
  refine ⟨.tuple #[.int .i64 0, .bool false], by simp [results, Tryz.results105, go_sem, z0, z1], ?_⟩
  exact ⟨rfl, by (repeat (first | exact Ext.rfl' _ | assumption | refine Ext.dr ?_ | refine Ext.drN ?_ _ | refine Ext.al ?_ _ | refine Ext.st ?_ (by simp) _ | refine Ext.tr ?_ (by assumption)))⟩
end Go.Proofs.YtemdgilifnhdpaaGreatDoor
end

section
namespace Go.Proofs.YtemdgilifnhdpaaGreatDoor
open Go.RowKit

set_option maxRecDepth 100000 in
set_option maxHeartbeats 1000000 in
theorem daParse_no (now : Int) (w : World) :
    Calls Tryz.prog 73 #[.string ⟨#[]⟩, .int .i64 now] w (Gives (.tuple #[.int .i64 0, .int .i64 41]) w) := by
  have ix0 : ∀ w, (Instr.index 175 (.agg #[.func (.func 102) #[] #[], .func (.func 103) #[] #[], .func (.func 104) #[] #[]]) (.int .i64 0)).run Tryz.prog w = .ok (.func (.func 102) #[] #[]) w := fun w => run_idx_arrD (e := 172) Tryz.underlying175 (fun _ => by rfl) (fun _ => by rfl) (by decide) (by decide) rfl w
  have ix1 : ∀ w, (Instr.index 175 (.agg #[.func (.func 102) #[] #[], .func (.func 103) #[] #[], .func (.func 104) #[] #[]]) (.int .i64 1)).run Tryz.prog w = .ok (.func (.func 103) #[] #[]) w := fun w => run_idx_arrD (e := 172) Tryz.underlying175 (fun _ => by rfl) (fun _ => by rfl) (by decide) (by decide) rfl w
  have ix2 : ∀ w, (Instr.index 175 (.agg #[.func (.func 102) #[] #[], .func (.func 103) #[] #[], .func (.func 104) #[] #[]]) (.int .i64 2)).run Tryz.prog w = .ok (.func (.func 104) #[] #[]) w := fun w => run_idx_arrD (e := 172) Tryz.underlying175 (fun _ => by rfl) (fun _ => by rfl) (by decide) (by decide) rfl w
  have C0 := Lib.hid (daTryFirst_no 0 now)
  have C1 := Lib.hid (daTrySecond_no 1 now)
  have C2 := Lib.hid (daTryThird_no 2 now)
  go_enter Tryz.func73, Tryz.ntmps73
  go_wp2
  go_step3
  go_wp2
  go_step3
  go_wp2
  go_loopw [6, 7, 13] (fun v6 v7 v13 wr => v6 = .int .i64 0 ∧ v7 = .int .i64 41 ∧ ∃ j : Nat, v13 = .int .i64 (j : Int) ∧ j ≤ 3 ∧ Ext w wr) (fun _ _ v13 _ => (3 - intOf v13).toNat)
  case atStart => exact ⟨rfl, rfl, 0, rfl, by omega, by (repeat (first | exact Ext.rfl' _ | assumption | refine Ext.dr ?_ | refine Ext.drN ?_ _ | refine Ext.al ?_ _ | refine Ext.st ?_ (by simp) _ | refine Ext.tr ?_ (by assumption)))⟩
  case round =>
    obtain ⟨rfl, rfl, j, rfl, hj, hx⟩ := hrel
    have HX := Lib.hid hx
    clear hx
    rcases j with _ | _ | _ | _ | j
    · go_wp2_with (go_at_call 105; refine (C0.out _).mono ?_; rintro e w2 ⟨rfl, hx2⟩)
      go_roundw
      case rel => exact ⟨rfl, rfl, 1, by go_num, by omega, HX.out.tr hx2⟩
      case measure => simp [intOf]
    · go_wp2_with (go_at_call 105; refine (C1.out _).mono ?_; rintro e w2 ⟨rfl, hx2⟩)
      go_roundw
      case rel => exact ⟨rfl, rfl, 2, by go_num, by omega, HX.out.tr hx2⟩
      case measure => simp [intOf]
    · go_wp2_with (go_at_call 105; refine (C2.out _).mono ?_; rintro e w2 ⟨rfl, hx2⟩)
      go_roundw
      case rel => exact ⟨rfl, rfl, 3, by go_num, by omega, HX.out.tr hx2⟩
      case measure => simp [intOf]
    · go_wp2
      try rw [Exit.noGoto_ret]
      exact bodyPost_ret (v := .tuple #[.int .i64 0, .int .i64 41]) (by simp [results, Tryz.results73, go_sem]) rfl ⟨rfl, HX.out⟩
    · omega
end Go.Proofs.YtemdgilifnhdpaaGreatDoor
end

section
namespace Go.Proofs.YtemdgilifnhdpaaGreatDoor
open Go.RowKit

def askV (lk : Bool) (A : Option Addr) (n c : Nat) (wk : Bool) (tg : ByteArray) (md : Int) (ex : Bool) (now : Int) : Value := .agg #[.bool lk, .slice A n c, .bool wk, .string tg, .int .i64 md, .bool ex, .int .i64 now]
set_option maxRecDepth 100000 in
set_option maxHeartbeats 2000000 in
theorem cdDate_no (fs : List Fld) (nm : List UInt8) (A : Option Addr) (n c : Nat) (hn : fs.length = n) (hb : n ≤ 8796093022206) (hnm : nm.length ≤ maxLen) (hsz : ∀ p ∈ fs, p.1.length ≤ maxLen) (hno : valsH fs nm = []) (lk wk ex : Bool) (tg : ByteArray) (md now : Int) (w : World) (h : Rd w A (fc fs)) :
    Calls Tryz.prog 66 #[askV lk A n c wk tg md ex now, .string (str nm)] w (Gives (.tuple #[.int .i64 0, .bool false]) w) := by
  have C := fun w' h' => hFirst_c fs nm A n c hn hb hnm hsz w' h'
  rw [hno] at C
  have C := Lib.hid C
  have H := Lib.hid h
  have CP := Lib.hid (daParse_no now)
  have HN := Lib.hid (fun w1 (e : Ext (w.alloc (.cells #[.bool lk, .slice A n c, .bool wk, .string tg, .int .i64 md, .bool ex, .int .i64 now] 123)) w1) => (show w1.cell? ⟨w.heap.size, 6, none⟩ = some (.int .i64 now) from
    have r := heap_alloc_new w (.cells #[.bool lk, .slice A n c, .bool wk, .string tg, .int .i64 md, .bool ex, .int .i64 now] 123)
    (row_facts ((e.block _ (row_lt r)).trans r) 6 _ rfl).1))
  clear h hno hsz hn
  unfold askV
  go_enter Tryz.func66, Tryz.ntmps66
  go_wp2_with (first
    | (go_at_call 72; refine (C.out _ (H.out.ext (by (repeat (first | exact Ext.rfl' _ | assumption | refine Ext.dr ?_ | refine Ext.drN ?_ _ | refine Ext.al ?_ _ | refine Ext.st ?_ (by simp) _ | refine Ext.tr ?_ (by assumption)))))).mono ?_; rintro e w1 ⟨rfl, hx1⟩; have hc6 := HN.out w1 hx1; unfold firstV)
    | (go_at_call 73; refine (CP.out _).mono ?_; rintro e w2 ⟨rfl, hx2⟩))
  refine bodyPost_ret (v := .tuple #[.int .i64 0, .bool false]) (by simp [results, Tryz.results66, go_sem]) rfl ?_
  exact ⟨rfl, by (repeat (first | exact Ext.rfl' _ | assumption | refine Ext.dr ?_ | refine Ext.drN ?_ _ | refine Ext.al ?_ _ | refine Ext.st ?_ (by simp) _ | refine Ext.tr ?_ (by assumption)))⟩
set_option maxRecDepth 100000 in
set_option maxHeartbeats 2000000 in
theorem cdTags_no (fs : List Fld) (nm : List UInt8) (A : Option Addr) (n c : Nat) (hn : fs.length = n) (hb : n ≤ 8796093022206) (hnm : nm.length ≤ maxLen) (hsz : ∀ p ∈ fs, p.1.length ≤ maxLen) (hno : valsH fs nm = []) (lk wk ex : Bool) (tg : ByteArray) (md now : Int) (fv : Value) (w : World) (h : Rd w A (fc fs)) :
    Calls Tryz.prog 64 #[askV lk A n c wk tg md ex now, .string (str nm), fv] w (Gives (.tuple #[.bool false, .bool false]) w) := by
  have C := fun w' h' => hValues_c fs nm A n c hn hb hnm hsz w' h'
  rw [hno] at C
  have C := Lib.hid C
  have H := Lib.hid h
  clear h hno hsz hn
  unfold askV
  go_enter Tryz.func64, Tryz.ntmps64
  go_wp2_with (go_at_call 35; refine (C.out _ (H.out.ext (by (repeat (first | exact Ext.rfl' _ | assumption | refine Ext.dr ?_ | refine Ext.drN ?_ _ | refine Ext.al ?_ _ | refine Ext.st ?_ (by simp) _ | refine Ext.tr ?_ (by assumption)))))).mono ?_; rintro e w1 ⟨v, rfl, ⟨A1, c1, rfl, hr1⟩, hx1⟩)
  refine bodyPost_ret (v := .tuple #[.bool false, .bool false]) (by simp [results, Tryz.results64, go_sem]) rfl ?_
  exact ⟨rfl, by (repeat (first | exact Ext.rfl' _ | assumption | refine Ext.dr ?_ | refine Ext.drN ?_ _ | refine Ext.al ?_ _ | refine Ext.st ?_ (by simp) _ | refine Ext.tr ?_ (by assumption)))⟩
end Go.Proofs.YtemdgilifnhdpaaGreatDoor
end

section
namespace Go.Proofs.YtemdgilifnhdpaaGreatDoor
open Go.RowKit

def AskNo (fs : List Fld) : Prop := valsH fs [73, 102, 45, 77, 97, 116, 99, 104] = [] ∧ valsH fs [73, 102, 45, 85, 110, 109, 111, 100, 105, 102, 105, 101, 100, 45, 83, 105, 110, 99, 101] = [] ∧ valsH fs [73, 102, 45, 78, 111, 110, 101, 45, 77, 97, 116, 99, 104] = [] ∧ valsH fs [73, 102, 45, 77, 111, 100, 105, 102, 105, 101, 100, 45, 83, 105, 110, 99, 101] = []
def AskAt (w : World) (a : Nat) (lk : Bool) (A : Option Addr) (n c : Nat) (wk : Bool) (tg : ByteArray) (md : Int) (ex : Bool) (now : Int) : Prop := w.heap[a]? = some (.cells #[.bool lk, .slice A n c, .bool wk, .string tg, .int .i64 md, .bool ex, .int .i64 now] 123 (0, 0))
theorem AskAt.ext {w w' : World} {a : Nat} {lk : Bool} {A : Option Addr} {n c : Nat} {wk : Bool} {tg : ByteArray} {md : Int} {ex : Bool} {now : Int} (h : AskAt w a lk A n c wk tg md ex now) (e : Ext w w') : AskAt w' a lk A n c wk tg md ex now := (e.block a (row_lt h)).trans h
theorem AskAt.cells {w : World} {a : Nat} {lk : Bool} {A : Option Addr} {n c : Nat} {wk : Bool} {tg : ByteArray} {md : Int} {ex : Bool} {now : Int} (h : AskAt w a lk A n c wk tg md ex now) :
    w.cell? ⟨a, 0, none⟩ = some (.bool lk) ∧ w.cell? ⟨a, 1, none⟩ = some (.slice A n c) ∧ w.cell? ⟨a, 2, none⟩ = some (.bool wk) ∧ w.cell? ⟨a, 3, none⟩ = some (.string tg) ∧ w.cell? ⟨a, 4, none⟩ = some (.int .i64 md) ∧ w.cell? ⟨a, 5, none⟩ = some (.bool ex) ∧ w.cell? ⟨a, 6, none⟩ = some (.int .i64 now) :=
  ⟨(row_facts h 0 _ rfl).1, (row_facts h 1 _ rfl).1, (row_facts h 2 _ rfl).1, (row_facts h 3 _ rfl).1, (row_facts h 4 _ rfl).1, (row_facts h 5 _ rfl).1, (row_facts h 6 _ rfl).1⟩
set_option maxRecDepth 100000 in
set_option maxHeartbeats 2000000 in
theorem cdEvalA_no (fs : List Fld) (A : Option Addr) (n c : Nat) (hn : fs.length = n) (hb : n ≤ 8796093022206) (hsz : ∀ p ∈ fs, p.1.length ≤ maxLen) (hno : AskNo fs) (lk wk ex : Bool) (tg : ByteArray) (md now : Int) (a x : Nat) (w : World) (h : Rd w A (fc fs)) (ha : AskAt w a lk A n c wk tg md ex now) :
    Calls Tryz.prog 63 #[.pointer (some ⟨a, 0, none⟩), .pointer (some ⟨x, 0, none⟩)] w (Gives (.int .i64 0) w) := by
  have C1 := fun fv w' h' => cdTags_no fs [73, 102, 45, 77, 97, 116, 99, 104] A n c hn hb (by simp [maxLen]) hsz hno.1 lk wk ex tg md now fv w' h'
  have C2 := fun w' h' => cdDate_no fs [73, 102, 45, 85, 110, 109, 111, 100, 105, 102, 105, 101, 100, 45, 83, 105, 110, 99, 101] A n c hn hb (by simp [maxLen]) hsz hno.2.1 lk wk ex tg md now w' h'
  unfold askV at C1 C2
  have C1 := Lib.hid C1
  have C2 := Lib.hid C2
  have H := Lib.hid h
  have HA := Lib.hid ha
  obtain ⟨c0, c1, c2, c3, c4, c5, c6⟩ := ha.cells
  clear h ha hno hsz hn
  go_enter Tryz.func63, Tryz.ntmps63
  go_wp2_with (first
    | (go_at_call 64; refine (C1.out _ _ (H.out.ext (by (repeat (first | exact Ext.rfl' _ | assumption | refine Ext.dr ?_ | refine Ext.drN ?_ _ | refine Ext.al ?_ _ | refine Ext.st ?_ (by simp) _ | refine Ext.tr ?_ (by assumption)))))).mono ?_; clear C1; rintro e w1 ⟨rfl, hx1⟩; obtain ⟨d0, d1, d2, d3, d4, d5, d6⟩ := (HA.out.ext hx1).cells)
    | (go_at_call 66; refine (C2.out _ (H.out.ext (by (repeat (first | exact Ext.rfl' _ | assumption | refine Ext.dr ?_ | refine Ext.drN ?_ _ | refine Ext.al ?_ _ | refine Ext.st ?_ (by simp) _ | refine Ext.tr ?_ (by assumption)))))).mono ?_; rintro e w2 ⟨rfl, hx2⟩))
  go_ret
  exact ⟨rfl, by (repeat (first | exact Ext.rfl' _ | assumption | refine Ext.dr ?_ | refine Ext.drN ?_ _ | refine Ext.al ?_ _ | refine Ext.st ?_ (by simp) _ | refine Ext.tr ?_ (by assumption)))⟩
set_option maxRecDepth 100000 in
set_option maxHeartbeats 2000000 in
theorem cdEvalB_no (fs : List Fld) (A : Option Addr) (n c : Nat) (hn : fs.length = n) (hb : n ≤ 8796093022206) (hsz : ∀ p ∈ fs, p.1.length ≤ maxLen) (hno : AskNo fs) (lk wk ex : Bool) (tg : ByteArray) (md now : Int) (a y x : Nat) (w : World) (h : Rd w A (fc fs)) (ha : AskAt w a lk A n c wk tg md ex now) :
    Calls Tryz.prog 67 #[.pointer (some ⟨a, 0, none⟩), .pointer (some ⟨y, 0, none⟩), .pointer (some ⟨x, 0, none⟩)] w (Gives (.int .i64 0) w) := by
  have C1 := fun fv w' h' => cdTags_no fs [73, 102, 45, 78, 111, 110, 101, 45, 77, 97, 116, 99, 104] A n c hn hb (by simp [maxLen]) hsz hno.2.2.1 lk wk ex tg md now fv w' h'
  have C2 := fun w' h' => cdDate_no fs [73, 102, 45, 77, 111, 100, 105, 102, 105, 101, 100, 45, 83, 105, 110, 99, 101] A n c hn hb (by simp [maxLen]) hsz hno.2.2.2 lk wk ex tg md now w' h'
  unfold askV at C1 C2
  have C1 := Lib.hid C1
  have C2 := Lib.hid C2
  have H := Lib.hid h
  have HA := Lib.hid ha
  obtain ⟨c0, c1, c2, c3, c4, c5, c6⟩ := ha.cells
  clear h ha hno hsz hn
  go_enter Tryz.func67, Tryz.ntmps67
  go_wp2_with (first
    | (go_at_call 64; refine (C1.out _ _ (H.out.ext (by (repeat (first | exact Ext.rfl' _ | assumption | refine Ext.dr ?_ | refine Ext.drN ?_ _ | refine Ext.al ?_ _ | refine Ext.st ?_ (by simp) _ | refine Ext.tr ?_ (by assumption)))))).mono ?_; clear C1; rintro e w1 ⟨rfl, hx1⟩; obtain ⟨d0, d1, d2, d3, d4, d5, d6⟩ := (HA.out.ext hx1).cells)
    | (go_at_call 66; refine (C2.out _ (H.out.ext (by (repeat (first | exact Ext.rfl' _ | assumption | refine Ext.dr ?_ | refine Ext.drN ?_ _ | refine Ext.al ?_ _ | refine Ext.st ?_ (by simp) _ | refine Ext.tr ?_ (by assumption)))))).mono ?_; rintro e w2 ⟨rfl, hx2⟩; obtain ⟨e0, e1, e2, e3, e4, e5, e6⟩ := (HA.out.ext (hx1.tr hx2)).cells))
  all_goals go_ret
  all_goals exact ⟨rfl, by (repeat (first | exact Ext.rfl' _ | assumption | refine Ext.dr ?_ | refine Ext.drN ?_ _ | refine Ext.al ?_ _ | refine Ext.st ?_ (by simp) _ | refine Ext.tr ?_ (by assumption)))⟩
end Go.Proofs.YtemdgilifnhdpaaGreatDoor
end

section
namespace Go.Proofs.YtemdgilifnhdpaaGreatDoor
open Go.RowKit

set_option maxRecDepth 100000 in
set_option maxHeartbeats 2000000 in
theorem cdEval_no (fs : List Fld) (A : Option Addr) (n c : Nat) (hn : fs.length = n) (hb : n ≤ 8796093022206) (hsz : ∀ p ∈ fs, p.1.length ≤ maxLen) (hno : AskNo fs) (wk ex : Bool) (tg : ByteArray) (md now : Int) (w : World) (h : Rd w A (fc fs)) :
    Calls Tryz.prog 30 #[.string ⟨#[71, 69, 84]⟩, .slice A n c, .agg #[.bool wk, .string tg, .int .i64 md, .bool ex], .int .i64 now] w (Gives (.int .i64 200) w) := by
  have hmf : ∀ (fn : Fn) (first cap : Array Value) (w : World), (Instr.makeFunc fn first cap).run Tryz.prog w = .ok (.func fn first cap) w := fun _ _ _ _ => rfl
  obtain ⟨W2, hW2⟩ : ∃ W, W = (w.alloc (.cells #[.bool wk, .string tg, .int .i64 md, .bool ex] 80)).alloc (.cells #[.int .i64 now] 3) := ⟨_, rfl⟩
  have hs2 : W2.heap.size = w.heap.size + 1 + 1 := by rw [hW2]; simp
  have ha : AskAt (W2.alloc (.cells #[.bool true, .slice A n c, .bool wk, .string tg, .int .i64 md, .bool ex, .int .i64 now] 123)) (w.heap.size + 1 + 1) true A n c wk tg md ex now := by
    unfold AskAt
    rw [← hs2]
    exact heap_alloc_new W2 _
  rw [hW2] at ha
  have HA := Lib.hid ha
  have H := Lib.hid h
  have CA := Lib.hid (fun w' h' ha' => cdEvalA_no fs A n c hn hb hsz hno true wk ex tg md now (w.heap.size + 1 + 1) w.heap.size w' h' ha')
  have CB := Lib.hid (fun w' h' ha' => cdEvalB_no fs A n c hn hb hsz hno true wk ex tg md now (w.heap.size + 1 + 1) (w.heap.size + 1) w.heap.size w' h' ha')
  have ix0 : ∀ (u v : Value) w, (Instr.index 129 (.agg #[u, v]) (.int .i64 0)).run Tryz.prog w = .ok u w := fun u v w => run_idx_arrD (e := 87) Tryz.underlying129 (fun _ => by rfl) (fun _ => by rfl) (by decide) (by decide) rfl w
  have ix1 : ∀ (u v : Value) w, (Instr.index 129 (.agg #[u, v]) (.int .i64 1)).run Tryz.prog w = .ok v w := fun u v w => run_idx_arrD (e := 87) Tryz.underlying129 (fun _ => by rfl) (fun _ => by rfl) (by decide) (by decide) rfl w
  clear h ha hsz hno hn hW2 hs2
  go_enter Tryz.func30, Tryz.ntmps30
  go_upto_region 3 with (fail)
  go_wp2
  go_loopw [8, 28] (fun v8 v28 wr => v8 = .int .i64 0 ∧ ∃ j : Nat, v28 = .int .i64 (j : Int) ∧ j ≤ 2 ∧ Ext ((((w.alloc (.cells #[.bool wk, .string tg, .int .i64 md, .bool ex] 80)).alloc (.cells #[.int .i64 now] 3)).alloc (.cells #[.bool true, .slice A n c, .bool wk, .string tg, .int .i64 md, .bool ex, .int .i64 now] 123))) wr) (fun _ v28 _ => (2 - intOf v28).toNat)
  case atStart => exact ⟨rfl, 0, rfl, by omega, by (repeat (first | exact Ext.rfl' _ | assumption | refine Ext.dr ?_ | refine Ext.drN ?_ _ | refine Ext.al ?_ _ | refine Ext.st ?_ (by simp) _ | refine Ext.tr ?_ (by assumption)))⟩
  case round =>
    obtain ⟨rfl, j, rfl, hj, hx⟩ := hrel
    have HX := Lib.hid hx
    have R := Lib.hid (H.out.ext (Ext.tr (by (repeat (first | exact Ext.rfl' _ | assumption | refine Ext.dr ?_ | refine Ext.drN ?_ _ | refine Ext.al ?_ _ | refine Ext.st ?_ (by simp) _ | refine Ext.tr ?_ (by assumption)))) hx))
    have HAR := Lib.hid (HA.out.ext hx)
    clear hx
    rcases j with _ | _ | _ | j
    · go_wp2_with (go_at_call 63; refine (CA.out _ R.out HAR.out).mono ?_; rintro e w2 ⟨rfl, hx2⟩)
      go_roundw
      case rel => exact ⟨rfl, 1, by go_num, by omega, HX.out.tr hx2⟩
      case measure => simp [intOf]
    · go_wp2_with (go_at_call 67; refine (CB.out _ R.out HAR.out).mono ?_; rintro e w2 ⟨rfl, hx2⟩)
      go_roundw
      case rel => exact ⟨rfl, 2, by go_num, by omega, HX.out.tr hx2⟩
      case measure => simp [intOf]
    · go_wp2
      go_ret
      exact ⟨rfl, Ext.tr (by (repeat (first | exact Ext.rfl' _ | assumption | refine Ext.dr ?_ | refine Ext.drN ?_ _ | refine Ext.al ?_ _ | refine Ext.st ?_ (by simp) _ | refine Ext.tr ?_ (by assumption)))) HX.out⟩
    · omega
end Go.Proofs.YtemdgilifnhdpaaGreatDoor
end

section
namespace Go.Proofs.YtemdgilifnhdpaaGreatDoor
open Go.RowKit

def Pow (w : World) : Prop := Lib.TabIs Tryz.prog w "internal/strconv.uint64pow10" .u64 Lib.pow10Tab
theorem gPow : Tryz.prog.globalNamed "internal/strconv.uint64pow10" = some 1 := by kernel_rfl
theorem Pow.ext {w w' : World} (h : Pow w) (e : Ext w w') : Pow w' := by
  have h0 := h.cell gPow 0 (by rw [Lib.pow10Tab_length]; omega)
  exact var?_below e gPow (lt_of_cell h0) h

def decB (n : Int) : ByteArray := str (Lib.itoa n)

theorem Digits_c (n : Int) (w : World) (h : Pow w) (h0 : -9223372036854775808 ≤ n) (h1 : n ≤ 9223372036854775807) :
    Calls Tryz.prog 71 #[.int .i64 n] w (Gives (.string (decB n)) w) := by
  go_enter Tryz.func71, Tryz.ntmps71
  go_wp2_with (go_at_call 101; refine (Tryz.strconv_Itoa n h0 h1 _ h).mono ?_; rintro e w1 ⟨rfl, k, os, rfl⟩)
  go_ret
  exact ⟨rfl, Lib.below_grow _ _ (Nat.le_refl _) _ _⟩

end Go.Proofs.YtemdgilifnhdpaaGreatDoor
end

section
namespace Go.Proofs.YtemdgilifnhdpaaGreatDoor
open Go.RowKit

def hxB (n : Nat) : UInt8 := if n < 10 then UInt8.ofNat (48 + n) else UInt8.ofNat (87 + n)
def hxL (n : Nat) : List UInt8 := if h : n < 16 then [hxB n] else hxL (n / 16) ++ [hxB (n % 16)]
termination_by n
decreasing_by omega
theorem hxL_lt {n : Nat} (h : n < 16) : hxL n = [hxB n] := by rw [hxL, dif_pos h]
theorem hxL_ge {n : Nat} (h : ¬ n < 16) : hxL n = hxL (n / 16) ++ [hxB (n % 16)] := by rw [hxL, dif_neg h]
theorem hx_step {N : Nat} {y : Nat} {out : List UInt8} (h : hxL N = hxL y ++ out) (hy : ¬ y < 16) : hxL N = hxL (y / 16) ++ (hxB (y % 16) :: out) := by
  rw [h, hxL_ge hy]; simp
theorem hx_last {N : Nat} {y : Nat} {out : List UInt8} (h : hxL N = hxL y ++ out) (hy : y < 16) : hxL N = hxB (y % 16) :: out := by
  rw [h, hxL_lt hy, Nat.mod_eq_of_lt hy]; rfl
theorem hx_len : ∀ (k n : Nat), n < 16 ^ (k + 1) → (hxL n).length ≤ k + 1
  | 0, n, h => by rw [hxL_lt (by simpa using h)]; simp
  | k + 1, n, h => by
    by_cases hn : n < 16
    · rw [hxL_lt hn]; simp
    · rw [hxL_ge hn, List.length_append]
      have := hx_len k (n / 16) (by rw [Nat.pow_succ] at h; omega)
      simp only [List.length_cons, List.length_nil]; omega
theorem hx_pos (n : Nat) : 0 < (hxL n).length := by
  by_cases hn : n < 16
  · rw [hxL_lt hn]; simp
  · rw [hxL_ge hn]; simp
def u64N (n : Int) : Nat := (n % 18446744073709551616).toNat
theorem u64N_lt (n : Int) : u64N n < 18446744073709551616 := by unfold u64N; omega
def hexB (n : Int) : ByteArray := str (hxL (u64N n))

end Go.Proofs.YtemdgilifnhdpaaGreatDoor
end
