/-
What must come: the known answers of Host, Parse and Clean.
-/
import Derived.Test.YtolfpfdmgelhhaaDoorUrc
import Derived.Test.YtolfpfdmgelhhaaDoorUri3
set_option linter.unusedVariables false
set_option linter.unusedSimpArgs false
namespace Go.Proofs.YtolfpfdmgelhhaaDoor
open Go.RowKit

set_option maxRecDepth 100000 in
theorem num08_c (x : Int) (w : World) : Calls Tryd.prog 37 #[.int .i64 x] w fun e w' => e = .returned (.int .i64 x) ∧ w = w' := by
  go_enter Tryd.func37, Tryd.ntmps37
  go_wp2
  go_ret
  exact ⟨rfl, rfl⟩
set_option maxRecDepth 100000 in
set_option maxHeartbeats 2000000 in
theorem all_plain (l : List UInt8) (hs : l.length ≤ 140737488355328) (w : World) :
    Calls Tryd.prog 81 #[.string (str l), (.func (.func 123) #[] #[])] w fun e w' => e = .returned (.bool (l.all plnB)) ∧ w = w' := by
  obtain ⟨v, hv⟩ : ∃ v, v = l.all plnB := ⟨_, rfl⟩
  rw [← hv]
  have HV := Lib.hid hv
  clear hv
  go_enter Tryd.func81, Tryd.ntmps81
  go_wp2
  go_loopw [8] (fun i wr => ∃ k : Nat, i = .int .i64 (k : Nat) ∧ k ≤ l.length ∧ (l.take k).all plnB = true ∧ w = wr) (fun i _ => l.length - (intOf i).toNat)
  case atStart => exact ⟨0, rfl, Nat.zero_le _, rfl, rfl⟩
  case round =>
    obtain ⟨k, rfl, hk, hall, rfl⟩ := hrel
    have HA := Lib.hid hall
    clear hall
    by_cases hlt : k < l.length
    · have HS := Lib.hid (all_succ_l l plnB k hlt)
      have hki : (k : Int) + 1 ≤ 9223372036854775807 := by omega
      by_cases hp : plnB l[k] = true
      · have HP := Lib.hid hp
        clear hp
        go_wp2_with (go_at_call 123; refine (uplain_c _ _).mono ?_; rintro e w1 ⟨rfl, rfl⟩; rw [HP.out])
        go_roundw
        case rel => exact ⟨k + 1, by go_num, by omega, by rw [HS.out, HA.out, HP.out]; rfl, by trivial⟩
        case measure => simp [intOf]; omega
      · have HP := Lib.hid (show plnB l[k] = false by simpa using hp)
        have HN := Lib.hid (show v = false by rw [HV.out, List.all_eq_false]; exact ⟨l[k], List.getElem_mem hlt, by rw [HP.out]; simp⟩)
        clear hp
        go_wp2_with (go_at_call 123; refine (uplain_c _ _).mono ?_; rintro e w1 ⟨rfl, rfl⟩; rw [HP.out])
        go_ret
        exact ⟨ret_bool (by rw [HN.out]), rfl⟩
    · obtain rfl : k = l.length := by omega
      have HN := Lib.hid (show v = true by rw [HV.out]; have := HA.out; rwa [List.take_length] at this)
      go_wp2
      go_ret
      exact ⟨ret_bool (by rw [HN.out]), rfl⟩
set_option maxRecDepth 100000 in
set_option maxHeartbeats 2000000 in
theorem all_addr (l : List UInt8) (hs : l.length ≤ 140737488355328) (w : World) :
    Calls Tryd.prog 81 #[.string (str l), (.func (.func 121) #[] #[])] w fun e w' => e = .returned (.bool (l.all adrB)) ∧ w = w' := by
  obtain ⟨v, hv⟩ : ∃ v, v = l.all adrB := ⟨_, rfl⟩
  rw [← hv]
  have HV := Lib.hid hv
  clear hv
  go_enter Tryd.func81, Tryd.ntmps81
  go_wp2
  go_loopw [8] (fun i wr => ∃ k : Nat, i = .int .i64 (k : Nat) ∧ k ≤ l.length ∧ (l.take k).all adrB = true ∧ w = wr) (fun i _ => l.length - (intOf i).toNat)
  case atStart => exact ⟨0, rfl, Nat.zero_le _, rfl, rfl⟩
  case round =>
    obtain ⟨k, rfl, hk, hall, rfl⟩ := hrel
    have HA := Lib.hid hall
    clear hall
    by_cases hlt : k < l.length
    · have HS := Lib.hid (all_succ_l l adrB k hlt)
      have hki : (k : Int) + 1 ≤ 9223372036854775807 := by omega
      by_cases hp : adrB l[k] = true
      · have HP := Lib.hid hp
        clear hp
        go_wp2_with (go_at_call 121; refine (uaddress_c _ _).mono ?_; rintro e w1 ⟨rfl, rfl⟩; rw [HP.out])
        go_roundw
        case rel => exact ⟨k + 1, by go_num, by omega, by rw [HS.out, HA.out, HP.out]; rfl, by trivial⟩
        case measure => simp [intOf]; omega
      · have HP := Lib.hid (show adrB l[k] = false by simpa using hp)
        have HN := Lib.hid (show v = false by rw [HV.out, List.all_eq_false]; exact ⟨l[k], List.getElem_mem hlt, by rw [HP.out]; simp⟩)
        clear hp
        go_wp2_with (go_at_call 121; refine (uaddress_c _ _).mono ?_; rintro e w1 ⟨rfl, rfl⟩; rw [HP.out])
        go_ret
        exact ⟨ret_bool (by rw [HN.out]), rfl⟩
    · obtain rfl : k = l.length := by omega
      have HN := Lib.hid (show v = true by rw [HV.out]; have := HA.out; rwa [List.take_length] at this)
      go_wp2
      go_ret
      exact ⟨ret_bool (by rw [HN.out]), rfl⟩
set_option maxRecDepth 100000 in
theorem all_nil (f : Value) (w : World) : Calls Tryd.prog 81 #[.string ⟨#[]⟩, f] w fun e w' => e = .returned (.bool true) ∧ w = w' := by
  go_enter Tryd.func81, Tryd.ntmps81
  go_wp2
  go_loopw [8] (fun i wr => i = .int .i64 0 ∧ w = wr) (fun i _ => 0)
  case atStart => exact ⟨rfl, rfl⟩
  case round =>
    obtain ⟨rfl, rfl⟩ := hrel
    go_wp2
    go_ret
    exact ⟨rfl, rfl⟩
theorem upath_c (m : ByteArray) (w : World) :
    Calls Tryd.prog 82 #[.string m] w fun e w' => e = .returned (.func (.func 131) #[] #[.pointer (some ⟨w.heap.size, 0, none⟩)]) ∧ w' = w.alloc (.cells #[.string m] 9) := by
  go_enter Tryd.func82, Tryd.ntmps82
  go_wp2
  go_ret
  exact ⟨rfl, rfl⟩
def exL : List UInt8 := [69, 120, 46, 111, 114, 103, 58, 56, 49]
set_option maxRecDepth 100000 in
set_option maxHeartbeats 2000000 in
theorem host_known (w : World) (hE : ErrR w) :
    Calls Tryd.prog 77 #[.string ⟨#[69, 120, 46, 111, 114, 103, 58, 56, 49]⟩] w (Gives (.tuple #[.string ⟨#[101, 120, 46, 111, 114, 103]⟩, .int .i64 81, .int .i64 0]) w) := by
  have HE := Lib.hid hE
  clear hE
  have p1 : Lib.hasPrefix exL [91] = false := by decide
  have p2 : Lib.indexByte exL (58 : Int).toNat.toUInt8 = 6 := by decide
  have p3 : ([69, 120, 46, 111, 114, 103] : List UInt8).all plnB = true := by decide
  have p4 := Tryd.strings_CutPrefix ⟨#[58, 56, 49]⟩ ⟨#[58]⟩
  have e4 : (Lib.trimPrefix (⟨#[58, 56, 49]⟩ : ByteArray).data.toList (⟨#[58]⟩ : ByteArray).data.toList) = [56, 49] := by decide
  have e5 : Lib.hasPrefix (⟨#[58, 56, 49]⟩ : ByteArray).data.toList (⟨#[58]⟩ : ByteArray).data.toList = true := by decide
  rw [e4, e5] at p4
  have p5 := fun w hE => Decimal_c [56, 49] (by decide) w hE
  rw [show numL 10 1000000000000000000 [56, 49] = (81, 0) from by decide +kernel] at p5
  have p6 := fun w => Lower_c [69, 120, 46, 111, 114, 103] (by decide) w
  rw [show lowL [69, 120, 46, 111, 114, 103] = [101, 120, 46, 111, 114, 103] from by decide] at p6
  have P1 := fun w => HasPrefix_c exL [91] false p1 w
  have P2 := fun w => IndexByteS_c exL 58 6 p2 w
  have P3 := fun w => all_plain [69, 120, 46, 111, 114, 103] (by decide) w
  rw [p3] at P3
  have P1 := Lib.hid P1
  have P2 := Lib.hid P2
  have P3 := Lib.hid P3
  have P4 := Lib.hid p4
  have P5 := Lib.hid p5
  have P6 := Lib.hid p6
  clear p1 p2 p3 p4 p5 p6 e4 e5
  have x1 : ByteArray.extract ⟨#[69, 120, 46, 111, 114, 103, 58, 56, 49]⟩ 0 6 = ⟨#[69, 120, 46, 111, 114, 103]⟩ := by decide
  have x2 : ByteArray.extract ⟨#[69, 120, 46, 111, 114, 103, 58, 56, 49]⟩ 6 9 = ⟨#[58, 56, 49]⟩ := by decide
  go_enter Tryd.func77, Tryd.ntmps77
  go_wp2_with (first
    | (go_at_call 120; refine (P1.out _).mono ?_; rintro e w1 ⟨rfl, rfl⟩)
    | (go_at_call 122; refine (P2.out _).mono ?_; rintro e w1 ⟨rfl, rfl⟩)
    | (go_at_call 81; refine (P3.out _).mono ?_; rintro e w1 ⟨rfl, rfl⟩)
    | (go_at_call 124; refine (P4.out _).mono ?_; rintro e w1 ⟨rfl, rfl⟩)
    | (go_at_call 107; refine (P5.out _ (HE.out.ext (by (repeat (first | exact Ext.rfl' _ | assumption | refine Ext.dr ?_ | refine Ext.drN ?_ _ | refine Ext.al ?_ _ | refine Ext.st ?_ (by simp) _ | refine Ext.tr ?_ (by assumption)))))).mono ?_; rintro e w1 ⟨rfl, hx1⟩)
    | (go_at_call 125; refine (P6.out _).mono ?_; rintro e w2 ⟨rfl, hx2⟩))
  go_quiet (fail)
  go_wp2_with (first
    | (go_at_call 120; refine (P1.out _).mono ?_; rintro e w1 ⟨rfl, rfl⟩)
    | (go_at_call 122; refine (P2.out _).mono ?_; rintro e w1 ⟨rfl, rfl⟩)
    | (go_at_call 81; refine (P3.out _).mono ?_; rintro e w1 ⟨rfl, rfl⟩)
    | (go_at_call 124; refine (P4.out _).mono ?_; rintro e w1 ⟨rfl, rfl⟩)
    | (go_at_call 107; refine (P5.out _ (HE.out.ext (by (repeat (first | exact Ext.rfl' _ | assumption | refine Ext.dr ?_ | refine Ext.drN ?_ _ | refine Ext.al ?_ _ | refine Ext.st ?_ (by simp) _ | refine Ext.tr ?_ (by assumption)))))).mono ?_; rintro e w1 ⟨rfl, hx1⟩)
    | (go_at_call 125; refine (P6.out _).mono ?_; rintro e w2 ⟨rfl, hx2⟩))
  go_ret3
  exact ⟨rfl, by (repeat (first | exact Ext.rfl' _ | assumption | refine Ext.dr ?_ | refine Ext.drN ?_ _ | refine Ext.al ?_ _ | refine Ext.st ?_ (by simp) _ | refine Ext.tr ?_ (by assumption)))⟩

/-- A block of six cells, in every later world. -/
theorem six {w w' : World} {b : Nat} {x0 x1 x2 x3 x4 x5 : Value} {t : TypeId} (h : w.heap[b]? = some (.cells #[x0, x1, x2, x3, x4, x5] t (0, 0))) (x : Ext w w') :
    (w'.cell? ⟨b, 0, none⟩ = some x0 ∧ w'.cell? ⟨b, 1, none⟩ = some x1 ∧ w'.cell? ⟨b, 2, none⟩ = some x2 ∧ w'.cell? ⟨b, 3, none⟩ = some x3 ∧ w'.cell? ⟨b, 4, none⟩ = some x4 ∧ w'.cell? ⟨b, 5, none⟩ = some x5) ∧
    (w'.frozen? ⟨b, 0, none⟩ = false ∧ w'.frozen? ⟨b, 1, none⟩ = false ∧ w'.frozen? ⟨b, 2, none⟩ = false ∧ w'.frozen? ⟨b, 3, none⟩ = false ∧ w'.frozen? ⟨b, 4, none⟩ = false ∧ w'.frozen? ⟨b, 5, none⟩ = false) := by
  have hb : w'.heap[b]? = some (.cells #[x0, x1, x2, x3, x4, x5] t (0, 0)) := (x.block b (Array.getElem?_eq_some_iff.1 h).1).trans h
  refine ⟨⟨?_, ?_, ?_, ?_, ?_, ?_⟩, ?_, ?_, ?_, ?_, ?_, ?_⟩
  all_goals simp [World.cell?, World.frozen?, hb]
theorem three (w : World) (o1 o2 o3 : Obj) : (((w.alloc o1).alloc o2).alloc o3).heap[w.heap.size]? = some o1 ∧ (((w.alloc o1).alloc o2).alloc o3).heap[w.heap.size + 1 + 1]? = some o3 := by
  refine ⟨?_, ?_⟩
  · rw [Below.heap_alloc _ _ _ (by simp; omega), Below.heap_alloc _ _ _ (by simp)]; exact heap_alloc_new w o1
  · have := heap_alloc_new ((w.alloc o1).alloc o2) o3
    simpa using this
theorem heap_next {w : World} {o : Obj} {b : Nat} (h : b < w.heap.size) : (w.alloc o).heap[b]? = w.heap[b]? := Below.heap_alloc w o b h
set_option maxRecDepth 100000 in
set_option maxHeartbeats 4000000 in
theorem parse_known (w : World) (hE : ErrR w) :
    Calls Tryd.prog 35 #[.string ⟨#[71, 69, 84]⟩, .string ⟨#[72, 84, 84, 80, 58, 47, 47, 69, 120, 46, 111, 114, 103, 58, 56, 49]⟩] w
      (Gives (.tuple #[.agg #[.int .i64 2, .string ⟨#[101, 120, 46, 111, 114, 103]⟩, .int .i64 81, .string ⟨#[47]⟩, .string ⟨#[]⟩, .bool false], .int .i64 0]) w) := by
  have HE := Lib.hid hE
  clear hE
  have p1 := fun w => Equal_c [72, 84, 84, 80, 58, 47, 47] [104, 116, 116, 112, 58, 47, 47] (by decide) (by decide) w
  rw [show (lowL [72, 84, 84, 80, 58, 47, 47] == lowL [104, 116, 116, 112, 58, 47, 47]) = true from by decide] at p1
  have p2 := fun w => Tryd.strings_IndexAny_laid ⟨#[69, 120, 46, 111, 114, 103, 58, 56, 49]⟩ ⟨#[47, 63]⟩ w (by decide) (by decide) (fun j b h => by
    have hm := List.mem_of_getElem? h
    revert hm
    exact (by decide : ∀ b ∈ ([69, 120, 46, 111, 114, 103, 58, 56, 49] : List UInt8), b.toNat < 128) b) (fun j b h => by
    have hm := List.mem_of_getElem? h
    revert hm
    exact (by decide : ∀ b ∈ ([47, 63] : List UInt8), b.toNat < 128) b)
  rw [show Lib.indexAny (⟨#[69, 120, 46, 111, 114, 103, 58, 56, 49]⟩ : ByteArray).data.toList (⟨#[47, 63]⟩ : ByteArray).data.toList = -1 from by decide] at p2
  have p3 : ∀ w, Calls Tryd.prog 80 #[.string ⟨#[]⟩, .string ⟨#[63]⟩] w fun e w' => e = .returned (.tuple #[.string ⟨#[]⟩, .string ⟨#[]⟩, .bool false]) ∧ w = w' := fun w => Cut_no [] 63 (by decide) w
  have P1 := Lib.hid p1
  have P2 := Lib.hid p2
  have P3 := Lib.hid p3
  clear p1 p2 p3
  have x1 : ByteArray.extract ⟨#[72, 84, 84, 80, 58, 47, 47, 69, 120, 46, 111, 114, 103, 58, 56, 49]⟩ 0 7 = ⟨#[72, 84, 84, 80, 58, 47, 47]⟩ := by decide
  have x2 : ByteArray.extract ⟨#[72, 84, 84, 80, 58, 47, 47, 69, 120, 46, 111, 114, 103, 58, 56, 49]⟩ 7 16 = ⟨#[69, 120, 46, 111, 114, 103, 58, 56, 49]⟩ := by decide
  have x3 : ByteArray.extract ⟨#[69, 120, 46, 111, 114, 103, 58, 56, 49]⟩ 0 9 = ⟨#[69, 120, 46, 111, 114, 103, 58, 56, 49]⟩ := by decide
  have x4 : ByteArray.extract ⟨#[69, 120, 46, 111, 114, 103, 58, 56, 49]⟩ 9 9 = ⟨#[]⟩ := by decide
  go_enter Tryd.func35, Tryd.ntmps35
  go_wp2_with (first
    | (go_at_call 78; refine (P1.out _).mono ?_; rintro e w1 ⟨rfl, hx1⟩)
    | (go_at_call 79; refine (P2.out _).mono ?_; rintro e w2 ⟨rfl, hx2⟩))
  go_at_call 77
  refine (host_known _ (HE.out.ext (by (repeat (first | exact Ext.rfl' _ | assumption | refine Ext.dr ?_ | refine Ext.drN ?_ _ | refine Ext.al ?_ _ | refine Ext.st ?_ (by simp) _ | refine Ext.tr ?_ (by assumption)))))).mono ?_
  rintro e w3 ⟨rfl, hx3⟩
  have hq := Ext.tr hx1 (Ext.tr hx2 hx3)
  obtain ⟨⟨t0, t1, t2, t3, t4, t5⟩, f0, f1, f2, f3, f4, f5⟩ := six (three _ _ _ _).2 hq
  obtain ⟨⟨r0, r1, r2, r3, r4, r5⟩, g0, g1, g2, g3, g4, g5⟩ := six (three _ _ _ _).1 hq
  have hxw : Ext w w3 := by (repeat (first | exact Ext.rfl' _ | assumption | refine Ext.dr ?_ | refine Ext.drN ?_ _ | refine Ext.al ?_ _ | refine Ext.st ?_ (by simp) _ | refine Ext.tr ?_ (by assumption)))
  have HT3 := Lib.hid ((hq.block (w.heap.size + 1 + 1) (by simp)).trans (three _ _ _ _).2)
  have HR3 := Lib.hid ((hq.block w.heap.size (by simp; omega)).trans (three _ _ _ _).1)
  clear hq hx1 hx2 hx3
  go_wp2
  go_region
  go_wp2_with (first
    | (go_at_call 80; refine (P3.out _).mono ?_; rintro e w4 ⟨rfl, rfl⟩))
  obtain ⟨W5, hW5⟩ : ∃ W5, W5 = (((((w3.setCell ⟨w.heap.size + 1 + 1, 1, none⟩ (.string ⟨#[101, 120, 46, 111, 114, 103]⟩)).setCell ⟨w.heap.size + 1 + 1, 2, none⟩ (.int .i64 81)).setCell ⟨w.heap.size + 1 + 1, 0, none⟩ (.int .i64 2)).setCell ⟨w.heap.size + 1 + 1, 3, none⟩ (.string ⟨#[]⟩)).setCell ⟨w.heap.size + 1 + 1, 4, none⟩ (.string ⟨#[]⟩)).setCell ⟨w.heap.size + 1 + 1, 5, none⟩ (.bool false) := ⟨_, rfl⟩
  rw [← hW5]
  have hT5 : W5.heap[w.heap.size + 1 + 1]? = some (.cells #[.int .i64 2, .string ⟨#[101, 120, 46, 111, 114, 103]⟩, .int .i64 81, .string ⟨#[]⟩, .string ⟨#[]⟩, .bool false] 65 (0, 0)) := by
    rw [hW5]; simp [World.setCell, Array.getElem?_modify, HT3.out]
  have hR5 : W5.heap[w.heap.size]? = some (.cells #[.int .i64 0, .string ⟨#[]⟩, .int .i64 0, .string ⟨#[]⟩, .string ⟨#[]⟩, .bool false] 65 (0, 0)) := by
    have hne : w.heap.size ≠ w.heap.size + 1 + 1 := by omega
    rw [hW5, Below.heap_setCell _ _ _ _ hne, Below.heap_setCell _ _ _ _ hne, Below.heap_setCell _ _ _ _ hne, Below.heap_setCell _ _ _ _ hne, Below.heap_setCell _ _ _ _ hne, Below.heap_setCell _ _ _ _ hne]
    exact HR3.out
  have hx5 : Ext w W5 := by
    rw [hW5]
    exact ((((((hxw.st (by simp; omega) _).st (by simp; omega) _).st (by simp; omega) _).st (by simp; omega) _).st (by simp; omega) _).st (by simp; omega) _)
  clear hW5 t0 t1 t2 t3 t4 t5 f0 f1 f2 f3 f4 f5 r0 r1 r2 r3 r4 r5 g0 g1 g2 g3 g4 g5
  have HT5 := Lib.hid hT5
  have HR5 := Lib.hid hR5
  have hlT : w.heap.size + 1 + 1 < W5.heap.size := (Array.getElem?_eq_some_iff.1 hT5).1
  have hlR : w.heap.size < W5.heap.size := (Array.getElem?_eq_some_iff.1 hR5).1
  have hks := Lib.hid (fun w' (x : Ext W5 w') => (show w'.cell? ⟨w.heap.size + 1 + 1, 3, none⟩ = some (.string ⟨#[]⟩) ∧ w'.cell? ⟨w.heap.size + 1 + 1, 4, none⟩ = some (.string ⟨#[]⟩) from ⟨(six HT5.out x).1.2.2.2.1, (six HT5.out x).1.2.2.2.2.1⟩))
  clear hT5 hR5
  go_region_held3 (fun w' => w'.cell? ⟨w.heap.size + 1 + 1, 3, none⟩ = some (.string ⟨#[]⟩) ∧ w'.cell? ⟨w.heap.size + 1 + 1, 4, none⟩ = some (.string ⟨#[]⟩)) (exact hks.out _ (by (repeat (first | exact Ext.rfl' _ | assumption | refine Ext.dr ?_ | refine Ext.drN ?_ _ | refine Ext.al ?_ _ | refine Ext.st ?_ (by simp) _ | refine Ext.tr ?_ (by assumption))))) (first
    | (go_at_call 82; refine (upath_c _ _).mono ?_; rintro e w5 ⟨rfl, rfl⟩)
    | (go_at_call 81; refine (all_nil _ _).mono ?_; rintro e w6 ⟨rfl, rfl⟩))
  all_goals (
    obtain ⟨W8, hW8⟩ : ∃ W8, W8 = (W5.alloc (.cells #[.string ⟨#[]⟩] 9)).alloc (.cells #[.string ⟨#[63]⟩] 9) := ⟨_, rfl⟩
    first | rw [← hW8] | skip
    have hx8 : Ext W5 W8 := by rw [hW8]; (repeat (first | exact Ext.rfl' _ | assumption | refine Ext.dr ?_ | refine Ext.drN ?_ _ | refine Ext.al ?_ _ | refine Ext.st ?_ (by simp) _ | refine Ext.tr ?_ (by assumption)))
    clear hW8
    have hT8 := (hx8.block (w.heap.size + 1 + 1) hlT).trans HT5.out
    have hR8 := (hx8.block w.heap.size hlR).trans HR5.out
    obtain ⟨⟨t0, t1, t2, t3, t4, t5⟩, f0, f1, f2, f3, f4, f5⟩ := six hT8 (Ext.rfl' W8)
    obtain ⟨⟨r0, r1, r2, r3, r4, r5⟩, g0, g1, g2, g3, g4, g5⟩ := six hR8 (Ext.rfl' W8)
    have hxW8 : Ext w W8 := hx5.tr hx8
    have HR8 := Lib.hid hR8
    clear hT8 hR8 hks hlT hlR
    go_wp2
    clear t0 t1 t2 t3 t4 t5 f0 f1 f2 f3 f4 f5 r0 r1 r2 r3 r4 r5 g0 g1 g2 g3 g4 g5
    obtain ⟨W9, hW9⟩ : ∃ W9, W9 = ((((((W8.setCell ⟨w.heap.size + 1 + 1, 3, none⟩ (.string ⟨#[47]⟩)).setCell ⟨w.heap.size, 0, none⟩ (.int .i64 2)).setCell ⟨w.heap.size, 1, none⟩ (.string ⟨#[101, 120, 46, 111, 114, 103]⟩)).setCell ⟨w.heap.size, 2, none⟩ (.int .i64 81)).setCell ⟨w.heap.size, 3, none⟩ (.string ⟨#[47]⟩)).setCell ⟨w.heap.size, 4, none⟩ (.string ⟨#[]⟩)).setCell ⟨w.heap.size, 5, none⟩ (.bool false) := ⟨_, rfl⟩
    rw [← hW9]
    have hR9 : W9.heap[w.heap.size]? = some (.cells #[.int .i64 2, .string ⟨#[101, 120, 46, 111, 114, 103]⟩, .int .i64 81, .string ⟨#[47]⟩, .string ⟨#[]⟩, .bool false] 65 (0, 0)) := by
      have hne2 : ¬ w.heap.size + 1 + 1 = w.heap.size := by omega
      rw [hW9]; simp [World.setCell, Array.getElem?_modify, HR8.out, hne2]
    have hx9 : Ext w W9 := by
      rw [hW9]
      exact (((((((hxW8.st (by simp; omega) _).st (Nat.le_refl _) _).st (Nat.le_refl _) _).st (Nat.le_refl _) _).st (Nat.le_refl _) _).st (Nat.le_refl _) _).st (Nat.le_refl _) _)
    clear hW9
    obtain ⟨⟨r0, r1, r2, r3, r4, r5⟩, _⟩ := six hR9 (Ext.rfl' W9)
    exact bodyPost_ret (v := .tuple #[.agg #[.int .i64 2, .string ⟨#[101, 120, 46, 111, 114, 103]⟩, .int .i64 81, .string ⟨#[47]⟩, .string ⟨#[]⟩, .bool false], .int .i64 0]) (by simp [results, Tryd.results35, go_sem, r0, r1, r2, r3, r4, r5]) rfl ⟨rfl, by (repeat (first | exact Ext.rfl' _ | assumption | refine Ext.dr ?_ | refine Ext.drN ?_ _ | refine Ext.al ?_ _ | refine Ext.st ?_ (by simp) _ | refine Ext.tr ?_ (by assumption)))⟩)
/-- What must come. -/
theorem clean_known (w : World) : Calls Tryd.prog 86 #[.string ⟨#[47, 97, 47, 47, 98, 47, 46, 46, 47, 99, 47, 46]⟩] w (Gives (.tuple #[.string ⟨#[47, 97, 47, 99, 47]⟩, .int .i64 0]) w) := by
  have h := Clean_c [47, 97, 47, 47, 98, 47, 46, 46, 47, 99, 47, 46] (by decide) w
  rw [show cleanL [47, 97, 47, 47, 98, 47, 46, 46, 47, 99, 47, 46] = ([47, 97, 47, 99, 47], 0) from by decide +kernel] at h
  exact h
set_option maxRecDepth 100000 in
set_option maxHeartbeats 4000000 in
theorem knows08_c (w : World) (hE : ErrR w) : Calls Tryd.prog 38 #[] w (Gives (.bool true) w) := by
  have HE := Lib.hid hE
  clear hE
  go_enter Tryd.func38, Tryd.ntmps38
  go_wp2_with (first
    | (go_at_call 35; refine (parse_known _ HE.out).mono ?_; rintro e w1 ⟨rfl, hx1⟩)
    | (go_at_call 86; refine (clean_known _).mono ?_; rintro e w2 ⟨rfl, hx2⟩; obtain ⟨⟨t0, t1, t2, t3, t4, t5⟩, _⟩ := six (heap_alloc_new w1 _) hx2)
    | (go_at_call 37; refine (num08_c _ _).mono ?_; rintro e w3 ⟨rfl, rfl⟩))
  go_ret
  exact ⟨rfl, by (repeat (first | exact Ext.rfl' _ | assumption | refine Ext.dr ?_ | refine Ext.drN ?_ _ | refine Ext.al ?_ _ | refine Ext.st ?_ (by simp) _ | refine Ext.tr ?_ (by assumption)))⟩
end Go.Proofs.YtolfpfdmgelhhaaDoor
