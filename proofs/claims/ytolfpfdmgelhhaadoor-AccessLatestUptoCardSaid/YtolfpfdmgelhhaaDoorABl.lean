/-
A text's builder beside which other blocks of the call stand: all but its own block and its row stay as they are.
-/
import Derived.Test.YtolfpfdmgelhhaaDoorBld
import Derived.Test.YtolfpfdmgelhhaaDoorUch
import Derived.Test.YtolfpfdmgelhhaaDoorUenc
import Derived.Lib.ConvBytes
set_option linter.unusedVariables false
set_option linter.unusedSimpArgs false
/-
A text's builder beside which other blocks of the call stand: all but its own block and its row stay as they are.
-/
section
namespace Go.Proofs.YtolfpfdmgelhhaaDoor
open Go.RowKit

/-- Block b is a builder that holds l; its row stands from B2 on. -/
def BldAt (B b B2 : Nat) (p : Value) (l : List UInt8) (w : World) : Prop :=
  B ≤ b ∧ b < B2 ∧ B2 ≤ w.heap.size ∧ ∃ v, w.heap[b]? = some (.cells #[p, v] 167 (0, 0)) ∧ w.ownsRow B2 5 1 v (bc l).length (bc l)
def BldJ (B b B2 : Nat) (l : List UInt8) (w : World) : Prop := BldAt B b B2 (.pointer none) l w ∨ BldAt B b B2 (.pointer (some ⟨b, 0, none⟩)) l w
/-- What stands below B2, but for b, is as it was. -/
def FrJ (B b B2 : Nat) (w w' : World) : Prop := Below B w w' ∧ ∀ j, j < B2 → j ≠ b → w'.heap[j]? = w.heap[j]?
theorem FrJ.rfl' (B b B2 : Nat) (w : World) : FrJ B b B2 w w := ⟨Below.refl _ _, fun _ _ _ => rfl⟩
theorem FrJ.tr {B b B2 : Nat} {w w1 w2 : World} (h : FrJ B b B2 w w1) (k : FrJ B b B2 w1 w2) : FrJ B b B2 w w2 := ⟨Below.trans h.1 k.1, fun j h1 h2 => (k.2 j h1 h2).trans (h.2 j h1 h2)⟩
theorem FrJ.set {B b B2 : Nat} {w w1 : World} (h : FrJ B b B2 w w1) (hB : B ≤ b) (k : Nat) (v : Value) : FrJ B b B2 w (w1.setCell ⟨b, k, none⟩ v) :=
  ⟨h.1.setCell (p := ⟨b, k, none⟩) hB v, fun j h1 h2 => (Below.heap_setCell _ _ _ _ h2).trans (h.2 j h1 h2)⟩
theorem FrJ.ext {B b B2 : Nat} {w w1 : World} (hB : B2 ≤ w.heap.size) (hb : B ≤ w.heap.size) (h : Ext w w1) : FrJ B b B2 w w1 := ⟨h.mono hb, fun j h1 _ => h.block j (by omega)⟩
theorem own_base {w : World} {base base' e size n : Nat} {v : Value} {xs : List Value} (h : w.ownsRow base e size v n xs) (hb : base' ≤ base) : w.ownsRow base' e size v n xs := by
  refine ⟨h.1, ?_⟩
  rcases h.2 with h2 | ⟨g, cap, cur, hv, hg, r⟩
  · exact .inl h2
  · exact .inr ⟨g, cap, cur, hv, by omega, r⟩
theorem BldAt.at_ {B b B2 : Nat} {p : Value} {l : List UInt8} {w : World} (h : BldAt B b B2 p l w) : Lib.BuilderAt 167 5 B b p (bc l) w := by
  obtain ⟨h1, h2, h3, v, hb, ho⟩ := h
  exact ⟨h1, v, hb, own_base ho (by omega), fun e => by have := (ho.lt _ e).1; omega⟩
theorem BldJ.toBld {B b B2 : Nat} {l : List UInt8} {w : World} (h : BldJ B b B2 l w) : Bld B b l w := by
  rcases h with h | h
  · exact .inl h.at_
  · exact .inr h.at_
theorem BldAt.ext {B b B2 : Nat} {p : Value} {l : List UInt8} {w w' : World} (h : BldAt B b B2 p l w) (x : Ext w w') : BldAt B b B2 p l w' := by
  obtain ⟨h1, h2, h3, v, hb, ho⟩ := h
  exact ⟨h1, h2, Nat.le_trans h3 x.size, v, (x.block b (by omega)).trans hb, own_ext ho x⟩
theorem BldJ.ext {B b B2 : Nat} {l : List UInt8} {w w' : World} (h : BldJ B b B2 l w) (x : Ext w w') : BldJ B b B2 l w' := by
  rcases h with h | h
  · exact .inl (h.ext x)
  · exact .inr (h.ext x)
theorem bldJ_new {w' : World} {B b B2 : Nat} (hB : B ≤ b) (hb : b < B2) (h2 : B2 ≤ w'.heap.size) (h : w'.heap[b]? = some (.cells #[.pointer none, .slice none 0 0] 167 (0, 0))) : BldJ B b B2 [] w' :=
  .inl ⟨hB, hb, h2, _, h, World.ownsRow_nil _ _ _ _⟩
theorem checkJ_c (B b B2 : Nat) (l : List UInt8) (w : World) (h : BldJ B b B2 l w) :
    Calls Tryd.prog 161 #[.pointer (some ⟨b, 0, none⟩)] w fun e w' => e = .returned (.tuple #[]) ∧ (BldAt B b B2 (.pointer (some ⟨b, 0, none⟩)) l w' ∧ FrJ B b B2 w w') := by
  rcases h with h | h
  · have h0 := h.at_
    refine (check_fresh b w h0.cell0 h0.shape h0.frozen0).mono ?_
    rintro e w' ⟨rfl, rfl⟩
    obtain ⟨h1, h2, h3, v, hb, ho⟩ := h
    refine ⟨rfl, ⟨h1, h2, by simpa using h3, v, by simp [World.setCell, Array.getElem?_modify, hb], ?_⟩, (FrJ.rfl' B b B2 w).set h1 0 _⟩
    refine ⟨ho.1, ?_⟩
    rcases ho.2 with h2' | ⟨g, cap, cur, hv, hg, hh, r⟩
    · exact .inl h2'
    · exact .inr ⟨g, cap, cur, hv, hg, by rw [Below.heap_setCell _ _ _ _ (show g ≠ b by omega)]; exact hh, r⟩
  · refine (check_used b w h.at_.cell0).mono ?_
    rintro e w' ⟨rfl, rfl⟩
    exact ⟨rfl, h, FrJ.rfl' _ _ _ _⟩
set_option maxRecDepth 100000 in
set_option maxHeartbeats 2000000 in
theorem WriteByteJ_c (B b B2 : Nat) (l : List UInt8) (c : UInt8) (w : World) (h : BldJ B b B2 l w) (hl : l.length + 1 ≤ 140737488355328) :
    Calls Tryd.prog 159 #[.pointer (some ⟨b, 0, none⟩), .int .u8 (c.toNat : Int)] w fun e w' => e = .returned .nilIface ∧ (BldJ B b B2 (l ++ [c]) w' ∧ FrJ B b B2 w w') := by
  obtain ⟨i0, hi, hz0, hz1, hz2⟩ := info_parts info_u8
  have hms : maxLen = 9223372036854775807 := rfl
  have CK := Lib.hid (checkJ_c B b B2 l w h)
  have hbl : (bc l).length = l.length := bc_len l
  go_enter Tryd.func159, Tryd.ntmps159
  go_wp2_with (go_at_call 161; refine CK.out.mono ?_)
  rintro e w1 ⟨rfl, h1, hb1⟩
  obtain ⟨hB, hbB, hB2, v, hbk, hown⟩ := h1
  have c0 : w1.cell? ⟨b, 0, none⟩ = some (.pointer (some ⟨b, 0, none⟩)) := by rw [Lib.cell_of_heap hbk]; rfl
  have c1 : w1.cell? ⟨b, 1, none⟩ = some v := by rw [Lib.cell_of_heap hbk]; rfl
  go_wp2_with (at_builtin; refine wpList_append_own _ rfl _ _ 22 rfl B2 5 i0 (.int .u8 0) 1 1 Tryd.underlying22 hi hz0 hz1 hz2 rfl (by decide) _ _ _ rfl (hown.alloc _) ⟨w1.heap.size, 0, none⟩ 1 1 [.int .u8 (c.toNat : Int)] rfl rfl (new_cells w1 #[.int .u8 (c.toNat : Int)] 5) (by simp [Value.oneCell']) (by omega) (by omega) (by simp; omega) ?_)
  intro v' w2 hown' hgrow _
  have hfar : ∀ j, j < B2 → w2.heap[j]? = w1.heap[j]? := fun j hj => by
    rw [hgrow.block j (by simp; omega) (fun e => by have := (hown.lt j e.symm).1; omega), Below.heap_alloc w1 _ j (by omega)]
  have hb2 : w2.heap[b]? = some (.cells #[.pointer (some ⟨b, 0, none⟩), v] 167 (0, 0)) := (hfar b hbB).trans hbk
  have d0 : w2.cell? ⟨b, 0, none⟩ = some (.pointer (some ⟨b, 0, none⟩)) := by rw [Lib.cell_of_heap hb2]; rfl
  have d1 : w2.cell? ⟨b, 1, none⟩ = some v := by rw [Lib.cell_of_heap hb2]; rfl
  have f1 : w2.frozen? ⟨b, 1, none⟩ = false := Lib.frozen_of_heap hb2 1
  have hs2 : w1.heap.size ≤ w2.heap.size := by have := hgrow.size; simp at this; omega
  obtain ⟨A, n', cap, rfl⟩ : ∃ A n' cap, v' = .slice A n' cap := by
    rcases hown'.2 with ⟨hv, _⟩ | ⟨g, cap, cur, hv, _⟩
    · exact ⟨_, _, _, hv⟩
    · exact ⟨_, _, _, hv⟩
  go_wp2
  go_ret
  refine ⟨rfl, .inr ⟨hB, hbB, by simp; omega, .slice A n' cap, by simp [World.setCell, Array.getElem?_modify, hb2], ?_⟩, ?_⟩
  · have ho : w2.ownsRow B2 5 1 (.slice A n' cap) (bc (l ++ [c])).length (bc (l ++ [c])) := by rw [bc_app]; simpa [bc] using hown'
    refine ⟨ho.1, ?_⟩
    rcases ho.2 with h2' | ⟨g, cap, cur, hv, hg, hh, r⟩
    · exact .inl h2'
    · exact .inr ⟨g, cap, cur, hv, hg, by rw [Below.heap_setCell _ _ _ _ (show g ≠ b by omega)]; exact hh, r⟩
  · refine ((hb1.tr ⟨?_, fun j h1 h2 => hfar j h1⟩).set hB 1 _)
    exact (((Below.refl B w1).alloc (by omega) _).grown hgrow (by simp; omega) (fun k hk => by have := (hown.lt k hk).1; omega))
set_option maxRecDepth 100000 in
set_option maxHeartbeats 2000000 in
theorem WriteStringJ_c (B b B2 : Nat) (l m : List UInt8) (w : World) (h : BldJ B b B2 l w) (hl : l.length + m.length ≤ 140737488355328) :
    Calls Tryd.prog 118 #[.pointer (some ⟨b, 0, none⟩), .string (str m)] w fun e w' => e = .returned (.tuple #[.int .i64 (m.length : Int), .nilIface]) ∧ (BldJ B b B2 (l ++ m) w' ∧ FrJ B b B2 w w') := by
  obtain ⟨i0, hi, hz0, hz1, hz2⟩ := info_parts info_u8
  have hms : maxLen = 9223372036854775807 := rfl
  have CK := Lib.hid (checkJ_c B b B2 l w h)
  have hbl : (bc l).length = l.length := bc_len l
  have hsm : (str m).size = m.length := str_size m
  go_enter Tryd.func118, Tryd.ntmps118
  go_wp2_with (go_at_call 161; refine CK.out.mono ?_)
  rintro e w1 ⟨rfl, h1, hb1⟩
  obtain ⟨hB, hbB, hB2, v, hbk, hown⟩ := h1
  have c0 : w1.cell? ⟨b, 0, none⟩ = some (.pointer (some ⟨b, 0, none⟩)) := by rw [Lib.cell_of_heap hbk]; rfl
  have c1 : w1.cell? ⟨b, 1, none⟩ = some v := by rw [Lib.cell_of_heap hbk]; rfl
  go_wp2_with (at_builtin; refine Lib.wpList_append_own_string _ rfl _ _ 22 9 rfl B2 5 i0 Tryd.underlying22 Tryd.underlying9 hi hz0 hz1 hz2 _ _ _ rfl hown (str m) rfl (by omega) (by omega) (by omega) ?_)
  intro v' w2 hown' hgrow _
  have hfar : ∀ j, j < B2 → w2.heap[j]? = w1.heap[j]? := fun j hj => by
    rw [hgrow.block j (by omega) (fun e => by have := (hown.lt j e.symm).1; omega)]
  have hb2 : w2.heap[b]? = some (.cells #[.pointer (some ⟨b, 0, none⟩), v] 167 (0, 0)) := (hfar b hbB).trans hbk
  have d0 : w2.cell? ⟨b, 0, none⟩ = some (.pointer (some ⟨b, 0, none⟩)) := by rw [Lib.cell_of_heap hb2]; rfl
  have d1 : w2.cell? ⟨b, 1, none⟩ = some v := by rw [Lib.cell_of_heap hb2]; rfl
  have f1 : w2.frozen? ⟨b, 1, none⟩ = false := Lib.frozen_of_heap hb2 1
  have hs2 : w1.heap.size ≤ w2.heap.size := hgrow.size
  obtain ⟨A, n', cap, rfl⟩ : ∃ A n' cap, v' = .slice A n' cap := by
    rcases hown'.2 with ⟨hv, _⟩ | ⟨g, cap, cur, hv, _⟩
    · exact ⟨_, _, _, hv⟩
    · exact ⟨_, _, _, hv⟩
  go_wp2
  go_ret2
  refine ⟨rfl, .inr ⟨hB, hbB, by simp; omega, .slice A n' cap, by simp [World.setCell, Array.getElem?_modify, hb2], ?_⟩, ?_⟩
  · have ho : w2.ownsRow B2 5 1 (.slice A n' cap) (bc (l ++ m)).length (bc (l ++ m)) := by rw [bc_app]; simpa [bc, Lib.strCells, str] using hown'
    refine ⟨ho.1, ?_⟩
    rcases ho.2 with h2' | ⟨g, cap, cur, hv, hg, hh, r⟩
    · exact .inl h2'
    · exact .inr ⟨g, cap, cur, hv, hg, by rw [Below.heap_setCell _ _ _ _ (show g ≠ b by omega)]; exact hh, r⟩
  · refine ((hb1.tr ⟨?_, fun j h1 h2 => hfar j h1⟩).set hB 1 _)
    exact ((Below.refl B w1).grown hgrow (by omega) (fun k hk => by have := (hown.lt k hk).1; omega))
theorem bStringJ_c (B b B2 : Nat) (l : List UInt8) (w : World) (h : BldJ B b B2 l w) :
    Calls Tryd.prog 119 #[.pointer (some ⟨b, 0, none⟩)] w fun e w' => e = .returned (.string (str l)) ∧ Below B w w' :=
  bString_c B b l w h.toBld (by rcases h with h | h <;> (obtain ⟨h1, h2, h3, _⟩ := h; omega))
end Go.Proofs.YtolfpfdmgelhhaaDoor
end

/-
Texts of a log's line: escaped, by the program and by the reference.
-/
section
namespace Go.Proofs.YtolfpfdmgelhhaaDoor
open Go.RowKit

theorem strNA {m t : List UInt8} (h : ¬ m = t) : ((str m).toList == t) = false := by rw [beq_eq_false_iff_ne, Lib.toList_data]; exact h
def hexl (n : Nat) : UInt8 := if n < 10 then UInt8.ofNat (48 + n) else UInt8.ofNat (87 + n)
/-- Does a byte stand for itself? -/
def okB (b : UInt8) : Bool := decide (32 < b.toNat) && decide (b.toNat < 127) && !(b == 34 || b == 37 || b == 92)
def escB (d : Bool) (b : UInt8) : List UInt8 := if okB b && !d then [b] else [37, hexl (b.toNat / 16), hexl (b.toNat % 16)]
/-- A text, escaped. -/
def escL (l : List UInt8) : List UInt8 := if l = [] then [45] else l.flatMap (escB (l == [45]))
theorem escB_len (d : Bool) (b : UInt8) : (escB d b).length ≤ 3 := by unfold escB; split <;> simp
theorem escF_len (d : Bool) (l : List UInt8) : (l.flatMap (escB d)).length ≤ 3 * l.length := by
  induction l with
  | nil => simp
  | cons b l ih => have := escB_len d b; simp only [List.flatMap_cons, List.length_append, List.length_cons]; omega
theorem escL_len (l : List UInt8) : (escL l).length ≤ 3 * l.length + 1 := by
  unfold escL
  split
  · simp
  · have := escF_len (l == [45]) l; omega
theorem esc_take (d : Bool) (l : List UInt8) (k : Nat) (h : k < l.length) : (l.take (k + 1)).flatMap (escB d) = (l.take k).flatMap (escB d) ++ escB d l[k] := by
  rw [List.take_succ_eq_append_getElem h, List.flatMap_append]; simp
theorem hexl_cut0 : ∀ d : Fin 16, ((⟨#[48, 49, 50, 51, 52, 53, 54, 55, 56, 57, 97, 98, 99, 100, 101, 102]⟩ : ByteArray).extract d.val (d.val + 1)) = str [hexl d.val] := by decide +kernel
theorem hexl_cut (n : Nat) (h : n < 16) : ((⟨#[48, 49, 50, 51, 52, 53, 54, 55, 56, 57, 97, 98, 99, 100, 101, 102]⟩ : ByteArray).extract n (n + 1)) = str [hexl n] := hexl_cut0 ⟨n, h⟩
theorem hexl_at0 : ∀ d : Fin 16, ((⟨#[48, 49, 50, 51, 52, 53, 54, 55, 56, 57, 97, 98, 99, 100, 101, 102]⟩ : ByteArray)[d.val]'(show d.val < 16 from d.isLt)) = hexl d.val := by decide +kernel
theorem hexl_at (n : Nat) (h : n < 16) : ((⟨#[48, 49, 50, 51, 52, 53, 54, 55, 56, 57, 97, 98, 99, 100, 101, 102]⟩ : ByteArray)[n]'(show n < 16 from h)) = hexl n := hexl_at0 ⟨n, h⟩
theorem ok_idx0 : ∀ b : Fin 256, okB b.val.toUInt8 = (decide (32 < b.val.toUInt8.toNat) && decide (b.val.toUInt8.toNat < 127) && decide (Lib.indexByte [34, 37, 92] b.val.toUInt8 < 0)) := by decide +kernel
theorem ok_idx (b : UInt8) : okB b = (decide (32 < b.toNat) && decide (b.toNat < 127) && decide (Lib.indexByte [34, 37, 92] b < 0)) := by
  have := ok_idx0 ⟨b.toNat, UInt8.toNat_lt b⟩; simpa using this
theorem Ext.bw' {a b : World} (h : Ext a b) (e : TypeId) (s : ByteArray) : Ext a (Lib.bytesWorld b e s) :=
  ⟨by simpa [Lib.bytesWorld, World.freeze, World.alloc, World.drew, -World.alloc_eq, -World.drew_eq] using h.os,
   by simpa [Lib.bytesWorld, World.freeze, World.alloc, World.drew, -World.alloc_eq, -World.drew_eq] using h.tape,
   by simpa [Lib.bytesWorld, World.freeze, World.alloc, World.drew, -World.alloc_eq, -World.drew_eq] using h.output,
   by rw [Lib.bytesWorld_size]; have := h.size; omega,
   fun i hi => by rw [Lib.bytesWorld_at_old _ _ _ _ (by have := h.size; omega)]; exact h.block i hi⟩
set_option maxRecDepth 100000 in
set_option maxHeartbeats 4000000 in
theorem aEscape_c (l : List UInt8) (hs : l.length ≤ 35184372088832) (w : World) :
    Calls Tryd.prog 111 #[.string (str l)] w (Gives (.string (str (escL l))) w) := by
  by_cases h0 : l = []
  · subst h0
    rw [show escL [] = [45] from rfl, show str ([] : List UInt8) = ⟨#[]⟩ from rfl, show str ([45] : List UInt8) = ⟨#[45]⟩ from rfl]
    go_enter Tryd.func111, Tryd.ntmps111
    go_wp2
    go_ret
    exact ⟨rfl, by (repeat (first | exact Ext.rfl' _ | assumption | refine Ext.dr ?_ | refine Ext.drN ?_ _ | refine Ext.al ?_ _ | refine Ext.st ?_ (by simp) _ | refine Ext.tr ?_ (by assumption)))⟩
  have e1 : l.isEmpty = false := by rw [List.isEmpty_eq_false_iff]; exact h0
  have e2 : (str l).toList.isEmpty = false := by rw [Lib.toList_data]; exact e1
  obtain ⟨d, hd⟩ : ∃ d, d = (l == [45]) := ⟨_, rfl⟩
  have s1 : ((str l).toList == [45]) = d := by rw [Lib.toList_data, hd]; rfl
  have s2 : (l == [45]) = d := hd.symm
  obtain ⟨R, hR⟩ : ∃ R, R = l.flatMap (escB d) := ⟨_, rfl⟩
  rw [show escL l = R by unfold escL; rw [if_neg h0, s2, hR]]
  have HR := Lib.hid hR
  clear hd hR h0
  have hms : maxLen = 9223372036854775807 := rfl
  have CV := fun w => Lib.run_convert_string_bytes (P := Tryd.prog) w 9 22 5 (str l) Tryd.underlying9 Tryd.underlying22 Tryd.underlying5
  go_enter Tryd.func111, Tryd.ntmps111
  go_wp2
  clear CV
  obtain ⟨W1, hW1⟩ : ∃ W1, W1 = Lib.bytesWorld (w.alloc (.cells #[.pointer none, .slice none 0 0] 167)) 5 (str l) := ⟨_, rfl⟩
  rw [← hW1]
  have hX1 : Ext w W1 := by rw [hW1]; exact Ext.bw' (by (repeat (first | exact Ext.rfl' _ | assumption | refine Ext.dr ?_ | refine Ext.drN ?_ _ | refine Ext.al ?_ _ | refine Ext.st ?_ (by simp) _ | refine Ext.tr ?_ (by assumption)))) _ _
  have hz1 : W1.heap.size = w.heap.size + 2 := by rw [hW1, Lib.bytesWorld_size]; simp
  have hb0 : BldJ w.heap.size w.heap.size (w.heap.size + 2) [] W1 := bldJ_new (Nat.le_refl _) (by omega) (by omega) (by
    rw [hW1, Lib.bytesWorld_at_old _ _ _ _ (by simp)]; exact heap_alloc_new w _)
  have HC := Lib.hid (show ∀ (wr : World) k (h : k < l.length), FrJ w.heap.size w.heap.size (w.heap.size + 2) W1 wr → wr.cell? ⟨w.heap.size + 1, k, none⟩ = some (.int .u8 (l[k].toNat : Int)) from fun wr k h hf => by
    have hh := hf.2 (w.heap.size + 1) (by omega) (by omega)
    have hc := Lib.bytesWorld_cell (w.alloc (.cells #[.pointer none, .slice none 0 0] 167)) 5 (str l) k (by simpa using h)
    have hsz : (w.alloc (.cells #[.pointer none, .slice none 0 0] 167)).heap.size = w.heap.size + 1 := by simp
    rw [← hW1, hsz] at hc
    have e : wr.cell? ⟨w.heap.size + 1, k, none⟩ = W1.cell? ⟨w.heap.size + 1, k, none⟩ := by unfold World.cell?; rw [hh]
    rw [e, hc]
    simp [List.getD, h])
  clear hW1
  go_loopw [11] (fun i wr => ∃ k : Nat, i = .int .i64 k ∧ k ≤ l.length ∧ BldJ w.heap.size w.heap.size (w.heap.size + 2) ((l.take k).flatMap (escB d)) wr ∧ FrJ w.heap.size w.heap.size (w.heap.size + 2) W1 wr) (fun i _ => l.length - (intOf i).toNat)
  case atStart => exact ⟨0, rfl, Nat.zero_le _, hb0, FrJ.rfl' _ _ _ _⟩
  case round =>
    obtain ⟨k, rfl, hk, hbld, hfr⟩ := hrel
    have HBD := Lib.hid hbld
    have hel := escF_len d (l.take k)
    have htk : (l.take k).length = k := by rw [List.length_take]; omega
    rw [htk] at hel
    have hsr : w.heap.size + 2 ≤ wr.heap.size := by rcases hbld with h | h <;> exact h.2.2.1
    clear hbld
    by_cases hlt : k < l.length
    · have HT := Lib.hid (esc_take d l k hlt)
      have h256 := UInt8.toNat_lt l[k]
      have hki : (k : Int) + 1 ≤ 9223372036854775807 := by omega
      have hck := HC.out wr k hlt hfr
      obtain ⟨z, hz⟩ : ∃ z, Lib.indexByte [34, 37, 92] l[k] = z := ⟨_, rfl⟩
      have hok := ok_idx l[k]
      rw [hz] at hok
      have HZ := Lib.hid hz
      clear hz htk hb0
      by_cases c1 : 32 < l[k].toNat
      · have d1 : (32 : Int) < (l[k].toNat : Int) := by omega
        by_cases c2 : l[k].toNat < 127
        · have d2 : (l[k].toNat : Int) < 127 := by omega
          by_cases c3 : z < 0
          · cases d
            · have HE := Lib.hid (show escB false l[k] = [l[k]] by unfold escB; rw [hok]; simp [c1, c2, c3])
              clear hok c1 c2
              go_wp2_with (first
                | (go_at_call 122; refine (IndexByteK_c _ _ _ HZ.out _).mono ?_; rintro e w1 ⟨rfl, rfl⟩)
                | (go_at_call 159; refine (WriteByteJ_c w.heap.size w.heap.size (w.heap.size + 2) _ l[k] _ HBD.out (by omega)).mono ?_; rintro e w1 ⟨rfl, hb1, hx1⟩))
              go_roundw
              case rel => exact ⟨k + 1, by go_num, by omega, by rw [HT.out, HE.out]; exact hb1, hfr.tr hx1⟩
              case measure => simp [intOf]; omega
            · have HE := Lib.hid (show escB true l[k] = [37, hexl (l[k].toNat / 16), hexl (l[k].toNat % 16)] by unfold escB; simp)
              clear hok c1 c2
              obtain ⟨x, hx⟩ : ∃ x : Nat, x = l[k].toNat := ⟨_, rfl⟩
              have hcut1 := hexl_cut (l[k].toNat / 16) (by omega)
              have hcut2 := hexl_cut (l[k].toNat % 16) (by omega)
              go_wp2_with (first
                | (go_at_call 122; refine (IndexByteK_c _ _ _ HZ.out _).mono ?_; rintro e w1 ⟨rfl, rfl⟩))
              obtain ⟨h1, hh1⟩ : ∃ h, h = hexl (l[k].toNat / 16) := ⟨_, rfl⟩
              obtain ⟨h2, hh2⟩ : ∃ h, h = hexl (l[k].toNat % 16) := ⟨_, rfl⟩
              rw [← hh1] at hcut1 HE
              rw [← hh2] at hcut2 HE
              clear hh1 hh2 hx x
              have f1 : IntKind.u8.wrap ((l[k].toNat : Int) / 16 + 1) = (l[k].toNat : Int) / 16 + 1 := by rw [IntKind.wrap_u8]; omega
              have f2 : (0 : Int) ≤ (l[k].toNat : Int) / 16 := by omega
              have f3 : (l[k].toNat : Int) / 16 ≤ (l[k].toNat : Int) / 16 + 1 := by omega
              have f4 : (l[k].toNat : Int) / 16 + 1 ≤ 16 := by omega
              have f5 : ((l[k].toNat : Int) / 16).toNat = l[k].toNat / 16 := by omega
              have f6 : ((l[k].toNat : Int) / 16 + 1).toNat = l[k].toNat / 16 + 1 := by omega
              have g0 := and15 l[k]
              have g1 : IntKind.u8.wrap ((l[k].toNat : Int) % 16 + 1) = (l[k].toNat : Int) % 16 + 1 := by rw [IntKind.wrap_u8]; omega
              have g2 : (0 : Int) ≤ (l[k].toNat : Int) % 16 := by omega
              have g3 : (l[k].toNat : Int) % 16 ≤ (l[k].toNat : Int) % 16 + 1 := by omega
              have g4 : (l[k].toNat : Int) % 16 + 1 ≤ 16 := by omega
              have g5 : ((l[k].toNat : Int) % 16).toNat = l[k].toNat % 16 := by omega
              have g6 : ((l[k].toNat : Int) % 16 + 1).toNat = l[k].toNat % 16 + 1 := by omega
              have cc1 : ∀ w, (Op.stringOp .add ⟨#[37]⟩ (str [h1])).run Tryd.prog w = .ok (.string (str [37, h1])) w := fun w => by
                rw [cat_ok _ _ (by rw [str_size]; show 1 + 1 ≤ _; omega)]; simp
              have cc2 : ∀ w, (Op.stringOp .add (str [37, h1]) (str [h2])).run Tryd.prog w = .ok (.string (str [37, h1, h2])) w := fun w => by
                rw [cat_ok _ _ (by rw [str_size, str_size]; show 2 + 1 ≤ _; omega)]; simp
              have hx3 : ([37, h1, h2] : List UInt8).length = 3 := rfl
              go_region_held3 (fun _ => True) (trivial) (first
                | (go_at_call 118; refine (WriteStringJ_c w.heap.size w.heap.size (w.heap.size + 2) _ [37, h1, h2] _ (HBD.out.ext (by (repeat (first | exact Ext.rfl' _ | assumption | refine Ext.dr ?_ | refine Ext.drN ?_ _ | refine Ext.al ?_ _ | refine Ext.st ?_ (by simp) _ | refine Ext.tr ?_ (by assumption))))) (by omega)).mono ?_; rintro e w1 ⟨rfl, hb1, hx1⟩))
              all_goals go_wp2
              go_roundw
              case rel => exact ⟨k + 1, by go_num, by omega, by rw [HT.out, HE.out]; exact hb1, (hfr.tr (FrJ.ext (by omega) (by omega) (by (repeat (first | exact Ext.rfl' _ | assumption | refine Ext.dr ?_ | refine Ext.drN ?_ _ | refine Ext.al ?_ _ | refine Ext.st ?_ (by simp) _ | refine Ext.tr ?_ (by assumption)))))).tr hx1⟩
              case measure => simp [intOf]; omega
          · have HE := Lib.hid (show escB d l[k] = [37, hexl (l[k].toNat / 16), hexl (l[k].toNat % 16)] by unfold escB; rw [hok]; simp [c3])
            have c4 : decide (z < 0) = false := decide_eq_false c3
            clear hok c1 c2 c3
            cases d
            · obtain ⟨x, hx⟩ : ∃ x : Nat, x = l[k].toNat := ⟨_, rfl⟩
              have hcut1 := hexl_cut (l[k].toNat / 16) (by omega)
              have hcut2 := hexl_cut (l[k].toNat % 16) (by omega)
              go_wp2_with (first
                | (go_at_call 122; refine (IndexByteK_c _ _ _ HZ.out _).mono ?_; rintro e w1 ⟨rfl, rfl⟩))
              obtain ⟨h1, hh1⟩ : ∃ h, h = hexl (l[k].toNat / 16) := ⟨_, rfl⟩
              obtain ⟨h2, hh2⟩ : ∃ h, h = hexl (l[k].toNat % 16) := ⟨_, rfl⟩
              rw [← hh1] at hcut1 HE
              rw [← hh2] at hcut2 HE
              clear hh1 hh2 hx x
              have f1 : IntKind.u8.wrap ((l[k].toNat : Int) / 16 + 1) = (l[k].toNat : Int) / 16 + 1 := by rw [IntKind.wrap_u8]; omega
              have f2 : (0 : Int) ≤ (l[k].toNat : Int) / 16 := by omega
              have f3 : (l[k].toNat : Int) / 16 ≤ (l[k].toNat : Int) / 16 + 1 := by omega
              have f4 : (l[k].toNat : Int) / 16 + 1 ≤ 16 := by omega
              have f5 : ((l[k].toNat : Int) / 16).toNat = l[k].toNat / 16 := by omega
              have f6 : ((l[k].toNat : Int) / 16 + 1).toNat = l[k].toNat / 16 + 1 := by omega
              have g0 := and15 l[k]
              have g1 : IntKind.u8.wrap ((l[k].toNat : Int) % 16 + 1) = (l[k].toNat : Int) % 16 + 1 := by rw [IntKind.wrap_u8]; omega
              have g2 : (0 : Int) ≤ (l[k].toNat : Int) % 16 := by omega
              have g3 : (l[k].toNat : Int) % 16 ≤ (l[k].toNat : Int) % 16 + 1 := by omega
              have g4 : (l[k].toNat : Int) % 16 + 1 ≤ 16 := by omega
              have g5 : ((l[k].toNat : Int) % 16).toNat = l[k].toNat % 16 := by omega
              have g6 : ((l[k].toNat : Int) % 16 + 1).toNat = l[k].toNat % 16 + 1 := by omega
              have cc1 : ∀ w, (Op.stringOp .add ⟨#[37]⟩ (str [h1])).run Tryd.prog w = .ok (.string (str [37, h1])) w := fun w => by
                rw [cat_ok _ _ (by rw [str_size]; show 1 + 1 ≤ _; omega)]; simp
              have cc2 : ∀ w, (Op.stringOp .add (str [37, h1]) (str [h2])).run Tryd.prog w = .ok (.string (str [37, h1, h2])) w := fun w => by
                rw [cat_ok _ _ (by rw [str_size, str_size]; show 2 + 1 ≤ _; omega)]; simp
              have hx3 : ([37, h1, h2] : List UInt8).length = 3 := rfl
              go_region_held3 (fun _ => True) (trivial) (first
                | (go_at_call 118; refine (WriteStringJ_c w.heap.size w.heap.size (w.heap.size + 2) _ [37, h1, h2] _ (HBD.out.ext (by (repeat (first | exact Ext.rfl' _ | assumption | refine Ext.dr ?_ | refine Ext.drN ?_ _ | refine Ext.al ?_ _ | refine Ext.st ?_ (by simp) _ | refine Ext.tr ?_ (by assumption))))) (by omega)).mono ?_; rintro e w1 ⟨rfl, hb1, hx1⟩))
              all_goals go_wp2
              go_roundw
              case rel => exact ⟨k + 1, by go_num, by omega, by rw [HT.out, HE.out]; exact hb1, (hfr.tr (FrJ.ext (by omega) (by omega) (by (repeat (first | exact Ext.rfl' _ | assumption | refine Ext.dr ?_ | refine Ext.drN ?_ _ | refine Ext.al ?_ _ | refine Ext.st ?_ (by simp) _ | refine Ext.tr ?_ (by assumption)))))).tr hx1⟩
              case measure => simp [intOf]; omega
            · obtain ⟨x, hx⟩ : ∃ x : Nat, x = l[k].toNat := ⟨_, rfl⟩
              have hcut1 := hexl_cut (l[k].toNat / 16) (by omega)
              have hcut2 := hexl_cut (l[k].toNat % 16) (by omega)
              go_wp2_with (first
                | (go_at_call 122; refine (IndexByteK_c _ _ _ HZ.out _).mono ?_; rintro e w1 ⟨rfl, rfl⟩))
              obtain ⟨h1, hh1⟩ : ∃ h, h = hexl (l[k].toNat / 16) := ⟨_, rfl⟩
              obtain ⟨h2, hh2⟩ : ∃ h, h = hexl (l[k].toNat % 16) := ⟨_, rfl⟩
              rw [← hh1] at hcut1 HE
              rw [← hh2] at hcut2 HE
              clear hh1 hh2 hx x
              have f1 : IntKind.u8.wrap ((l[k].toNat : Int) / 16 + 1) = (l[k].toNat : Int) / 16 + 1 := by rw [IntKind.wrap_u8]; omega
              have f2 : (0 : Int) ≤ (l[k].toNat : Int) / 16 := by omega
              have f3 : (l[k].toNat : Int) / 16 ≤ (l[k].toNat : Int) / 16 + 1 := by omega
              have f4 : (l[k].toNat : Int) / 16 + 1 ≤ 16 := by omega
              have f5 : ((l[k].toNat : Int) / 16).toNat = l[k].toNat / 16 := by omega
              have f6 : ((l[k].toNat : Int) / 16 + 1).toNat = l[k].toNat / 16 + 1 := by omega
              have g0 := and15 l[k]
              have g1 : IntKind.u8.wrap ((l[k].toNat : Int) % 16 + 1) = (l[k].toNat : Int) % 16 + 1 := by rw [IntKind.wrap_u8]; omega
              have g2 : (0 : Int) ≤ (l[k].toNat : Int) % 16 := by omega
              have g3 : (l[k].toNat : Int) % 16 ≤ (l[k].toNat : Int) % 16 + 1 := by omega
              have g4 : (l[k].toNat : Int) % 16 + 1 ≤ 16 := by omega
              have g5 : ((l[k].toNat : Int) % 16).toNat = l[k].toNat % 16 := by omega
              have g6 : ((l[k].toNat : Int) % 16 + 1).toNat = l[k].toNat % 16 + 1 := by omega
              have cc1 : ∀ w, (Op.stringOp .add ⟨#[37]⟩ (str [h1])).run Tryd.prog w = .ok (.string (str [37, h1])) w := fun w => by
                rw [cat_ok _ _ (by rw [str_size]; show 1 + 1 ≤ _; omega)]; simp
              have cc2 : ∀ w, (Op.stringOp .add (str [37, h1]) (str [h2])).run Tryd.prog w = .ok (.string (str [37, h1, h2])) w := fun w => by
                rw [cat_ok _ _ (by rw [str_size, str_size]; show 2 + 1 ≤ _; omega)]; simp
              have hx3 : ([37, h1, h2] : List UInt8).length = 3 := rfl
              go_region_held3 (fun _ => True) (trivial) (first
                | (go_at_call 118; refine (WriteStringJ_c w.heap.size w.heap.size (w.heap.size + 2) _ [37, h1, h2] _ (HBD.out.ext (by (repeat (first | exact Ext.rfl' _ | assumption | refine Ext.dr ?_ | refine Ext.drN ?_ _ | refine Ext.al ?_ _ | refine Ext.st ?_ (by simp) _ | refine Ext.tr ?_ (by assumption))))) (by omega)).mono ?_; rintro e w1 ⟨rfl, hb1, hx1⟩))
              all_goals go_wp2
              go_roundw
              case rel => exact ⟨k + 1, by go_num, by omega, by rw [HT.out, HE.out]; exact hb1, (hfr.tr (FrJ.ext (by omega) (by omega) (by (repeat (first | exact Ext.rfl' _ | assumption | refine Ext.dr ?_ | refine Ext.drN ?_ _ | refine Ext.al ?_ _ | refine Ext.st ?_ (by simp) _ | refine Ext.tr ?_ (by assumption)))))).tr hx1⟩
              case measure => simp [intOf]; omega
        · have d2 : ¬ (l[k].toNat : Int) < 127 := by omega
          have HE := Lib.hid (show escB d l[k] = [37, hexl (l[k].toNat / 16), hexl (l[k].toNat % 16)] by unfold escB; rw [hok]; simp [c2])
          clear hok c1 c2
          obtain ⟨x, hx⟩ : ∃ x : Nat, x = l[k].toNat := ⟨_, rfl⟩
          have hcut1 := hexl_cut (l[k].toNat / 16) (by omega)
          have hcut2 := hexl_cut (l[k].toNat % 16) (by omega)
          go_wp2_with (first
            | (go_at_call 122; refine (IndexByteK_c _ _ _ HZ.out _).mono ?_; rintro e w1 ⟨rfl, rfl⟩))
          obtain ⟨h1, hh1⟩ : ∃ h, h = hexl (l[k].toNat / 16) := ⟨_, rfl⟩
          obtain ⟨h2, hh2⟩ : ∃ h, h = hexl (l[k].toNat % 16) := ⟨_, rfl⟩
          rw [← hh1] at hcut1 HE
          rw [← hh2] at hcut2 HE
          clear hh1 hh2 hx x
          have f1 : IntKind.u8.wrap ((l[k].toNat : Int) / 16 + 1) = (l[k].toNat : Int) / 16 + 1 := by rw [IntKind.wrap_u8]; omega
          have f2 : (0 : Int) ≤ (l[k].toNat : Int) / 16 := by omega
          have f3 : (l[k].toNat : Int) / 16 ≤ (l[k].toNat : Int) / 16 + 1 := by omega
          have f4 : (l[k].toNat : Int) / 16 + 1 ≤ 16 := by omega
          have f5 : ((l[k].toNat : Int) / 16).toNat = l[k].toNat / 16 := by omega
          have f6 : ((l[k].toNat : Int) / 16 + 1).toNat = l[k].toNat / 16 + 1 := by omega
          have g0 := and15 l[k]
          have g1 : IntKind.u8.wrap ((l[k].toNat : Int) % 16 + 1) = (l[k].toNat : Int) % 16 + 1 := by rw [IntKind.wrap_u8]; omega
          have g2 : (0 : Int) ≤ (l[k].toNat : Int) % 16 := by omega
          have g3 : (l[k].toNat : Int) % 16 ≤ (l[k].toNat : Int) % 16 + 1 := by omega
          have g4 : (l[k].toNat : Int) % 16 + 1 ≤ 16 := by omega
          have g5 : ((l[k].toNat : Int) % 16).toNat = l[k].toNat % 16 := by omega
          have g6 : ((l[k].toNat : Int) % 16 + 1).toNat = l[k].toNat % 16 + 1 := by omega
          have cc1 : ∀ w, (Op.stringOp .add ⟨#[37]⟩ (str [h1])).run Tryd.prog w = .ok (.string (str [37, h1])) w := fun w => by
            rw [cat_ok _ _ (by rw [str_size]; show 1 + 1 ≤ _; omega)]; simp
          have cc2 : ∀ w, (Op.stringOp .add (str [37, h1]) (str [h2])).run Tryd.prog w = .ok (.string (str [37, h1, h2])) w := fun w => by
            rw [cat_ok _ _ (by rw [str_size, str_size]; show 2 + 1 ≤ _; omega)]; simp
          have hx3 : ([37, h1, h2] : List UInt8).length = 3 := rfl
          go_region_held3 (fun _ => True) (trivial) (first
            | (go_at_call 118; refine (WriteStringJ_c w.heap.size w.heap.size (w.heap.size + 2) _ [37, h1, h2] _ (HBD.out.ext (by (repeat (first | exact Ext.rfl' _ | assumption | refine Ext.dr ?_ | refine Ext.drN ?_ _ | refine Ext.al ?_ _ | refine Ext.st ?_ (by simp) _ | refine Ext.tr ?_ (by assumption))))) (by omega)).mono ?_; rintro e w1 ⟨rfl, hb1, hx1⟩))
          all_goals go_wp2
          go_roundw
          case rel => exact ⟨k + 1, by go_num, by omega, by rw [HT.out, HE.out]; exact hb1, (hfr.tr (FrJ.ext (by omega) (by omega) (by (repeat (first | exact Ext.rfl' _ | assumption | refine Ext.dr ?_ | refine Ext.drN ?_ _ | refine Ext.al ?_ _ | refine Ext.st ?_ (by simp) _ | refine Ext.tr ?_ (by assumption)))))).tr hx1⟩
          case measure => simp [intOf]; omega
      · have d1 : ¬ (32 : Int) < (l[k].toNat : Int) := by omega
        have HE := Lib.hid (show escB d l[k] = [37, hexl (l[k].toNat / 16), hexl (l[k].toNat % 16)] by unfold escB; rw [hok]; simp [c1])
        clear hok c1
        obtain ⟨x, hx⟩ : ∃ x : Nat, x = l[k].toNat := ⟨_, rfl⟩
        have hcut1 := hexl_cut (l[k].toNat / 16) (by omega)
        have hcut2 := hexl_cut (l[k].toNat % 16) (by omega)
        go_wp2_with (first
          | (go_at_call 122; refine (IndexByteK_c _ _ _ HZ.out _).mono ?_; rintro e w1 ⟨rfl, rfl⟩))
        obtain ⟨h1, hh1⟩ : ∃ h, h = hexl (l[k].toNat / 16) := ⟨_, rfl⟩
        obtain ⟨h2, hh2⟩ : ∃ h, h = hexl (l[k].toNat % 16) := ⟨_, rfl⟩
        rw [← hh1] at hcut1 HE
        rw [← hh2] at hcut2 HE
        clear hh1 hh2 hx x
        have f1 : IntKind.u8.wrap ((l[k].toNat : Int) / 16 + 1) = (l[k].toNat : Int) / 16 + 1 := by rw [IntKind.wrap_u8]; omega
        have f2 : (0 : Int) ≤ (l[k].toNat : Int) / 16 := by omega
        have f3 : (l[k].toNat : Int) / 16 ≤ (l[k].toNat : Int) / 16 + 1 := by omega
        have f4 : (l[k].toNat : Int) / 16 + 1 ≤ 16 := by omega
        have f5 : ((l[k].toNat : Int) / 16).toNat = l[k].toNat / 16 := by omega
        have f6 : ((l[k].toNat : Int) / 16 + 1).toNat = l[k].toNat / 16 + 1 := by omega
        have g0 := and15 l[k]
        have g1 : IntKind.u8.wrap ((l[k].toNat : Int) % 16 + 1) = (l[k].toNat : Int) % 16 + 1 := by rw [IntKind.wrap_u8]; omega
        have g2 : (0 : Int) ≤ (l[k].toNat : Int) % 16 := by omega
        have g3 : (l[k].toNat : Int) % 16 ≤ (l[k].toNat : Int) % 16 + 1 := by omega
        have g4 : (l[k].toNat : Int) % 16 + 1 ≤ 16 := by omega
        have g5 : ((l[k].toNat : Int) % 16).toNat = l[k].toNat % 16 := by omega
        have g6 : ((l[k].toNat : Int) % 16 + 1).toNat = l[k].toNat % 16 + 1 := by omega
        have cc1 : ∀ w, (Op.stringOp .add ⟨#[37]⟩ (str [h1])).run Tryd.prog w = .ok (.string (str [37, h1])) w := fun w => by
          rw [cat_ok _ _ (by rw [str_size]; show 1 + 1 ≤ _; omega)]; simp
        have cc2 : ∀ w, (Op.stringOp .add (str [37, h1]) (str [h2])).run Tryd.prog w = .ok (.string (str [37, h1, h2])) w := fun w => by
          rw [cat_ok _ _ (by rw [str_size, str_size]; show 2 + 1 ≤ _; omega)]; simp
        have hx3 : ([37, h1, h2] : List UInt8).length = 3 := rfl
        go_region_held3 (fun _ => True) (trivial) (first
          | (go_at_call 118; refine (WriteStringJ_c w.heap.size w.heap.size (w.heap.size + 2) _ [37, h1, h2] _ (HBD.out.ext (by (repeat (first | exact Ext.rfl' _ | assumption | refine Ext.dr ?_ | refine Ext.drN ?_ _ | refine Ext.al ?_ _ | refine Ext.st ?_ (by simp) _ | refine Ext.tr ?_ (by assumption))))) (by omega)).mono ?_; rintro e w1 ⟨rfl, hb1, hx1⟩))
        all_goals go_wp2
        go_roundw
        case rel => exact ⟨k + 1, by go_num, by omega, by rw [HT.out, HE.out]; exact hb1, (hfr.tr (FrJ.ext (by omega) (by omega) (by (repeat (first | exact Ext.rfl' _ | assumption | refine Ext.dr ?_ | refine Ext.drN ?_ _ | refine Ext.al ?_ _ | refine Ext.st ?_ (by simp) _ | refine Ext.tr ?_ (by assumption)))))).tr hx1⟩
        case measure => simp [intOf]; omega
    · obtain rfl : k = l.length := by omega
      rw [List.take_length, ← HR.out] at HBD
      go_wp2_with (go_at_call 119; refine (bStringJ_c w.heap.size w.heap.size (w.heap.size + 2) _ _ HBD.out).mono ?_; rintro e w1 ⟨rfl, hx1⟩)
      go_ret
      exact ⟨rfl, Below.trans hX1 (Below.trans hfr.1 hx1)⟩
end Go.Proofs.YtolfpfdmgelhhaaDoor
end
