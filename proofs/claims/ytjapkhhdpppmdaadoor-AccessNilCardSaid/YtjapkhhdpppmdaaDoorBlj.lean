/-
A text's builder beside which other blocks of the call stand: all but its own block and its row stay as they are.
-/
import Derived.Test.YtjapkhhdpppmdaaDoorBld
set_option linter.unusedVariables false
set_option linter.unusedSimpArgs false
namespace Go.Proofs.YtjapkhhdpppmdaaDoor
open Go.RowKit

/-- Block b is a builder that holds l; its row stands from B2 on. -/
def BldAt (B b B2 : Nat) (p : Value) (l : List UInt8) (w : World) : Prop :=
  B ≤ b ∧ b < B2 ∧ B2 ≤ w.heap.size ∧ ∃ v, w.heap[b]? = some (.cells #[p, v] 110 (0, 0)) ∧ w.ownsRow B2 5 1 v (bc l).length (bc l)
def BldJ (B b B2 : Nat) (l : List UInt8) (w : World) : Prop := BldAt B b B2 (.pointer none) l w ∨ BldAt B b B2 (.pointer (some ⟨b, 0, none⟩)) l w
/-- What stands below B2, but for b, is as it was. -/
def FrJ (B b B2 : Nat) (w w' : World) : Prop := Below B w w' ∧ ∀ j, j < B2 → j ≠ b → w'.heap[j]? = w.heap[j]?
theorem FrJ.rfl' (B b B2 : Nat) (w : World) : FrJ B b B2 w w := ⟨Below.refl _ _, fun _ _ _ => rfl⟩
theorem FrJ.tr {B b B2 : Nat} {w w1 w2 : World} (h : FrJ B b B2 w w1) (k : FrJ B b B2 w1 w2) : FrJ B b B2 w w2 := ⟨Below.trans h.1 k.1, fun j h1 h2 => (k.2 j h1 h2).trans (h.2 j h1 h2)⟩
theorem FrJ.set {B b B2 : Nat} {w w1 : World} (h : FrJ B b B2 w w1) (hB : B ≤ b) (k : Nat) (v : Value) : FrJ B b B2 w (w1.setCell ⟨b, k, none⟩ v) :=
  ⟨h.1.setCell (p := ⟨b, k, none⟩) hB v, fun j h1 h2 => (Below.heap_setCell _ _ _ _ h2).trans (h.2 j h1 h2)⟩
theorem FrJ.ext {B b B2 : Nat} {w w1 : World} (hB : B2 ≤ w.heap.size) (hb : B ≤ w.heap.size) (h : Ext w w1) : FrJ B b B2 w w1 := ⟨h.mono hb, fun j h1 _ => h.block j (by omega)⟩
theorem own_base {w : World} {base base' e size n : Nat} {v : Value} {xs : List Value} (h : w.ownsRow base e size v n xs) (hb : base' ≤ base) : w.ownsRow base' e size v n xs := by
  refine ⟨h.1, ?_⟩
  rcases h.2 with h2 | ⟨g, cap, cur, hv, hg, r⟩
  · exact .inl h2
  · exact .inr ⟨g, cap, cur, hv, by omega, r⟩
theorem BldAt.at_ {B b B2 : Nat} {p : Value} {l : List UInt8} {w : World} (h : BldAt B b B2 p l w) : Lib.BuilderAt 110 5 B b p (bc l) w := by
  obtain ⟨h1, h2, h3, v, hb, ho⟩ := h
  exact ⟨h1, v, hb, own_base ho (by omega), fun e => by have := (ho.lt _ e).1; omega⟩
theorem BldJ.toBld {B b B2 : Nat} {l : List UInt8} {w : World} (h : BldJ B b B2 l w) : Bld B b l w := by
  rcases h with h | h
  · exact .inl h.at_
  · exact .inr h.at_
theorem BldAt.ext {B b B2 : Nat} {p : Value} {l : List UInt8} {w w' : World} (h : BldAt B b B2 p l w) (x : Ext w w') : BldAt B b B2 p l w' := by
  obtain ⟨h1, h2, h3, v, hb, ho⟩ := h
  exact ⟨h1, h2, Nat.le_trans h3 x.size, v, (x.block b (by omega)).trans hb, own_ext ho x⟩
theorem BldJ.ext {B b B2 : Nat} {l : List UInt8} {w w' : World} (h : BldJ B b B2 l w) (x : Ext w w') : BldJ B b B2 l w' := by
  rcases h with h | h
  · exact .inl (h.ext x)
  · exact .inr (h.ext x)
theorem bldJ_new {w' : World} {B b B2 : Nat} (hB : B ≤ b) (hb : b < B2) (h2 : B2 ≤ w'.heap.size) (h : w'.heap[b]? = some (.cells #[.pointer none, .slice none 0 0] 110 (0, 0))) : BldJ B b B2 [] w' :=
  .inl ⟨hB, hb, h2, _, h, World.ownsRow_nil _ _ _ _⟩
theorem checkJ_c (B b B2 : Nat) (l : List UInt8) (w : World) (h : BldJ B b B2 l w) :
    Calls Tryd.prog 103 #[.pointer (some ⟨b, 0, none⟩)] w fun e w' => e = .returned (.tuple #[]) ∧ (BldAt B b B2 (.pointer (some ⟨b, 0, none⟩)) l w' ∧ FrJ B b B2 w w') := by
  rcases h with h | h
  · have h0 := h.at_
    refine (check_fresh b w h0.cell0 h0.shape h0.frozen0).mono ?_
    rintro e w' ⟨rfl, rfl⟩
    obtain ⟨h1, h2, h3, v, hb, ho⟩ := h
    refine ⟨rfl, ⟨h1, h2, by simpa using h3, v, by simp [World.setCell, Array.getElem?_modify, hb], ?_⟩, (FrJ.rfl' B b B2 w).set h1 0 _⟩
    refine ⟨ho.1, ?_⟩
    rcases ho.2 with h2' | ⟨g, cap, cur, hv, hg, hh, r⟩
    · exact .inl h2'
    · exact .inr ⟨g, cap, cur, hv, hg, by rw [Below.heap_setCell _ _ _ _ (show g ≠ b by omega)]; exact hh, r⟩
  · refine (check_used b w h.at_.cell0).mono ?_
    rintro e w' ⟨rfl, rfl⟩
    exact ⟨rfl, h, FrJ.rfl' _ _ _ _⟩
set_option maxRecDepth 100000 in
set_option maxHeartbeats 2000000 in
theorem WriteByteJ_c (B b B2 : Nat) (l : List UInt8) (c : UInt8) (w : World) (h : BldJ B b B2 l w) (hl : l.length + 1 ≤ 140737488355328) :
    Calls Tryd.prog 74 #[.pointer (some ⟨b, 0, none⟩), .int .u8 (c.toNat : Int)] w fun e w' => e = .returned .nilIface ∧ (BldJ B b B2 (l ++ [c]) w' ∧ FrJ B b B2 w w') := by
  obtain ⟨i0, hi, hz0, hz1, hz2⟩ := info_parts info_u8
  have hms : maxLen = 9223372036854775807 := rfl
  have CK := Lib.hid (checkJ_c B b B2 l w h)
  have hbl : (bc l).length = l.length := bc_len l
  go_enter Tryd.func74, Tryd.ntmps74
  go_wp2_with (go_at_call 103; refine CK.out.mono ?_)
  rintro e w1 ⟨rfl, h1, hb1⟩
  obtain ⟨hB, hbB, hB2, v, hbk, hown⟩ := h1
  have c0 : w1.cell? ⟨b, 0, none⟩ = some (.pointer (some ⟨b, 0, none⟩)) := by rw [Lib.cell_of_heap hbk]; rfl
  have c1 : w1.cell? ⟨b, 1, none⟩ = some v := by rw [Lib.cell_of_heap hbk]; rfl
  go_wp2_with (at_builtin; refine wpList_append_own _ rfl _ _ 106 rfl B2 5 i0 (.int .u8 0) 1 1 Tryd.underlying106 hi hz0 hz1 hz2 rfl (by decide) _ _ _ rfl (hown.alloc _) ⟨w1.heap.size, 0, none⟩ 1 1 [.int .u8 (c.toNat : Int)] rfl rfl (new_cells w1 #[.int .u8 (c.toNat : Int)] 5) (by simp [Value.oneCell']) (by omega) (by omega) (by simp; omega) ?_)
  intro v' w2 hown' hgrow _
  have hfar : ∀ j, j < B2 → w2.heap[j]? = w1.heap[j]? := fun j hj => by
    rw [hgrow.block j (by simp; omega) (fun e => by have := (hown.lt j e.symm).1; omega), Below.heap_alloc w1 _ j (by omega)]
  have hb2 : w2.heap[b]? = some (.cells #[.pointer (some ⟨b, 0, none⟩), v] 110 (0, 0)) := (hfar b hbB).trans hbk
  have d0 : w2.cell? ⟨b, 0, none⟩ = some (.pointer (some ⟨b, 0, none⟩)) := by rw [Lib.cell_of_heap hb2]; rfl
  have d1 : w2.cell? ⟨b, 1, none⟩ = some v := by rw [Lib.cell_of_heap hb2]; rfl
  have f1 : w2.frozen? ⟨b, 1, none⟩ = false := Lib.frozen_of_heap hb2 1
  have hs2 : w1.heap.size ≤ w2.heap.size := by have := hgrow.size; simp at this; omega
  obtain ⟨A, n', cap, rfl⟩ : ∃ A n' cap, v' = .slice A n' cap := by
    rcases hown'.2 with ⟨hv, _⟩ | ⟨g, cap, cur, hv, _⟩
    · exact ⟨_, _, _, hv⟩
    · exact ⟨_, _, _, hv⟩
  go_wp2
  go_ret
  refine ⟨rfl, .inr ⟨hB, hbB, by simp; omega, .slice A n' cap, by simp [World.setCell, Array.getElem?_modify, hb2], ?_⟩, ?_⟩
  · have ho : w2.ownsRow B2 5 1 (.slice A n' cap) (bc (l ++ [c])).length (bc (l ++ [c])) := by rw [bc_app]; simpa [bc] using hown'
    refine ⟨ho.1, ?_⟩
    rcases ho.2 with h2' | ⟨g, cap, cur, hv, hg, hh, r⟩
    · exact .inl h2'
    · exact .inr ⟨g, cap, cur, hv, hg, by rw [Below.heap_setCell _ _ _ _ (show g ≠ b by omega)]; exact hh, r⟩
  · refine ((hb1.tr ⟨?_, fun j h1 h2 => hfar j h1⟩).set hB 1 _)
    exact (((Below.refl B w1).alloc (by omega) _).grown hgrow (by simp; omega) (fun k hk => by have := (hown.lt k hk).1; omega))
set_option maxRecDepth 100000 in
set_option maxHeartbeats 2000000 in
theorem WriteStringJ_c (B b B2 : Nat) (l m : List UInt8) (w : World) (h : BldJ B b B2 l w) (hl : l.length + m.length ≤ 140737488355328) :
    Calls Tryd.prog 75 #[.pointer (some ⟨b, 0, none⟩), .string (str m)] w fun e w' => e = .returned (.tuple #[.int .i64 (m.length : Int), .nilIface]) ∧ (BldJ B b B2 (l ++ m) w' ∧ FrJ B b B2 w w') := by
  obtain ⟨i0, hi, hz0, hz1, hz2⟩ := info_parts info_u8
  have hms : maxLen = 9223372036854775807 := rfl
  have CK := Lib.hid (checkJ_c B b B2 l w h)
  have hbl : (bc l).length = l.length := bc_len l
  have hsm : (str m).size = m.length := str_size m
  go_enter Tryd.func75, Tryd.ntmps75
  go_wp2_with (go_at_call 103; refine CK.out.mono ?_)
  rintro e w1 ⟨rfl, h1, hb1⟩
  obtain ⟨hB, hbB, hB2, v, hbk, hown⟩ := h1
  have c0 : w1.cell? ⟨b, 0, none⟩ = some (.pointer (some ⟨b, 0, none⟩)) := by rw [Lib.cell_of_heap hbk]; rfl
  have c1 : w1.cell? ⟨b, 1, none⟩ = some v := by rw [Lib.cell_of_heap hbk]; rfl
  go_wp2_with (at_builtin; refine Lib.wpList_append_own_string _ rfl _ _ 106 9 rfl B2 5 i0 Tryd.underlying106 Tryd.underlying9 hi hz0 hz1 hz2 _ _ _ rfl hown (str m) rfl (by omega) (by omega) (by omega) ?_)
  intro v' w2 hown' hgrow _
  have hfar : ∀ j, j < B2 → w2.heap[j]? = w1.heap[j]? := fun j hj => by
    rw [hgrow.block j (by omega) (fun e => by have := (hown.lt j e.symm).1; omega)]
  have hb2 : w2.heap[b]? = some (.cells #[.pointer (some ⟨b, 0, none⟩), v] 110 (0, 0)) := (hfar b hbB).trans hbk
  have d0 : w2.cell? ⟨b, 0, none⟩ = some (.pointer (some ⟨b, 0, none⟩)) := by rw [Lib.cell_of_heap hb2]; rfl
  have d1 : w2.cell? ⟨b, 1, none⟩ = some v := by rw [Lib.cell_of_heap hb2]; rfl
  have f1 : w2.frozen? ⟨b, 1, none⟩ = false := Lib.frozen_of_heap hb2 1
  have hs2 : w1.heap.size ≤ w2.heap.size := hgrow.size
  obtain ⟨A, n', cap, rfl⟩ : ∃ A n' cap, v' = .slice A n' cap := by
    rcases hown'.2 with ⟨hv, _⟩ | ⟨g, cap, cur, hv, _⟩
    · exact ⟨_, _, _, hv⟩
    · exact ⟨_, _, _, hv⟩
  go_wp2
  go_ret2
  refine ⟨rfl, .inr ⟨hB, hbB, by simp; omega, .slice A n' cap, by simp [World.setCell, Array.getElem?_modify, hb2], ?_⟩, ?_⟩
  · have ho : w2.ownsRow B2 5 1 (.slice A n' cap) (bc (l ++ m)).length (bc (l ++ m)) := by rw [bc_app]; simpa [bc, Lib.strCells, str] using hown'
    refine ⟨ho.1, ?_⟩
    rcases ho.2 with h2' | ⟨g, cap, cur, hv, hg, hh, r⟩
    · exact .inl h2'
    · exact .inr ⟨g, cap, cur, hv, hg, by rw [Below.heap_setCell _ _ _ _ (show g ≠ b by omega)]; exact hh, r⟩
  · refine ((hb1.tr ⟨?_, fun j h1 h2 => hfar j h1⟩).set hB 1 _)
    exact ((Below.refl B w1).grown hgrow (by omega) (fun k hk => by have := (hown.lt k hk).1; omega))
theorem bStringJ_c (B b B2 : Nat) (l : List UInt8) (w : World) (h : BldJ B b B2 l w) :
    Calls Tryd.prog 76 #[.pointer (some ⟨b, 0, none⟩)] w fun e w' => e = .returned (.string (str l)) ∧ Below B w w' :=
  bString_c B b l w h.toBld (by rcases h with h | h <;> (obtain ⟨h1, h2, h3, _⟩ := h; omega))
end Go.Proofs.YtjapkhhdpppmdaaDoor
