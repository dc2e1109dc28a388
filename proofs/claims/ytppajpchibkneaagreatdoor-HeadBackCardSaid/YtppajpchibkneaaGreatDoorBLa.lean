/-
A text's builder that the call has made itself: its check, one byte more, a text more.
-/
import Derived.Test.YtppajpchibkneaaGreatDoorShelf
import Derived.Test.YtppajpchibkneaaGreatDoorBytes
import Derived.Lib.Builder
import Derived.Lib.AppendStr
import Derived.Lib.UnsafeStr
import Derived.Lib.Walk
import Derived.Laws.Externs
set_option linter.unusedVariables false
set_option linter.unusedSimpArgs false
/-
A text's builder that the call has made itself: its check, one byte more, a text more.
-/
section
namespace Go.Proofs.YtppajpchibkneaaGreatDoor
open Go.RowKit

/-- Block b, one from B on, is a builder that holds l. -/
def Bld (B b : Nat) (l : List UInt8) (w : World) : Prop := Lib.IsBuilder 65 5 B b (bc l) w
theorem bld_size : ∃ j, Tryz.prog.info? 65 = some j ∧ j.size = 2 := by
  have h : (Tryz.prog.info? 65).map (·.size) = some 2 := by kernel_rfl
  obtain ⟨j, hj, hs⟩ := Option.map_eq_some_iff.1 h
  exact ⟨j, hj, hs⟩
theorem bld_lies : liesAt Tryz.prog Tryz.prog.depth 65 (2 / Tryz.prog.cellsOf 65) 0 65 1 = true := by kernel_rfl
theorem bld_new (w : World) (B : Nat) (hB : B ≤ w.heap.size) : Bld B w.heap.size [] (w.alloc (.cells #[.pointer none, .slice none 0 0] 65)) :=
  .inl ⟨hB, _, heap_alloc_new w _, World.ownsRow_nil _ _ _ _, by simp [Value.ownBlock]⟩
set_option maxRecDepth 100000 in
set_option maxHeartbeats 1000000 in
theorem check_fresh (b : Nat) (w : World) (h0 : w.cell? ⟨b, 0, none⟩ = some (.pointer none)) (hsh : w.shape? b = some (65, 2)) (hfz : w.frozen? ⟨b, 0, none⟩ = false) :
    Calls Tryz.prog 51 #[.pointer (some ⟨b, 0, none⟩)] w fun e w' => e = .returned (.tuple #[]) ∧ w' = w.setCell ⟨b, 0, none⟩ (.pointer (some ⟨b, 0, none⟩)) := by
  obtain ⟨j, hj, hjs⟩ := bld_size
  have HJ := Lib.hid hj
  have HS := Lib.hid hjs
  have HH := Lib.hid hsh
  clear hj hjs hsh
  go_enter Tryz.func51, Tryz.ntmps51
  go_wp2
  rw [Lib.run_to_unsafe w ⟨b, 0, none⟩ Tryz.underlying63 Tryz.underlying89 HJ.out (by rw [HS.out]; decide) HH.out (Nat.zero_lt_succ 1)]
  simp only [Result.andThen]
  rw [Oper.upon_value]
  go_wp2
  rw [run_callFunc_extern Tryz.func62 (by kernel_rfl) (by kernel_rfl) (by kernel_rfl) (e := Extern.AbiNoEscape.same) (by kernel_rfl)]
  rw [Lib.run_noEscape]
  simp only [Result.andThen]
  rw [Oper.upon_value]
  go_wp2
  rw [Lib.run_from_unsafe w ⟨b, 0, none⟩ Tryz.underlying89 Tryz.underlying63 HJ.out HH.out bld_lies]
  simp only [Result.andThen]
  rw [Oper.upon_value]
  go_wp2
  go_end0
  exact ⟨rfl, rfl⟩
set_option maxRecDepth 100000 in
set_option maxHeartbeats 1000000 in
theorem check_used (b : Nat) (w : World) (h0 : w.cell? ⟨b, 0, none⟩ = some (.pointer (some ⟨b, 0, none⟩))) :
    Calls Tryz.prog 51 #[.pointer (some ⟨b, 0, none⟩)] w fun e w' => e = .returned (.tuple #[]) ∧ w' = w := by
  obtain ⟨j, hj, hjs⟩ := bld_size
  have HJ := Lib.hid hj
  clear hj hjs
  go_enter Tryz.func51, Tryz.ntmps51
  go_wp2
  rw [Lib.run_neq_ptr_same w _ Tryz.underlying63 HJ.out]
  go_wp2
  go_end0
  exact ⟨rfl, rfl⟩
theorem check_c (B b : Nat) (l : List UInt8) (w : World) (h : Bld B b l w) :
    Calls Tryz.prog 51 #[.pointer (some ⟨b, 0, none⟩)] w fun e w' => e = .returned (.tuple #[]) ∧ (Lib.BuilderAt 65 5 B b (.pointer (some ⟨b, 0, none⟩)) (bc l) w' ∧ Below B w w') := by
  rcases h with h | h
  · refine (check_fresh b w h.cell0 h.shape h.frozen0).mono ?_
    rintro e w' ⟨rfl, rfl⟩
    exact ⟨rfl, h.used _, (Below.refl B w).setCell (p := ⟨b, 0, none⟩) h.1 _⟩
  · refine (check_used b w h.cell0).mono ?_
    rintro e w' ⟨rfl, rfl⟩
    exact ⟨rfl, h, Below.refl B _⟩
theorem info_u8 : (Tryz.prog.info? 5).map (fun i => (i.zero, i.size, i.bytes)) = some (some (.int .u8 0), 1, 1) := by kernel_rfl

set_option maxRecDepth 100000 in
set_option maxHeartbeats 2000000 in
theorem WriteString_c (B b : Nat) (l m : List UInt8) (w : World) (h : Bld B b l w) (hl : l.length + m.length ≤ 140737488355328) (hBw : B ≤ w.heap.size) :
    Calls Tryz.prog 37 #[.pointer (some ⟨b, 0, none⟩), .string (str m)] w fun e w' => e = .returned (.tuple #[.int .i64 (m.length : Int), .nilIface]) ∧ (Bld B b (l ++ m) w' ∧ Below B w w') := by
  obtain ⟨i0, hi, hz0, hz1, hz2⟩ := info_parts info_u8
  have hms : maxLen = 9223372036854775807 := rfl
  have CK := Lib.hid (check_c B b l w h)
  have hbl : (bc l).length = l.length := bc_len l
  have hsm : (str m).size = m.length := str_size m
  go_enter Tryz.func37, Tryz.ntmps37
  go_wp2_with (go_at_call 51; refine CK.out.mono ?_)
  rintro e w1 ⟨rfl, h1, hb1⟩
  obtain ⟨hB, v, hbk, hown, hne⟩ := h1
  have hbs := hb1.size
  have c0 : w1.cell? ⟨b, 0, none⟩ = some (.pointer (some ⟨b, 0, none⟩)) := by rw [Lib.cell_of_heap hbk]; rfl
  have c1 : w1.cell? ⟨b, 1, none⟩ = some v := by rw [Lib.cell_of_heap hbk]; rfl
  go_wp2_with (at_builtin; refine Lib.wpList_append_own_string _ rfl _ _ 25 9 rfl B 5 i0 Tryz.underlying25 Tryz.underlying9 hi hz0 hz1 hz2 _ _ _ rfl hown (str m) rfl (by omega) (by omega) (by omega) ?_)
  intro v' w2 hown' hgrow _
  have hlt : b < w1.heap.size := (Array.getElem?_eq_some_iff.1 hbk).1
  have hb2 : w2.heap[b]? = some (.cells #[.pointer (some ⟨b, 0, none⟩), v] 65 (0, 0)) := by
    rw [hgrow.block b hlt (fun e => hne e.symm)]
    exact hbk
  have d0 : w2.cell? ⟨b, 0, none⟩ = some (.pointer (some ⟨b, 0, none⟩)) := by rw [Lib.cell_of_heap hb2]; rfl
  have d1 : w2.cell? ⟨b, 1, none⟩ = some v := by rw [Lib.cell_of_heap hb2]; rfl
  have f1 : w2.frozen? ⟨b, 1, none⟩ = false := Lib.frozen_of_heap hb2 1
  obtain ⟨A, n', cap, rfl⟩ : ∃ A n' cap, v' = .slice A n' cap := by
    rcases hown'.2 with ⟨hv, _⟩ | ⟨g, cap, cur, hv, _⟩
    · exact ⟨_, _, _, hv⟩
    · exact ⟨_, _, _, hv⟩
  go_wp2
  go_ret2
  refine ⟨rfl, .inr ?_, ?_⟩
  · rw [bc_app]
    exact Lib.BuilderAt.put (T := 65) (e := 5) hB hb2 (by simpa [bc, Lib.strCells, str] using hown') (by decide)
  · exact (hb1.grown hgrow (by omega) (fun k hk => (hown.lt k hk).1)).setCell (p := ⟨b, 1, none⟩) hB _
theorem bString_c (B b : Nat) (l : List UInt8) (w : World) (h : Bld B b l w) (hBw : B ≤ w.heap.size) :
    Calls Tryz.prog 38 #[.pointer (some ⟨b, 0, none⟩)] w fun e w' => e = .returned (.string (str l)) ∧ Below B w w' :=
  Tryz.Builder_String_any B b l w h hBw
theorem bldAt_ext {B b : Nat} {p : Value} {l : List Value} {w w' : World} (h : Lib.BuilderAt 65 5 B b p l w) (x : Ext w w') : Lib.BuilderAt 65 5 B b p l w' := by
  obtain ⟨hB, v, hb, hown, hne⟩ := h
  exact ⟨hB, v, (x.block b (Array.getElem?_eq_some_iff.1 hb).1).trans hb, own_ext hown x, hne⟩
theorem Bld.ext {B b : Nat} {l : List UInt8} {w w' : World} (h : Bld B b l w) (x : Ext w w') : Bld B b l w' := by
  rcases h with h | h
  · exact .inl (bldAt_ext h x)
  · exact .inr (bldAt_ext h x)
end Go.Proofs.YtppajpchibkneaaGreatDoor
end

/-
A text's builder beside which other blocks of the call stand: all but its own block and its row stay as they are.
-/
section
namespace Go.Proofs.YtppajpchibkneaaGreatDoor
open Go.RowKit

/-- Block b is a builder that holds l; its row stands from B2 on. -/
def BldAt (B b B2 : Nat) (p : Value) (l : List UInt8) (w : World) : Prop :=
  B ≤ b ∧ b < B2 ∧ B2 ≤ w.heap.size ∧ ∃ v, w.heap[b]? = some (.cells #[p, v] 65 (0, 0)) ∧ w.ownsRow B2 5 1 v (bc l).length (bc l)
def BldJ (B b B2 : Nat) (l : List UInt8) (w : World) : Prop := BldAt B b B2 (.pointer none) l w ∨ BldAt B b B2 (.pointer (some ⟨b, 0, none⟩)) l w
/-- What stands below B2, but for b, is as it was. -/
def FrJ (B b B2 : Nat) (w w' : World) : Prop := Below B w w' ∧ ∀ j, j < B2 → j ≠ b → w'.heap[j]? = w.heap[j]?
theorem FrJ.rfl' (B b B2 : Nat) (w : World) : FrJ B b B2 w w := ⟨Below.refl _ _, fun _ _ _ => rfl⟩
theorem FrJ.tr {B b B2 : Nat} {w w1 w2 : World} (h : FrJ B b B2 w w1) (k : FrJ B b B2 w1 w2) : FrJ B b B2 w w2 := ⟨Below.trans h.1 k.1, fun j h1 h2 => (k.2 j h1 h2).trans (h.2 j h1 h2)⟩
theorem FrJ.set {B b B2 : Nat} {w w1 : World} (h : FrJ B b B2 w w1) (hB : B ≤ b) (k : Nat) (v : Value) : FrJ B b B2 w (w1.setCell ⟨b, k, none⟩ v) :=
  ⟨h.1.setCell (p := ⟨b, k, none⟩) hB v, fun j h1 h2 => (Below.heap_setCell _ _ _ _ h2).trans (h.2 j h1 h2)⟩
theorem FrJ.ext {B b B2 : Nat} {w w1 : World} (hB : B2 ≤ w.heap.size) (hb : B ≤ w.heap.size) (h : Ext w w1) : FrJ B b B2 w w1 := ⟨h.mono hb, fun j h1 _ => h.block j (by omega)⟩
theorem own_base {w : World} {base base' e size n : Nat} {v : Value} {xs : List Value} (h : w.ownsRow base e size v n xs) (hb : base' ≤ base) : w.ownsRow base' e size v n xs := by
  refine ⟨h.1, ?_⟩
  rcases h.2 with h2 | ⟨g, cap, cur, hv, hg, r⟩
  · exact .inl h2
  · exact .inr ⟨g, cap, cur, hv, by omega, r⟩
theorem BldAt.at_ {B b B2 : Nat} {p : Value} {l : List UInt8} {w : World} (h : BldAt B b B2 p l w) : Lib.BuilderAt 65 5 B b p (bc l) w := by
  obtain ⟨h1, h2, h3, v, hb, ho⟩ := h
  exact ⟨h1, v, hb, own_base ho (by omega), fun e => by have := (ho.lt _ e).1; omega⟩
theorem BldJ.toBld {B b B2 : Nat} {l : List UInt8} {w : World} (h : BldJ B b B2 l w) : Bld B b l w := by
  rcases h with h | h
  · exact .inl h.at_
  · exact .inr h.at_
theorem BldAt.ext {B b B2 : Nat} {p : Value} {l : List UInt8} {w w' : World} (h : BldAt B b B2 p l w) (x : Ext w w') : BldAt B b B2 p l w' := by
  obtain ⟨h1, h2, h3, v, hb, ho⟩ := h
  exact ⟨h1, h2, Nat.le_trans h3 x.size, v, (x.block b (by omega)).trans hb, own_ext ho x⟩
theorem BldJ.ext {B b B2 : Nat} {l : List UInt8} {w w' : World} (h : BldJ B b B2 l w) (x : Ext w w') : BldJ B b B2 l w' := by
  rcases h with h | h
  · exact .inl (h.ext x)
  · exact .inr (h.ext x)
theorem bldJ_new {w' : World} {B b B2 : Nat} (hB : B ≤ b) (hb : b < B2) (h2 : B2 ≤ w'.heap.size) (h : w'.heap[b]? = some (.cells #[.pointer none, .slice none 0 0] 65 (0, 0))) : BldJ B b B2 [] w' :=
  .inl ⟨hB, hb, h2, _, h, World.ownsRow_nil _ _ _ _⟩
theorem checkJ_c (B b B2 : Nat) (l : List UInt8) (w : World) (h : BldJ B b B2 l w) :
    Calls Tryz.prog 51 #[.pointer (some ⟨b, 0, none⟩)] w fun e w' => e = .returned (.tuple #[]) ∧ (BldAt B b B2 (.pointer (some ⟨b, 0, none⟩)) l w' ∧ FrJ B b B2 w w') := by
  rcases h with h | h
  · have h0 := h.at_
    refine (check_fresh b w h0.cell0 h0.shape h0.frozen0).mono ?_
    rintro e w' ⟨rfl, rfl⟩
    obtain ⟨h1, h2, h3, v, hb, ho⟩ := h
    refine ⟨rfl, ⟨h1, h2, by simpa using h3, v, by simp [World.setCell, Array.getElem?_modify, hb], ?_⟩, (FrJ.rfl' B b B2 w).set h1 0 _⟩
    refine ⟨ho.1, ?_⟩
    rcases ho.2 with h2' | ⟨g, cap, cur, hv, hg, hh, r⟩
    · exact .inl h2'
    · exact .inr ⟨g, cap, cur, hv, hg, by rw [Below.heap_setCell _ _ _ _ (show g ≠ b by omega)]; exact hh, r⟩
  · refine (check_used b w h.at_.cell0).mono ?_
    rintro e w' ⟨rfl, rfl⟩
    exact ⟨rfl, h, FrJ.rfl' _ _ _ _⟩
set_option maxRecDepth 100000 in
set_option maxHeartbeats 2000000 in
theorem WriteStringJ_c (B b B2 : Nat) (l m : List UInt8) (w : World) (h : BldJ B b B2 l w) (hl : l.length + m.length ≤ 140737488355328) :
    Calls Tryz.prog 37 #[.pointer (some ⟨b, 0, none⟩), .string (str m)] w fun e w' => e = .returned (.tuple #[.int .i64 (m.length : Int), .nilIface]) ∧ (BldJ B b B2 (l ++ m) w' ∧ FrJ B b B2 w w') := by
  obtain ⟨i0, hi, hz0, hz1, hz2⟩ := info_parts info_u8
  have hms : maxLen = 9223372036854775807 := rfl
  have CK := Lib.hid (checkJ_c B b B2 l w h)
  have hbl : (bc l).length = l.length := bc_len l
  have hsm : (str m).size = m.length := str_size m
  go_enter Tryz.func37, Tryz.ntmps37
  go_wp2_with (go_at_call 51; refine CK.out.mono ?_)
  rintro e w1 ⟨rfl, h1, hb1⟩
  obtain ⟨hB, hbB, hB2, v, hbk, hown⟩ := h1
  have c0 : w1.cell? ⟨b, 0, none⟩ = some (.pointer (some ⟨b, 0, none⟩)) := by rw [Lib.cell_of_heap hbk]; rfl
  have c1 : w1.cell? ⟨b, 1, none⟩ = some v := by rw [Lib.cell_of_heap hbk]; rfl
  go_wp2_with (at_builtin; refine Lib.wpList_append_own_string _ rfl _ _ 25 9 rfl B2 5 i0 Tryz.underlying25 Tryz.underlying9 hi hz0 hz1 hz2 _ _ _ rfl hown (str m) rfl (by omega) (by omega) (by omega) ?_)
  intro v' w2 hown' hgrow _
  have hfar : ∀ j, j < B2 → w2.heap[j]? = w1.heap[j]? := fun j hj => by
    rw [hgrow.block j (by omega) (fun e => by have := (hown.lt j e.symm).1; omega)]
  have hb2 : w2.heap[b]? = some (.cells #[.pointer (some ⟨b, 0, none⟩), v] 65 (0, 0)) := (hfar b hbB).trans hbk
  have d0 : w2.cell? ⟨b, 0, none⟩ = some (.pointer (some ⟨b, 0, none⟩)) := by rw [Lib.cell_of_heap hb2]; rfl
  have d1 : w2.cell? ⟨b, 1, none⟩ = some v := by rw [Lib.cell_of_heap hb2]; rfl
  have f1 : w2.frozen? ⟨b, 1, none⟩ = false := Lib.frozen_of_heap hb2 1
  have hs2 : w1.heap.size ≤ w2.heap.size := hgrow.size
  obtain ⟨A, n', cap, rfl⟩ : ∃ A n' cap, v' = .slice A n' cap := by
    rcases hown'.2 with ⟨hv, _⟩ | ⟨g, cap, cur, hv, _⟩
    · exact ⟨_, _, _, hv⟩
    · exact ⟨_, _, _, hv⟩
  go_wp2
  go_ret2
  refine ⟨rfl, .inr ⟨hB, hbB, by simp; omega, .slice A n' cap, by simp [World.setCell, Array.getElem?_modify, hb2], ?_⟩, ?_⟩
  · have ho : w2.ownsRow B2 5 1 (.slice A n' cap) (bc (l ++ m)).length (bc (l ++ m)) := by rw [bc_app]; simpa [bc, Lib.strCells, str] using hown'
    refine ⟨ho.1, ?_⟩
    rcases ho.2 with h2' | ⟨g, cap, cur, hv, hg, hh, r⟩
    · exact .inl h2'
    · exact .inr ⟨g, cap, cur, hv, hg, by rw [Below.heap_setCell _ _ _ _ (show g ≠ b by omega)]; exact hh, r⟩
  · refine ((hb1.tr ⟨?_, fun j h1 h2 => hfar j h1⟩).set hB 1 _)
    exact ((Below.refl B w1).grown hgrow (by omega) (fun k hk => by have := (hown.lt k hk).1; omega))
theorem bStringJ_c (B b B2 : Nat) (l : List UInt8) (w : World) (h : BldJ B b B2 l w) :
    Calls Tryz.prog 38 #[.pointer (some ⟨b, 0, none⟩)] w fun e w' => e = .returned (.string (str l)) ∧ Below B w w' :=
  bString_c B b l w h.toBld (by rcases h with h | h <;> (obtain ⟨h1, h2, h3, _⟩ := h; omega))
end Go.Proofs.YtppajpchibkneaaGreatDoor
end
