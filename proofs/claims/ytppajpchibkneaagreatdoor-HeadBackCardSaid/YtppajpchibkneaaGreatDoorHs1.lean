/-
strings.SplitN at a blank, three parts at most.
-/
import Derived.Test.YtppajpchibkneaaGreatDoorHPa
import Derived.Test.YtppajpchibkneaaGreatDoorCut
import Derived.Test.YtppajpchibkneaaGreatDoorNum3
import Derived.Test.YtppajpchibkneaaGreatDoorShelf
import Derived.Lib.SplitLaws
set_option linter.unusedVariables false
set_option linter.unusedSimpArgs false
namespace Go.Proofs.YtppajpchibkneaaGreatDoor
open Go.RowKit

/-- What the library asks of the machine (it is never read here). -/
def Mx (w : World) : Prop := ∃ m, w.cell? ⟨0, 0, none⟩ = some (.int .i64 m)
theorem Mx.ext {w w' : World} (h : Mx w) (e : Ext w w') : Mx w' := h.elim fun m hm => ⟨m, (e.cell (lt_of_cell hm)).trans hm⟩
/-- The library's variables, which nobody here owns. -/
structure Gl (w : World) (o : Ow) : Prop where
  mx : Mx w
  er : ErrR w
  o1 : o 0 = 0
  o2 : o 5 = 0
theorem Gl.stp {K : Nat → Prop} {w w' : World} {o o' : Ow} (h : Gl w o) (s : Stp K w o w' o') (h0 : ¬ K 0) : Gl w' o' := by
  obtain ⟨⟨m, hm⟩, ⟨t, p, he⟩, h1, h2⟩ := h
  exact ⟨⟨m, s.cell (by rw [h1]; exact h0) hm⟩, ⟨t, p, s.cell (by rw [h2]; exact h0) he⟩, (s.own _ (lt_of_cell hm)).trans h1, (s.own _ (lt_of_cell he)).trans h2⟩
/-- Three parts at most. -/
def wd3 (l : List UInt8) : List (List UInt8) :=
  match cutW 32 l with
  | none => [l]
  | some (a, r) => match cutW 32 r with
    | none => [a, r]
    | some (b, t) => [a, b, t]
theorem wd3_no1 {l : List UInt8} (h : 32 ∉ l) : wd3 l = [l] := by unfold wd3; rw [cutW_no h]
theorem wd3_no2 {a r : List UInt8} (h : 32 ∉ a) (h2 : 32 ∉ r) : wd3 (a ++ 32 :: r) = [a, r] := by unfold wd3; rw [cutW_at r h]; dsimp only; rw [cutW_no h2]
theorem wd3_yes {a b t : List UInt8} (h : 32 ∉ a) (h2 : 32 ∉ b) : wd3 (a ++ 32 :: (b ++ 32 :: t)) = [a, b, t] := by unfold wd3; rw [cutW_at _ h]; dsimp only; rw [cutW_at t h2]
theorem spl_no {l : List UInt8} (k : Nat) (h : 32 ∉ l) : Lib.splitB ⟨#[32]⟩ 0 k (str l) = [str l] :=
  Lib.splitB_miss _ _ _ _ ((Lib.index_one l 32).trans (idx_no h))
theorem spl_at {a r : List UInt8} (k : Nat) (h : 32 ∉ a) : Lib.splitB ⟨#[32]⟩ 0 (k + 1) (str (a ++ 32 :: r)) = str a :: Lib.splitB ⟨#[32]⟩ 0 k (str r) := by
  have hx : Lib.indexB (str (a ++ 32 :: r)) ⟨#[32]⟩ = (a.length : Int) := (Lib.index_one _ 32).trans (idx_at h)
  have he : (str (a ++ 32 :: r)).extract (a.length + (⟨#[32]⟩ : ByteArray).size) (str (a ++ 32 :: r)).size = str r := by
    rw [show (⟨#[32]⟩ : ByteArray).size = 1 from rfl]
    apply ByteArray.ext
    apply Array.ext'
    simp [str]
    exact List.take_of_length_le (by simp [ByteArray.size]; omega)
  have he2 : (str (a ++ 32 :: r)).extract 0 (a.length + 0) = str a := by
    apply ByteArray.ext
    apply Array.ext'
    simp [str]
  have hsp := Lib.splitB_hit ⟨#[32]⟩ 0 k (str (a ++ 32 :: r)) a.length hx
  rw [he, he2] at hsp
  exact hsp
theorem spl_wd3 (l : List UInt8) : Lib.splitB ⟨#[32]⟩ 0 (min 3 (l.length + 1) - 1) (str l) = (wd3 l).map str := by
  rcases cut_cases l 32 with h | ⟨a, r, rfl, h⟩
  · rw [spl_no _ h, wd3_no1 h]; rfl
  · rcases cut_cases r 32 with h2 | ⟨b, t, rfl, h2⟩
    · rw [wd3_no2 h h2]
      obtain ⟨k, hk⟩ : ∃ k, min 3 ((a ++ 32 :: r).length + 1) - 1 = k + 1 := ⟨min 3 ((a ++ 32 :: r).length + 1) - 2, by simp; omega⟩
      rw [hk, spl_at _ h, spl_no _ h2]; rfl
    · rw [wd3_yes h h2]
      have hk : min 3 ((a ++ 32 :: (b ++ 32 :: t)).length + 1) - 1 = 1 + 1 := by simp; omega
      rw [hk, spl_at _ h, spl_at 0 h2]; rfl
theorem wd3_len (l : List UInt8) : (wd3 l).length ≤ 3 := by
  unfold wd3
  split
  · simp
  · split <;> simp
theorem SplitN_c (l : List UInt8) (hl : l.length ≤ 4000000000) (w : World) (hM : Mx w) :
    Calls Tryz.prog 45 #[.string (str l), .string ⟨#[32]⟩, .int .i64 3] w fun e w' => e = .returned (.slice (some ⟨w.heap.size, 0, none⟩) (wd3 l).length (min 3 (l.length + 1))) ∧ Ext w w' ∧ (∀ j (h : j < (wd3 l).length), w'.cell? ⟨w.heap.size, j, none⟩ = some (.string (str (wd3 l)[j]))) := by
  obtain ⟨m, hm⟩ := hM
  have K := Tryz.strings_SplitN (str l) ⟨#[32]⟩ 3 m w (by simp; omega) hm (by decide) (by decide) (by decide)
  have hz : (str l).size = l.length := str_size l
  rw [hz, spl_wd3 l, List.length_map] at K
  refine K.mono fun e w' ⟨h3, h4⟩ => ⟨h3, by rw [h4]; exact (Ext.rfl' _).al _, fun j hj => ?_⟩
  rw [h4, World.cell?_alloc_at _ _ _ _ rfl]
  unfold Lib.cellsOf
  simp [List.getElem?_append, hj]
theorem w3_few {l : List UInt8} (h : w3 l = none) : (wd3 l).length ≠ 3 := by
  unfold w3 at h
  unfold wd3
  cases h1 : cutW 32 l with
  | none => simp
  | some p =>
    rw [h1] at h
    obtain ⟨a, r⟩ := p
    dsimp only at h ⊢
    cases h2 : cutW 32 r with
    | none => simp
    | some q => rw [h2] at h; cases h
theorem w3_wd3 {l a b t : List UInt8} (h : w3 l = some (a, b, t)) : wd3 l = [a, b, t] ∧ 2 ≤ l.length := by
  obtain ⟨e, h1, h2⟩ := w3_some h
  rw [e]
  exact ⟨wd3_yes h1 h2, by simp; omega⟩
/-- Fewer than three parts. -/
theorem SplitN_few (l : List UInt8) (hl : l.length ≤ 4000000000) (hw : w3 l = none) : ∃ n : Nat, n ≠ 3 ∧ ∀ w, Mx w → Calls Tryz.prog 45 #[.string (str l), .string ⟨#[32]⟩, .int .i64 3] w fun e w' => e = .returned (.slice (some ⟨w.heap.size, 0, none⟩) n (min 3 (l.length + 1))) ∧ Ext w w' :=
  ⟨_, w3_few hw, fun w hM => (SplitN_c l hl w hM).mono fun e w' h => ⟨h.1, h.2.1⟩⟩
/-- Three parts. -/
theorem SplitN_three (l a b t : List UInt8) (hl : l.length ≤ 4000000000) (hw : w3 l = some (a, b, t)) (w : World) (hM : Mx w) :
    Calls Tryz.prog 45 #[.string (str l), .string ⟨#[32]⟩, .int .i64 3] w fun e w' => e = .returned (.slice (some ⟨w.heap.size, 0, none⟩) 3 3) ∧ Ext w w' ∧ w'.cell? ⟨w.heap.size, 0, none⟩ = some (.string (str a)) ∧ w'.cell? ⟨w.heap.size, 1, none⟩ = some (.string (str b)) ∧ w'.cell? ⟨w.heap.size, 2, none⟩ = some (.string (str t)) := by
  obtain ⟨h1, h2⟩ := w3_wd3 hw
  have K := SplitN_c l hl w hM
  refine K.mono ?_
  rintro e w' ⟨h3, h4, h5⟩
  have hm : min 3 (l.length + 1) = 3 := by omega
  simp only [h1, List.length_cons, List.length_nil, hm] at h3
  refine ⟨h3, h4, ?_, ?_, ?_⟩
  · have := h5 0 (by rw [h1]; simp); simpa only [h1, List.getElem_cons_zero] using this
  · have := h5 1 (by rw [h1]; simp); simpa only [h1, List.getElem_cons_zero, List.getElem_cons_succ] using this
  · have := h5 2 (by rw [h1]; simp); simpa only [h1, List.getElem_cons_zero, List.getElem_cons_succ] using this
end Go.Proofs.YtppajpchibkneaaGreatDoor
