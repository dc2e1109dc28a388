/-
slices.Sorted at the keys of a map of files: the kit's contracts at this dump.
-/
import Derived.Test.YtllpffdjlhamkaaShelfI
import Derived.Test.YtllpffdjlhamkaaWd2
set_option linter.unusedVariables false
set_option linter.unusedSimpArgs false
namespace Go.Proofs.Ytllpffdjlhamkaa
open Go.RowKit Go.Maps Go.Sort Go.Shelf

theorem sortsW (m : Nat) : AnyZ.SortsIn Try.prog Try.sortedW_ren Fence.wide m :=
  ⟨fun blk off cap ss W hH hblk hsz => callsIn_wide.2 (AnyM.slices_Sort_string Try.sortW blk off cap ss W hH hblk hsz),
   fun p cap W => callsIn_wide.2 (AnyM.slices_Sort_string_none Try.sortW p cap W)⟩
/-- maps.Keys: a function value over one new block that holds the map. -/
theorem mKeys_c (mb : Option Nat) (W : World) : Calls Try.prog 34 #[.map mb] W fun e w' => e = .returned (.func (.func 43) #[] #[.pointer (some ⟨W.heap.size, 0, none⟩)]) ∧ w' = W.alloc (.cells #[.map mb] 36) :=
  (callsIn_wide (n := 5)).1 (AnyZ.keys_in Try.keysW Fence.wide 5 trivial rfl mb W)
/-- The keys, sorted. -/
def KeysSorted (w : World) (ks : List (List UInt8)) (e : Ending) (w' : World) : Prop := ∃ v, e = .returned v ∧ w'.ownsRow w.heap.size 9 1 v ks.length (ks.map encStr) ∧ Ext w w'
set_option maxHeartbeats 1000000 in
theorem slSorted_c {H : Type} (b nn : Nat) (D0 : DataW H) (R : Value → Option (DataW H × List MemPlace)) (w : World) (hown : w.ownsMap Try.prog 9 R b nn D0) (hmax : Maps.size D0 ≤ maxLen) (hbytes : Maps.size D0 * 16 ≤ 140737488355328) :
    Calls Try.prog 33 #[.func (.func 43) #[] #[.pointer (some ⟨w.heap.size, 0, none⟩)]] (w.alloc (.cells #[.map (some b)] 36)) (KeysSorted (w.alloc (.cells #[.map (some b)] 36)) ((strKeys D0).mergeSort (fun x y => decide (x ≤ y)))) := by
  have hbl := hown.lt
  have hseq : SeqGives Fence.wide 2 Try.prog 43 #[.pointer (some ⟨w.heap.size, 0, none⟩)] encStr (fun ss => ss.Perm (strKeys D0)) (Maps.size D0) (w.alloc (.cells #[.map (some b)] 36)) :=
    AnyZ.keys_gives (ρ := Try.keysW_ren) { Try.keysW with } Fence.wide _ trivial rfl (by omega) w.heap.size b nn D0 _ (by simp) (by simp) (by
      obtain ⟨es, clock, hb, Ft, hs, hD⟩ := hown
      exact ⟨es, clock, (Below.heap_alloc _ _ b hbl).trans hb, Ft, hs, hD⟩)
  refine ((callsIn_wide (n := 5)).1 (AnyZ.sorted_in Try.sortedW Fence.wide 5 trivial trivial trivial trivial rfl (by omega) (sortsW _) (enters_of Try.func42 (by kernel_rfl) rfl) 43 #[.pointer (some ⟨w.heap.size, 0, none⟩)] trivial (enters_of Try.func43 (by kernel_rfl) rfl) _ _ hmax hbytes _ hseq)).mono ?_
  rintro e w' ⟨v, ss, rfl, hS, hrow, _, hb⟩
  have e1 : ss.mergeSort (fun x y => decide (x ≤ y)) = (strKeys D0).mergeSort (fun x y => decide (x ≤ y)) := mergeSort_of_perm hS
  refine ⟨v, rfl, ?_, hb⟩
  rw [← e1]
  have e2 : (ss.mergeSort (fun x y => decide (x ≤ y))).length = ss.length := List.length_mergeSort ss
  rw [e2]
  exact hrow
/-- The keys of a map as a list. -/
theorem isM_keys {w : World} {b : Nat} {M : List (List UInt8 × Value)} (h : World.isM w Try.prog 9 b M) :
    ∃ D : DataW Value, w.ownsMap Try.prog 9 heldR b M.length D ∧ (strKeys D).mergeSort (fun x y => decide (x ≤ y)) = (M.map (·.1)).mergeSort (fun x y => decide (x ≤ y)) ∧ Maps.size D = M.length := by
  obtain ⟨D, h1, h2, h3, h4, _⟩ := h
  refine ⟨D, h1, ?_, h3⟩
  have hc : Collected D (fun _ => false) (M.map (·.1)) := by
    refine ⟨List.pairwise_map.2 h2, fun x => ?_⟩
    rw [h4]
    constructor
    · intro hx
      obtain ⟨y, hy, rfl⟩ := List.mem_map.1 hx
      refine ⟨?_, rfl⟩
      cases e : lkM M y.1 with
      | none => exact absurd rfl (lk_none_mem e y hy)
      | some _ => rfl
    · rintro ⟨hx, _⟩
      cases e : lkM M x with
      | none => rw [e] at hx; cases hx
      | some v => exact List.mem_map.2 ⟨_, lk_mem e, rfl⟩
  exact (mergeSort_of_perm (hc.perm h1 keyedS Try.underlying9 (fun _ => rfl))).symm
end Go.Proofs.Ytllpffdjlhamkaa
