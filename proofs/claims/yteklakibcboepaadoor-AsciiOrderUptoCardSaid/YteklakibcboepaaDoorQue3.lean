/-
A queue of bytes: the program's NewQueue; the law AsciiOrder, its parts.
-/
import Derived.Test.YteklakibcboepaaDoorQue2
import Derived.Test.YteklakibcboepaaDoorKn1
set_option linter.unusedVariables false
set_option linter.unusedSimpArgs false
namespace Go.Proofs.YteklakibcboepaaDoor
open Go.RowKit

theorem NewQueue_c (k : Nat) (lim : Nat) (h1 : 1 ≤ lim) (h2 : lim ≤ 1048576) (w : World) (o : Ow) :
    Calls Tryd.prog 49 #[.int .i64 (lim : Int)] w (Turns (fun _ => False) w o fun v w' o' => ∃ p, v = .tuple #[.pointer (some ⟨p, 0, none⟩), .int .i64 0] ∧ QIs w' o' k p [] lim ∧ w.heap.size ≤ p) := by
  go_enter Tryd.func49, Tryd.ntmps49
  go_wp2
  go_ret2
  exact Turns.mk (fun b => if b = w.heap.size then k else o b) rfl ⟨w.heap.size, rfl, ⟨by simp, h1, h2, by simp, none, 0, heap_alloc_new w _, Sl.nil_ _ _ _ _ _, fun _ => rfl⟩, Nat.le_refl _⟩
    (Stp.ext2 (by (repeat (first | exact Ext.rfl' _ | assumption | refine Ext.dr ?_ | refine Ext.drN ?_ _ | refine Ext.al ?_ _ | refine Ext.st ?_ (by simp) _ | refine Ext.tr ?_ (by assumption)))) (fun b hb => by rw [if_neg (by omega)]))
theorem IsB.stp {K : Nat → Prop} {w w' : World} {o o' : Ow} {k : Nat} {l : List UInt8} {v : Value} (h : IsB k l v w o) (s : Stp K w o w' o') (hk : ¬ K k) : IsB k l v w' o' := by
  obtain ⟨A, c, hv, hs, hn⟩ := h
  exact ⟨A, c, hv, hs.stp s hk, hn⟩
theorem IsB.ext {w w' : World} {o : Ow} {k : Nat} {l : List UInt8} {v : Value} (h : IsB k l v w o) (e : Ext w w') : IsB k l v w' o := h.stp (K := fun _ => False) (Stp.ext e) (fun x => x)
theorem IsB.nil_ (k : Nat) (w : World) (o : Ow) : IsB k [] (.slice none 0 0) w o := ⟨none, 0, rfl, Sl.nil_ _ _ _ _ _, fun _ => rfl⟩

/-- A slice of slices of bytes that reads as a list of lists. -/
def RdBB (w : World) (A : Option Addr) (ps : List (List UInt8)) : Prop :=
  ∃ vs : List Value, Rd w A vs ∧ vs.length = ps.length ∧ ∀ i (h : i < ps.length), ∃ B d, vs[i]? = some (.slice B ps[i].length d) ∧ Rd w B (bc ps[i])
theorem RdBB.row {w : World} {A : Option Addr} {ps : List (List UInt8)} (h : RdBB w A ps) {i : Nat} (hi : i < ps.length) :
    ∃ b f B d, A = some ⟨b, f, none⟩ ∧ b < w.heap.size ∧ Hid (∀ w', Ext w w' → w'.cell? ⟨b, f + i, none⟩ = some (.slice B ps[i].length d)) ∧ Rd w B (bc ps[i]) := by
  obtain ⟨vs, hr, hl, hv⟩ := h
  obtain ⟨b, f, hA, hb, hc⟩ := hr.at_ (by omega)
  obtain ⟨B, d, h1, h2⟩ := hv i hi
  exact ⟨b, f, B, d, hA, hb, Lib.hid fun w' e => (e.cell (p := ⟨b, f + i, none⟩) hb).trans (hc i _ h1), h2⟩
/-- The cells of a list of ints. -/
def ic (l : List Int) : List Value := l.map (.int .i64)
@[simp] theorem ic_len (l : List Int) : (ic l).length = l.length := by simp [ic]
theorem Rd.num {w : World} {A : Option Addr} {l : List Int} (h : Rd w A (ic l)) {i : Nat} (hi : i < l.length) :
    ∃ b f, A = some ⟨b, f, none⟩ ∧ b < w.heap.size ∧ Hid (∀ w', Ext w w' → w'.cell? ⟨b, f + i, none⟩ = some (.int .i64 l[i])) := by
  obtain ⟨b, f, hA, hb, hc⟩ := h.at_ (by rw [ic_len]; omega)
  exact ⟨b, f, hA, hb, Lib.hid fun w' e => (e.cell (p := ⟨b, f + i, none⟩) hb).trans (hc i _ (by simp [ic, hi]))⟩

/-- Where the law AsciiOrder stands: what came in is what went out and what is there. -/
def OrdAt (lim : Nat) (W w : World) (p : Nat) (vin vout : Value) (tot : Nat) : Prop :=
  ∃ o lin lout lq, IsB 3 lin vin w o ∧ IsB 4 lout vout w o ∧ QIs w o 1 p lq lim ∧ lin = lout ++ lq ∧ lin.length ≤ tot ∧ Stp (fun i => i ≠ 0) W (fun _ => 0) w o
theorem OrdAt.toExt {W w : World} {lim p tot : Nat} {vin vout : Value} (h : OrdAt lim W w p vin vout tot) : Ext W w := by
  obtain ⟨_, _, _, _, _, _, _, _, _, h⟩ := h
  exact h.toExt fun _ _ hn => hn rfl
def totS (ps : List (List UInt8)) : Nat := (ps.map List.length).sum
theorem totS_succ (ps : List (List UInt8)) (k : Nat) (h : k < ps.length) : totS (ps.take (k + 1)) = totS (ps.take k) + ps[k].length := by
  unfold totS; rw [List.take_succ_eq_append_getElem h, List.map_append, List.sum_append]; simp only [List.map_cons, List.map_nil, List.sum_cons, List.sum_nil, Nat.add_zero]
theorem totS_le (ps : List (List UInt8)) (k : Nat) : totS (ps.take k) ≤ totS ps := by
  have e : ps = ps.take k ++ ps.drop k := (List.take_append_drop k ps).symm
  unfold totS
  conv => rhs; rw [e]
  rw [List.map_append, List.sum_append]; omega
end Go.Proofs.YteklakibcboepaaDoor
