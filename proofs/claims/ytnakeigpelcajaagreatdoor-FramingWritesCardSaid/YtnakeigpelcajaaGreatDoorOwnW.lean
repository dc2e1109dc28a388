/-
append onto a slice whose room is its owner's: nearly all that the machine holds.
-/
import Derived.Test.YtnakeigpelcajaaGreatDoorOwn
import Derived.Deep.DeepAppendWide
set_option linter.unusedVariables false
set_option linter.unusedSimpArgs false
namespace Go.Proofs.YtnakeigpelcajaaGreatDoor
open Go.RowKit

section
variable {P : Program} {t e : TypeId} {z : Value} {size bytes : Nat}
/-- append onto a slice whose room is its owner's: the room, or a new block of the owner's. -/
theorem run_putF (hT : SlT P t e z size bytes) {w : World} {o : Ow} {k n c m : Nat} {A : Option Addr} {xs news : List Value} {x : Value} {tx : TypeId} (ty : TypeId)
    (hs : Sl w o k size A n c xs) (hna : A = none → c = 0) (src : Src P size tx x m news w) (hfit : ¬ n + m ≤ c → Builtin.nextslicecap (n + m) c * bytes ≤ 281474976710656) (h63 : n + m ≤ maxLen) :
    ∃ A' c' w' o', (Builtin.append_ #[t, tx] ty #[.slice A n c, x]).run P w = .ok (.slice A' (n + m) c') w' ∧ Sl w' o' k size A' (n + m) c' (xs ++ news) ∧ Stp (fun i => 0 < c ∧ i = k) w o w' o' ∧ (A' = none → c' = 0) := by
  obtain ⟨ht, hi0, hz, hsz⟩ := hT
  obtain ⟨i, hi, h2, h3, h4⟩ := info_parts hi0
  subst h3
  subst h4
  have hnl := src.newsLen
  have hsmall : n + m ≤ 9223372036854775807 := by simp only [maxLen] at h63; omega
  have hL : (xs ++ news).length = (n + m) * i.size := by rw [List.length_append, hs.len, hnl, Nat.add_mul]
  by_cases hroom : n + m ≤ c
  · rcases Nat.eq_zero_or_pos c with h0 | hcp
    · obtain rfl : m = 0 := by omega
      obtain rfl : n = 0 := by omega
      obtain rfl : news = [] := List.eq_nil_of_length_eq_zero (by simpa using hnl)
      refine ⟨A, c, w, o, run_append_nothing (P := P) w t tx ty e i ht hi A 0 c (by omega) x src, ?_, Stp.rfl', hna⟩
      simpa using hs
    rcases hs.at_ with h0 | ⟨g, f, rfl, ho, hg, hc, hr⟩
    · omega
    · have hbd : ∀ j, j < news.length → n * i.size + j < c * i.size := fun j hj => by
        have : (n + m) * i.size ≤ c * i.size := Nat.mul_le_mul_right _ hroom
        rw [Nat.add_mul] at this; omega
      have hsome : ∀ j, j < news.length → (w.cell? ⟨g, f + n * i.size + j, none⟩).isSome = true := fun j hj => by rw [Nat.add_assoc]; exact (hr _ (hbd j hj)).1
      have hfr : ∀ j, j < news.length → w.frozen? ⟨g, f + n * i.size + j, none⟩ = false := fun j hj => by rw [Nat.add_assoc]; exact (hr _ (hbd j hj)).2
      have hkb := World.keptBut_setCells g (may := fun p => p.block = g) news (f + n * i.size) w (fun _ _ => rfl)
      refine ⟨_, _, _, o, run_append_room_src (P := P) w t tx ty e i ht hi g f n c x m news src hroom hsome hfr, ⟨hL, hroom, hs.max, .inr ⟨g, f, rfl, ho, Nat.lt_of_lt_of_le hg hkb.size, fun j u hu => ?_, fun j hj => ⟨World.isSome_setCells _ _ _ _ _ (hr j hj).1, ?_⟩⟩⟩,
        ⟨hkb.1, tape_setCells _ _ _ _, hkb.2.1, hkb.size, fun _ _ => rfl, fun b hb hn => World.heap_setCells_other w g _ news hb (fun e => hn (by rw [e]; exact ⟨hcp, ho⟩))⟩, fun e => by cases e⟩
      · by_cases hj : j < xs.length
        · rw [World.cell?_setCells_out g _ _ _ _ (fun _ _ => Or.inl (by show f + j < f + n * i.size; rw [← hs.len]; omega))]
          exact hc j u (by rw [List.getElem?_append_left hj] at hu; exact hu)
        · rw [List.getElem?_append_right (by omega)] at hu
          obtain ⟨ht', hu'⟩ := List.getElem?_eq_some_iff.1 hu
          have := World.cell?_setCells_in g news (f + n * i.size) w hsome (j - xs.length) ht'
          rw [show f + n * i.size + (j - xs.length) = f + j by rw [← hs.len]; omega] at this
          rw [this, hu']
      · rw [World.frozen?_setCells]; exact (hr j hj).2
  · have hold : (Builtin.firstCells i.size n (.slice A n c)).run P w.drew = .ok xs.toArray w.drew := by
      rcases hs.at_ with h0 | ⟨g, f, rfl, ho, hg, hc, hr⟩
      · have := hs.le; have := hs.len
        obtain rfl : n = 0 := by omega
        obtain rfl : xs = [] := List.eq_nil_of_length_eq_zero (by omega)
        cases A with
        | none => exact run_firstCells_none w.drew i.size 0 0 c
        | some a' => exact run_firstCells_some w.drew i.size 0 a' 0 c [] (by simp) (by intro _ _ h'; simp at h')
      · exact run_firstCells_some w.drew i.size n ⟨g, f, none⟩ n c xs hs.len (fun j u hu => by rw [add_mk]; exact hc j u hu)
    have hrun := run_append_grow_src (P := P) w t tx ty e i z ht hi h2 A n c xs hold x m news src (by omega) (by omega) (hfit hroom)
    have hge := grownCap_ge w (n + m) c e
    have hcm := grownCap_le_maxLen w (n + m) c e h63
    refine ⟨_, _, _, fun b => if b < w.heap.size then o b else k, hrun, ⟨hL, hge, hcm, .inr ⟨w.heap.size, 0, rfl, by simp, by simp, fun j u hu => ?_, fun j hj => ⟨?_, ?_⟩⟩⟩, ⟨rfl, rfl, rfl, by simp, fun b hb => by simp [hb], fun b hb _ => Below.heap_alloc w.drew _ b hb⟩, fun e => by cases e⟩
    · have e1 : (w.drew.alloc (.cells ((xs ++ news).toArray ++ Builtin.zeroCells z.cells (grownCap w (n + m) c e - (n + m))) e)).cell? ⟨w.heap.size, 0 + j, none⟩ = _ := World.cell?_alloc_new w.drew _ _ (0 + j)
      rw [e1, Nat.zero_add, Array.getElem?_append_left (by simp only [List.size_toArray]; exact (List.getElem?_eq_some_iff.1 hu).1), List.getElem?_toArray, hu]
    · have e1 : (w.drew.alloc (.cells ((xs ++ news).toArray ++ Builtin.zeroCells z.cells (grownCap w (n + m) c e - (n + m))) e)).cell? ⟨w.heap.size, 0 + j, none⟩ = _ := World.cell?_alloc_new w.drew _ _ (0 + j)
      rw [e1]
      have hsz' : ((xs ++ news).toArray ++ Builtin.zeroCells z.cells (grownCap w (n + m) c e - (n + m))).size = grownCap w (n + m) c e * i.size := by
        rw [Array.size_append, List.size_toArray, hL, size_zeroCells, hz, ← Nat.add_mul]
        congr 1
        omega
      rw [Array.getElem?_eq_getElem (by rw [hsz', Nat.zero_add]; exact hj)]
      rfl
    · exact World.frozen?_alloc_new w.drew _ _ (0 + j)

/-- The same at a list of operations. -/
theorem wpL_putF (hT : SlT P t e z size bytes) {ops : Array Oper} {rest : List Oper} {op : Oper} {a : Act} {Q : Exit → Act → World → Prop} (s x : Operand) {tx : TypeId}
    (ho : op.op = .call { callee := .builtin .append, args := #[s, x], argTypes := #[t, tx] }) (hw : Region.wanted op (yielded ops a.tmps) = true)
    {w : World} {o : Ow} {k n c m : Nat} {A : Option Addr} {xs news : List Value} {xv : Value} (hs : a.eval s = .slice A n c) (hx : a.eval x = xv)
    (hsl : Sl w o k size A n c xs) (hna : A = none → c = 0) (src : Src P size tx xv m news w) (hfit : ¬ n + m ≤ c → Builtin.nextslicecap (n + m) c * bytes ≤ 281474976710656) (h63 : n + m ≤ maxLen)
    (h : ∀ A' c' w' o', Sl w' o' k size A' (n + m) c' (xs ++ news) → Stp (fun i => i = k) w o w' o' → (A' = none → c' = 0) → wpList P ops Q rest (a.put op.dst (.slice A' (n + m) c')) w') : wpList P ops Q (op :: rest) a w := by
  obtain ⟨A', c', w', o', hr, h1, h2, h3⟩ := run_putF hT op.type hsl hna src hfit h63
  refine wpList_step fun _ hK => ?_
  rw [if_pos hw]
  unfold Oper.wp execOp
  simp only [ho, resolve, invoke, builtin, Sem.run_bind, Sem.run_pure, Result.andThen_ok, List.map_toArray, List.map_cons, List.map_nil, hs, hx, hr]
  exact hK _ _ (h A' c' w' o' h1 (h2.mono fun _ hi => hi.2) h3)
end
end Go.Proofs.YtnakeigpelcajaaGreatDoor
