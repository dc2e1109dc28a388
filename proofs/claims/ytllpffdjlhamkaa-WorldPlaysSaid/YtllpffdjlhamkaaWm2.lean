/-
Ranging over such a map, in whatever order.
-/
import Derived.Test.YtllpffdjlhamkaaWm1
set_option linter.unusedVariables false
set_option linter.unusedSimpArgs false
namespace Go.Proofs.Ytllpffdjlhamkaa
open Go.RowKit
open Go.Maps (Keyed IsMap Tidy)
open Go.WideMaps (keyOf_string_mk)

/-- BLOCK r RANGES OVER THE MAP IN BLOCK b; 'left l': is the entry at l still to come? -/
def World.rgM (w : World) (P : Program) (k : TypeId) (b r : Nat) (M : List (List UInt8 × Value)) (left : List UInt8 → Bool) (cnt : Nat) : Prop :=
  ∃ (D : DataW Value) (lf : Lit → Bool), w.ranges P k heldR b r M.length D lf cnt ∧ (∀ l, lf (.string l) = left l) ∧ OneM M ∧ Maps.size D = M.length ∧ (∀ l, Maps.has D (.string l) = (lkM M l).isSome) ∧ ∀ l z, D.atKey (.string l) z = match lkM M l with | some v => .held v | none => z

variable {P : Program} {k : TypeId} {w : World} {b r : Nat} {M : List (List UInt8 × Value)} {left : List UInt8 → Bool} {cnt : Nat}
theorem World.rgM.isM (h : World.rgM w P k b r M left cnt) : World.isM w P k b M := by
  obtain ⟨D, lf, h1, _, h2⟩ := h; exact ⟨D, h1.owns, h2⟩
theorem World.rgM.kept {w' : World} {row : Option Nat} (h : World.rgM w P k b r M left cnt) (hg : w.grownBy w' row) (hb : some b ≠ row) (hr : some r ≠ row) : World.rgM w' P k b r M left cnt := by
  obtain ⟨D, lf, h1, h2⟩ := h; exact ⟨D, lf, h1.kept hg hb hr, h2⟩
theorem World.rgM.left_eq (h : World.rgM w P k b r M left cnt) : w.rangeLeft b r = cnt := by obtain ⟨D, lf, h1, _⟩ := h; exact h1.left_eq
theorem keyStr {key : Value} {kl : Lit} (hs : P.underlying k = some .string) (h : keyOf P k key = some kl) : ∃ l : List UInt8, key = .string ⟨l.toArray⟩ ∧ kl = .string l ∧ l.length ≤ maxLen := by
  cases key <;> simp [keyOf, hs, mapKey] at h
  rename_i s
  obtain ⟨h1, rfl⟩ := h
  exact ⟨s.data.toList, by cases s; rfl, rfl, by have : s.data.size ≤ maxLen := h1; simpa using this⟩

section
variable {ops : Array Oper} {rest : List Oper} {o : Oper} {a : Act} {Q : Exit → Act → World → Prop}
/-- 'range m' at the operation. -/
theorem wpL_mrange (hg : o.guard = none) (m : Operand) (t : TypeId) (hop : o.op = Op.range t m) (e : TypeId) (K : Keyed P k) (ht : P.underlying t = some (.map k e)) (hm : a.eval m = .map (some b)) (h : World.isM w P k b M)
    (hK : ∀ w', World.rgM w' P k b w.heap.size M (fun l => (lkM M l).isSome) M.length → w.grownBy w' none → w'.heap.size = w.heap.size + 1 → wpList P ops Q rest (a.put o.dst (.pointer (some ⟨w.heap.size, 0, none⟩))) w') :
    wpList P ops Q (o :: rest) a w := by
  obtain ⟨D, h1, h2, h3, h4, h5⟩ := h
  refine wpList_range_own w hg m t hop k e K ht heldR b M.length D hm h1 fun w' r1 r2 r3 => hK w' ⟨D, _, h3 ▸ r1, fun l => h4 l, h2, h3, h4, h5⟩ r2 r3
/-- The step at the operation. -/
theorem wpL_mnext (hg : o.guard = none) (it : Operand) (hop : o.op = Op.next it false) (K : Keyed P k) (hs : P.underlying k = some .string) (hit : a.eval it = .pointer (some ⟨r, 0, none⟩)) (h : World.rgM w P k b r M left cnt)
    (hDone : cnt = 0 → (∀ l, left l = false) → wpList P ops Q rest (a.put o.dst (.tuple #[.bool false])) w)
    (hMore : ∀ (l : List UInt8) (v : Value) (w' : World) (cnt' : Nat), left l = true → lkM M l = some v → l.length ≤ maxLen → World.rgM w' P k b r M (fun z => left z && !(decide (z = l))) cnt' → cnt' < cnt →
      w.grownBy w' (some r) → w'.heap.size = w.heap.size → (Instr.entry (.pointer (some ⟨r, 0, none⟩))).run P w' = .ok (.tuple #[.string ⟨l.toArray⟩, v]) w' → wpList P ops Q rest (a.put o.dst (.tuple #[.bool true, .string ⟨l.toArray⟩, v])) w') :
    wpList P ops Q (o :: rest) a w := by
  obtain ⟨D, lf, h1, hlf, h2, h3, h4, h5⟩ := h
  refine wpList_next_ranges w hg it hop k K heldR (fun l : List UInt8 => .string ⟨l.toArray⟩) (fun v : Value => v) (fun key kl hk => by obtain ⟨l, e, _⟩ := keyStr hs hk; exact ⟨l, e⟩) (fun v y _ => ⟨v, rfl⟩) b r M.length D lf cnt hit h1 (fun h0 hl => hDone h0 fun l => by rw [← hlf]; exact hl _) ?_
  intro x c kl y w' cnt' hk hlk hv hat hrg hlt hgr hsz hen
  obtain ⟨l, e1, rfl, hl⟩ := keyStr hs hk
  have exl : x = l := by injection e1 with e1; injection e1 with e1; simpa using e1
  subst exl
  have hlv : lkM M x = some c := by
    have := hat .nil
    rw [h5] at this
    cases hm : lkM M x with
    | none =>
      rw [hm] at this
      have hh := hat (.lit (.bool true))
      rw [h5, hm] at hh
      rw [← this] at hh; cases hh
    | some u =>
      rw [hm] at this
      have hy : y = (.held c, []) := (Option.some.inj hv).symm
      rw [hy] at this
      injection this with this
      rw [this]
  exact hMore x c w' cnt' (by rw [← hlf]; exact hlk) hlv hl ⟨D, _, hrg, fun z => by
    show (lf (.string z) && !(Lit.string z).sameKey (.string x)) = _
    rw [hlf]
    congr 2
    by_cases e : z = x
    · subst e; simp [Lit.sameKey]
    · rw [Maps.sameKey_ne (by intro c; injection c with c; exact e c)]; simp [e], h2, h3, h4, h5⟩ hlt hgr hsz hen
end
end Go.Proofs.Ytllpffdjlhamkaa
