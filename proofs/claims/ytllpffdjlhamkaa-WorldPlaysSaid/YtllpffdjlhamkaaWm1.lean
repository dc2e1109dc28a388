/-
A map with string keys whose elements are kept as they are: the block as a list of keys and values.
-/
import Derived.Test.YtllpffdjlhamkaaBase
import Derived.Maps.RangeWalk
import Derived.Maps.OwnSet
set_option linter.unusedVariables false
set_option linter.unusedSimpArgs false
namespace Go.Proofs.Ytllpffdjlhamkaa
open Go.RowKit
open Go.Maps (Keyed IsMap Tidy)
open Go.WideMaps (keyOf_string_mk)

/-- An element is kept as it is. -/
def heldR (v : Value) : Option (DataW Value × List MemPlace) := some (.held v, [])
section
variable {α : Type}
/-- What a list of keys and values has at a key; what is put into it, taken out of it. -/
def lkM (M : List (List UInt8 × α)) (l : List UInt8) : Option α := match M with | [] => none | (k, v) :: r => if k = l then some v else lkM r l
def putM (M : List (List UInt8 × α)) (l : List UInt8) (v : α) : List (List UInt8 × α) := match M with | [] => [(l, v)] | (k, u) :: r => if k = l then (k, v) :: r else (k, u) :: putM r l v
def delM (M : List (List UInt8 × α)) (l : List UInt8) : List (List UInt8 × α) := match M with | [] => [] | (k, u) :: r => if k = l then r else (k, u) :: delM r l

theorem lk_put_same (M : List (List UInt8 × α)) (l : List UInt8) (v : α) : lkM (putM M l v) l = some v := by
  induction M with
  | nil => simp [putM, lkM]
  | cons x r ih => obtain ⟨k, u⟩ := x; unfold putM; by_cases h : k = l <;> simp [h, lkM, ih]
theorem lk_put_other (M : List (List UInt8 × α)) {l l' : List UInt8} (h : l' ≠ l) (v : α) : lkM (putM M l v) l' = lkM M l' := by
  induction M with
  | nil => simp [putM, lkM, Ne.symm h]
  | cons x r ih =>
    obtain ⟨k, u⟩ := x; unfold putM
    by_cases hk : k = l
    · subst hk; simp [lkM, Ne.symm h]
    · simp only [hk, if_false, lkM, ih]
theorem put_len (M : List (List UInt8 × α)) (l : List UInt8) (v : α) : (putM M l v).length = if (lkM M l).isSome then M.length else M.length + 1 := by
  induction M with
  | nil => simp [putM, lkM]
  | cons x r ih =>
    obtain ⟨k, u⟩ := x; unfold putM
    by_cases hk : k = l
    · simp [hk, lkM]
    · simp only [hk, if_false, lkM, List.length_cons, ih]; split <;> rfl
theorem lk_mem {M : List (List UInt8 × α)} {l : List UInt8} {v : α} (h : lkM M l = some v) : (l, v) ∈ M := by
  induction M with
  | nil => cases h
  | cons x r ih =>
    obtain ⟨k, u⟩ := x; unfold lkM at h
    split at h
    · rename_i hk; injection h with h; subst hk; subst h; exact List.mem_cons_self ..
    · exact List.mem_cons_of_mem _ (ih h)
theorem mem_put {M : List (List UInt8 × α)} {l : List UInt8} {v : α} {x : List UInt8 × α} (h : x ∈ putM M l v) : x = (l, v) ∨ x ∈ M := by
  induction M with
  | nil => simp [putM] at h; exact .inl h
  | cons y r ih =>
    obtain ⟨k, u⟩ := y; unfold putM at h
    split at h
    · rename_i hk; subst hk
      rcases List.mem_cons.1 h with h | h
      · exact .inl h
      · exact .inr (List.mem_cons_of_mem _ h)
    · rcases List.mem_cons.1 h with h | h
      · exact .inr (h ▸ List.mem_cons_self ..)
      · rcases ih h with h | h
        · exact .inl h
        · exact .inr (List.mem_cons_of_mem _ h)
theorem mem_del {M : List (List UInt8 × α)} {l : List UInt8} {x : List UInt8 × α} (h : x ∈ delM M l) : x ∈ M := by
  induction M with
  | nil => exact h
  | cons y r ih =>
    obtain ⟨k, u⟩ := y; unfold delM at h
    split at h
    · exact List.mem_cons_of_mem _ h
    · rcases List.mem_cons.1 h with h | h
      · exact h ▸ List.mem_cons_self ..
      · exact List.mem_cons_of_mem _ (ih h)
/-- No key twice. -/
def OneM (M : List (List UInt8 × α)) : Prop := M.Pairwise (fun p q => p.1 ≠ q.1)
theorem lk_none_of {M : List (List UInt8 × α)} {l : List UInt8} (h : ∀ x ∈ M, x.1 ≠ l) : lkM M l = none := by
  induction M with
  | nil => rfl
  | cons y r ih =>
    obtain ⟨k, u⟩ := y; unfold lkM
    rw [if_neg (h _ (List.mem_cons_self ..)), ih (fun x hx => h x (List.mem_cons_of_mem _ hx))]
theorem lk_none_mem {M : List (List UInt8 × α)} {l : List UInt8} (h : lkM M l = none) : ∀ x ∈ M, x.1 ≠ l := by
  induction M with
  | nil => intro x hx; cases hx
  | cons y r ih =>
    obtain ⟨k, u⟩ := y; unfold lkM at h
    split at h
    · cases h
    · rename_i hk
      intro x hx
      rcases List.mem_cons.1 hx with e | hx
      · subst e; exact hk
      · exact ih h x hx
theorem OneM.put {M : List (List UInt8 × α)} (h : OneM M) (l : List UInt8) (v : α) : OneM (putM M l v) := by
  induction M with
  | nil => simp [putM, OneM]
  | cons y r ih =>
    obtain ⟨k, u⟩ := y
    have h1 := List.pairwise_cons.1 h
    unfold putM
    split
    · exact List.pairwise_cons.2 ⟨h1.1, h1.2⟩
    · rename_i hk
      refine List.pairwise_cons.2 ⟨fun x hx => ?_, ih h1.2⟩
      rcases mem_put hx with e | hx
      · subst e; exact hk
      · exact h1.1 x hx
theorem OneM.del {M : List (List UInt8 × α)} (h : OneM M) (l : List UInt8) : OneM (delM M l) := by
  induction M with
  | nil => exact h
  | cons y r ih =>
    obtain ⟨k, u⟩ := y
    have h1 := List.pairwise_cons.1 h
    unfold delM
    split
    · exact h1.2
    · exact List.pairwise_cons.2 ⟨fun x hx => h1.1 x (mem_del hx), ih h1.2⟩
theorem lk_del_same {M : List (List UInt8 × α)} (h : OneM M) (l : List UInt8) : lkM (delM M l) l = none := by
  induction M with
  | nil => rfl
  | cons y r ih =>
    obtain ⟨k, u⟩ := y
    have h1 := List.pairwise_cons.1 h
    unfold delM
    split
    · rename_i hk; subst hk; exact lk_none_of (fun x hx => (h1.1 x hx).symm)
    · rename_i hk; unfold lkM; rw [if_neg hk]; exact ih h1.2
theorem lk_del_other (M : List (List UInt8 × α)) {l l' : List UInt8} (h : l' ≠ l) : lkM (delM M l) l' = lkM M l' := by
  induction M with
  | nil => rfl
  | cons y r ih =>
    obtain ⟨k, u⟩ := y
    unfold delM
    by_cases hk : k = l
    · subst hk; simp [lkM, Ne.symm h]
    · simp only [hk, if_false, lkM, ih]
theorem del_len (M : List (List UInt8 × α)) (l : List UInt8) : (delM M l).length + (if (lkM M l).isSome then 1 else 0) = M.length := by
  induction M with
  | nil => rfl
  | cons y r ih =>
    obtain ⟨k, u⟩ := y
    unfold delM lkM
    by_cases hk : k = l
    · simp [hk]
    · simp only [hk, if_false, List.length_cons]; omega

end
/-- BLOCK b IS A MAP, KEYED BY STRINGS OF TYPE k, THAT HAS JUST THESE ENTRIES. -/
def World.isM (w : World) (P : Program) (k : TypeId) (b : Nat) (M : List (List UInt8 × Value)) : Prop :=
  ∃ D : DataW Value, w.ownsMap P k heldR b M.length D ∧ OneM M ∧ Maps.size D = M.length ∧ (∀ l, Maps.has D (.string l) = (lkM M l).isSome) ∧ ∀ l z, D.atKey (.string l) z = match lkM M l with | some v => .held v | none => z

variable {P : Program} {k : TypeId} {w : World} {b : Nat} {M : List (List UInt8 × Value)}

theorem World.isM_made (w : World) (P : Program) (k : TypeId) : World.isM (w.alloc (.map #[] 0)) P k w.heap.size [] :=
  ⟨.map [], World.ownsMap_made w P k heldR, List.Pairwise.nil, rfl, fun _ => rfl, fun _ _ => rfl⟩
theorem World.isM.kept {w' : World} {row : Option Nat} (h : World.isM w P k b M) (hg : w.grownBy w' row) (hne : some b ≠ row) : World.isM w' P k b M := by
  obtain ⟨D, h1, h2⟩ := h; exact ⟨D, h1.kept hg hne, h2⟩
theorem World.isM.lt (h : World.isM w P k b M) : b < w.heap.size := by obtain ⟨D, h1, _⟩ := h; exact h1.lt
theorem World.isM.one (h : World.isM w P k b M) : OneM M := by obtain ⟨D, _, h1, _⟩ := h; exact h1
/-- Whatever keeps the block keeps the map. -/
theorem World.isM.same {w' : World} (h : World.isM w P k b M) (hb : w'.heap[b]? = w.heap[b]?) : World.isM w' P k b M := by
  obtain ⟨D, ⟨es, clock, h0, F, h1⟩, h2⟩ := h; exact ⟨D, ⟨es, clock, hb.trans h0, F, h1⟩, h2⟩
theorem World.isM.ext {w' : World} {B : Nat} (h : World.isM w P k b M) (hx : Below B w w') (hb : b < B) : World.isM w' P k b M := h.same (hx.block b hb)
theorem World.isM.put (h : World.isM w P k b M) (K : Keyed P k) {t e : TypeId} (ht : P.underlying t = some (.map k e)) (hs : P.underlying k = some .string) (hn : M.length < maxLen) {l : List UInt8} (hl : l.length ≤ maxLen) (v : Value) :
    ∃ w', (Instr.mapUpdate t (.map (some b)) (.string ⟨l.toArray⟩) v).run P w = .ok () w' ∧ World.isM w' P k b (putM M l v) ∧ w.mapTurned w' b := by
  obtain ⟨D, h1, h2, h3, h4, h5⟩ := h
  have hk : keyOf P k (.string ⟨l.toArray⟩) = some (.string l) := by rw [keyOf_string_mk hs (show l.toArray.size ≤ maxLen by simpa using hl)]
  obtain ⟨w', r, o, t⟩ := h1.store K ht hn hk (show heldR v = some (.held v, []) from rfl)
  have hsz : Maps.size (D.put (.string l) (.held v)) = (putM M l v).length := by rw [Maps.size_put (h1.tidy K), h4, put_len, h3]
  refine ⟨w', r, ⟨_, ?_, h2.put l v, hsz, fun l' => ?_, fun l' z => ?_⟩, t⟩
  · obtain ⟨es, clock, hb, F, hs', hD⟩ := o
    refine ⟨es, clock, hb, F, ?_, hD⟩
    rw [← hsz, hD]
    simp [Maps.size, length_sorted]
  · by_cases e : l' = l
    · subst e; rw [Maps.has_put_same h1.isMap (k := .string l') trivial, lk_put_same]; rfl
    · rw [Maps.has_put_other (by intro c; injection c with c; exact e c), lk_put_other M e]; exact h4 l'
  · by_cases e : l' = l
    · subst e; rw [Maps.atKey_put_same h1.isMap (k := .string l') trivial, lk_put_same]
    · rw [Maps.atKey_put_other (by intro c; injection c with c; exact e c), lk_put_other M e]; exact h5 l' z
theorem World.isM.del (h : World.isM w P k b M) (K : Keyed P k) {t e : TypeId} (ht : P.underlying t = some (.map k e)) (hs : P.underlying k = some .string) {l : List UInt8} (hl : l.length ≤ maxLen) (ty : TypeId) :
    ∃ w', (Builtin.delete_ #[t, k] ty #[.map (some b), .string ⟨l.toArray⟩]).run P w = .ok (.tuple #[]) w' ∧ World.isM w' P k b (delM M l) ∧ w.mapTurned w' b := by
  obtain ⟨D, h1, h2, h3, h4, h5⟩ := h
  have hk : keyOf P k (.string ⟨l.toArray⟩) = some (.string l) := by rw [keyOf_string_mk hs (show l.toArray.size ≤ maxLen by simpa using hl)]
  obtain ⟨w', r, o, t⟩ := h1.drop K ht hk ty
  have hsz : Maps.size (D.del (.string l)) = (delM M l).length := by
    have e1 := Maps.size_del (k := .string l) (h1.tidy K)
    have e2 := del_len M l
    rw [h4, h3] at e1
    omega
  refine ⟨w', r, ⟨_, ?_, h2.del l, hsz, fun l' => ?_, fun l' z => ?_⟩, t⟩
  · obtain ⟨es, clock, hb, F, hs', hD⟩ := o
    refine ⟨es, clock, hb, F, ?_, hD⟩
    rw [← hsz, hD]
    simp [Maps.size, length_sorted]
  · by_cases e : l' = l
    · subst e; rw [Maps.has_del_same, lk_del_same h2]; rfl
    · rw [Maps.has_del_other (by intro c; injection c with c; exact e c), lk_del_other M e]; exact h4 l'
  · by_cases e : l' = l
    · subst e; rw [Maps.atKey_del_same, lk_del_same h2]
    · rw [Maps.atKey_del_other (by intro c; injection c with c; exact e c), lk_del_other M e]; exact h5 l' z
theorem World.isM.look (h : World.isM w P k b M) (K : Keyed P k) {t e : TypeId} (ht : P.underlying t = some (.map k e)) (hs : P.underlying k = some .string) {z : Value} (hz : (zeroValue e).run P w = .ok z w) {l : List UInt8} (hl : l.length ≤ maxLen) :
    (Instr.lookup t (.map (some b)) (.string ⟨l.toArray⟩) true).run P w = .ok (.tuple #[(lkM M l).getD z, .bool (lkM M l).isSome]) w := by
  obtain ⟨D, h1, h2, h3, h4, h5⟩ := h
  have hk : keyOf P k (.string ⟨l.toArray⟩) = some (.string l) := by rw [keyOf_string_mk hs (show l.toArray.size ≤ maxLen by simpa using hl)]
  obtain ⟨v, ps, r, hv⟩ := h1.look_ok K ht hz (show heldR z = some (.held z, []) from rfl) hk
  rw [r, h4]
  have e : v = (lkM M l).getD z := by
    simp only [heldR, Option.some.injEq, Prod.mk.injEq, h5] at hv
    cases hm : lkM M l with
    | none => rw [hm] at hv; have := hv.1; injection this
    | some u => rw [hm] at hv; have := hv.1; injection this
  rw [e]
theorem World.isM.len (h : World.isM w P k b M) {t e : TypeId} (ht : P.underlying t = some (.map k e)) (ty : TypeId) : (Builtin.len_ #[t] ty #[.map (some b)]).run P w = .ok (.int .i64 M.length) w := by
  obtain ⟨D, h1, _, h3, _⟩ := h
  rw [h1.len ht ty, h3]

section
variable {ops : Array Oper} {rest : List Oper} {o : Oper} {a : Act} {Q : Exit → Act → World → Prop}
/-- 'v, ok := m[k]' at the operation. -/
theorem wpL_look (hg : o.guard = none) (m x : Operand) (t : TypeId) (hop : o.op = Op.lookup t m x true) (e : TypeId) (K : Keyed P k) (ht : P.underlying t = some (.map k e)) (hs : P.underlying k = some .string) {z : Value} (hz : (zeroValue e).run P w = .ok z w)
    (hm : a.eval m = .map (some b)) (h : World.isM w P k b M) (l : List UInt8) (hl : l.length ≤ maxLen) (hx : a.eval x = .string ⟨l.toArray⟩)
    (hK : wpList P ops Q rest (a.put o.dst (.tuple #[(lkM M l).getD z, .bool (lkM M l).isSome])) w) : wpList P ops Q (o :: rest) a w := by
  refine wpList_plain hg fun K' hK' => ?_
  unfold Oper.wp
  simp [execOp, hop, hm, hx, h.look K ht hs hz hl, Result.andThen]
  exact hK' _ _ hK
/-- 'm[k] = v' at the operation. -/
theorem wpL_mput (hg : o.guard = none) (m x v : Operand) (t : TypeId) (hop : o.op = Op.mapUpdate t m x v) (e : TypeId) (K : Keyed P k) (ht : P.underlying t = some (.map k e)) (hs : P.underlying k = some .string)
    (hm : a.eval m = .map (some b)) (h : World.isM w P k b M) (hn : M.length < maxLen) (l : List UInt8) (hl : l.length ≤ maxLen) (hx : a.eval x = .string ⟨l.toArray⟩) (u : Value) (hv : a.eval v = u)
    (hK : ∀ w', World.isM w' P k b (putM M l u) → w.mapTurned w' b → wpList P ops Q rest (a.put o.dst undef) w') : wpList P ops Q (o :: rest) a w := by
  refine wpList_plain hg fun K' hK' => ?_
  obtain ⟨w', r, r1, r2⟩ := h.put K ht hs hn hl u
  unfold Oper.wp
  simp [execOp, hop, hm, hx, hv, r, Result.andThen]
  exact hK' _ _ (hK w' r1 r2)
/-- 'delete(m, k)' at the operation. -/
theorem wpL_mdel (hg : o.guard = none) (m x : Operand) (t : TypeId) (hop : o.op = Op.call { callee := Callee.builtin Builtin.delete, args := #[m, x], argTypes := #[t, k] }) (e : TypeId) (K : Keyed P k) (ht : P.underlying t = some (.map k e)) (hs : P.underlying k = some .string)
    (hm : a.eval m = .map (some b)) (h : World.isM w P k b M) (l : List UInt8) (hl : l.length ≤ maxLen) (hx : a.eval x = .string ⟨l.toArray⟩)
    (hK : ∀ w', World.isM w' P k b (delM M l) → w.mapTurned w' b → wpList P ops Q rest (a.put o.dst (.tuple #[])) w') : wpList P ops Q (o :: rest) a w := by
  refine wpList_plain hg fun K' hK' => ?_
  obtain ⟨w', r, r1, r2⟩ := h.del K ht hs hl o.type
  unfold Oper.wp
  simp [execOp, hop, resolve, invoke, builtin, hm, hx, r, Result.andThen]
  exact hK' _ _ (hK w' r1 r2)
/-- 'len(m)' at the operation. -/
theorem wpL_mlen (hg : o.guard = none) (m : Operand) (t : TypeId) (hop : o.op = Op.call { callee := Callee.builtin Builtin.len, args := #[m], argTypes := #[t] }) (e : TypeId) (ht : P.underlying t = some (.map k e))
    (hm : a.eval m = .map (some b)) (h : World.isM w P k b M) (hK : wpList P ops Q rest (a.put o.dst (.int .i64 M.length)) w) : wpList P ops Q (o :: rest) a w := by
  refine wpList_plain hg fun K' hK' => ?_
  unfold Oper.wp
  simp [execOp, hop, resolve, invoke, builtin, hm, h.len ht o.type, Result.andThen]
  exact hK' _ _ hK
end
end Go.Proofs.Ytllpffdjlhamkaa
