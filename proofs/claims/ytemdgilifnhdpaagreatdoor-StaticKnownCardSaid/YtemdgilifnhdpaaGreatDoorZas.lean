/-
A map with string keys whose elements are kept as they are: the block as a list of keys and values.
-/
import Derived.Test.YtemdgilifnhdpaaGreatDoorZaa
import Derived.Maps.RangeWalk
import Derived.Maps.OwnSet
import Derived.Test.YtemdgilifnhdpaaGreatDoorZal
import Derived.Test.YtemdgilifnhdpaaGreatDoorZaf
import Derived.BigRegion
import Derived.Carry
set_option linter.unusedVariables false
set_option linter.unusedSimpArgs false
section
namespace Go.Proofs.YtemdgilifnhdpaaGreatDoor
open Go.RowKit
open Go.Maps (Keyed IsMap Tidy)
open Go.WideMaps (keyOf_string_mk)

def heldR (v : Value) : Option (DataW Value × List MemPlace) := some (.held v, [])
section
variable {α : Type}
def lkM (M : List (List UInt8 × α)) (l : List UInt8) : Option α := match M with | [] => none | (k, v) :: r => if k = l then some v else lkM r l
def putM (M : List (List UInt8 × α)) (l : List UInt8) (v : α) : List (List UInt8 × α) := match M with | [] => [(l, v)] | (k, u) :: r => if k = l then (k, v) :: r else (k, u) :: putM r l v
def delM (M : List (List UInt8 × α)) (l : List UInt8) : List (List UInt8 × α) := match M with | [] => [] | (k, u) :: r => if k = l then r else (k, u) :: delM r l

theorem lk_put_same (M : List (List UInt8 × α)) (l : List UInt8) (v : α) : lkM (putM M l v) l = some v := by
  induction M with
  | nil => simp [putM, lkM]
  | cons x r ih => obtain ⟨k, u⟩ := x; unfold putM; by_cases h : k = l <;> simp [h, lkM, ih]
theorem lk_put_other (M : List (List UInt8 × α)) {l l' : List UInt8} (h : l' ≠ l) (v : α) : lkM (putM M l v) l' = lkM M l' := by
  induction M with
  | nil => simp [putM, lkM, Ne.symm h]
  | cons x r ih =>
    obtain ⟨k, u⟩ := x; unfold putM
    by_cases hk : k = l
    · subst hk; simp [lkM, Ne.symm h]
    · simp only [hk, if_false, lkM, ih]
theorem put_len (M : List (List UInt8 × α)) (l : List UInt8) (v : α) : (putM M l v).length = if (lkM M l).isSome then M.length else M.length + 1 := by
  induction M with
  | nil => simp [putM, lkM]
  | cons x r ih =>
    obtain ⟨k, u⟩ := x; unfold putM
    by_cases hk : k = l
    · simp [hk, lkM]
    · simp only [hk, if_false, lkM, List.length_cons, ih]; split <;> rfl
theorem lk_mem {M : List (List UInt8 × α)} {l : List UInt8} {v : α} (h : lkM M l = some v) : (l, v) ∈ M := by
  induction M with
  | nil => cases h
  | cons x r ih =>
    obtain ⟨k, u⟩ := x; unfold lkM at h
    split at h
    · rename_i hk; injection h with h; subst hk; subst h; exact List.mem_cons_self ..
    · exact List.mem_cons_of_mem _ (ih h)
theorem mem_put {M : List (List UInt8 × α)} {l : List UInt8} {v : α} {x : List UInt8 × α} (h : x ∈ putM M l v) : x = (l, v) ∨ x ∈ M := by
  induction M with
  | nil => simp [putM] at h; exact .inl h
  | cons y r ih =>
    obtain ⟨k, u⟩ := y; unfold putM at h
    split at h
    · rename_i hk; subst hk
      rcases List.mem_cons.1 h with h | h
      · exact .inl h
      · exact .inr (List.mem_cons_of_mem _ h)
    · rcases List.mem_cons.1 h with h | h
      · exact .inr (h ▸ List.mem_cons_self ..)
      · rcases ih h with h | h
        · exact .inl h
        · exact .inr (List.mem_cons_of_mem _ h)
theorem mem_del {M : List (List UInt8 × α)} {l : List UInt8} {x : List UInt8 × α} (h : x ∈ delM M l) : x ∈ M := by
  induction M with
  | nil => exact h
  | cons y r ih =>
    obtain ⟨k, u⟩ := y; unfold delM at h
    split at h
    · exact List.mem_cons_of_mem _ h
    · rcases List.mem_cons.1 h with h | h
      · exact h ▸ List.mem_cons_self ..
      · exact List.mem_cons_of_mem _ (ih h)
def OneM (M : List (List UInt8 × α)) : Prop := M.Pairwise (fun p q => p.1 ≠ q.1)
theorem lk_none_of {M : List (List UInt8 × α)} {l : List UInt8} (h : ∀ x ∈ M, x.1 ≠ l) : lkM M l = none := by
  induction M with
  | nil => rfl
  | cons y r ih =>
    obtain ⟨k, u⟩ := y; unfold lkM
    rw [if_neg (h _ (List.mem_cons_self ..)), ih (fun x hx => h x (List.mem_cons_of_mem _ hx))]
theorem lk_none_mem {M : List (List UInt8 × α)} {l : List UInt8} (h : lkM M l = none) : ∀ x ∈ M, x.1 ≠ l := by
  induction M with
  | nil => intro x hx; cases hx
  | cons y r ih =>
    obtain ⟨k, u⟩ := y; unfold lkM at h
    split at h
    · cases h
    · rename_i hk
      intro x hx
      rcases List.mem_cons.1 hx with e | hx
      · subst e; exact hk
      · exact ih h x hx
theorem OneM.put {M : List (List UInt8 × α)} (h : OneM M) (l : List UInt8) (v : α) : OneM (putM M l v) := by
  induction M with
  | nil => simp [putM, OneM]
  | cons y r ih =>
    obtain ⟨k, u⟩ := y
    have h1 := List.pairwise_cons.1 h
    unfold putM
    split
    · exact List.pairwise_cons.2 ⟨h1.1, h1.2⟩
    · rename_i hk
      refine List.pairwise_cons.2 ⟨fun x hx => ?_, ih h1.2⟩
      rcases mem_put hx with e | hx
      · subst e; exact hk
      · exact h1.1 x hx
theorem OneM.del {M : List (List UInt8 × α)} (h : OneM M) (l : List UInt8) : OneM (delM M l) := by
  induction M with
  | nil => exact h
  | cons y r ih =>
    obtain ⟨k, u⟩ := y
    have h1 := List.pairwise_cons.1 h
    unfold delM
    split
    · exact h1.2
    · exact List.pairwise_cons.2 ⟨fun x hx => h1.1 x (mem_del hx), ih h1.2⟩
theorem lk_del_same {M : List (List UInt8 × α)} (h : OneM M) (l : List UInt8) : lkM (delM M l) l = none := by
  induction M with
  | nil => rfl
  | cons y r ih =>
    obtain ⟨k, u⟩ := y
    have h1 := List.pairwise_cons.1 h
    unfold delM
    split
    · rename_i hk; subst hk; exact lk_none_of (fun x hx => (h1.1 x hx).symm)
    · rename_i hk; unfold lkM; rw [if_neg hk]; exact ih h1.2
theorem lk_del_other (M : List (List UInt8 × α)) {l l' : List UInt8} (h : l' ≠ l) : lkM (delM M l) l' = lkM M l' := by
  induction M with
  | nil => rfl
  | cons y r ih =>
    obtain ⟨k, u⟩ := y
    unfold delM
    by_cases hk : k = l
    · subst hk; simp [lkM, Ne.symm h]
    · simp only [hk, if_false, lkM, ih]
theorem del_len (M : List (List UInt8 × α)) (l : List UInt8) : (delM M l).length + (if (lkM M l).isSome then 1 else 0) = M.length := by
  induction M with
  | nil => rfl
  | cons y r ih =>
    obtain ⟨k, u⟩ := y
    unfold delM lkM
    by_cases hk : k = l
    · simp [hk]
    · simp only [hk, if_false, List.length_cons]; omega

end
def World.isM (w : World) (P : Program) (k : TypeId) (b : Nat) (M : List (List UInt8 × Value)) : Prop :=
  ∃ D : DataW Value, w.ownsMap P k heldR b M.length D ∧ OneM M ∧ Maps.size D = M.length ∧ (∀ l, Maps.has D (.string l) = (lkM M l).isSome) ∧ ∀ l z, D.atKey (.string l) z = match lkM M l with | some v => .held v | none => z

variable {P : Program} {k : TypeId} {w : World} {b : Nat} {M : List (List UInt8 × Value)}

theorem World.isM_made (w : World) (P : Program) (k : TypeId) : World.isM (w.alloc (.map #[] 0)) P k w.heap.size [] :=
  ⟨.map [], World.ownsMap_made w P k heldR, List.Pairwise.nil, rfl, fun _ => rfl, fun _ _ => rfl⟩
theorem World.isM.kept {w' : World} {row : Option Nat} (h : World.isM w P k b M) (hg : w.grownBy w' row) (hne : some b ≠ row) : World.isM w' P k b M := by
  obtain ⟨D, h1, h2⟩ := h; exact ⟨D, h1.kept hg hne, h2⟩
theorem World.isM.lt (h : World.isM w P k b M) : b < w.heap.size := by obtain ⟨D, h1, _⟩ := h; exact h1.lt
theorem World.isM.one (h : World.isM w P k b M) : OneM M := by obtain ⟨D, _, h1, _⟩ := h; exact h1
theorem World.isM.same {w' : World} (h : World.isM w P k b M) (hb : w'.heap[b]? = w.heap[b]?) : World.isM w' P k b M := by
  obtain ⟨D, ⟨es, clock, h0, F, h1⟩, h2⟩ := h; exact ⟨D, ⟨es, clock, hb.trans h0, F, h1⟩, h2⟩
theorem World.isM.ext {w' : World} {B : Nat} (h : World.isM w P k b M) (hx : Below B w w') (hb : b < B) : World.isM w' P k b M := h.same (hx.block b hb)
theorem World.isM.put (h : World.isM w P k b M) (K : Keyed P k) {t e : TypeId} (ht : P.underlying t = some (.map k e)) (hs : P.underlying k = some .string) (hn : M.length < maxLen) {l : List UInt8} (hl : l.length ≤ maxLen) (v : Value) :
    ∃ w', (Instr.mapUpdate t (.map (some b)) (.string ⟨l.toArray⟩) v).run P w = .ok () w' ∧ World.isM w' P k b (putM M l v) ∧ w.mapTurned w' b := by
  obtain ⟨D, h1, h2, h3, h4, h5⟩ := h
  have hk : keyOf P k (.string ⟨l.toArray⟩) = some (.string l) := by rw [keyOf_string_mk hs (show l.toArray.size ≤ maxLen by simpa using hl)]
  obtain ⟨w', r, o, t⟩ := h1.store K ht hn hk (show heldR v = some (.held v, []) from rfl)
  have hsz : Maps.size (D.put (.string l) (.held v)) = (putM M l v).length := by rw [Maps.size_put (h1.tidy K), h4, put_len, h3]
  refine ⟨w', r, ⟨_, ?_, h2.put l v, hsz, fun l' => ?_, fun l' z => ?_⟩, t⟩
  · obtain ⟨es, clock, hb, F, hs', hD⟩ := o
    refine ⟨es, clock, hb, F, ?_, hD⟩
    rw [← hsz, hD]
    simp [Maps.size, length_sorted]
  · by_cases e : l' = l
    · subst e; rw [Maps.has_put_same h1.isMap (k := .string l') trivial, lk_put_same]; rfl
    · rw [Maps.has_put_other (by intro c; injection c with c; exact e c), lk_put_other M e]; exact h4 l'
  · by_cases e : l' = l
    · subst e; rw [Maps.atKey_put_same h1.isMap (k := .string l') trivial, lk_put_same]
    · rw [Maps.atKey_put_other (by intro c; injection c with c; exact e c), lk_put_other M e]; exact h5 l' z
theorem World.isM.del (h : World.isM w P k b M) (K : Keyed P k) {t e : TypeId} (ht : P.underlying t = some (.map k e)) (hs : P.underlying k = some .string) {l : List UInt8} (hl : l.length ≤ maxLen) (ty : TypeId) :
    ∃ w', (Builtin.delete_ #[t, k] ty #[.map (some b), .string ⟨l.toArray⟩]).run P w = .ok (.tuple #[]) w' ∧ World.isM w' P k b (delM M l) ∧ w.mapTurned w' b := by
  obtain ⟨D, h1, h2, h3, h4, h5⟩ := h
  have hk : keyOf P k (.string ⟨l.toArray⟩) = some (.string l) := by rw [keyOf_string_mk hs (show l.toArray.size ≤ maxLen by simpa using hl)]
  obtain ⟨w', r, o, t⟩ := h1.drop K ht hk ty
  have hsz : Maps.size (D.del (.string l)) = (delM M l).length := by
    have e1 := Maps.size_del (k := .string l) (h1.tidy K)
    have e2 := del_len M l
    rw [h4, h3] at e1
    omega
  refine ⟨w', r, ⟨_, ?_, h2.del l, hsz, fun l' => ?_, fun l' z => ?_⟩, t⟩
  · obtain ⟨es, clock, hb, F, hs', hD⟩ := o
    refine ⟨es, clock, hb, F, ?_, hD⟩
    rw [← hsz, hD]
    simp [Maps.size, length_sorted]
  · by_cases e : l' = l
    · subst e; rw [Maps.has_del_same, lk_del_same h2]; rfl
    · rw [Maps.has_del_other (by intro c; injection c with c; exact e c), lk_del_other M e]; exact h4 l'
  · by_cases e : l' = l
    · subst e; rw [Maps.atKey_del_same, lk_del_same h2]
    · rw [Maps.atKey_del_other (by intro c; injection c with c; exact e c), lk_del_other M e]; exact h5 l' z
theorem World.isM.look (h : World.isM w P k b M) (K : Keyed P k) {t e : TypeId} (ht : P.underlying t = some (.map k e)) (hs : P.underlying k = some .string) {z : Value} (hz : (zeroValue e).run P w = .ok z w) {l : List UInt8} (hl : l.length ≤ maxLen) :
    (Instr.lookup t (.map (some b)) (.string ⟨l.toArray⟩) true).run P w = .ok (.tuple #[(lkM M l).getD z, .bool (lkM M l).isSome]) w := by
  obtain ⟨D, h1, h2, h3, h4, h5⟩ := h
  have hk : keyOf P k (.string ⟨l.toArray⟩) = some (.string l) := by rw [keyOf_string_mk hs (show l.toArray.size ≤ maxLen by simpa using hl)]
  obtain ⟨v, ps, r, hv⟩ := h1.look_ok K ht hz (show heldR z = some (.held z, []) from rfl) hk
  rw [r, h4]
  have e : v = (lkM M l).getD z := by
    simp only [heldR, Option.some.injEq, Prod.mk.injEq, h5] at hv
    cases hm : lkM M l with
    | none => rw [hm] at hv; have := hv.1; injection this
    | some u => rw [hm] at hv; have := hv.1; injection this
  rw [e]
theorem World.isM.len (h : World.isM w P k b M) {t e : TypeId} (ht : P.underlying t = some (.map k e)) (ty : TypeId) : (Builtin.len_ #[t] ty #[.map (some b)]).run P w = .ok (.int .i64 M.length) w := by
  obtain ⟨D, h1, _, h3, _⟩ := h
  rw [h1.len ht ty, h3]

section
variable {ops : Array Oper} {rest : List Oper} {o : Oper} {a : Act} {Q : Exit → Act → World → Prop}
theorem wpL_look (hg : o.guard = none) (m x : Operand) (t : TypeId) (hop : o.op = Op.lookup t m x true) (e : TypeId) (K : Keyed P k) (ht : P.underlying t = some (.map k e)) (hs : P.underlying k = some .string) {z : Value} (hz : (zeroValue e).run P w = .ok z w)
    (hm : a.eval m = .map (some b)) (h : World.isM w P k b M) (l : List UInt8) (hl : l.length ≤ maxLen) (hx : a.eval x = .string ⟨l.toArray⟩)
    (hK : wpList P ops Q rest (a.put o.dst (.tuple #[(lkM M l).getD z, .bool (lkM M l).isSome])) w) : wpList P ops Q (o :: rest) a w := by
  refine wpList_plain hg fun K' hK' => ?_
  unfold Oper.wp
  simp [execOp, hop, hm, hx, h.look K ht hs hz hl, Result.andThen]
  exact hK' _ _ hK
theorem wpL_mdel (hg : o.guard = none) (m x : Operand) (t : TypeId) (hop : o.op = Op.call { callee := Callee.builtin Builtin.delete, args := #[m, x], argTypes := #[t, k] }) (e : TypeId) (K : Keyed P k) (ht : P.underlying t = some (.map k e)) (hs : P.underlying k = some .string)
    (hm : a.eval m = .map (some b)) (h : World.isM w P k b M) (l : List UInt8) (hl : l.length ≤ maxLen) (hx : a.eval x = .string ⟨l.toArray⟩)
    (hK : ∀ w', World.isM w' P k b (delM M l) → w.mapTurned w' b → wpList P ops Q rest (a.put o.dst (.tuple #[])) w') : wpList P ops Q (o :: rest) a w := by
  refine wpList_plain hg fun K' hK' => ?_
  obtain ⟨w', r, r1, r2⟩ := h.del K ht hs hl o.type
  unfold Oper.wp
  simp [execOp, hop, resolve, invoke, builtin, hm, hx, r, Result.andThen]
  exact hK' _ _ (hK w' r1 r2)
end
end Go.Proofs.YtemdgilifnhdpaaGreatDoor
end

section
namespace Go.Proofs.YtemdgilifnhdpaaGreatDoor
open Go.RowKit

section
variable {α β : Type}
theorem lk_map (f : List UInt8 → α → β) (M : List (List UInt8 × α)) (l : List UInt8) : lkM (M.map fun x => (x.1, f x.1 x.2)) l = (lkM M l).map (f l) := by
  induction M with
  | nil => rfl
  | cons x r ih =>
    obtain ⟨k, u⟩ := x
    simp only [List.map_cons, lkM]
    by_cases h : k = l
    · subst h; simp
    · simp [h, ih]
theorem del_map (f : List UInt8 → α → β) (M : List (List UInt8 × α)) (l : List UInt8) : delM (M.map fun x => (x.1, f x.1 x.2)) l = (delM M l).map fun x => (x.1, f x.1 x.2) := by
  induction M with
  | nil => rfl
  | cons x r ih =>
    obtain ⟨k, u⟩ := x
    simp only [List.map_cons, delM]
    by_cases h : k = l
    · simp [h]
    · simp [h, ih]
theorem map_keys {f g : List UInt8 → α → β} {M : List (List UInt8 × α)} (h : ∀ x ∈ M, f x.1 = g x.1) : (M.map fun x => (x.1, f x.1 x.2)) = M.map fun x => (x.1, g x.1 x.2) :=
  List.map_congr_left fun x hx => by rw [h x hx]
theorem put_map {f g : List UInt8 → α → β} {M : List (List UInt8 × α)} (h1 : OneM M) {l : List UInt8} (h : ∀ k, k ≠ l → f k = g k) (v : α) :
    putM (M.map fun x => (x.1, f x.1 x.2)) l (g l v) = (putM M l v).map fun x => (x.1, g x.1 x.2) := by
  induction M with
  | nil => rfl
  | cons x r ih =>
    obtain ⟨k, u⟩ := x
    have h2 := List.pairwise_cons.1 h1
    simp only [List.map_cons, putM]
    by_cases hk : k = l
    · subst hk
      simp only [if_true, List.map_cons]
      rw [map_keys (fun x hx => h x.1 (h2.1 x hx).symm)]
    · simp only [if_neg hk, List.map_cons, ih h2.2, h k hk]
theorem keys_map (f : List UInt8 → α → β) (M : List (List UInt8 × α)) : (M.map fun x => (x.1, f x.1 x.2)).map (·.1) = M.map (·.1) := by simp [List.map_map]
theorem put_keys (M : List (List UInt8 × α)) (l : List UInt8) (v : α) : (putM M l v).map (·.1) = if (lkM M l).isSome then M.map (·.1) else M.map (·.1) ++ [l] := by
  induction M with
  | nil => rfl
  | cons x r ih =>
    obtain ⟨k, u⟩ := x
    simp only [putM, lkM]
    by_cases h : k = l
    · simp [h]
    · simp only [if_neg h, List.map_cons, ih]; split <;> simp
end

structure Fil where
  b : List UInt8
  mt : Int
  ve : Nat
structure Wrl where
  L : List (List UInt8 × Fil)
  now : Int
  ver : Nat
def wlast : Int := 253402300799
def pathF (l : List UInt8) : Bool := decide (cleanL l = (l, 0)) && !(l.getLast? == some 47)
def putW (s : Wrl) (l b : List UInt8) : Wrl × Int :=
  if pathF l = false then (s, 1) else
  if 1048576 < b.length ∨ ((lkM s.L l).isSome = false ∧ s.L.length = 1000) then (s, 6) else
  (⟨putM s.L l ⟨b, s.now, s.ver + 1⟩, s.now, s.ver + 1⟩, 0)
def removeW (s : Wrl) (l : List UInt8) : Wrl × Int := if (lkM s.L l).isSome then (⟨delM s.L l, s.now, s.ver⟩, 0) else (s, 3)
def tickW (s : Wrl) (n : Int) : Wrl × Int := if n < 0 then (s, 1) else (⟨s.L, s.now + min n (wlast - s.now), s.ver⟩, 0)
def folderW (s : Wrl) (l : List UInt8) : Bool := decide (l.head? = some 47) && decide (l.getLast? = some 47) && (decide (l = [47]) || s.L.any fun x => decide (l <+: x.1))
def listW (s : Wrl) : List (List UInt8) := (s.L.map (·.1)).mergeSort (fun x y => decide (x ≤ y))
def newW (now : Int) : Option Wrl := if now < 0 ∨ wlast < now then none else some ⟨[], now, 0⟩
structure Wok (s : Wrl) : Prop where
  one : OneM s.L
  few : s.L.length ≤ 1000
  now0 : 0 ≤ s.now
  now1 : s.now ≤ wlast
  path : ∀ x ∈ s.L, pathF x.1 = true
  size : ∀ x ∈ s.L, x.2.b.length ≤ 1048576
  mt : ∀ x ∈ s.L, x.2.mt ≤ s.now ∧ 0 ≤ x.2.mt
  ve : ∀ x ∈ s.L, x.2.ve ≤ s.ver

theorem newW_ok {now : Int} {s : Wrl} (h : newW now = some s) : Wok s ∧ s.L = [] ∧ s.now = now ∧ s.ver = 0 := by
  unfold newW at h
  split at h
  · cases h
  · rename_i hn
    injection h with h; subst h
    exact ⟨⟨List.Pairwise.nil, by simp, by simp; omega, by simp; omega, by simp, by simp, by simp, by simp⟩, rfl, rfl, rfl⟩
theorem putW_ok {s : Wrl} (h : Wok s) (l b : List UInt8) : Wok (putW s l b).1 ∧ (putW s l b).1.now = s.now ∧ s.ver ≤ (putW s l b).1.ver ∧ (putW s l b).1.ver ≤ s.ver + 1 := by
  unfold putW
  split
  · exact ⟨h, rfl, Nat.le_refl _, Nat.le_succ _⟩
  · rename_i hp
    split
    · exact ⟨h, rfl, Nat.le_refl _, Nat.le_succ _⟩
    · rename_i hb
      have hb1 : ¬ 1048576 < b.length := fun e => hb (.inl e)
      have hb2 : ¬ ((lkM s.L l).isSome = false ∧ s.L.length = 1000) := fun e => hb (.inr e)
      refine ⟨⟨h.one.put _ _, ?_, h.now0, h.now1, fun x hx => ?_, fun x hx => ?_, fun x hx => ?_, fun x hx => ?_⟩, rfl, Nat.le_succ _, Nat.le_refl _⟩
      · show (putM s.L l _).length ≤ 1000
        rw [put_len]
        have := h.few
        split
        · omega
        · rename_i hn
          have : s.L.length ≠ 1000 := fun e => hb2 ⟨by simpa using hn, e⟩
          omega
      · rcases mem_put hx with rfl | hx
        · simpa using hp
        · exact h.path x hx
      · rcases mem_put hx with rfl | hx
        · show b.length ≤ _; omega
        · exact h.size x hx
      · rcases mem_put hx with rfl | hx
        · exact ⟨Int.le_refl _, h.now0⟩
        · exact h.mt x hx
      · rcases mem_put hx with rfl | hx
        · exact Nat.le_refl _
        · exact Nat.le_succ_of_le (h.ve x hx)
theorem removeW_ok {s : Wrl} (h : Wok s) (l : List UInt8) : Wok (removeW s l).1 ∧ (removeW s l).1.now = s.now ∧ (removeW s l).1.ver = s.ver := by
  unfold removeW
  split
  · have hd := del_len s.L l
    exact ⟨⟨h.one.del _, by show (delM s.L l).length ≤ 1000; have := h.few; omega, h.now0, h.now1, fun x hx => h.path x (mem_del hx), fun x hx => h.size x (mem_del hx), fun x hx => h.mt x (mem_del hx), fun x hx => h.ve x (mem_del hx)⟩, rfl, rfl⟩
  · exact ⟨h, rfl, rfl⟩
theorem tickW_ok {s : Wrl} (h : Wok s) (n : Int) : Wok (tickW s n).1 ∧ s.now ≤ (tickW s n).1.now ∧ (tickW s n).1.ver = s.ver := by
  unfold tickW
  have h0 := h.now0
  have h1 := h.now1
  split
  · exact ⟨h, Int.le_refl _, rfl⟩
  · exact ⟨⟨h.one, h.few, by show (0 : Int) ≤ s.now + min n (wlast - s.now); omega, by show s.now + min n (wlast - s.now) ≤ wlast; omega, h.path, h.size, fun x hx => ⟨by have := (h.mt x hx).1; show _ ≤ s.now + min n (wlast - s.now); omega, (h.mt x hx).2⟩, h.ve⟩, by show s.now ≤ s.now + min n (wlast - s.now); omega, rfl⟩
end Go.Proofs.YtemdgilifnhdpaaGreatDoor
end

section
namespace Go.Proofs.YtemdgilifnhdpaaGreatDoor
open Go.RowKit
open Go.Maps (Keyed IsMap Tidy)
open Go.WideMaps (keyOf_string_mk)

def World.rgM (w : World) (P : Program) (k : TypeId) (b r : Nat) (M : List (List UInt8 × Value)) (left : List UInt8 → Bool) (cnt : Nat) : Prop :=
  ∃ (D : DataW Value) (lf : Lit → Bool), w.ranges P k heldR b r M.length D lf cnt ∧ (∀ l, lf (.string l) = left l) ∧ OneM M ∧ Maps.size D = M.length ∧ (∀ l, Maps.has D (.string l) = (lkM M l).isSome) ∧ ∀ l z, D.atKey (.string l) z = match lkM M l with | some v => .held v | none => z

variable {P : Program} {k : TypeId} {w : World} {b r : Nat} {M : List (List UInt8 × Value)} {left : List UInt8 → Bool} {cnt : Nat}
theorem World.rgM.isM (h : World.rgM w P k b r M left cnt) : World.isM w P k b M := by
  obtain ⟨D, lf, h1, _, h2⟩ := h; exact ⟨D, h1.owns, h2⟩
theorem World.rgM.kept {w' : World} {row : Option Nat} (h : World.rgM w P k b r M left cnt) (hg : w.grownBy w' row) (hb : some b ≠ row) (hr : some r ≠ row) : World.rgM w' P k b r M left cnt := by
  obtain ⟨D, lf, h1, h2⟩ := h; exact ⟨D, lf, h1.kept hg hb hr, h2⟩
theorem World.rgM.left_eq (h : World.rgM w P k b r M left cnt) : w.rangeLeft b r = cnt := by obtain ⟨D, lf, h1, _⟩ := h; exact h1.left_eq
theorem keyStr {key : Value} {kl : Lit} (hs : P.underlying k = some .string) (h : keyOf P k key = some kl) : ∃ l : List UInt8, key = .string ⟨l.toArray⟩ ∧ kl = .string l ∧ l.length ≤ maxLen := by
  cases key <;> simp [keyOf, hs, mapKey] at h
  rename_i s
  obtain ⟨h1, rfl⟩ := h
  exact ⟨s.data.toList, by cases s; rfl, rfl, by have : s.data.size ≤ maxLen := h1; simpa using this⟩

section
variable {ops : Array Oper} {rest : List Oper} {o : Oper} {a : Act} {Q : Exit → Act → World → Prop}
theorem wpL_mrange (hg : o.guard = none) (m : Operand) (t : TypeId) (hop : o.op = Op.range t m) (e : TypeId) (K : Keyed P k) (ht : P.underlying t = some (.map k e)) (hm : a.eval m = .map (some b)) (h : World.isM w P k b M)
    (hK : ∀ w', World.rgM w' P k b w.heap.size M (fun l => (lkM M l).isSome) M.length → w.grownBy w' none → w'.heap.size = w.heap.size + 1 → wpList P ops Q rest (a.put o.dst (.pointer (some ⟨w.heap.size, 0, none⟩))) w') :
    wpList P ops Q (o :: rest) a w := by
  obtain ⟨D, h1, h2, h3, h4, h5⟩ := h
  refine wpList_range_own w hg m t hop k e K ht heldR b M.length D hm h1 fun w' r1 r2 r3 => hK w' ⟨D, _, h3 ▸ r1, fun l => h4 l, h2, h3, h4, h5⟩ r2 r3
theorem wpL_mnext (hg : o.guard = none) (it : Operand) (hop : o.op = Op.next it false) (K : Keyed P k) (hs : P.underlying k = some .string) (hit : a.eval it = .pointer (some ⟨r, 0, none⟩)) (h : World.rgM w P k b r M left cnt)
    (hDone : cnt = 0 → (∀ l, left l = false) → wpList P ops Q rest (a.put o.dst (.tuple #[.bool false])) w)
    (hMore : ∀ (l : List UInt8) (v : Value) (w' : World) (cnt' : Nat), left l = true → lkM M l = some v → l.length ≤ maxLen → World.rgM w' P k b r M (fun z => left z && !(decide (z = l))) cnt' → cnt' < cnt →
      w.grownBy w' (some r) → w'.heap.size = w.heap.size → (Instr.entry (.pointer (some ⟨r, 0, none⟩))).run P w' = .ok (.tuple #[.string ⟨l.toArray⟩, v]) w' → wpList P ops Q rest (a.put o.dst (.tuple #[.bool true, .string ⟨l.toArray⟩, v])) w') :
    wpList P ops Q (o :: rest) a w := by
  obtain ⟨D, lf, h1, hlf, h2, h3, h4, h5⟩ := h
  refine wpList_next_ranges w hg it hop k K heldR (fun l : List UInt8 => .string ⟨l.toArray⟩) (fun v : Value => v) (fun key kl hk => by obtain ⟨l, e, _⟩ := keyStr hs hk; exact ⟨l, e⟩) (fun v y _ => ⟨v, rfl⟩) b r M.length D lf cnt hit h1 (fun h0 hl => hDone h0 fun l => by rw [← hlf]; exact hl _) ?_
  intro x c kl y w' cnt' hk hlk hv hat hrg hlt hgr hsz hen
  obtain ⟨l, e1, rfl, hl⟩ := keyStr hs hk
  have exl : x = l := by injection e1 with e1; injection e1 with e1; simpa using e1
  subst exl
  have hlv : lkM M x = some c := by
    have := hat .nil
    rw [h5] at this
    cases hm : lkM M x with
    | none =>
      rw [hm] at this
      have hh := hat (.lit (.bool true))
      rw [h5, hm] at hh
      rw [← this] at hh; cases hh
    | some u =>
      rw [hm] at this
      have hy : y = (.held c, []) := (Option.some.inj hv).symm
      rw [hy] at this
      injection this with this
      rw [this]
  exact hMore x c w' cnt' (by rw [← hlf]; exact hlk) hlv hl ⟨D, _, hrg, fun z => by
    show (lf (.string z) && !(Lit.string z).sameKey (.string x)) = _
    rw [hlf]
    congr 2
    by_cases e : z = x
    · subst e; simp [Lit.sameKey]
    · rw [Maps.sameKey_ne (by intro c; injection c with c; exact e c)]; simp [e], h2, h3, h4, h5⟩ hlt hgr hsz hen
end
end Go.Proofs.YtemdgilifnhdpaaGreatDoor
end

section
namespace Go.Proofs.YtemdgilifnhdpaaGreatDoor
open Go.RowKit
open Go.Maps (Keyed)

def entV (l : List UInt8) (A : Option Addr × Nat) (f : Fil) : Value := .agg #[.string (str l), .slice A.1 f.b.length A.2, .int .i64 f.mt, .int .i64 (f.ve : Int)]
def Wrl.cells (s : Wrl) (mb : Nat) : Array Value := #[.map (some mb), .int .i64 s.now, .int .i64 (s.ver : Int)]
def Wrow (w : World) (p : Nat) (s : Wrl) (mb : Nat) : Prop := w.heap[p]? = some (.cells (s.cells mb) 46 (0, 0))
def enc (pl : List UInt8 → Option Addr × Nat) (L : List (List UInt8 × Fil)) : List (List UInt8 × Value) := L.map fun x => (x.1, entV x.1 (pl x.1) x.2)
def KW (k : Nat) : Nat → Prop := fun i => i = k ∨ i = k + 1
structure WdAt (w : World) (o : Ow) (k p : Nat) (s : Wrl) : Prop where
  own : o p = k
  row : ∃ mb pl, Wrow w p s mb ∧ o mb = k + 1 ∧ mb < w.heap.size ∧ World.isM w Tryz.prog 9 mb (enc pl s.L) ∧ ∀ x ∈ s.L, Sl w o (k + 2) 1 (pl x.1).1 x.2.b.length (pl x.1).2 (bc x.2.b) ∧ ((pl x.1).1 = none → (pl x.1).2 = 0)
theorem keyedS : Keyed Tryz.prog 9 := Go.Maps.string_keyed Tryz.underlying9
theorem mapU : Tryz.prog.underlying 44 = some (.map 9 110) := Tryz.underlying44
section
variable {w w' : World} {o o' : Ow} {k p mb : Nat} {s : Wrl}
theorem Wrow.c0 (h : Wrow w p s mb) : w.cell? ⟨p, 0, none⟩ = some (.map (some mb)) := (row_facts h 0 _ rfl).1
theorem Wrow.c1 (h : Wrow w p s mb) : w.cell? ⟨p, 1, none⟩ = some (.int .i64 s.now) := (row_facts h 1 _ rfl).1
theorem Wrow.c2 (h : Wrow w p s mb) : w.cell? ⟨p, 2, none⟩ = some (.int .i64 (s.ver : Int)) := (row_facts h 2 _ rfl).1
theorem Wrow.fz (h : Wrow w p s mb) (i : Nat) (hi : i < 3) : w.frozen? ⟨p, i, none⟩ = false := by
  obtain ⟨u, hu⟩ : ∃ u, (s.cells mb)[i]? = some u := ⟨(s.cells mb)[i]'(by simp [Wrl.cells]; omega), by simp⟩
  exact (row_facts h i u hu).2
theorem Wrow.stp {K : Nat → Prop} (h : Wrow w p s mb) (e : Stp K w o w' o') (hk : ¬ K (o p)) : Wrow w' p s mb := (e.keep p (row_lt h) hk).trans h
theorem Wrow.ext (h : Wrow w p s mb) (e : Ext w w') : Wrow w' p s mb := (e.block p (row_lt h)).trans h
theorem WdAt.stp {K : Nat → Prop} (h : WdAt w o k p s) (st : Stp K w o w' o') (h0 : ¬ K k) (h1 : ¬ K (k + 1)) (h2 : ¬ K (k + 2)) : WdAt w' o' k p s := by
  obtain ⟨mb, pl, hh, hm, hl, hi, hs⟩ := h.row
  exact ⟨by rw [st.own p (row_lt hh)]; exact h.own, mb, pl, hh.stp st (by rw [h.own]; exact h0), by rw [st.own mb hl]; exact hm, Nat.lt_of_lt_of_le hl st.size, hi.same (st.keep mb hl (by rw [hm]; exact h1)), fun x hx => ⟨(hs x hx).1.stp st h2, (hs x hx).2⟩⟩
theorem WdAt.ext (h : WdAt w o k p s) (e : Ext w w') : WdAt w' o k p s := h.stp (K := fun _ => False) (Stp.ext e) (fun x => x) (fun x => x) (fun x => x)
theorem WdAt.ext2 (h : WdAt w o k p s) (e : Ext w w') (ho : ∀ b, b < w.heap.size → o' b = o b) : WdAt w' o' k p s := h.stp (K := fun _ => False) (Stp.ext2 e ho) (fun x => x) (fun x => x) (fun x => x)
theorem WdAt.lt (h : WdAt w o k p s) : p < w.heap.size := by obtain ⟨mb, pl, hh, _⟩ := h.row; exact row_lt hh
end
set_option maxRecDepth 100000 in
set_option maxHeartbeats 2000000 in
theorem none_no (p mb : Nat) (w : World) (h : w.cell? ⟨p, 0, none⟩ = some (.map (some mb))) : Calls Tryz.prog 49 #[.pointer (some ⟨p, 0, none⟩)] w (Gives (.bool false) w) := by
  have q53 : ∀ (w : World) (r : Option Nat), (binOp .eql 44 (.map r) (.map none)).run Tryz.prog w = .ok (.bool r.isNone) w := fun w r => run_eql_map_nil w _ _ _ r Tryz.underlying44
  go_enter Tryz.func49, Tryz.ntmps49
  go_wp2
  go_ret
  exact ⟨rfl, by (repeat (first | exact Ext.rfl' _ | assumption | refine Ext.dr ?_ | refine Ext.drN ?_ _ | refine Ext.al ?_ _ | refine Ext.st ?_ (by simp) _ | refine Ext.tr ?_ (by assumption)))⟩
set_option maxRecDepth 100000 in
set_option maxHeartbeats 2000000 in
theorem sClone_c (k : Nat) (l : List UInt8) (B : Option Addr) (n d : Nat) (hn : n = l.length) (hna : B = none → d = 0) (w : World) (o : Ow) (h : Rd w B (bc l)) (hb : n ≤ 140737488351232) :
    Calls Tryz.prog 52 #[.slice B n d] w (Turns (fun _ => False) w o fun v w' o' => ∃ A c, v = .slice A n c ∧ Sl w' o' k 1 A n c (bc l) ∧ (A = none → c = 0)) := by
  subst hn
  have HR := Lib.hid h
  clear h
  have hms : maxLen = 9223372036854775807 := rfl
  have l0 : (0 : Int) ≤ (l.length : Int) := by omega
  have q22 : ∀ (w : World) (a : Option Addr) (n c n' c' : Nat), (binOp .eql 22 (.slice a n c) (.slice none n' c')).run Tryz.prog w = .ok (.bool a.isNone) w := fun w a n c n' c' => Lib.run_eql_slice_nil w _ _ a n c n' c' Tryz.underlying22
  cases B with
  | none =>
    obtain rfl := hna rfl
    have hl : l = [] := by
      rcases HR.out with h | ⟨b, f, e, _⟩
      · simpa [bc] using h
      · cases e
    subst hl
    go_enter Tryz.func52, Tryz.ntmps52
    go_wp2
    go_ret
    exact Turns.mk o rfl ⟨none, 0, rfl, by simpa [bc] using Sl.nil_ _ o k 1 none, fun _ => rfl⟩ (Stp.ext (by (repeat (first | exact Ext.rfl' _ | assumption | refine Ext.dr ?_ | refine Ext.drN ?_ _ | refine Ext.al ?_ _ | refine Ext.st ?_ (by simp) _ | refine Ext.tr ?_ (by assumption)))))
  | some B =>
    clear hna
    go_enter Tryz.func52, Tryz.ntmps52
    go_wp2_with (first
      | (at_builtin; refine wpL_fresh slt_u8 (.tmp 5) (.tmp 6) rfl rfl (o := o) k rfl rfl (Sl.src Tryz.underlying22 (HR.out.ext (by (repeat (first | exact Ext.rfl' _ | assumption | refine Ext.dr ?_ | refine Ext.drN ?_ _ | refine Ext.al ?_ _ | refine Ext.st ?_ (by simp) _ | refine Ext.tr ?_ (by assumption))))) (by simp) (by omega) (bc_one _) d) (by omega) (by omega) ?_; intro A1 c1 w1 o1 hs1 hst1 hn1; have st1 : Stp (fun _ => False) w o w1 o1 := (Stp.ext (by (repeat (first | exact Ext.rfl' _ | assumption | refine Ext.dr ?_ | refine Ext.drN ?_ _ | refine Ext.al ?_ _ | refine Ext.st ?_ (by simp) _ | refine Ext.tr ?_ (by assumption))))).tr hst1))
    go_ret
    exact Turns.mk o1 rfl ⟨A1, c1, rfl, hs1, hn1⟩ st1
end Go.Proofs.YtemdgilifnhdpaaGreatDoor
end

section
namespace Go.Proofs.YtemdgilifnhdpaaGreatDoor
open Go.RowKit

theorem WdAt.fresh (W : World) (o : Ow) (k : Nat) (now : Int) :
    WdAt ((W.alloc (.map #[] 0)).alloc (.cells #[.map (some W.heap.size), .int .i64 now, .int .i64 0] 46)) (fun b => if b = W.heap.size then k + 1 else if b = W.heap.size + 1 then k else o b) k (W.heap.size + 1) ⟨[], now, 0⟩ := by
  have e1 : (W.alloc (.map #[] 0)).heap.size = W.heap.size + 1 := by simp
  have r := heap_alloc_new (W.alloc (.map #[] 0)) (.cells #[.map (some W.heap.size), .int .i64 now, .int .i64 0] 46)
  rw [e1] at r
  refine ⟨by simp, W.heap.size, fun _ => (none, 0), r, by simp, (by simp; omega), ?_, fun x hx => by cases hx⟩
  exact (World.isM_made W Tryz.prog 9).same (Below.heap_alloc _ _ _ (by simp))
theorem WdAt.fresh_stp (W : World) (o : Ow) (k : Nat) (now : Int) :
    Stp (fun _ => False) W o ((W.alloc (.map #[] 0)).alloc (.cells #[.map (some W.heap.size), .int .i64 now, .int .i64 0] 46)) (fun b => if b = W.heap.size then k + 1 else if b = W.heap.size + 1 then k else o b) :=
  Stp.ext2 (by (repeat (first | exact Ext.rfl' _ | assumption | refine Ext.dr ?_ | refine Ext.drN ?_ _ | refine Ext.al ?_ _ | refine Ext.st ?_ (by simp) _ | refine Ext.tr ?_ (by assumption)))) (fun b hb => by rw [if_neg (by omega), if_neg (by omega)])
set_option maxRecDepth 100000 in
set_option maxHeartbeats 2000000 in
theorem wNew_yes (k : Nat) (now : Int) (h0 : 0 ≤ now) (h1 : now ≤ 253402300799) (w : World) (o : Ow) :
    Calls Tryz.prog 41 #[.int .i64 now] w (Turns (fun _ => False) w o fun v w' o' => ∃ p, v = .tuple #[.pointer (some ⟨p, 0, none⟩), .int .i64 0] ∧ WdAt w' o' k p ⟨[], now, 0⟩ ∧ w.heap.size ≤ p) := by
  have a1 : ¬ now < 0 := by omega
  have a2 : ¬ 253402300799 < now := by omega
  have hmm := @run_makeMap Tryz.prog
  go_enter Tryz.func41, Tryz.ntmps41
  go_wp2
  go_ret2
  exact Turns.mk _ rfl ⟨_, rfl, WdAt.fresh w o k now, Nat.le_succ _⟩ (WdAt.fresh_stp w o k now)
set_option maxRecDepth 100000 in
set_option maxHeartbeats 2000000 in
theorem wNow_c (w : World) (o : Ow) (k p : Nat) (s : Wrl) (h : WdAt w o k p s) : Calls Tryz.prog 31 #[.pointer (some ⟨p, 0, none⟩)] w (Gives (.int .i64 s.now) w) := by
  obtain ⟨mb, pl, hh, _⟩ := h.row
  have c0 := hh.c0
  have HC := Lib.hid (fun w' (e : Ext w w') => (hh.ext e).c1)
  go_enter Tryz.func31, Tryz.ntmps31
  go_wp2_with (go_at_call 49; refine (none_no p mb _ c0).mono ?_; rintro e w1 ⟨rfl, hx1⟩; have c1 := HC.out w1 hx1)
  go_ret
  exact ⟨rfl, by (repeat (first | exact Ext.rfl' _ | assumption | refine Ext.dr ?_ | refine Ext.drN ?_ _ | refine Ext.al ?_ _ | refine Ext.st ?_ (by simp) _ | refine Ext.tr ?_ (by assumption)))⟩
set_option maxRecDepth 100000 in
set_option maxHeartbeats 4000000 in
theorem wTick_neg (w : World) (p mb : Nat) (n : Int) (hn : n < 0) (hc : w.cell? ⟨p, 0, none⟩ = some (.map (some mb))) : Calls Tryz.prog 46 #[.pointer (some ⟨p, 0, none⟩), .int .i64 n] w (Gives (.int .i64 1) w) := by
  go_enter Tryz.func46, Tryz.ntmps46
  go_wp2_with (go_at_call 49; refine (none_no p mb _ hc).mono ?_; rintro e w1 ⟨rfl, hx1⟩)
  go_ret
  exact ⟨rfl, by (repeat (first | exact Ext.rfl' _ | assumption | refine Ext.dr ?_ | refine Ext.drN ?_ _ | refine Ext.al ?_ _ | refine Ext.st ?_ (by simp) _ | refine Ext.tr ?_ (by assumption)))⟩
end Go.Proofs.YtemdgilifnhdpaaGreatDoor
end
