/-
Words for memory that all contracts use: a slice that reads as a list of cells, and the relation of a world to a later one that keeps all that was there. No program in sight.
-/
import Derived.WalkKit
import Derived.WalkLawsBesides
import Derived.WalkSpells
import Derived.BigQuiet
import Derived.Deep.QuietTactic
import Derived.Deep.Draws
import Derived.Lib.Hide
import Derived.Maps.AppendAt
import Derived.Deep.RegionHeld3
import Derived.Deep.DeepCutAuto
import Derived.Laws.EntriesVeiled
import Derived.StillTailTactics
set_option linter.unusedVariables false
set_option linter.unusedSimpArgs false
namespace Go.Proofs.YtemdgilifnhdpaaGreatDoor
open Go.RowKit

/-- The later world keeps every block of the earlier one. -/
abbrev Ext (w w' : World) : Prop := Below w.heap.size w w'
theorem Ext.rfl' (w : World) : Ext w w := Below.refl _ _
theorem Ext.tr {a b c : World} (h : Ext a b) (k : Ext b c) : Ext a c := Below.trans h (k.mono h.size)
theorem Ext.undr {a b : World} (h : Ext a.drew b) : Ext a b := ⟨h.os, h.tape, h.output, h.size, h.block⟩
theorem Ext.al {a b : World} (h : Ext a b) (o : Obj) : Ext a (b.alloc o) := Below.alloc h h.size o
theorem Ext.dr {a b : World} (h : Ext a b) : Ext a b.drew := Below.drew h
theorem Ext.drN {a b : World} (h : Ext a b) (n : Nat) : Ext a (b.drewN n) := ⟨h.os, h.tape, h.output, h.size, h.block⟩
theorem Ext.st {a b : World} (h : Ext a b) {p : Addr} (hp : a.heap.size ≤ p.block) (u : Value) : Ext a (b.setCell p u) := Below.setCell h hp u
theorem Ext.gr {a b c : World} {row : Option Nat} (h : Ext a b) (hg : b.grownBy c row) (hr : ∀ k, row = some k → a.heap.size ≤ k) : Ext a c := Below.grown h hg h.size hr

theorem add_mk (b o j : Nat) : (⟨b, o, none⟩ : Addr).add j = ⟨b, o + j, none⟩ := by
  unfold Addr.add
  by_cases h : j = 0 <;> simp [h]

theorem lt_of_cell {w : World} {a : Addr} {v : Value} (h : w.cell? a = some v) : a.block < w.heap.size := by
  rcases Nat.lt_or_ge a.block w.heap.size with hl | hg
  · exact hl
  · unfold World.cell? at h
    rw [Array.getElem?_eq_none hg] at h
    cases h

/-- The cells from the address on read as xs. -/
def Rd (w : World) (A : Option Addr) (xs : List Value) : Prop :=
  xs = [] ∨ ∃ b o, A = some ⟨b, o, none⟩ ∧ ∀ j u, xs[j]? = some u → w.cell? ⟨b, o + j, none⟩ = some u

theorem Rd.nil_ (w : World) (A : Option Addr) : Rd w A [] := .inl rfl
theorem Rd.ext {w w' : World} {A : Option Addr} {xs : List Value} (h : Rd w A xs) (e : Ext w w') : Rd w' A xs := by
  rcases h with h | ⟨b, o, hA, hc⟩
  · exact .inl h
  · refine .inr ⟨b, o, hA, fun j u hu => ?_⟩
    have := hc j u hu
    rw [← this]
    exact e.cell (lt_of_cell this)
theorem Rd.at_ {w : World} {A : Option Addr} {xs : List Value} (h : Rd w A xs) (hp : 0 < xs.length) :
    ∃ b o, A = some ⟨b, o, none⟩ ∧ b < w.heap.size ∧ ∀ j u, xs[j]? = some u → w.cell? ⟨b, o + j, none⟩ = some u := by
  rcases h with h | ⟨b, o, hA, hc⟩
  · subst h; simp at hp
  · exact ⟨b, o, hA, lt_of_cell (hc 0 xs[0] (List.getElem?_eq_getElem hp)), hc⟩
theorem Rd.drop {w : World} {b o : Nat} {xs : List Value} (h : Rd w (some ⟨b, o, none⟩) xs) (k : Nat) : Rd w (some ⟨b, o + k, none⟩) (xs.drop k) := by
  rcases h with h | ⟨b, o, hA, hc⟩
  · subst h; exact .inl (by simp)
  · cases hA
    exact .inr ⟨_, _, rfl, fun j u hu => by rw [Nat.add_assoc]; exact hc _ _ (by simpa using hu)⟩
theorem Rd.take {w : World} {A : Option Addr} {xs : List Value} (h : Rd w A xs) (k : Nat) : Rd w A (xs.take k) := by
  rcases h with h | ⟨b, o, hA, hc⟩
  · subst h; exact .inl (by simp)
  · exact .inr ⟨b, o, hA, fun j u hu => hc j u (by rw [List.getElem?_take] at hu; split at hu; exact hu; cases hu)⟩
theorem Rd.of_own {w : World} {base e size n : Nat} {v : Value} {xs : List Value} (h : w.ownsRow base e size v n xs) :
    ∃ A c, v = .slice A n c ∧ n ≤ c ∧ c ≤ maxLen ∧ Rd w A xs ∧ (A = none → c = 0) := by
  have h0 := h
  rcases h.2 with ⟨hv, hn⟩ | ⟨g, cap, cur, hv, hg, hh, hnc, hcm, hcs, hx⟩
  · refine ⟨none, 0, by rw [hv, hn], by omega, by simp [maxLen], .inl ?_, fun _ => rfl⟩
    have := h.1
    rw [hn] at this
    exact List.eq_nil_of_length_eq_zero (by omega)
  · refine ⟨some ⟨g, 0, none⟩, cap, hv, hnc, hcm, .inr ⟨g, 0, rfl, fun j u hu => ?_⟩, fun h => by cases h⟩
    have := h0.cells (g := g) (by rw [hv]; rfl) j u hu
    rw [add_mk] at this
    exact this

/-- The cells of a list of pairs of numbers. -/
def pc (ps : List (Int × Int)) : List Value := ps.flatMap fun p => [.int .i64 p.1, .int .i64 p.2]
theorem pc_len (ps : List (Int × Int)) : (pc ps).length = ps.length * 2 := by induction ps with | nil => rfl | cons p ps ih => simp [pc, List.flatMap_cons] at *; omega
theorem pc_at0 (ps : List (Int × Int)) (k : Nat) : (pc ps)[k * 2]? = ps[k]?.map fun p => .int .i64 p.1 := by
  induction ps generalizing k with
  | nil => simp [pc]
  | cons p ps ih => cases k with
    | zero => simp [pc]
    | succ k => have := ih k; simp only [pc, List.flatMap_cons] at *; rw [Nat.succ_mul]; simpa using this
theorem pc_at1 (ps : List (Int × Int)) (k : Nat) : (pc ps)[k * 2 + 1]? = ps[k]?.map fun p => .int .i64 p.2 := by
  induction ps generalizing k with
  | nil => simp [pc]
  | cons p ps ih => cases k with
    | zero => simp [pc]
    | succ k => have := ih k; simp only [pc, List.flatMap_cons] at *; rw [Nat.succ_mul]; simpa using this
theorem pc_app (a b : List (Int × Int)) : pc (a ++ b) = pc a ++ pc b := by simp [pc]
theorem pc_succ (ps : List (Int × Int)) (k : Nat) (h : k < ps.length) : pc (ps.take (k + 1)) = pc (ps.take k) ++ [.int .i64 ps[k].1, .int .i64 ps[k].2] := by
  rw [List.take_succ_eq_append_getElem h, pc_app]; rfl
/-- Element k of a slice of pairs, in every later world. -/
theorem Rd.pair {w : World} {A : Option Addr} {ps : List (Int × Int)} (h : Rd w A (pc ps)) {k : Nat} (hk : k < ps.length) :
    ∃ b o, A = some ⟨b, o, none⟩ ∧ b < w.heap.size ∧
      Hid (∀ w', Ext w w' → (w'.cell? ⟨b, o + k * 2, none⟩ = some (.int .i64 ps[k].1) ∧ w'.cell? ⟨b, o + k * 2 + 1, none⟩ = some (.int .i64 ps[k].2))) := by
  obtain ⟨b, o, rfl, hb, _⟩ := h.at_ (by rw [pc_len]; omega)
  refine ⟨b, o, rfl, hb, fun w' e => ?_⟩
  obtain ⟨b', o', he, _, hc'⟩ := (h.ext e).at_ (by rw [pc_len]; omega)
  cases he
  exact ⟨hc' (k * 2) _ (by rw [pc_at0]; simp [hk]), by rw [Nat.add_assoc]; exact hc' (k * 2 + 1) _ (by rw [pc_at1]; simp [hk])⟩

/-- A contract that leaves at most new memory: its result and the world. -/
abbrev Gives (v : Value) (w : World) : Ending → World → Prop := fun e w' => e = .returned v ∧ Ext w w'

/-- A contract that leaves at most new memory, its result of a kind. -/
def Ret (R : Value → World → Prop) (w : World) (e : Ending) (w' : World) : Prop := ∃ v, e = .returned v ∧ R v w' ∧ Ext w w'
theorem Ret.mk {R : Value → World → Prop} {w w' : World} {v : Value} (h : R v w') (x : Ext w w') : Ret R w (.returned v) w' := ⟨v, rfl, h, x⟩
theorem Ret.is {R : Value → World → Prop} {w w' : World} {e : Ending} {v : Value} (he : e = .returned v) (h : R v w') (x : Ext w w') : Ret R w e w' := ⟨v, he, h, x⟩
theorem Ret.out {R : Value → World → Prop} {w w' : World} {e : Ending} (h : Ret R w e w') : ∃ v, e = .returned v ∧ R v w' ∧ Ext w w' := h
/-- A slice of pairs that reads as a list. -/
def IsSlP (ps : List (Int × Int)) (v : Value) (w : World) : Prop := ∃ A c, v = .slice A ps.length c ∧ Rd w A (pc ps) ∧ c ≤ maxLen
/-- Such a slice, and a number. -/
def IsSlPN (r : List (Int × Int) × Int) (v : Value) (w : World) : Prop := ∃ A c, v = .tuple #[.slice A r.1.length c, .int .i64 r.2] ∧ Rd w A (pc r.1) ∧ c ≤ maxLen
theorem IsSlP.mk {ps : List (Int × Int)} {w : World} {A : Option Addr} {n c : Nat} (hn : n = ps.length) (h : Rd w A (pc ps)) (hc : c ≤ maxLen) : IsSlP ps (.slice A n c) w := ⟨A, c, by rw [hn], h, hc⟩
theorem IsSlPN.mk {r : List (Int × Int) × Int} {w : World} {A : Option Addr} {n c : Nat} {x : Int} (hn : n = r.1.length) (hx : x = r.2) (h : Rd w A (pc r.1)) (hc : c ≤ maxLen) : IsSlPN r (.tuple #[.slice A n c, .int .i64 x]) w := ⟨A, c, by rw [hn, hx], h, hc⟩
theorem IsSlPN.none_ (w : World) (x : Int) : IsSlPN ([], x) (.tuple #[.slice none 0 0, .int .i64 x]) w := ⟨none, 0, rfl, .inl rfl, by simp [maxLen]⟩

theorem ret_int {k : IntKind} {a b : Int} (h : a = b) : Ending.returned (.int k a) = .returned (.int k b) := by rw [h]
theorem ret_bool {a b : Bool} (h : a = b) : Ending.returned (.bool a) = .returned (.bool b) := by rw [h]
theorem ret_val {a b : Value} (h : a = b) : Ending.returned a = .returned b := by rw [h]

theorem ext_bcell {W w1 : World} (hb : Ext W w1) : (∀ b o, b < W.heap.size → w1.cell? ⟨b, o, none⟩ = W.cell? ⟨b, o, none⟩) ∧ (∀ b o, b < W.heap.size → w1.frozen? ⟨b, o, none⟩ = W.frozen? ⟨b, o, none⟩) :=
  ⟨fun b o h => hb.cell (p := ⟨b, o, none⟩) h, fun b o h => hb.frozen (p := ⟨b, o, none⟩) h⟩

/-- A slice type, its element type, the zero value, the cells and the bytes of an element. -/
def SlT (P : Program) (t e : TypeId) (z : Value) (size bytes : Nat) : Prop :=
  P.underlying t = some (.slice e) ∧ (P.info? e).map (fun i => (i.zero, i.size, i.bytes)) = some (some z, size, bytes) ∧ z.cells.size = size ∧ 0 < size

section
variable {P : Program} {t e : TypeId} {z : Value} {size bytes : Nat}
/-- append of a block of the call's own onto a row of the call's own. -/
theorem wp_app (hT : SlT P t e z size bytes) {o : Oper} {a : Act} {K : Act → World → Prop} {Q : Exit → Act → World → Prop} (s x : Operand)
    (ho : o.op = .call { callee := .builtin .append, args := #[s, x], argTypes := #[t, t] })
    {W w : World} {v : Value} {n m c : Nat} {xs news : List Value} {ad : Addr} (hs : a.eval s = v) (hx : a.eval x = .slice (some ad) m c)
    (hext : Ext W w) (hown : w.ownsRow W.heap.size e size v n xs) (hl : news.length = m * size) (hnews : ∀ j u, news[j]? = some u → w.cell? (ad.add j) = some u)
    (h1 : ∀ u ∈ news, u.oneCell' = true) (hbytes : (n + m) * bytes ≤ 140737488355328) (h63 : n + m ≤ maxLen)
    (h : ∀ v' w', w'.ownsRow W.heap.size e size v' (n + m) (xs ++ news) → Ext W w' → w.grownBy w' v.ownBlock → K (a.put o.dst v') w') : o.wp P a w K Q := by
  obtain ⟨ht, hi0, hz, hsz⟩ := hT
  obtain ⟨i, hi, h2, h3, h4⟩ := info_parts hi0
  refine wp_append_own (P := P) w s x t ho W.heap.size e i z size bytes ht hi h2 h3 h4 hz hsz v n xs hs hown ad m c news hx hl hnews h1 h63 hbytes hext.size ?_
  intro v' w' ho' hg _
  exact h v' w' ho' (hext.gr hg fun k hk => (hown.lt k hk).1) hg
theorem wpL_app (hT : SlT P t e z size bytes) {ops : Array Oper} {rest : List Oper} {o : Oper} {a : Act} {Q : Exit → Act → World → Prop} (s x : Operand)
    (ho : o.op = .call { callee := .builtin .append, args := #[s, x], argTypes := #[t, t] }) (hgd : o.guard = none)
    {W w : World} {v : Value} {n m c : Nat} {xs news : List Value} {ad : Addr} (hs : a.eval s = v) (hx : a.eval x = .slice (some ad) m c)
    (hext : Ext W w) (hown : w.ownsRow W.heap.size e size v n xs) (hl : news.length = m * size) (hnews : ∀ j u, news[j]? = some u → w.cell? (ad.add j) = some u)
    (h1 : ∀ u ∈ news, u.oneCell' = true) (hbytes : (n + m) * bytes ≤ 140737488355328) (h63 : n + m ≤ maxLen)
    (h : ∀ v' w', w'.ownsRow W.heap.size e size v' (n + m) (xs ++ news) → Ext W w' → w.grownBy w' v.ownBlock → wpList P ops Q rest (a.put o.dst v') w') : wpList P ops Q (o :: rest) a w :=
  wpList_plain hgd fun _ hK => wp_app hT s x ho hs hx hext hown hl hnews h1 hbytes h63 fun v' w' a1 a2 a3 => hK _ _ (h v' w' a1 a2 a3)
theorem step_app (hT : SlT P t e z size bytes) {ops : Array Oper} {o : Oper} {a : Act} {K : Act → World → Prop} {Q : Exit → Act → World → Prop} {E : Prop} (s x : Operand)
    (ho : o.op = .call { callee := .builtin .append, args := #[s, x], argTypes := #[t, t] }) (hgd : o.guard = none)
    {W w : World} {v : Value} {n m c : Nat} {xs news : List Value} {ad : Addr} (hs : a.eval s = v) (hx : a.eval x = .slice (some ad) m c)
    (hext : Ext W w) (hown : w.ownsRow W.heap.size e size v n xs) (hl : news.length = m * size) (hnews : ∀ j u, news[j]? = some u → w.cell? (ad.add j) = some u)
    (h1 : ∀ u ∈ news, u.oneCell' = true) (hbytes : (n + m) * bytes ≤ 140737488355328) (h63 : n + m ≤ maxLen)
    (h : ∀ v' w', w'.ownsRow W.heap.size e size v' (n + m) (xs ++ news) → Ext W w' → w.grownBy w' v.ownBlock → K (a.put o.dst v') w') :
    if Region.wanted o (yielded ops a.tmps) = true then Oper.wp P o a w K Q else E := by
  have hw : Region.wanted o (yielded ops a.tmps) = true := by simp [Region.wanted, hgd]
  rw [if_pos hw]
  exact wp_app hT s x ho hs hx hext hown hl hnews h1 hbytes h63 h
end
/-- The cells of a block that was just made. -/
theorem new_cells (w : World) (cs : Array Value) (t : TypeId) : ∀ j u, cs.toList[j]? = some u → (w.alloc (.cells cs t)).cell? ((⟨w.heap.size, 0, none⟩ : Addr).add j) = some u := by
  intro j u hj
  have hh : (w.alloc (.cells cs t)).heap[w.heap.size]? = some (.cells cs t) := heap_alloc_new w _
  have : (w.alloc (.cells cs t)).cell? ⟨w.heap.size, j, none⟩ = cs[j]? := by unfold World.cell?; rw [hh]; rfl
  rw [add_mk, Nat.zero_add, this]
  simpa using hj
theorem new_at (w : World) (cs : Array Value) (t : TypeId) (j : Nat) (u : Value) (h : cs[j]? = some u) : (w.alloc (.cells cs t)).cell? ⟨w.heap.size, j, none⟩ = some u := by
  have := new_cells w cs t j u (by simpa using h)
  rw [add_mk, Nat.zero_add] at this
  exact this
/-- The cells of a new block, in every later world. -/
theorem Ext.new {w w' : World} {cs : Array Value} {t : TypeId} (e : Ext (w.alloc (.cells cs t)) w') (j : Nat) (u : Value) (h : cs[j]? = some u) : w'.cell? ⟨w.heap.size, j, none⟩ = some u := by
  rw [e.cell (p := ⟨w.heap.size, j, none⟩) (by simp)]
  exact new_at w cs t j u h
theorem Ext.newdr {w w' : World} {cs : Array Value} {t : TypeId} (e : Ext (w.alloc (.cells cs t)).drew w') (j : Nat) (u : Value) (h : cs[j]? = some u) : w'.cell? ⟨w.heap.size, j, none⟩ = some u := by
  rw [e.cell (p := ⟨w.heap.size, j, none⟩) (by simp)]
  exact new_at w cs t j u h
theorem Ext.newfr {w w' : World} {cs : Array Value} {t : TypeId} (e : Ext (w.alloc (.cells cs t)) w') (j : Nat) : w'.frozen? ⟨w.heap.size, j, none⟩ = false := by
  rw [e.frozen (p := ⟨w.heap.size, j, none⟩) (by simp)]
  have hh : (w.alloc (.cells cs t)).heap[w.heap.size]? = some (.cells cs t) := heap_alloc_new w _
  unfold World.frozen?; rw [hh]; simp
theorem Ext.newfrdr {w w' : World} {cs : Array Value} {t : TypeId} (e : Ext (w.alloc (.cells cs t)).drew w') (j : Nat) : w'.frozen? ⟨w.heap.size, j, none⟩ = false := Ext.newfr (w := w) (cs := cs) (t := t) (Ext.undr e) j
theorem Ext.lt {w w' : World} {b : Nat} (e : Ext w w') (h : b < w.heap.size) : b < w'.heap.size := Nat.lt_of_lt_of_le h e.size
theorem new_cells_dr (w : World) (cs : Array Value) (t : TypeId) : ∀ j u, cs.toList[j]? = some u → (w.alloc (.cells cs t)).drew.cell? ((⟨w.heap.size, 0, none⟩ : Addr).add j) = some u := new_cells w cs t
theorem own_dr {w : World} {base e size n : Nat} {v : Value} {xs : List Value} (h : w.ownsRow base e size v n xs) : w.drew.ownsRow base e size v n xs := h
/-- A block that is not the row's own stays as it is behind an append. -/
theorem gr_cell {w w' : World} {v u : Value} {a : Addr} (hg : w.grownBy w' v.ownBlock) (hn : ∀ k, v.ownBlock = some k → k ≠ a.block) (h : w.cell? a = some u) : w'.cell? a = some u :=
  hg.cell h fun e => hn _ e.symm rfl
theorem new_cells_g {w : World} {g : Nat} (hg : w.heap.size = g) (cs : Array Value) (t : TypeId) : ∀ j u, cs.toList[j]? = some u → (w.alloc (.cells cs t)).cell? ((⟨g, 0, none⟩ : Addr).add j) = some u := by
  subst hg; exact new_cells w cs t
theorem own_ext {w w' : World} {base e size n : Nat} {v : Value} {xs : List Value} (h : w.ownsRow base e size v n xs) (x : Ext w w') : w'.ownsRow base e size v n xs := by
  refine ⟨h.1, ?_⟩
  rcases h.2 with h2 | ⟨g, cap, cur, hv, hg, hh, r⟩
  · exact .inl h2
  · refine .inr ⟨g, cap, cur, hv, hg, ?_, r⟩
    rw [x.block g ?_]
    · exact hh
    · rcases Nat.lt_or_ge g w.heap.size with hl | hge
      · exact hl
      · rw [Array.getElem?_eq_none hge] at hh; cases hh
end Go.Proofs.YtemdgilifnhdpaaGreatDoor
