/-
Words for memory that all contracts use: a slice that reads as a list of cells, and the relation of a world to a later one that keeps all that was there. No program in sight.
-/
import Derived.WalkKit
import Derived.WalkLawsBesides
import Derived.WalkSpells
import Derived.BigQuiet
import Derived.Deep.QuietTactic
import Derived.Deep.Draws
import Derived.Lib.Hide
import Derived.Maps.AppendAt
import Derived.Deep.RegionHeld3
import Derived.Deep.DeepCutAuto
import Derived.Laws.EntriesVeiled
import Derived.StillTailTactics
import Derived.Test.YtemdgilifnhdpaaGreatDoorShelf
import Derived.Shelf.Strings.SlTrimAscii
import Derived.Test.YtemdgilifnhdpaaGreatDoorProg
set_option linter.unusedVariables false
set_option linter.unusedSimpArgs false
section
namespace Go.Proofs.YtemdgilifnhdpaaGreatDoor
open Go.RowKit

abbrev Ext (w w' : World) : Prop := Below w.heap.size w w'
theorem Ext.rfl' (w : World) : Ext w w := Below.refl _ _
theorem Ext.tr {a b c : World} (h : Ext a b) (k : Ext b c) : Ext a c := Below.trans h (k.mono h.size)
theorem Ext.undr {a b : World} (h : Ext a.drew b) : Ext a b := ⟨h.os, h.tape, h.output, h.size, h.block⟩
theorem Ext.al {a b : World} (h : Ext a b) (o : Obj) : Ext a (b.alloc o) := Below.alloc h h.size o
theorem Ext.dr {a b : World} (h : Ext a b) : Ext a b.drew := Below.drew h
theorem Ext.drN {a b : World} (h : Ext a b) (n : Nat) : Ext a (b.drewN n) := ⟨h.os, h.tape, h.output, h.size, h.block⟩
theorem Ext.st {a b : World} (h : Ext a b) {p : Addr} (hp : a.heap.size ≤ p.block) (u : Value) : Ext a (b.setCell p u) := Below.setCell h hp u
theorem Ext.gr {a b c : World} {row : Option Nat} (h : Ext a b) (hg : b.grownBy c row) (hr : ∀ k, row = some k → a.heap.size ≤ k) : Ext a c := Below.grown h hg h.size hr

theorem add_mk (b o j : Nat) : (⟨b, o, none⟩ : Addr).add j = ⟨b, o + j, none⟩ := by
  unfold Addr.add
  by_cases h : j = 0 <;> simp [h]

theorem lt_of_cell {w : World} {a : Addr} {v : Value} (h : w.cell? a = some v) : a.block < w.heap.size := by
  rcases Nat.lt_or_ge a.block w.heap.size with hl | hg
  · exact hl
  · unfold World.cell? at h
    rw [Array.getElem?_eq_none hg] at h
    cases h

def Rd (w : World) (A : Option Addr) (xs : List Value) : Prop :=
  xs = [] ∨ ∃ b o, A = some ⟨b, o, none⟩ ∧ ∀ j u, xs[j]? = some u → w.cell? ⟨b, o + j, none⟩ = some u

theorem Rd.nil_ (w : World) (A : Option Addr) : Rd w A [] := .inl rfl
theorem Rd.ext {w w' : World} {A : Option Addr} {xs : List Value} (h : Rd w A xs) (e : Ext w w') : Rd w' A xs := by
  rcases h with h | ⟨b, o, hA, hc⟩
  · exact .inl h
  · refine .inr ⟨b, o, hA, fun j u hu => ?_⟩
    have := hc j u hu
    rw [← this]
    exact e.cell (lt_of_cell this)
theorem Rd.at_ {w : World} {A : Option Addr} {xs : List Value} (h : Rd w A xs) (hp : 0 < xs.length) :
    ∃ b o, A = some ⟨b, o, none⟩ ∧ b < w.heap.size ∧ ∀ j u, xs[j]? = some u → w.cell? ⟨b, o + j, none⟩ = some u := by
  rcases h with h | ⟨b, o, hA, hc⟩
  · subst h; simp at hp
  · exact ⟨b, o, hA, lt_of_cell (hc 0 xs[0] (List.getElem?_eq_getElem hp)), hc⟩
theorem Rd.drop {w : World} {b o : Nat} {xs : List Value} (h : Rd w (some ⟨b, o, none⟩) xs) (k : Nat) : Rd w (some ⟨b, o + k, none⟩) (xs.drop k) := by
  rcases h with h | ⟨b, o, hA, hc⟩
  · subst h; exact .inl (by simp)
  · cases hA
    exact .inr ⟨_, _, rfl, fun j u hu => by rw [Nat.add_assoc]; exact hc _ _ (by simpa using hu)⟩
theorem Rd.take {w : World} {A : Option Addr} {xs : List Value} (h : Rd w A xs) (k : Nat) : Rd w A (xs.take k) := by
  rcases h with h | ⟨b, o, hA, hc⟩
  · subst h; exact .inl (by simp)
  · exact .inr ⟨b, o, hA, fun j u hu => hc j u (by rw [List.getElem?_take] at hu; split at hu; exact hu; cases hu)⟩
theorem Rd.of_own {w : World} {base e size n : Nat} {v : Value} {xs : List Value} (h : w.ownsRow base e size v n xs) :
    ∃ A c, v = .slice A n c ∧ n ≤ c ∧ c ≤ maxLen ∧ Rd w A xs ∧ (A = none → c = 0) := by
  have h0 := h
  rcases h.2 with ⟨hv, hn⟩ | ⟨g, cap, cur, hv, hg, hh, hnc, hcm, hcs, hx⟩
  · refine ⟨none, 0, by rw [hv, hn], by omega, by simp [maxLen], .inl ?_, fun _ => rfl⟩
    have := h.1
    rw [hn] at this
    exact List.eq_nil_of_length_eq_zero (by omega)
  · refine ⟨some ⟨g, 0, none⟩, cap, hv, hnc, hcm, .inr ⟨g, 0, rfl, fun j u hu => ?_⟩, fun h => by cases h⟩
    have := h0.cells (g := g) (by rw [hv]; rfl) j u hu
    rw [add_mk] at this
    exact this

def pc (ps : List (Int × Int)) : List Value := ps.flatMap fun p => [.int .i64 p.1, .int .i64 p.2]
abbrev Gives (v : Value) (w : World) : Ending → World → Prop := fun e w' => e = .returned v ∧ Ext w w'

def Ret (R : Value → World → Prop) (w : World) (e : Ending) (w' : World) : Prop := ∃ v, e = .returned v ∧ R v w' ∧ Ext w w'
theorem Ret.mk {R : Value → World → Prop} {w w' : World} {v : Value} (h : R v w') (x : Ext w w') : Ret R w (.returned v) w' := ⟨v, rfl, h, x⟩
theorem Ret.is {R : Value → World → Prop} {w w' : World} {e : Ending} {v : Value} (he : e = .returned v) (h : R v w') (x : Ext w w') : Ret R w e w' := ⟨v, he, h, x⟩
theorem Ret.out {R : Value → World → Prop} {w w' : World} {e : Ending} (h : Ret R w e w') : ∃ v, e = .returned v ∧ R v w' ∧ Ext w w' := h
def IsSlP (ps : List (Int × Int)) (v : Value) (w : World) : Prop := ∃ A c, v = .slice A ps.length c ∧ Rd w A (pc ps) ∧ c ≤ maxLen
def IsSlPN (r : List (Int × Int) × Int) (v : Value) (w : World) : Prop := ∃ A c, v = .tuple #[.slice A r.1.length c, .int .i64 r.2] ∧ Rd w A (pc r.1) ∧ c ≤ maxLen
theorem IsSlP.mk {ps : List (Int × Int)} {w : World} {A : Option Addr} {n c : Nat} (hn : n = ps.length) (h : Rd w A (pc ps)) (hc : c ≤ maxLen) : IsSlP ps (.slice A n c) w := ⟨A, c, by rw [hn], h, hc⟩
theorem IsSlPN.mk {r : List (Int × Int) × Int} {w : World} {A : Option Addr} {n c : Nat} {x : Int} (hn : n = r.1.length) (hx : x = r.2) (h : Rd w A (pc r.1)) (hc : c ≤ maxLen) : IsSlPN r (.tuple #[.slice A n c, .int .i64 x]) w := ⟨A, c, by rw [hn, hx], h, hc⟩
theorem ret_bool {a b : Bool} (h : a = b) : Ending.returned (.bool a) = .returned (.bool b) := by rw [h]
theorem ret_val {a b : Value} (h : a = b) : Ending.returned a = .returned b := by rw [h]

def SlT (P : Program) (t e : TypeId) (z : Value) (size bytes : Nat) : Prop :=
  P.underlying t = some (.slice e) ∧ (P.info? e).map (fun i => (i.zero, i.size, i.bytes)) = some (some z, size, bytes) ∧ z.cells.size = size ∧ 0 < size

section
variable {P : Program} {t e : TypeId} {z : Value} {size bytes : Nat}
theorem wp_app (hT : SlT P t e z size bytes) {o : Oper} {a : Act} {K : Act → World → Prop} {Q : Exit → Act → World → Prop} (s x : Operand)
    (ho : o.op = .call { callee := .builtin .append, args := #[s, x], argTypes := #[t, t] })
    {W w : World} {v : Value} {n m c : Nat} {xs news : List Value} {ad : Addr} (hs : a.eval s = v) (hx : a.eval x = .slice (some ad) m c)
    (hext : Ext W w) (hown : w.ownsRow W.heap.size e size v n xs) (hl : news.length = m * size) (hnews : ∀ j u, news[j]? = some u → w.cell? (ad.add j) = some u)
    (h1 : ∀ u ∈ news, u.oneCell' = true) (hbytes : (n + m) * bytes ≤ 140737488355328) (h63 : n + m ≤ maxLen)
    (h : ∀ v' w', w'.ownsRow W.heap.size e size v' (n + m) (xs ++ news) → Ext W w' → w.grownBy w' v.ownBlock → K (a.put o.dst v') w') : o.wp P a w K Q := by
  obtain ⟨ht, hi0, hz, hsz⟩ := hT
  obtain ⟨i, hi, h2, h3, h4⟩ := info_parts hi0
  refine wp_append_own (P := P) w s x t ho W.heap.size e i z size bytes ht hi h2 h3 h4 hz hsz v n xs hs hown ad m c news hx hl hnews h1 h63 hbytes hext.size ?_
  intro v' w' ho' hg _
  exact h v' w' ho' (hext.gr hg fun k hk => (hown.lt k hk).1) hg
theorem wpL_app (hT : SlT P t e z size bytes) {ops : Array Oper} {rest : List Oper} {o : Oper} {a : Act} {Q : Exit → Act → World → Prop} (s x : Operand)
    (ho : o.op = .call { callee := .builtin .append, args := #[s, x], argTypes := #[t, t] }) (hgd : o.guard = none)
    {W w : World} {v : Value} {n m c : Nat} {xs news : List Value} {ad : Addr} (hs : a.eval s = v) (hx : a.eval x = .slice (some ad) m c)
    (hext : Ext W w) (hown : w.ownsRow W.heap.size e size v n xs) (hl : news.length = m * size) (hnews : ∀ j u, news[j]? = some u → w.cell? (ad.add j) = some u)
    (h1 : ∀ u ∈ news, u.oneCell' = true) (hbytes : (n + m) * bytes ≤ 140737488355328) (h63 : n + m ≤ maxLen)
    (h : ∀ v' w', w'.ownsRow W.heap.size e size v' (n + m) (xs ++ news) → Ext W w' → w.grownBy w' v.ownBlock → wpList P ops Q rest (a.put o.dst v') w') : wpList P ops Q (o :: rest) a w :=
  wpList_plain hgd fun _ hK => wp_app hT s x ho hs hx hext hown hl hnews h1 hbytes h63 fun v' w' a1 a2 a3 => hK _ _ (h v' w' a1 a2 a3)
end
theorem new_cells (w : World) (cs : Array Value) (t : TypeId) : ∀ j u, cs.toList[j]? = some u → (w.alloc (.cells cs t)).cell? ((⟨w.heap.size, 0, none⟩ : Addr).add j) = some u := by
  intro j u hj
  have hh : (w.alloc (.cells cs t)).heap[w.heap.size]? = some (.cells cs t) := heap_alloc_new w _
  have : (w.alloc (.cells cs t)).cell? ⟨w.heap.size, j, none⟩ = cs[j]? := by unfold World.cell?; rw [hh]; rfl
  rw [add_mk, Nat.zero_add, this]
  simpa using hj
theorem new_at (w : World) (cs : Array Value) (t : TypeId) (j : Nat) (u : Value) (h : cs[j]? = some u) : (w.alloc (.cells cs t)).cell? ⟨w.heap.size, j, none⟩ = some u := by
  have := new_cells w cs t j u (by simpa using h)
  rw [add_mk, Nat.zero_add] at this
  exact this
theorem Ext.new {w w' : World} {cs : Array Value} {t : TypeId} (e : Ext (w.alloc (.cells cs t)) w') (j : Nat) (u : Value) (h : cs[j]? = some u) : w'.cell? ⟨w.heap.size, j, none⟩ = some u := by
  rw [e.cell (p := ⟨w.heap.size, j, none⟩) (by simp)]
  exact new_at w cs t j u h
theorem Ext.newfr {w w' : World} {cs : Array Value} {t : TypeId} (e : Ext (w.alloc (.cells cs t)) w') (j : Nat) : w'.frozen? ⟨w.heap.size, j, none⟩ = false := by
  rw [e.frozen (p := ⟨w.heap.size, j, none⟩) (by simp)]
  have hh : (w.alloc (.cells cs t)).heap[w.heap.size]? = some (.cells cs t) := heap_alloc_new w _
  unfold World.frozen?; rw [hh]; simp
theorem Ext.lt {w w' : World} {b : Nat} (e : Ext w w') (h : b < w.heap.size) : b < w'.heap.size := Nat.lt_of_lt_of_le h e.size
theorem own_ext {w w' : World} {base e size n : Nat} {v : Value} {xs : List Value} (h : w.ownsRow base e size v n xs) (x : Ext w w') : w'.ownsRow base e size v n xs := by
  refine ⟨h.1, ?_⟩
  rcases h.2 with h2 | ⟨g, cap, cur, hv, hg, hh, r⟩
  · exact .inl h2
  · refine .inr ⟨g, cap, cur, hv, hg, ?_, r⟩
    rw [x.block g ?_]
    · exact hh
    · rcases Nat.lt_or_ge g w.heap.size with hl | hge
      · exact hl
      · rw [Array.getElem?_eq_none hge] at hh; cases hh
end Go.Proofs.YtemdgilifnhdpaaGreatDoor
end

section
namespace Go.Proofs.YtemdgilifnhdpaaGreatDoor
open Go.RowKit

def bc (l : List UInt8) : List Value := l.map fun b => .int .u8 (b.toNat : Int)
@[simp] theorem bc_len (l : List UInt8) : (bc l).length = l.length := by simp [bc]
theorem bc_at (l : List UInt8) (k : Nat) (h : k < l.length) : (bc l)[k]? = some (.int .u8 (l[k].toNat : Int)) := by simp [bc, h]
theorem bc_app (a b : List UInt8) : bc (a ++ b) = bc a ++ bc b := by simp [bc]
theorem bc_drop (a : List UInt8) (k : Nat) : (bc a).drop k = bc (a.drop k) := by simp [bc]
theorem bc_one (l : List UInt8) : ∀ u ∈ bc l, u.oneCell' = true := by
  intro u hu
  simp only [bc, List.mem_map] at hu
  obtain ⟨b, _, rfl⟩ := hu
  rfl
def str (l : List UInt8) : ByteArray := ⟨l.toArray⟩
@[simp] theorem str_data (l : List UInt8) : (str l).data.toList = l := rfl
@[simp] theorem str_toList (s : ByteArray) : str s.data.toList = s := by cases s; simp [str]
@[simp] theorem str_size (l : List UInt8) : (str l).size = l.length := by simp [str, ByteArray.size]

@[simp] theorem str_app (a b : List UInt8) : str a ++ str b = str (a ++ b) := by
  simp [str, ByteArray.mk_append_mk]
@[simp] theorem mk_app_str (a : Array UInt8) (b : List UInt8) : (⟨a⟩ : ByteArray) ++ str b = str (a.toList ++ b) := by
  rw [← str_app]; congr 1
@[simp] theorem str_app_mk (a : List UInt8) (b : Array UInt8) : str a ++ (⟨b⟩ : ByteArray) = str (a ++ b.toList) := by
  rw [← str_app]; congr 1
@[simp] theorem mk_app_mk (a b : Array UInt8) : (⟨a⟩ : ByteArray) ++ (⟨b⟩ : ByteArray) = str (a.toList ++ b.toList) := by
  rw [← str_app]; congr 1
theorem cat_ok {P : Program} (a b : ByteArray) (h : a.size + b.size ≤ 9223372036854775807) : ∀ w, (Op.stringOp .add a b).run P w = .ok (.string (a ++ b)) w := fun w => run_string_add_sum w a b h

section
variable {P : Program} (src dst e : TypeId)
theorem conv_bs (hs : P.underlying src = some (.slice e)) (he : P.underlying e = some (.int .u8)) (hd : P.underlying dst = some .string) {w : World} {A : Option Addr} {l : List UInt8} (h : Rd w A (bc l)) (n c : Nat) (hn : n = l.length) :
    (convert src dst (.slice A n c)).run P w = .ok (.string (str l)) w := by
  subst hn
  by_cases h0 : l = []
  · subst h0
    cases A with
    | none => exact run_convert_bytes_nil w src e hs he 0 c dst hd
    | some a => exact run_convert_bytes_back w src dst e a c [] hs he hd (fun j hj => by simp at hj)
  · obtain ⟨b, o, rfl, _, hc⟩ := h.at_ (by rw [bc_len]; exact List.length_pos_iff.2 h0)
    exact run_convert_bytes_back w src dst e ⟨b, o, none⟩ c l hs he hd (fun j hj => by rw [add_mk]; exact hc j _ (bc_at l j hj))
end
end Go.Proofs.YtemdgilifnhdpaaGreatDoor
end

section
namespace Go.Proofs.YtemdgilifnhdpaaGreatDoor
open Go.RowKit

@[simp] theorem str_get (l : List UInt8) (i : Nat) (h : i < (str l).size) : (str l)[i] = l[i]'(by simpa using h) := rfl
@[simp] theorem str_extract (l : List UInt8) (a b : Nat) : (str l).extract a b = str ((l.take b).drop a) := by
  have h : ((str l).extract a b).data.toList = (l.take b).drop a := by
    rw [Lib.extract_data, str_data, List.drop_take]
  rw [← str_toList ((str l).extract a b), h]

def blkB (c : Nat) : Bool := decide (c = 9) || decide (c = 32)
end Go.Proofs.YtemdgilifnhdpaaGreatDoor
end

section
namespace Go.Proofs.YtemdgilifnhdpaaGreatDoor
open Go.RowKit

theorem idx_no {l : List UInt8} {c : UInt8} (h : c ∉ l) : Lib.indexByte l c = -1 := by
  have h1 := Lib.indexByte_ge l c
  refine Classical.byContradiction fun h0 => ?_
  obtain ⟨k, hk⟩ : ∃ k : Nat, Lib.indexByte l c = (k : Int) := ⟨(Lib.indexByte l c).toNat, by omega⟩
  exact h (List.mem_of_getElem? (Lib.indexByte_some hk).1)
theorem idx_at {a r : List UInt8} {c : UInt8} (h : c ∉ a) : Lib.indexByte (a ++ c :: r) c = (a.length : Int) := by
  have h1 := Lib.indexByte_ge (a ++ c :: r) c
  by_cases h0 : Lib.indexByte (a ++ c :: r) c = -1
  · exact absurd (Lib.indexByte_none h0 a.length) (by simp)
  · obtain ⟨k, hk⟩ : ∃ k : Nat, Lib.indexByte (a ++ c :: r) c = (k : Int) := ⟨(Lib.indexByte (a ++ c :: r) c).toNat, by omega⟩
    obtain ⟨k1, k2⟩ := Lib.indexByte_some hk
    rw [hk]
    have : k = a.length := by
      rcases Nat.lt_trichotomy k a.length with h3 | h3 | h3
      · rw [List.getElem?_append_left h3] at k1
        exact absurd (List.mem_of_getElem? k1) h
      · exact h3
      · exact absurd (by simp) (k2 a.length h3)
    rw [this]
theorem cut_cases (l : List UInt8) (c : UInt8) : c ∉ l ∨ ∃ a r, l = a ++ c :: r ∧ c ∉ a := by
  induction l with
  | nil => exact .inl (by simp)
  | cons b l ih =>
    by_cases hb : b = c
    · exact .inr ⟨[], l, by rw [hb]; rfl, by simp⟩
    · rcases ih with h | ⟨a, r, h1, h2⟩
      · exact .inl (by simp only [List.mem_cons, not_or]; exact ⟨fun e => hb e.symm, h⟩)
      · exact .inr ⟨b :: a, r, by rw [h1]; rfl, by simp only [List.mem_cons, not_or]; exact ⟨fun e => hb e.symm, h2⟩⟩

set_option maxRecDepth 100000 in
set_option maxHeartbeats 1000000 in
theorem iCut_no (l : List UInt8) (c : UInt8) (h : c ∉ l) (w : World) :
    Calls Tryz.prog 130 #[.string (str l), .string ⟨#[c]⟩] w fun e w' => e = .returned (.tuple #[.string (str l), .string ⟨#[]⟩, .bool false]) ∧ w = w' := by
  have HX := Lib.hid (idx_no h)
  clear h
  go_enter Tryz.func130, Tryz.ntmps130
  go_wp2_with (go_at_call 173; refine (Tryz.stringslite_Index_one _ _ _).mono ?_; rintro e w1 ⟨rfl, rfl⟩; rw [str_data, HX.out])
  go_ret3
  exact ⟨rfl, rfl⟩
set_option maxRecDepth 100000 in
set_option maxHeartbeats 1000000 in
theorem iCut_at (a r : List UInt8) (c : UInt8) (h : c ∉ a) (hs : a.length + r.length + 1 ≤ maxLen) (w : World) :
    Calls Tryz.prog 130 #[.string (str (a ++ c :: r)), .string ⟨#[c]⟩] w fun e w' => e = .returned (.tuple #[.string (str a), .string (str r), .bool true]) ∧ ∃ q, w' = w.drewN q := by
  unfold maxLen at hs
  obtain ⟨l, hl⟩ : ∃ l, l = a ++ c :: r := ⟨_, rfl⟩
  have HX := Lib.hid (show Lib.indexByte l c = (a.length : Int) from by rw [hl]; exact idx_at h)
  have hll : l.length = a.length + r.length + 1 := by rw [hl]; simp; omega
  have e1 : l.take a.length = a := by rw [hl, List.take_left]
  have e2 : l.drop (a.length + 1) = r := by rw [hl, List.drop_append]; simp [List.drop_eq_nil_of_le]
  rw [← hl]
  have E1 := Lib.hid e1
  have E2 := Lib.hid e2
  clear h hl e1 e2
  have j1 : (0 : Int) ≤ (a.length : Int) := by omega
  have j2 : (a.length : Int) ≤ (l.length : Int) := by omega
  have j3 : IntKind.i64.wrap ((a.length : Int) + 1) = (a.length : Int) + 1 := by rw [IntKind.wrap_i64]; omega
  have j4 : (a.length : Int) + 1 ≤ (l.length : Int) := by omega
  have j5 : ((a.length : Int) + 1).toNat = a.length + 1 := by omega
  have j6 : (0 : Int) ≤ (a.length : Int) + 1 := by omega
  clear hll hs
  go_enter Tryz.func130, Tryz.ntmps130
  go_wp2_with (go_at_call 173; refine (Tryz.stringslite_Index_one _ _ _).mono ?_; rintro e w1 ⟨rfl, rfl⟩; rw [str_data, HX.out])
  go_quiet (fail)
  go_wp2
  go_ret3
  refine ⟨ret_val ?_, _, rfl⟩
  show Value.tuple #[.string (str (l.take a.length)), .string (str (l.drop (a.length + 1))), .bool true] = _
  rw [E1.out, E2.out]
set_option maxRecDepth 100000 in
theorem Cut_no (l : List UInt8) (c : UInt8) (h : c ∉ l) (w : World) :
    Calls Tryz.prog 94 #[.string (str l), .string ⟨#[c]⟩] w fun e w' => e = .returned (.tuple #[.string (str l), .string ⟨#[]⟩, .bool false]) ∧ w = w' := by
  have HX := Lib.hid h
  clear h
  go_enter Tryz.func94, Tryz.ntmps94
  go_wp2_with (go_at_call 130; refine (iCut_no _ _ HX.out _).mono ?_; rintro e w1 ⟨rfl, rfl⟩)
  go_ret3
  exact ⟨rfl, rfl⟩
set_option maxRecDepth 100000 in
theorem Cut_at (a r : List UInt8) (c : UInt8) (h : c ∉ a) (hs : a.length + r.length + 1 ≤ maxLen) (w : World) :
    Calls Tryz.prog 94 #[.string (str (a ++ c :: r)), .string ⟨#[c]⟩] w fun e w' => e = .returned (.tuple #[.string (str a), .string (str r), .bool true]) ∧ ∃ q, w' = w.drewN q := by
  have HX := Lib.hid h
  have HS := Lib.hid hs
  obtain ⟨s, hs2⟩ : ∃ s, s = str (a ++ c :: r) := ⟨_, rfl⟩
  have CC := fun w => iCut_at a r c HX.out HS.out w
  rw [← hs2] at CC ⊢
  have CC := Lib.hid CC
  clear h hs hs2
  go_enter Tryz.func94, Tryz.ntmps94
  go_wp2_with (go_at_call 130; refine (CC.out _).mono ?_; rintro e w1 ⟨rfl, q, rfl⟩)
  go_ret3
  exact ⟨rfl, q, rfl⟩
theorem HasPrefix_c (l p : List UInt8) (b : Bool) (hb : Lib.hasPrefix l p = b) (w : World) :
    Calls Tryz.prog 60 #[.string (str l), .string ⟨p.toArray⟩] w fun e w' => e = .returned (.bool b) ∧ w = w' :=
  (Tryz.strings_HasPrefix _ _ w).mono fun e w' ⟨he, hw⟩ => ⟨by rw [he, ← hb]; rfl, hw.symm⟩
theorem IndexByteS_c (l : List UInt8) (k z : Int) (h : Lib.indexByte l k.toNat.toUInt8 = z) (w : World) :
    Calls Tryz.prog 88 #[.string (str l), .int .u8 k] w fun e w' => e = .returned (.int .i64 z) ∧ w = w' :=
  (Tryz.strings_IndexByte _ _ w).mono fun e w' ⟨he, hw⟩ => ⟨by rw [he, ← h]; rfl, hw.symm⟩
theorem pre_one (l : List UInt8) (c : UInt8) : Lib.hasPrefix l [c] = decide (l.head? = some c) := by
  cases l with
  | nil => simp [Lib.hasPrefix, List.isPrefixOf]
  | cons b l =>
    by_cases h : b = c
    · subst h; simp [Lib.hasPrefix, List.isPrefixOf]
    · have h2 : (c == b) = false := by rw [beq_eq_false_iff_ne]; exact fun e => h e.symm
      simp [Lib.hasPrefix, List.isPrefixOf, h, h2]
theorem pre_yes {l : List UInt8} {c : UInt8} (h : l.head? = some c) : Lib.hasPrefix l [c] = true := by rw [pre_one]; simp [h]
theorem pre_no {l : List UInt8} {c : UInt8} (h : ¬ l.head? = some c) : Lib.hasPrefix l [c] = false := by rw [pre_one]; simp [h]
theorem idx_yes {l : List UInt8} {c : UInt8} (h : c ∈ l) : ∃ z : Int, Lib.indexByte l c = z ∧ 0 ≤ z := by
  refine ⟨_, rfl, ?_⟩
  have g1 := Lib.indexByte_ge l c
  refine Classical.byContradiction fun h0 => ?_
  have e : Lib.indexByte l c = -1 := by omega
  obtain ⟨j, hj, hj2⟩ := List.getElem_of_mem h
  exact Lib.indexByte_none e j (by rw [List.getElem?_eq_getElem hj, hj2])
end Go.Proofs.YtemdgilifnhdpaaGreatDoor
end

section
namespace Go.Proofs.YtemdgilifnhdpaaGreatDoor
open Go.RowKit

end Go.Proofs.YtemdgilifnhdpaaGreatDoor
end
