/-
A world in memory: its cells, its map; a world that is none; a copy of bytes.
-/
import Derived.Test.YtllpffdjlhamkaaWd1
import Derived.Test.YtllpffdjlhamkaaWm2
import Derived.Test.YtllpffdjlhamkaaTrn
set_option linter.unusedVariables false
set_option linter.unusedSimpArgs false
namespace Go.Proofs.Ytllpffdjlhamkaa
open Go.RowKit
open Go.Maps (Keyed)

/-- A file in the map. -/
def entV (l : List UInt8) (A : Option Addr × Nat) (f : Fil) : Value := .agg #[.string (str l), .slice A.1 f.b.length A.2, .int .i64 f.mt, .int .i64 (f.ve : Int)]
def entZ : Value := .agg #[.string ⟨#[]⟩, .slice none 0 0, .int .i64 0, .int .i64 0]
def Wrl.cells (s : Wrl) (mb : Nat) : Array Value := #[.map (some mb), .int .i64 s.now, .int .i64 (s.ver : Int)]
def Wrow (w : World) (p : Nat) (s : Wrl) (mb : Nat) : Prop := w.heap[p]? = some (.cells (s.cells mb) 38 (0, 0))
def enc (pl : List UInt8 → Option Addr × Nat) (L : List (List UInt8 × Fil)) : List (List UInt8 × Value) := L.map fun x => (x.1, entV x.1 (pl x.1) x.2)
/-- What a world's number and its map are owned by; its files' bytes: k + 2. -/
def KW (k : Nat) : Nat → Prop := fun i => i = k ∨ i = k + 1
/-- A world lies at block p. -/
structure WdAt (w : World) (o : Ow) (k p : Nat) (s : Wrl) : Prop where
  own : o p = k
  row : ∃ mb pl, Wrow w p s mb ∧ o mb = k + 1 ∧ mb < w.heap.size ∧ World.isM w Try.prog 9 mb (enc pl s.L) ∧ ∀ x ∈ s.L, Sl w o (k + 2) 1 (pl x.1).1 x.2.b.length (pl x.1).2 (bc x.2.b) ∧ ((pl x.1).1 = none → (pl x.1).2 = 0)
theorem keyedS : Keyed Try.prog 9 := Go.Maps.string_keyed Try.underlying9
theorem mapU : Try.prog.underlying 36 = some (.map 9 67) := Try.underlying36
theorem zeroE (w : World) : (zeroValue 67).run Try.prog w = .ok entZ w := Try.zeroValue67 w
section
variable {w w' : World} {o o' : Ow} {k p mb : Nat} {s : Wrl}
theorem Wrow.c0 (h : Wrow w p s mb) : w.cell? ⟨p, 0, none⟩ = some (.map (some mb)) := (row_facts h 0 _ rfl).1
theorem Wrow.c1 (h : Wrow w p s mb) : w.cell? ⟨p, 1, none⟩ = some (.int .i64 s.now) := (row_facts h 1 _ rfl).1
theorem Wrow.c2 (h : Wrow w p s mb) : w.cell? ⟨p, 2, none⟩ = some (.int .i64 (s.ver : Int)) := (row_facts h 2 _ rfl).1
theorem Wrow.fz (h : Wrow w p s mb) (i : Nat) (hi : i < 3) : w.frozen? ⟨p, i, none⟩ = false := by
  obtain ⟨u, hu⟩ : ∃ u, (s.cells mb)[i]? = some u := ⟨(s.cells mb)[i]'(by simp [Wrl.cells]; omega), by simp⟩
  exact (row_facts h i u hu).2
theorem Wrow.stp {K : Nat → Prop} (h : Wrow w p s mb) (e : Stp K w o w' o') (hk : ¬ K (o p)) : Wrow w' p s mb := (e.keep p (row_lt h) hk).trans h
theorem Wrow.ext (h : Wrow w p s mb) (e : Ext w w') : Wrow w' p s mb := (e.block p (row_lt h)).trans h
theorem WdAt.stp {K : Nat → Prop} (h : WdAt w o k p s) (st : Stp K w o w' o') (h0 : ¬ K k) (h1 : ¬ K (k + 1)) (h2 : ¬ K (k + 2)) : WdAt w' o' k p s := by
  obtain ⟨mb, pl, hh, hm, hl, hi, hs⟩ := h.row
  exact ⟨by rw [st.own p (row_lt hh)]; exact h.own, mb, pl, hh.stp st (by rw [h.own]; exact h0), by rw [st.own mb hl]; exact hm, Nat.lt_of_lt_of_le hl st.size, hi.same (st.keep mb hl (by rw [hm]; exact h1)), fun x hx => ⟨(hs x hx).1.stp st h2, (hs x hx).2⟩⟩
theorem WdAt.ext (h : WdAt w o k p s) (e : Ext w w') : WdAt w' o k p s := h.stp (K := fun _ => False) (Stp.ext e) (fun x => x) (fun x => x) (fun x => x)
theorem WdAt.ext2 (h : WdAt w o k p s) (e : Ext w w') (ho : ∀ b, b < w.heap.size → o' b = o b) : WdAt w' o' k p s := h.stp (K := fun _ => False) (Stp.ext2 e ho) (fun x => x) (fun x => x) (fun x => x)
theorem WdAt.lt (h : WdAt w o k p s) : p < w.heap.size := by obtain ⟨mb, pl, hh, _⟩ := h.row; exact row_lt hh
end
set_option maxRecDepth 100000 in
set_option maxHeartbeats 2000000 in
theorem none_nil (w : World) : Calls Try.prog 27 #[.pointer none] w (Gives (.bool true) w) := by
  have q53 : ∀ (w : World) (r : Option Nat), (binOp .eql 36 (.map r) (.map none)).run Try.prog w = .ok (.bool r.isNone) w := fun w r => run_eql_map_nil w _ _ _ r Try.underlying36
  go_enter Try.func27, Try.ntmps27
  go_wp2
  go_ret
  exact ⟨rfl, by (repeat (first | exact Ext.rfl' _ | assumption | refine Ext.dr ?_ | refine Ext.drN ?_ _ | refine Ext.al ?_ _ | refine Ext.st ?_ (by simp) _ | refine Ext.tr ?_ (by assumption)))⟩
set_option maxRecDepth 100000 in
set_option maxHeartbeats 2000000 in
theorem none_unmade (p : Nat) (w : World) (h : w.cell? ⟨p, 0, none⟩ = some (.map none)) : Calls Try.prog 27 #[.pointer (some ⟨p, 0, none⟩)] w (Gives (.bool true) w) := by
  have q53 : ∀ (w : World) (r : Option Nat), (binOp .eql 36 (.map r) (.map none)).run Try.prog w = .ok (.bool r.isNone) w := fun w r => run_eql_map_nil w _ _ _ r Try.underlying36
  go_enter Try.func27, Try.ntmps27
  go_wp2
  go_ret
  exact ⟨rfl, by (repeat (first | exact Ext.rfl' _ | assumption | refine Ext.dr ?_ | refine Ext.drN ?_ _ | refine Ext.al ?_ _ | refine Ext.st ?_ (by simp) _ | refine Ext.tr ?_ (by assumption)))⟩
set_option maxRecDepth 100000 in
set_option maxHeartbeats 2000000 in
theorem none_no (p mb : Nat) (w : World) (h : w.cell? ⟨p, 0, none⟩ = some (.map (some mb))) : Calls Try.prog 27 #[.pointer (some ⟨p, 0, none⟩)] w (Gives (.bool false) w) := by
  have q53 : ∀ (w : World) (r : Option Nat), (binOp .eql 36 (.map r) (.map none)).run Try.prog w = .ok (.bool r.isNone) w := fun w r => run_eql_map_nil w _ _ _ r Try.underlying36
  go_enter Try.func27, Try.ntmps27
  go_wp2
  go_ret
  exact ⟨rfl, by (repeat (first | exact Ext.rfl' _ | assumption | refine Ext.dr ?_ | refine Ext.drN ?_ _ | refine Ext.al ?_ _ | refine Ext.st ?_ (by simp) _ | refine Ext.tr ?_ (by assumption)))⟩
set_option maxRecDepth 100000 in
set_option maxHeartbeats 2000000 in
/-- slices.Clone of bytes. -/
theorem sClone_c (k : Nat) (l : List UInt8) (B : Option Addr) (n d : Nat) (hn : n = l.length) (hna : B = none → d = 0) (w : World) (o : Ow) (h : Rd w B (bc l)) (hb : n ≤ 140737488351232) :
    Calls Try.prog 29 #[.slice B n d] w (Turns (fun _ => False) w o fun v w' o' => ∃ A c, v = .slice A n c ∧ Sl w' o' k 1 A n c (bc l) ∧ (A = none → c = 0)) := by
  subst hn
  have HR := Lib.hid h
  clear h
  have hms : maxLen = 9223372036854775807 := rfl
  have l0 : (0 : Int) ≤ (l.length : Int) := by omega
  have q22 : ∀ (w : World) (a : Option Addr) (n c n' c' : Nat), (binOp .eql 32 (.slice a n c) (.slice none n' c')).run Try.prog w = .ok (.bool a.isNone) w := fun w a n c n' c' => Lib.run_eql_slice_nil w _ _ a n c n' c' Try.underlying32
  cases B with
  | none =>
    obtain rfl := hna rfl
    have hl : l = [] := by
      rcases HR.out with h | ⟨b, f, e, _⟩
      · simpa [bc] using h
      · cases e
    subst hl
    go_enter Try.func29, Try.ntmps29
    go_wp2
    go_ret
    exact Turns.mk o rfl ⟨none, 0, rfl, by simpa [bc] using Sl.nil_ _ o k 1 none, fun _ => rfl⟩ (Stp.ext (by (repeat (first | exact Ext.rfl' _ | assumption | refine Ext.dr ?_ | refine Ext.drN ?_ _ | refine Ext.al ?_ _ | refine Ext.st ?_ (by simp) _ | refine Ext.tr ?_ (by assumption)))))
  | some B =>
    clear hna
    go_enter Try.func29, Try.ntmps29
    go_wp2_with (first
      | (at_builtin; refine wpL_fresh slt_u8 (.tmp 5) (.tmp 6) rfl rfl (o := o) k rfl rfl (Sl.src Try.underlying32 (HR.out.ext (by (repeat (first | exact Ext.rfl' _ | assumption | refine Ext.dr ?_ | refine Ext.drN ?_ _ | refine Ext.al ?_ _ | refine Ext.st ?_ (by simp) _ | refine Ext.tr ?_ (by assumption))))) (by simp) (by omega) (bc_one _) d) (by omega) (by omega) ?_; intro A1 c1 w1 o1 hs1 hst1 hn1; have st1 : Stp (fun _ => False) w o w1 o1 := (Stp.ext (by (repeat (first | exact Ext.rfl' _ | assumption | refine Ext.dr ?_ | refine Ext.drN ?_ _ | refine Ext.al ?_ _ | refine Ext.st ?_ (by simp) _ | refine Ext.tr ?_ (by assumption))))).tr hst1))
    go_ret
    exact Turns.mk o1 rfl ⟨A1, c1, rfl, hs1, hn1⟩ st1
end Go.Proofs.Ytllpffdjlhamkaa
