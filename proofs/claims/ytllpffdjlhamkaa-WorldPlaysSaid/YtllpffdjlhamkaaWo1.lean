/-
The laws of worlds: their orders as the row hands them.
-/
import Derived.Test.YtllpffdjlhamkaaWdB
set_option linter.unusedVariables false
set_option linter.unusedSimpArgs false
namespace Go.Proofs.Ytllpffdjlhamkaa
open Go.RowKit

/-- An order, as it lies in memory. -/
structure OpW where
  kind : Int
  n : Int
  path : List UInt8
  B : Option Addr
  d : Nat
  mm : List UInt8
def opW (x : OpW) : List Value := [.int .i64 x.kind, .int .i64 x.n, .string (str x.path), .slice x.B x.mm.length x.d]
def opsW (l : List OpW) : List Value := l.flatMap opW
theorem opsW_len (l : List OpW) : (opsW l).length = l.length * 4 := by induction l with | nil => rfl | cons x l ih => simp [opsW, List.flatMap_cons, opW] at *; omega
theorem opsW_at (l : List OpW) (k i : Nat) (hi : i < 4) : (opsW l)[k * 4 + i]? = l[k]?.bind fun x => (opW x)[i]? := by
  induction l generalizing k with
  | nil => simp [opsW]
  | cons x l ih => cases k with
    | zero =>
      simp only [opsW, List.flatMap_cons, Nat.zero_mul, Nat.zero_add, List.getElem?_cons_zero, Option.bind_some]
      rw [List.getElem?_append_left (by simp [opW]; omega)]
    | succ k =>
      have := ih k
      simp only [opsW, List.flatMap_cons] at *
      rw [List.getElem?_append_right (by simp [opW]; omega), show (k + 1) * 4 + i - (opW x).length = k * 4 + i from by simp [opW]; omega, this]
      simp
/-- What an order holds may be. -/
def OpOk (w : World) (x : OpW) : Prop := Rd w x.B (bc x.mm) ∧ x.mm.length ≤ 140737488351232 ∧ (-9223372036854775808 ≤ x.n ∧ x.n ≤ 9223372036854775807) ∧ x.path.length ≤ 140737488351232
/-- Orders that a slice holds. -/
structure RdOpW (w : World) (A : Option Addr) (l : List OpW) : Prop where
  rd : Rd w A (opsW l)
  each : ∀ x ∈ l, OpOk w x
theorem RdOpW.ext {w w' : World} {A : Option Addr} {l : List OpW} (h : RdOpW w A l) (e : Ext w w') : RdOpW w' A l := ⟨h.rd.ext e, fun x hx => ⟨(h.each x hx).1.ext e, (h.each x hx).2⟩⟩
theorem RdOpW.row {w : World} {A : Option Addr} {l : List OpW} (h : RdOpW w A l) {k : Nat} (hk : k < l.length) :
    ∃ b f, A = some ⟨b, f, none⟩ ∧ b < w.heap.size ∧ (w.cell? ⟨b, f + k * 4, none⟩ = some (.int .i64 l[k].kind) ∧ w.cell? ⟨b, f + k * 4 + 1, none⟩ = some (.int .i64 l[k].n) ∧ w.cell? ⟨b, f + k * 4 + 2, none⟩ = some (.string (str l[k].path)) ∧ w.cell? ⟨b, f + k * 4 + 3, none⟩ = some (.slice l[k].B l[k].mm.length l[k].d)) := by
  obtain ⟨b, f, hA, hb, hc⟩ := h.rd.at_ (by rw [opsW_len]; omega)
  have g := fun i hi => opsW_at l k i hi
  rw [List.getElem?_eq_getElem hk] at g
  refine ⟨b, f, hA, hb, ?_, ?_, ?_, ?_⟩
  · exact hc (k * 4) _ (by have := g 0 (by omega); simpa [opW] using this)
  · rw [Nat.add_assoc]; exact hc (k * 4 + 1) _ (by have := g 1 (by omega); simpa [opW] using this)
  · rw [Nat.add_assoc]; exact hc (k * 4 + 2) _ (by have := g 2 (by omega); simpa [opW] using this)
  · rw [Nat.add_assoc]; exact hc (k * 4 + 3) _ (by have := g 3 (by omega); simpa [opW] using this)
theorem RdOpW.cells {w : World} {b f : Nat} {l : List OpW} (h : RdOpW w (some ⟨b, f, none⟩) l) {k : Nat} (hk : k < l.length) :
    (w.cell? ⟨b, f + k * 4, none⟩ = some (.int .i64 l[k].kind) ∧ w.cell? ⟨b, f + k * 4 + 1, none⟩ = some (.int .i64 l[k].n) ∧ w.cell? ⟨b, f + k * 4 + 2, none⟩ = some (.string (str l[k].path)) ∧ w.cell? ⟨b, f + k * 4 + 3, none⟩ = some (.slice l[k].B l[k].mm.length l[k].d)) := by
  obtain ⟨b', f', he, _, h⟩ := h.row hk
  cases he
  exact h
/-- append([]byte{}, b...) from an empty new slice: its run. -/
theorem run_copy (k : Nat) (W : World) (o : Ow) (l : List UInt8) (B : Option Addr) (n d : Nat) (hn : n = l.length) (hB : Rd W B (bc l)) (hb : n ≤ 140737488351232) (ty : TypeId) :
    ∃ A' c' w' o', (Builtin.append_ #[32, 32] ty #[.slice (some ⟨W.heap.size, 0, none⟩) 0 0, .slice B n d]).run Try.prog (W.alloc (.cells #[] 5)) = .ok (.slice A' n c') w' ∧ Sl w' o' k 1 A' n c' (bc l) ∧ Stp (fun _ => False) W o w' o' ∧ (A' = none → c' = 0) := by
  obtain ⟨A', c', w', o', hr, h1, h2, h3⟩ := run_put slt_u8 (tx := 32) ty (w := W.alloc (.cells #[] 5)) (o := fun b => if b < W.heap.size then o b else 0) (Sl.nil_ _ _ k 1 (some ⟨W.heap.size, 0, none⟩)) (fun h => by cases h) (Sl.src Try.underlying32 (hB.ext (by (repeat (first | exact Ext.rfl' _ | assumption | refine Ext.dr ?_ | refine Ext.drN ?_ _ | refine Ext.al ?_ _ | refine Ext.st ?_ (by simp) _ | refine Ext.tr ?_ (by assumption))))) (n := n) (by simp [hn]) (by omega) (bc_one _) d) (by omega) (by simp only [maxLen]; omega)
  rw [Nat.zero_add] at hr h1
  exact ⟨A', c', w', o', hr, h1, (Stp.ext2 (by (repeat (first | exact Ext.rfl' _ | assumption | refine Ext.dr ?_ | refine Ext.drN ?_ _ | refine Ext.al ?_ _ | refine Ext.st ?_ (by simp) _ | refine Ext.tr ?_ (by assumption)))) (fun b hb => if_pos hb)).tr (h2.mono fun _ hi => by omega), h3⟩
/-- An append whose run is known, in a drawn region. -/
theorem step_run {P : Program} {ops : Array Oper} {o : Oper} {a : Act} {K : Act → World → Prop} {Q : Exit → Act → World → Prop} {E : Prop} (s x : Operand) {t tx : TypeId}
    (ho : o.op = .call { callee := .builtin .append, args := #[s, x], argTypes := #[t, tx] }) (hgd : o.guard = none) {sv xv v' : Value} {w w' : World} (hs : a.eval s = sv) (hx : a.eval x = xv)
    (hr : (Builtin.append_ #[t, tx] o.type #[sv, xv]).run P w = .ok v' w') (h : K (a.put o.dst v') w') : if Region.wanted o (yielded ops a.tmps) = true then Oper.wp P o a w K Q else E := by
  have hw : Region.wanted o (yielded ops a.tmps) = true := by simp [Region.wanted, hgd]
  rw [if_pos hw]
  unfold Oper.wp execOp
  simp only [ho, resolve, invoke, builtin, Sem.run_bind, Sem.run_pure, Result.andThen_ok, List.map_toArray, List.map_cons, List.map_nil, hs, hx, hr]
  exact h
theorem putW_zero {s : Wrl} {l b : List UInt8} (h : (putW s l b).2 = 0) : (putW s l b).1 = ⟨putM s.L l ⟨b, s.now, s.ver + 1⟩, s.now, s.ver + 1⟩ := by
  unfold putW at h ⊢
  split at h
  · cases h
  · rename_i h1
    split at h
    · cases h
    · rename_i h2; rw [if_neg h1, if_neg h2]
theorem putW_some {s : Wrl} {l b : List UInt8} (h : (putW s l b).2 = 0) : lkM (putW s l b).1.L l = some ⟨b, s.now, s.ver + 1⟩ := by rw [putW_zero h]; exact lk_put_same _ _ _
end Go.Proofs.Ytllpffdjlhamkaa
