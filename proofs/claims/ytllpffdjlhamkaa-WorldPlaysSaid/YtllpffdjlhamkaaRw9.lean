/-
Both worlds: what a call on both needs.
-/
import Derived.Test.YtllpffdjlhamkaaRw8
import Derived.Test.YtllpffdjlhamkaaWp2
import Derived.Test.YtllpffdjlhamkaaLent
import Derived.Test.YtllpffdjlhamkaaAsc12
import Derived.Deep.CutBlock
set_option linter.unusedVariables false
set_option linter.unusedSimpArgs false
namespace Go.Proofs.Ytllpffdjlhamkaa
open Go.RowKit

section
variable {K : Nat → Prop} {w w' : World} {o o' : Ow}
theorem Stp.dr (h : Stp K w o w' o') : Stp K w o w'.drew o' := h.tr (Stp.ext (Ext.dr (Ext.rfl' _)))
theorem Stp.drN (h : Stp K w o w' o') (n : Nat) : Stp K w o (w'.drewN n) o' := h.tr (Stp.ext (Ext.drN (Ext.rfl' _) n))
theorem Stp.al (h : Stp K w o w' o') (x : Obj) : Stp K w o (w'.alloc x) o' := h.tr (Stp.ext (Ext.al (Ext.rfl' _) x))
end
/-- A world behind an order. -/
def stepW (s : Wrl) (x : OpW) : Wrl := if x.kind = 0 then (putW s x.path x.mm).1 else if x.kind = 1 then (removeW s x.path).1 else if x.kind = 2 then (tickW s x.n).1 else s
theorem stepW_ok {s : Wrl} (h : Wok s) (x : OpW) : Wok (stepW s x) ∧ (stepW s x).ver ≤ s.ver + 1 := by
  unfold stepW
  split
  · have := putW_ok h x.path x.mm; exact ⟨this.1, this.2.2.2⟩
  · split
    · have := removeW_ok h x.path; exact ⟨this.1, by rw [this.2.2]; omega⟩
    · split
      · have := tickW_ok h x.n; exact ⟨this.1, by rw [this.2.2]; omega⟩
      · exact ⟨h, by omega⟩
/-- What is told of a file. -/
structure FT where
  l : List UInt8
  b : List UInt8
  mt : Int
  ve : Int
  e : Int
def fileT (s : Wrl) (l : List UInt8) : FT := match lkM s.L l with
  | none => ⟨[], [], 0, 0, 3⟩
  | some f => ⟨l, f.b, f.mt, f.ve, 0⟩
theorem fileT_len {s : Wrl} (h : Wok s) (l : List UInt8) : (fileT s l).b.length ≤ 1048576 := by
  unfold fileT
  cases hf : lkM s.L l with
  | none => simp
  | some f => exact h.size _ (lk_mem hf)
def FileV (F : FT) (j : Nat) (v : Value) (w' : World) (o' : Ow) : Prop := ∃ A c, v = .tuple #[.agg #[.string (str F.l), .slice A F.b.length c, .int .i64 F.mt], .int .i64 F.ve, .int .i64 F.e] ∧ Sl w' o' j 1 A F.b.length c (bc F.b) ∧ (A = none → c = 0)
theorem wFile_g (j : Nat) (w : World) (o : Ow) (k p : Nat) (s : Wrl) (h : WdAt w o k p s) (hk : Wok s) (l : List UInt8) (hl : l.length ≤ 140737488355328) :
    Calls Try.prog 11 #[.pointer (some ⟨p, 0, none⟩), .string (str l)] w (Turns (fun _ => False) w o (FileV (fileT s l) j)) := by
  unfold fileT
  cases hf : lkM s.L l with
  | none =>
    refine (wFile_none w o k p s h l hl hf).mono ?_
    rintro e w' ⟨rfl, hx⟩
    exact Turns.mk o rfl ⟨none, 0, rfl, Sl.nil_ _ _ _ _ _, fun _ => rfl⟩ (Stp.ext hx)
  | some f => exact wFile_some j w o k p s h hk l hl f hf
theorem rwFile_g (j : Nat) (w : World) (o : Ow) (k p : Nat) (s : Wrl) (h : RwAt w o k p s) (hk : Wok s) (l : List UInt8) :
    Calls Try.prog 19 #[.pointer (some ⟨p, 0, none⟩), .string (str l)] w (Turns (fun _ => False) w o (FileV (fileT s l) j)) := by
  unfold fileT
  cases hf : lkM s.L l with
  | none =>
    refine (rwFile_none w o k p s h hk l hf).mono ?_
    rintro e w' ⟨rfl, hx⟩
    exact Turns.mk o rfl ⟨none, 0, rfl, Sl.nil_ _ _ _ _ _, fun _ => rfl⟩ (Stp.ext hx)
  | some f => exact rwFile_some j w o k p s h hk l f hf
/-- What a step may turn. -/
def KS (k : Nat) : Nat → Prop := fun i => (k ≤ i ∧ i < k + 7) ∨ 90 ≤ i
/-- Both worlds as they stand, and the block of the order. -/
def SwAt (w0 : World) (o0 : Ow) (k p r g : Nat) (s : Wrl) (cs : Array Value) (w : World) : Prop :=
  ∃ o, Stp (KS k) w0 o0 w o ∧ WdAt w o k p s ∧ RwAt w o (k + 3) r s ∧ o g = 89 ∧ w.heap[g]? = some (.cells cs 34 (0, 0))
def opV (x : OpW) : Array Value := #[.int .i64 x.kind, .int .i64 x.n, .string (str x.path), .slice x.B x.mm.length x.d]
end Go.Proofs.Ytllpffdjlhamkaa
