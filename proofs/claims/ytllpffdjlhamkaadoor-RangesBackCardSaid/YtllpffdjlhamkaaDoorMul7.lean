/-
Several parts in one: plain laws; the law's own parts.
-/
import Derived.Test.YtllpffdjlhamkaaDoorMul6
import Derived.Test.YtllpffdjlhamkaaDoorLent
set_option linter.unusedVariables false
set_option linter.unusedSimpArgs false
namespace Go.Proofs.YtllpffdjlhamkaaDoor
open Go.RowKit

/-- May a part be? -/
def okPt (n : Int) (p : Int × Int) : Prop := 0 ≤ p.1 ∧ p.1 ≤ p.2 ∧ p.2 ≤ n
instance (n : Int) (p : Int × Int) : Decidable (okPt n p) := by unfold okPt; exact inferInstance
def ctT : List UInt8 := [67, 111, 110, 116, 101, 110, 116, 45, 84, 121, 112, 101, 58, 32]
def crT : List UInt8 := [67, 111, 110, 116, 101, 110, 116, 45, 82, 97, 110, 103, 101, 58, 32]
/-- Ahead of the range. -/
def preM (bd kd : List UInt8) : List UInt8 := [45, 45] ++ bd ++ [13, 10] ++ ctT ++ kd ++ [13, 10] ++ crT
def headM (bd kd : List UInt8) (n : Int) (p : Int × Int) : List UInt8 := preM bd kd ++ crL p.1 p.2 n ++ [13, 10] ++ [13, 10]
def bodyM (b : List UInt8) (p : Int × Int) : List UInt8 := (b.take p.2.toNat).drop p.1.toNat
def partM (b bd kd : List UInt8) (p : Int × Int) : List UInt8 := headM bd kd b.length p ++ bodyM b p ++ [13, 10]
def endM (bd : List UInt8) : List UInt8 := [45, 45] ++ bd ++ [45, 45] ++ [13, 10]
def prtsM (b bd kd : List UInt8) (ps : List (Int × Int)) : List UInt8 := ps.flatMap (partM b bd kd)
def fullM (b bd kd : List UInt8) (ps : List (Int × Int)) : List UInt8 := prtsM b bd kd ps ++ endM bd
def valueOk (l : List UInt8) : Bool := (l.all fun b => valB b.toNat) && endsB l
/-- All parts may be. -/
def okPs (n : Int) (ps : List (Int × Int)) : Prop := ∀ p ∈ ps, okPt n p
instance (n : Int) (ps : List (Int × Int)) : Decidable (okPs n ps) := by unfold okPs; exact inferInstance
/-- Several in one, or why not. -/
def mpL (b : List UInt8) (ps : List (Int × Int)) (kd bd : List UInt8) : List UInt8 × Int :=
  if okPs b.length ps then (if valueOk kd = true ∧ plainL bd = true then (if (fullM b bd kd ps).length ≤ 1048576 then (fullM b bd kd ps, 0) else ([], 6)) else ([], 1)) else ([], 1)
/-- A slice of bytes and a number. -/
def IsMP (r : List UInt8 × Int) (v : Value) (w : World) : Prop := ∃ A c, v = .tuple #[.slice A r.1.length c, .int .i64 r.2] ∧ Rd w A (bc r.1)
theorem IsMP.none_ {r : List UInt8 × Int} (w : World) (x : Int) (h : r = ([], x)) : IsMP r (.tuple #[.slice none 0 0, .int .i64 x]) w := by subst h; exact ⟨none, 0, rfl, .inl rfl⟩
theorem IsMP.mk {r : List UInt8 × Int} {w : World} {A : Option Addr} {n c : Nat} {l : List UInt8} (h : r = (l, 0)) (hn : n = l.length) (hr : Rd w A (bc l)) : IsMP r (.tuple #[.slice A n c, .int .i64 0]) w := by subst h hn; exact ⟨A, c, rfl, hr⟩
theorem prts_succ (b bd kd : List UInt8) (ps : List (Int × Int)) (k : Nat) (h : k < ps.length) : prtsM b bd kd (ps.take (k + 1)) = prtsM b bd kd (ps.take k) ++ partM b bd kd ps[k] := by
  unfold prtsM; rw [List.take_succ_eq_append_getElem h, List.flatMap_append]; simp
theorem prts_le (b bd kd : List UInt8) (ps : List (Int × Int)) (k : Nat) : (prtsM b bd kd (ps.take k)).length ≤ (prtsM b bd kd ps).length := by
  have e : ps = ps.take k ++ ps.drop k := (List.take_append_drop k ps).symm
  unfold prtsM
  conv => rhs; rw [e]
  rw [List.flatMap_append, List.length_append]; omega
theorem mp_bad {b : List UInt8} {ps : List (Int × Int)} {kd bd : List UInt8} {k : Nat} (hk : k < ps.length) (h : ¬ okPt b.length ps[k]) : mpL b ps kd bd = ([], 1) := by
  unfold mpL; rw [if_neg (fun h2 => h (h2 _ (List.getElem_mem hk)))]
theorem mp_arg {b : List UInt8} {ps : List (Int × Int)} {kd bd : List UInt8} (h : ¬ (valueOk kd = true ∧ plainL bd = true)) : mpL b ps kd bd = ([], 1) := by
  unfold mpL
  by_cases h0 : okPs b.length ps
  · rw [if_pos h0, if_neg h]
  · rw [if_neg h0]
theorem mp_big {b : List UInt8} {ps : List (Int × Int)} {kd bd : List UInt8} (h0 : okPs b.length ps) (h1 : valueOk kd = true ∧ plainL bd = true) (h2 : 1048576 < (fullM b bd kd ps).length) : mpL b ps kd bd = ([], 6) := by
  unfold mpL; rw [if_pos h0, if_pos h1, if_neg (by omega)]
theorem mp_good {b : List UInt8} {ps : List (Int × Int)} {kd bd : List UInt8} (h0 : okPs b.length ps) (h1 : valueOk kd = true ∧ plainL bd = true) (h2 : (fullM b bd kd ps).length ≤ 1048576) : mpL b ps kd bd = (fullM b bd kd ps, 0) := by
  unfold mpL; rw [if_pos h0, if_pos h1, if_pos h2]
theorem crL_len (a b n : Int) (a0 : -9223372036854775808 ≤ a) (a1 : a ≤ 9223372036854775807) (b0 : -9223372036854775808 < b) (b1 : b ≤ 9223372036854775807) (n0 : -9223372036854775808 ≤ n) (n1 : n ≤ 9223372036854775807) : (crL a b n).length ≤ 80 := by
  have h1 := itoa_len a a0 a1
  have h2 := itoa_len (b - 1) (by omega) (by omega)
  have h3 := itoa_len n n0 n1
  unfold crL
  split
  · simp only [List.length_append, List.length_cons, List.length_nil]; omega
  · simp only [List.length_append, List.length_cons, List.length_nil]; omega
theorem bodyM_len (b : List UInt8) (p : Int × Int) (h : okPt b.length p) : ((bodyM b p).length : Int) = p.2 - p.1 := by
  obtain ⟨h1, h2, h3⟩ := h
  unfold bodyM; rw [List.length_drop, List.length_take]; omega
theorem src_str (l : List UInt8) (w : World) : Src Tryd.prog 1 9 (.string (str l)) l.length (bc l) w := by
  have h := Src.ofString (w := w) Tryd.underlying9 (str l)
  rw [str_size] at h
  exact h
theorem cat2 (l m : List UInt8) (h : l.length + m.length ≤ 140737488355328) (w : World) : (Op.stringOp .add (str l) (str m)).run Tryd.prog w = .ok (.string (str (l ++ m))) w := by
  rw [cat_ok _ _ (by rw [str_size, str_size]; omega)]; simp
set_option maxRecDepth 100000 in
/-- A part of bytes: its value and what it reads as. -/
theorem cut_part (b : List UInt8) (B : Option Addr) (n c X Y : Nat) (w : World) (hR : Rd w B (bc b)) (hX : X ≤ Y) (hY : Y ≤ b.length) (hc : b.length ≤ c) :
    ∃ B', (∀ w', (Instr.slice 22 (.slice B n c) (some (.int .i64 (X : Int))) (some (.int .i64 (Y : Int))) none).run Tryd.prog w' = .ok (.slice B' (Y - X) (c - X)) w') ∧ Rd w B' (bc ((b.take Y).drop X)) := by
  have hl : ((b.take Y).drop X).length = Y - X := by rw [List.length_drop, List.length_take]; omega
  have hz : ∀ w', (Go.sizeOf 5).run Tryd.prog w' = .ok 1 w' := fun _ => rfl
  have hu := Tryd.underlying22
  refine ⟨if c = X then B else B.map (·.add (X * 1)), fun w' => ?_, ?_⟩
  · have h1 : (0 : Int) ≤ (Y : Int) := by omega
    have h2 : (Y : Int) ≤ (c : Int) := by omega
    have h3 : (0 : Int) ≤ (X : Int) := by omega
    have h4 : (X : Int) ≤ (Y : Int) := by omega
    simp [Instr.slice, Instr.sliceBounds, Instr.sliceBound, asIntOf, run_underlying hu, go_sem, h1, h2, h3, h4, hz, hX, (show Y ≤ c by omega)]
  · by_cases h0 : X = Y
    · have h5 : (b.take Y).drop X = [] := List.eq_nil_of_length_eq_zero (by rw [hl]; omega)
      exact .inl (by rw [h5]; rfl)
    · rw [if_neg (by omega)]
      obtain ⟨g, f, rfl, hg, hcc⟩ := hR.at_ (by rw [bc_len]; omega)
      refine .inr ⟨g, f + X * 1, by simp [Addr.add], fun j u hu => ?_⟩
      have hj : j < Y - X := by have := (List.getElem?_eq_some_iff.1 hu).1; rw [bc_len, hl] at this; exact this
      rw [Nat.mul_one, Nat.add_assoc]
      refine hcc (X + j) u ?_
      rw [← hu, ← bc_drop, ← bc_take, List.getElem?_drop, List.getElem?_take_of_lt (by omega)]
end Go.Proofs.YtllpffdjlhamkaaDoor
