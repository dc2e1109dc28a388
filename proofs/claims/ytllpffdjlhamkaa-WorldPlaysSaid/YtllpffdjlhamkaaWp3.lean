/-
A file that is put, or removed, changes no other one: the files that are kept beside, the law's first part.
-/
import Derived.Test.YtllpffdjlhamkaaWp1
import Derived.Test.YtllpffdjlhamkaaWp2
import Derived.Test.YtllpffdjlhamkaaWn2
set_option linter.unusedVariables false
set_option linter.unusedSimpArgs false
namespace Go.Proofs.Ytllpffdjlhamkaa
open Go.RowKit

/-- A file that is kept beside: its path, where its bytes lie, the file. -/
structure FE where
  l : List UInt8
  A : Option Addr
  c : Nat
  f : Fil
def feC (x : FE) : List Value := [.string (str x.l), .slice x.A x.f.b.length x.c, .int .i64 x.f.mt]
def flC (L : List FE) : List Value := L.flatMap feC
theorem flC_len (l : List FE) : (flC l).length = l.length * 3 := by induction l with | nil => rfl | cons x l ih => simp [flC, List.flatMap_cons, feC] at *; omega
theorem flC_app (a b : List FE) : flC (a ++ b) = flC a ++ flC b := by simp [flC]
theorem flC_at (l : List FE) (k i : Nat) (hi : i < 3) : (flC l)[k * 3 + i]? = l[k]?.bind fun x => (feC x)[i]? := by
  induction l generalizing k with
  | nil => simp [flC]
  | cons x l ih => cases k with
    | zero =>
      simp only [flC, List.flatMap_cons, Nat.zero_mul, Nat.zero_add, List.getElem?_cons_zero, Option.bind_some]
      rw [List.getElem?_append_left (by simp [feC]; omega)]
    | succ k =>
      have := ih k
      simp only [flC, List.flatMap_cons] at *
      rw [List.getElem?_append_right (by simp [feC]; omega), show (k + 1) * 3 + i - (feC x).length = k * 3 + i from by simp [feC]; omega, this]
      simp
theorem slt_file : SlT Try.prog 39 46 (.agg #[.string ⟨#[]⟩, .slice none 0 0, .int .i64 0]) 3 48 := ⟨Try.underlying39, by kernel_rfl, rfl, by omega⟩
theorem slt_int13 : SlT Try.prog 40 3 (.int .i64 0) 1 8 := ⟨Try.underlying40, by kernel_rfl, rfl, by omega⟩
def vc (l : List FE) : List Value := l.map fun x => .int .i64 (x.f.ve : Int)
@[simp] theorem vc_len (l : List FE) : (vc l).length = l.length := by simp [vc]
/-- The files that are kept beside, and their versions. -/
structure KeptAt (w : World) (o : Ow) (s : Wrl) (ks : List (List UInt8)) (A1 : Option Addr) (c1 : Nat) (A2 : Option Addr) (c2 : Nat) (fl : List FE) : Prop where
  f1 : Sl w o 5 3 A1 fl.length c1 (flC fl)
  n1 : A1 = none → c1 = 0
  f2 : Sl w o 6 1 A2 fl.length c2 (vc fl)
  n2 : A2 = none → c2 = 0
  names : fl.map (·.l) = ks
  each : ∀ x ∈ fl, Sl w o 7 1 x.A x.f.b.length x.c (bc x.f.b) ∧ lkM s.L x.l = some x.f
theorem KeptAt.stp {K : Nat → Prop} {w w' : World} {o o' : Ow} {s : Wrl} {ks : List (List UInt8)} {A1 A2 : Option Addr} {c1 c2 : Nat} {fl : List FE} (h : KeptAt w o s ks A1 c1 A2 c2 fl) (st : Stp K w o w' o') (h5 : ¬ K 5) (h6 : ¬ K 6) (h7 : ¬ K 7) : KeptAt w' o' s ks A1 c1 A2 c2 fl :=
  ⟨h.f1.stp st h5, h.n1, h.f2.stp st h6, h.n2, h.names, fun x hx => ⟨(h.each x hx).1.stp st h7, (h.each x hx).2⟩⟩
/-- A world, the names, the files that are kept beside. -/
def ApAt (W w : World) (p : Nat) (s s0 : Wrl) (ks done_ : List (List UInt8)) (A0 : Option Addr) (c0 : Nat) (A1 : Option Addr) (c1 : Nat) (A2 : Option Addr) (c2 : Nat) (fl : List FE) : Prop :=
  ∃ o, WdAt w o 1 p s ∧ Sl w o 4 1 A0 ks.length c0 (sc ks) ∧ KeptAt w o s0 done_ A1 c1 A2 c2 fl ∧ Stp (fun i => i ≠ 0) W (fun _ => 0) w o
theorem rd_newG (w : World) (g : Nat) (hg : w.heap.size = g) (xs : List Value) (t : TypeId) : Rd (w.alloc (.cells xs.toArray t)) (some ⟨g, 0, none⟩) xs := by
  subst hg
  exact .inr ⟨_, 0, rfl, fun j u hu => by have := new_cells w xs.toArray t j u (by simpa using hu); rw [add_mk] at this; rw [Nat.zero_add]; rw [Nat.zero_add] at this; exact this⟩
theorem ap_on {W w w' : World} {o o' : Ow} {p : Nat} {s s0 : Wrl} {ks dn : List (List UInt8)} {A0 A1 A2 : Option Addr} {c0 c1 c2 : Nat} {fl : List FE} (hd : WdAt w o 1 p s) (hn : Sl w o 4 1 A0 ks.length c0 (sc ks)) (hk : KeptAt w o s0 dn A1 c1 A2 c2 fl) (hst : Stp (fun i => i ≠ 0) W (fun _ => 0) w o)
    (st : Stp (fun _ => False) w o w' o') : ApAt W w' p s s0 ks dn A0 c0 A1 c1 A2 c2 fl :=
  ⟨o', hd.stp st (fun x => x) (fun x => x) (fun x => x), hn.stp st (fun x => x), hk.stp st (fun x => x) (fun x => x) (fun x => x), hst.tr (st.mono fun _ h => h.elim)⟩
end Go.Proofs.Ytllpffdjlhamkaa
