/-
A queue of bytes: the program's NewQueue; a slice of bytes that is owned, in later worlds.
-/
import Derived.Test.YtolfpfdmgelhhaaDoorQue2
set_option linter.unusedVariables false
set_option linter.unusedSimpArgs false
namespace Go.Proofs.YtolfpfdmgelhhaaDoor
open Go.RowKit

theorem IsB.stp {K : Nat → Prop} {w w' : World} {o o' : Ow} {k : Nat} {l : List UInt8} {v : Value} (h : IsB k l v w o) (s : Stp K w o w' o') (hk : ¬ K k) : IsB k l v w' o' := by
  obtain ⟨A, c, hv, hs, hn⟩ := h
  exact ⟨A, c, hv, hs.stp s hk, hn⟩
theorem IsB.ext {w w' : World} {o : Ow} {k : Nat} {l : List UInt8} {v : Value} (h : IsB k l v w o) (e : Ext w w') : IsB k l v w' o := h.stp (K := fun _ => False) (Stp.ext e) (fun x => x)
theorem IsB.nil_ (k : Nat) (w : World) (o : Ow) : IsB k [] (.slice none 0 0) w o := ⟨none, 0, rfl, Sl.nil_ _ _ _ _ _, fun _ => rfl⟩
end Go.Proofs.YtolfpfdmgelhhaaDoor
