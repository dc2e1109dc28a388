/-
The types are laid out, put together.
-/
import Derived.Test.YtieheagfcmcbiaaGreatDoorLyA
import Derived.Test.YtieheagfcmcbiaaGreatDoorLyB
import Derived.Test.YtieheagfcmcbiaaGreatDoorLyC
set_option linter.unusedVariables false
namespace Go.Proofs.YtieheagfcmcbiaaGreatDoor
open Go
theorem lay_at {k c : Nat} (h : (List.range c).all (fun i => rowFine Tryz.prog (i + k)) = true) {t : Nat} (h1 : k ≤ t) (h2 : t < k + c) : rowFine Tryz.prog t = true := by
  have := List.all_eq_true.1 h (t - k) (List.mem_range.2 (by omega))
  rwa [Nat.sub_add_cancel h1] at this
theorem laidOutE : laidOutB Tryz.prog = true := by
  unfold laidOutB
  rw [lay_glob, lay_fun, Bool.and_true, Bool.and_true, List.all_eq_true]
  intro t ht
  have hlt : t < 719 := by rw [← lay_size]; exact List.mem_range.1 ht
  by_cases h0 : t < 180
  · exact lay_at lay_0 (by omega) (by omega)
  by_cases h180 : t < 360
  · exact lay_at lay_180 (by omega) (by omega)
  by_cases h360 : t < 540
  · exact lay_at lay_360 (by omega) (by omega)
  by_cases h540 : t < 719
  · exact lay_at lay_540 (by omega) (by omega)
  omega
end Go.Proofs.YtieheagfcmcbiaaGreatDoor
