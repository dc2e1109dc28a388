/-
Equal but for great and small letters.
-/
import Derived.Test.YtpkgoppfihcpbaaDoorAsc8
set_option linter.unusedVariables false
set_option linter.unusedSimpArgs false
namespace Go.Proofs.YtpkgoppfihcpbaaDoor
open Go.RowKit

set_option maxRecDepth 100000 in
theorem Equal_c (a b : List UInt8) (ha : a.length ≤ maxLen) (hb : b.length ≤ maxLen) (w : World) :
    Calls Tryd.prog 26 #[.string (str a), .string (str b)] w (Gives (.bool (lowL a == lowL b)) w) := by
  by_cases hl : a.length = b.length
  · have hl' : ((a.length : Int) == (b.length : Int)) = true := by rw [beq_iff_eq]; omega
    have HL := Lib.hid hl
    clear hl
    go_enter Tryd.func26, Tryd.ntmps26
    go_wp2_with (go_at_call 40; refine (Lower_c _ (by assumption) _).mono ?_; rintro e w1 ⟨rfl, hx⟩)
    go_ret
    exact ⟨ret_bool (by try simp [str_inj]), by (repeat (first | exact Ext.rfl' _ | assumption | refine Ext.dr ?_ | refine Ext.al ?_ _ | refine Ext.st ?_ (by simp) _ | refine Ext.tr ?_ (by assumption)))⟩
  · have hl' : ((a.length : Int) == (b.length : Int)) = false := by rw [beq_eq_false_iff_ne]; omega
    have hne : (lowL a == lowL b) = false := by
      rw [beq_eq_false_iff_ne]; intro h; have := congrArg List.length h; simp [lowL] at this; exact hl this
    have HN := Lib.hid hne
    clear hne hl
    go_enter Tryd.func26, Tryd.ntmps26
    go_wp2_with (go_at_call 40; refine (Lower_c _ (by assumption) _).mono ?_; rintro e w1 ⟨rfl, hx⟩)
    go_ret
    exact ⟨ret_bool (by rw [HN.out]), by (repeat (first | exact Ext.rfl' _ | assumption | refine Ext.dr ?_ | refine Ext.al ?_ _ | refine Ext.st ?_ (by simp) _ | refine Ext.tr ?_ (by assumption)))⟩
end Go.Proofs.YtpkgoppfihcpbaaDoor
