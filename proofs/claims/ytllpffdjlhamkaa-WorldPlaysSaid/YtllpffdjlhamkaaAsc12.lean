/-
Two lists of texts that are the same.
-/
import Derived.Test.YtllpffdjlhamkaaAsc11
set_option linter.unusedVariables false
set_option linter.unusedSimpArgs false
namespace Go.Proofs.Ytllpffdjlhamkaa
open Go.RowKit

/-- Element k of a slice of texts, in every later world. -/
theorem Rd.text {w : World} {A : Option Addr} {ps : List (List UInt8)} (h : Rd w A (sc ps)) {k : Nat} (hk : k < ps.length) :
    ∃ b o, A = some ⟨b, o, none⟩ ∧ b < w.heap.size ∧ Hid (∀ w', Ext w w' → w'.cell? ⟨b, o + k, none⟩ = some (.string (str ps[k]))) := by
  obtain ⟨b, o, rfl, hb, _⟩ := h.at_ (by rw [sc_len]; omega)
  refine ⟨b, o, rfl, hb, fun w' e => ?_⟩
  obtain ⟨b', o', he, _, hc'⟩ := (h.ext e).at_ (by rw [sc_len]; omega)
  cases he
  exact hc' k _ (sc_at ps k hk)

set_option maxRecDepth 100000 in
set_option maxHeartbeats 1000000 in
theorem SameStrings_c (w : World) (A B : Option Addr) (n m c d : Nat) (ps : List (List UInt8)) (hn : ps.length = n) (hm : ps.length = m) (hl : n ≤ maxLen) (ha : Rd w A (sc ps)) (hb : Rd w B (sc ps)) :
    Calls Try.prog 23 #[.slice A n c, .slice B m d] w (Gives (.bool true) w) := by
  obtain rfl : n = m := hn.symm.trans hm
  unfold maxLen at hl
  go_enter Try.func23, Try.ntmps23
  go_wp2
  go_loopw [5] (fun i wr => ∃ k : Nat, k ≤ n ∧ i = .int .i64 k ∧ Ext w wr) (fun i _ => n - (intOf i).toNat)
  case atStart => exact ⟨0, Nat.zero_le _, rfl, Ext.rfl' _⟩
  case round =>
    obtain ⟨k, hk, rfl, hext⟩ := hrel
    by_cases hlt : k < n
    · obtain ⟨b, o, rfl, hbl, hS⟩ := ha.text (k := k) (by omega)
      obtain ⟨b', o', rfl, hbl', hS'⟩ := hb.text (k := k) (by omega)
      have a0 := hS.out wr hext
      have b0 := hS'.out wr hext
      obtain ⟨p, hp⟩ : ∃ p, p = ps[k] := ⟨_, rfl⟩
      rw [← hp] at a0 b0
      have hk0 : (0 : Int) ≤ (k : Int) := by omega
      have hk1 : (k : Int) < (n : Int) := by omega
      clear hp
      go_wp2
      go_quiet (fail)
      go_wp2
      go_roundw
      case rel => exact ⟨k + 1, by omega, by go_num, by first | exact hext.drN _ | (simp; exact hext.drN _)⟩
      case measure => simp [intOf]; omega
    · obtain rfl : k = n := by omega
      go_wp2
      go_ret
      exact ⟨rfl, hext⟩
end Go.Proofs.Ytllpffdjlhamkaa
