/-
Fields by their names: First, the program's and the reference's.
-/
import Derived.Test.YtppajpchibkneaaDoorHd1
set_option linter.unusedVariables false
set_option linter.unusedSimpArgs false
namespace Go.Proofs.YtppajpchibkneaaDoor
open Go.RowKit

/-- The first of texts, and whether there is one. -/
def firstV : List (List UInt8) → Value
  | [] => .tuple #[.string ⟨#[]⟩, .bool false]
  | v :: _ => .tuple #[.string (str v), .bool true]
theorem sc_first {w : World} {A : Option Addr} {v : List UInt8} {ls : List (List UInt8)} (h : Rd w A (sc (v :: ls))) : ∃ b f, A = some ⟨b, f, none⟩ ∧ w.cell? ⟨b, f, none⟩ = some (.string (str v)) := by
  obtain ⟨b, f, rfl, _, hc⟩ := h.at_ (by simp)
  exact ⟨b, f, rfl, hc 0 _ rfl⟩
set_option maxRecDepth 100000 in
set_option maxHeartbeats 2000000 in
theorem hFirst_c (fs : List Fld) (nm : List UInt8) (A : Option Addr) (n c : Nat) (hn : fs.length = n) (hb : n ≤ 8796093022206) (hnm : nm.length ≤ maxLen) (hsz : ∀ p ∈ fs, p.1.length ≤ maxLen) (w : World) (h : Rd w A (fc fs)) :
    Calls Tryd.prog 19 #[.slice A n c, .string (str nm)] w (Gives (firstV (valsH fs nm)) w) := by
  have C := fun w' h' => hValues_c fs nm A n c hn hb hnm hsz w' h'
  have H := Lib.hid h
  have hle := vals_len fs nm
  obtain ⟨vs, hvs⟩ : ∃ v, v = valsH fs nm := ⟨_, rfl⟩
  rw [← hvs] at C hle ⊢
  clear hvs h hsz
  have C := Lib.hid C
  cases vs with
  | nil =>
    go_enter Tryd.func19, Tryd.ntmps19
    go_wp2_with (go_at_call 22; refine (C.out _ (H.out.ext (by (repeat (first | exact Ext.rfl' _ | assumption | refine Ext.dr ?_ | refine Ext.drN ?_ _ | refine Ext.al ?_ _ | refine Ext.st ?_ (by simp) _ | refine Ext.tr ?_ (by assumption)))))).mono ?_; rintro e w1 ⟨v, rfl, ⟨A1, c1, rfl, hr1⟩, hx1⟩)
    go_loopw [12] (fun i wr => i = .int .i64 0 ∧ w1 = wr) (fun i _ => 1 - (intOf i).toNat)
    case atStart => exact ⟨rfl, by trivial⟩
    case round =>
      obtain ⟨rfl, rfl⟩ := hrel
      go_wp2
      go_ret2
      exact ⟨rfl, hx1⟩
  | cons v ls =>
    go_enter Tryd.func19, Tryd.ntmps19
    go_wp2_with (go_at_call 22; refine (C.out _ (H.out.ext (by (repeat (first | exact Ext.rfl' _ | assumption | refine Ext.dr ?_ | refine Ext.drN ?_ _ | refine Ext.al ?_ _ | refine Ext.st ?_ (by simp) _ | refine Ext.tr ?_ (by assumption)))))).mono ?_; rintro e w1 ⟨v, rfl, ⟨A1, c1, rfl, hr1⟩, hx1⟩)
    obtain ⟨b, f, rfl, hc⟩ := sc_first hr1
    go_loopw [12] (fun i wr => i = .int .i64 0 ∧ w1 = wr) (fun i _ => 1 - (intOf i).toNat)
    case atStart => exact ⟨rfl, by trivial⟩
    case round =>
      obtain ⟨rfl, rfl⟩ := hrel
      have h0 : (0 : Int) < ((ls.length + 1 : Nat) : Int) := by omega
      have h1 : (0 : Int) < (ls.length : Int) + 1 := by omega
      go_wp2
      go_ret2
      exact ⟨rfl, hx1⟩
set_option maxRecDepth 100000 in
set_option maxHeartbeats 2000000 in
theorem rhFirst_c (fs : List Fld) (nm : List UInt8) (A : Option Addr) (n c : Nat) (hn : fs.length = n) (hb : n ≤ 8796093022206) (hnm : nm.length ≤ maxLen) (hsz : ∀ p ∈ fs, p.1.length ≤ maxLen) (w : World) (h : Rd w A (fc fs)) :
    Calls Tryd.prog 20 #[.slice A n c, .string (str nm)] w (Gives (firstV (valsH fs nm)) w) := by
  have C := fun w' h' => rhValues_c fs nm A n c hn hb hnm hsz w' h'
  have H := Lib.hid h
  have hle := vals_len fs nm
  obtain ⟨vs, hvs⟩ : ∃ v, v = valsH fs nm := ⟨_, rfl⟩
  rw [← hvs] at C hle ⊢
  clear hvs h hsz
  have C := Lib.hid C
  cases vs with
  | nil =>
    go_enter Tryd.func20, Tryd.ntmps20
    go_wp2_with (go_at_call 23; refine (C.out _ (H.out.ext (by (repeat (first | exact Ext.rfl' _ | assumption | refine Ext.dr ?_ | refine Ext.drN ?_ _ | refine Ext.al ?_ _ | refine Ext.st ?_ (by simp) _ | refine Ext.tr ?_ (by assumption)))))).mono ?_; rintro e w1 ⟨v, rfl, ⟨A1, c1, rfl, hr1⟩, hx1⟩)
    go_ret2
    exact ⟨rfl, hx1⟩
  | cons v ls =>
    have h2 : (((ls.length : Int) + 1) == 0) = false := by rw [beq_eq_false_iff_ne]; omega
    have h1 : (0 : Int) < (ls.length : Int) + 1 := by omega
    go_enter Tryd.func20, Tryd.ntmps20
    go_wp2_with (go_at_call 23; refine (C.out _ (H.out.ext (by (repeat (first | exact Ext.rfl' _ | assumption | refine Ext.dr ?_ | refine Ext.drN ?_ _ | refine Ext.al ?_ _ | refine Ext.st ?_ (by simp) _ | refine Ext.tr ?_ (by assumption)))))).mono ?_; rintro e w1 ⟨v, rfl, ⟨A1, c1, rfl, hr1⟩, hx1⟩; obtain ⟨b, f, rfl, hc⟩ := sc_first hr1)
    go_ret2
    exact ⟨rfl, hx1⟩
end Go.Proofs.YtppajpchibkneaaDoor
