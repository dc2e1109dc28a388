/-
strconv.ParseUint at a row of digits, to the bases 10 and 16, at 63 bits: the number, or an error that is not nil.
-/
import Derived.Test.YtllpffdjlhamkaaDoorPu2
import Derived.Test.YtllpffdjlhamkaaDoorShelfPu
set_option linter.unusedVariables false
set_option linter.unusedSimpArgs false
namespace Go.Proofs.YtllpffdjlhamkaaDoor
open Go.RowKit

/-- The variable ErrRange holds an error. -/
def ErrR (w : World) : Prop := ∃ te pe, w.cell? ⟨5, 0, none⟩ = some (.iface te pe)
theorem ErrR.ext {w w' : World} (h : ErrR w) (x : Ext w w') : ErrR w' := by
  obtain ⟨te, pe, hc⟩ := h
  exact ⟨te, pe, (x.cell (lt_of_cell hc)).trans hc⟩
theorem toErr_c (fn s : ByteArray) (base bits : Int) (w : World) (hlim : s.size ≤ 281474976710656) (h : ErrR w) :
    Calls Tryd.prog 78 #[.string fn, .string s, .int .i64 base, .int .i64 bits, .iface 114 (.int .i64 1)] w fun e w' => ∃ N, e = .returned (.iface 116 (.pointer (some ⟨N, 0, none⟩))) ∧ Ext w w' := by
  obtain ⟨te, pe, hc⟩ := h
  have hn : Go.Proofs.LaysPu.n17 Tryd.prog Tryd.laysPu14_ren := { Tryd.laysPu14 with }
  have := AnyPu.strconv_toError_range (P := Tryd.prog) (ρ := Tryd.laysPu14_ren) hn fn s base bits (.iface te pe) w hlim hc (.inr ⟨te, pe, rfl⟩)
  refine Calls.mono this ?_
  rintro e w' ⟨N, rfl, h1, h2, h3⟩
  exact ⟨N, rfl, h3⟩
/-- A tuple whose second is an error. -/
def IsErr2 (v : Value) (_ : World) : Prop := ∃ N, v = .tuple #[.int .u64 9223372036854775807, .iface 116 (.pointer (some ⟨N, 0, none⟩))]

theorem ParseUint10_ok (l : List UInt8) (hne : 0 < l.length) (hs : l.length ≤ 140737488355328) (hd : ∀ b ∈ l, isDig 10 b = true) (n : Nat) (hn : n = valL 10 l) (hlt : n < 9223372036854775808) (w : World) :
    Calls Tryd.prog 66 #[.string (str l), .int .i64 10, .int .i64 63] w (Gives (.tuple #[.int .u64 (n : Int), .nilIface]) w) := by
  have C := iParseUint10_c l hne hs hd
  rw [← hn, puV_lt hlt] at C
  have C := Lib.hid C
  clear hd hn hlt
  go_enter Tryd.func66, Tryd.ntmps66
  go_wp2_with (go_at_call 77; refine (C.out _).mono ?_; rintro e w1 ⟨rfl, hx⟩)
  go_ret2
  exact ⟨rfl, hx⟩
theorem ParseUint10_range (l : List UInt8) (hne : 0 < l.length) (hs : l.length ≤ 140737488355328) (hd : ∀ b ∈ l, isDig 10 b = true) (hge : 9223372036854775808 ≤ valL 10 l) (w : World) (hE : ErrR w) :
    Calls Tryd.prog 66 #[.string (str l), .int .i64 10, .int .i64 63] w (Ret IsErr2 w) := by
  have C := iParseUint10_c l hne hs hd
  rw [puV_ge hge] at C
  have C := Lib.hid C
  clear hd hge
  go_enter Tryd.func66, Tryd.ntmps66
  go_wp2_with (first
    | (go_at_call 77; refine (C.out _).mono ?_; rintro e w1 ⟨rfl, hx⟩)
    | (go_at_call 78; refine (toErr_c _ _ _ _ _ (by rw [str_size]; omega) (hE.ext hx)).mono ?_; rintro e w2 ⟨N, rfl, hx2⟩))
  go_ret2
  exact Ret.is rfl ⟨N, rfl⟩ (by (repeat (first | exact Ext.rfl' _ | assumption | refine Ext.dr ?_ | refine Ext.drN ?_ _ | refine Ext.al ?_ _ | refine Ext.st ?_ (by simp) _ | refine Ext.tr ?_ (by assumption))))
theorem ParseUint16_ok (l : List UInt8) (hne : 0 < l.length) (hs : l.length ≤ 140737488355328) (hd : ∀ b ∈ l, isDig 16 b = true) (n : Nat) (hn : n = valL 16 l) (hlt : n < 9223372036854775808) (w : World) :
    Calls Tryd.prog 66 #[.string (str l), .int .i64 16, .int .i64 63] w (Gives (.tuple #[.int .u64 (n : Int), .nilIface]) w) := by
  have C := iParseUint16_c l hne hs hd
  rw [← hn, puV_lt hlt] at C
  have C := Lib.hid C
  clear hd hn hlt
  go_enter Tryd.func66, Tryd.ntmps66
  go_wp2_with (go_at_call 77; refine (C.out _).mono ?_; rintro e w1 ⟨rfl, hx⟩)
  go_ret2
  exact ⟨rfl, hx⟩
theorem ParseUint16_range (l : List UInt8) (hne : 0 < l.length) (hs : l.length ≤ 140737488355328) (hd : ∀ b ∈ l, isDig 16 b = true) (hge : 9223372036854775808 ≤ valL 16 l) (w : World) (hE : ErrR w) :
    Calls Tryd.prog 66 #[.string (str l), .int .i64 16, .int .i64 63] w (Ret IsErr2 w) := by
  have C := iParseUint16_c l hne hs hd
  rw [puV_ge hge] at C
  have C := Lib.hid C
  clear hd hge
  go_enter Tryd.func66, Tryd.ntmps66
  go_wp2_with (first
    | (go_at_call 77; refine (C.out _).mono ?_; rintro e w1 ⟨rfl, hx⟩)
    | (go_at_call 78; refine (toErr_c _ _ _ _ _ (by rw [str_size]; omega) (hE.ext hx)).mono ?_; rintro e w2 ⟨N, rfl, hx2⟩))
  go_ret2
  exact Ret.is rfl ⟨N, rfl⟩ (by (repeat (first | exact Ext.rfl' _ | assumption | refine Ext.dr ?_ | refine Ext.drN ?_ _ | refine Ext.al ?_ _ | refine Ext.st ?_ (by simp) _ | refine Ext.tr ?_ (by assumption))))
end Go.Proofs.YtllpffdjlhamkaaDoor
