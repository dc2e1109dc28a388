/-
Bytes with marked room behind them: the laws' Lent and Stays.
-/
import Derived.Test.YtllpffdjlhamkaaTrn
set_option linter.unusedVariables false
set_option linter.unusedSimpArgs false
namespace Go.Proofs.Ytllpffdjlhamkaa
open Go.RowKit

/-- Bytes, and two marked ones behind them, all in one room that k owns. -/
def LentIs (k : Nat) (l : List UInt8) (v : Value) (w : World) (o : Ow) : Prop := ∃ A c, v = .slice A l.length c ∧ l.length + 2 ≤ c ∧ Sl w o k 1 A (l.length + 2) c (bc (l ++ [201, 202]))
set_option maxRecDepth 100000 in
set_option maxHeartbeats 1000000 in
theorem Lent_c (k : Nat) (l : List UInt8) (B : Option Addr) (n d : Nat) (hn : n = l.length) (w : World) (o : Ow) (h : Rd w B (bc l)) (hb : n ≤ 140737488351232) :
    Calls Try.prog 13 #[.slice B n d] w (Turns (fun i => i = k) w o (LentIs k l)) := by
  subst hn
  have HR := Lib.hid h
  clear h
  have hms : maxLen = 9223372036854775807 := rfl
  have l0 : (0 : Int) ≤ (l.length : Int) := by omega
  go_enter Try.func13, Try.ntmps13
  go_wp2_with (first
    | (at_builtin; refine wpL_fresh slt_u8 (.tmp 4) (.tmp 5) rfl rfl (o := o) k rfl rfl (Sl.src Try.underlying32 (HR.out.ext (by (repeat (first | exact Ext.rfl' _ | assumption | refine Ext.dr ?_ | refine Ext.drN ?_ _ | refine Ext.al ?_ _ | refine Ext.st ?_ (by simp) _ | refine Ext.tr ?_ (by assumption))))) (by simp) (by omega) (bc_one _) d) (by omega) (by omega) ?_; intro A1 c1 w1 o1 hs1 hst1 hn1; have st1 : Stp (fun _ => False) w o w1 o1 := (Stp.ext (by (repeat (first | exact Ext.rfl' _ | assumption | refine Ext.dr ?_ | refine Ext.drN ?_ _ | refine Ext.al ?_ _ | refine Ext.st ?_ (by simp) _ | refine Ext.tr ?_ (by assumption))))).tr hst1)
    | (at_builtin; refine wpL_put slt_u8 (.tmp 7) (.tmp 8) rfl rfl rfl rfl (hs1.ext (by (repeat (first | exact Ext.rfl' _ | assumption | refine Ext.dr ?_ | refine Ext.drN ?_ _ | refine Ext.al ?_ _ | refine Ext.st ?_ (by simp) _ | refine Ext.tr ?_ (by assumption))))) hn1 (Sl.src Try.underlying32 (n := 2) (xs := bc [201, 202]) (.inr ⟨w1.heap.size, 0, rfl, fun j u hj => by rw [Nat.zero_add]; exact new_at w1 _ 5 j u (by simpa [bc] using hj)⟩) rfl (by omega) (bc_one _) _) (by omega) (by omega) ?_; intro A2 c2 w2 o2 hs2 hst2 hn2; have hc2 := hs2.le; have hc3 : (l.length : Int) ≤ (c2 : Int) := (by omega)))
  go_ret
  exact Turns.mk o2 rfl ⟨A2, c2, rfl, hc2, by rw [bc_app]; exact hs2⟩ ((st1.mono fun _ x => x.elim).tr ((Stp.ext (by (repeat (first | exact Ext.rfl' _ | assumption | refine Ext.dr ?_ | refine Ext.drN ?_ _ | refine Ext.al ?_ _ | refine Ext.st ?_ (by simp) _ | refine Ext.tr ?_ (by assumption))))).tr hst2))

set_option maxRecDepth 100000 in
set_option maxHeartbeats 2000000 in
theorem Stays_c (l : List UInt8) (A B : Option Addr) (n c m d : Nat) (hn : n = l.length) (hm : m = l.length) (w : World) (hc : l.length + 2 ≤ c) (hA : Rd w A (bc (l ++ [201, 202]))) (hB : Rd w B (bc l)) (hb : l.length ≤ 140737488351232) :
    Calls Try.prog 15 #[.slice A n c, .slice B m d] w (Gives (.bool true) w) := by
  subst hn hm
  obtain ⟨b, f, rfl, hbl, hcl⟩ := hA.at_ (by simp)
  have a1 := hcl l.length _ (bc_at (l ++ [201, 202]) l.length (by simp))
  have a2 := hcl (l.length + 1) _ (bc_at (l ++ [201, 202]) (l.length + 1) (by simp))
  have v1 : (l ++ [201, 202])[l.length]'(by simp) = 201 := by simp
  have v2 : (l ++ [201, 202])[l.length + 1]'(by simp) = 202 := by
    rw [List.getElem_append_right (by omega)]; simp
  rw [v1] at a1
  rw [v2] at a2
  have hr : Rd w (some ⟨b, f, none⟩) (bc l) := by
    have := hA.take l.length
    rw [bc_take, List.take_left] at this; exact this
  have s2 : IntKind.i64.wrap ((l.length : Int) + 2) = (l.length : Int) + 2 := by rw [IntKind.wrap_i64]; omega
  have s1 : IntKind.i64.wrap ((l.length : Int) + 1) = (l.length : Int) + 1 := by rw [IntKind.wrap_i64]; omega
  have i1 : (0 : Int) ≤ (l.length : Int) + 2 := by omega
  have i2 : (l.length : Int) + 2 ≤ (c : Int) := by omega
  have i3 : (0 : Int) ≤ (l.length : Int) := by omega
  have i4 : (l.length : Int) ≤ (c : Int) := by omega
  have i5 : (l.length : Int) < ((l.length + 2 : Nat) : Int) := by omega
  have i8 : (l.length : Int) < (l.length : Int) + 2 := by omega
  have i9 : ((l.length : Int) : Int).toNat = l.length := by omega
  have i10 : l.length < l.length + 2 := by omega
  have i6 : (l.length : Int) + 1 < ((l.length + 2 : Nat) : Int) := by omega
  have i7 : (0 : Int) ≤ (l.length : Int) + 1 := by omega
  have t1 : ((l.length : Int) + 1).toNat = l.length + 1 := by omega
  have t2 : ((l.length : Int) + 2).toNat = l.length + 2 := by omega
  obtain ⟨s, hs⟩ : ∃ s, s = str l := ⟨_, rfl⟩
  have cv1 := fun w' (e : Ext w w') => conv_bs (P := Try.prog) 32 9 5 Try.underlying32 Try.underlying5 Try.underlying9 (hr.ext e) l.length c rfl
  have cv2 := fun w' (e : Ext w w') => conv_bs (P := Try.prog) 32 9 5 Try.underlying32 Try.underlying5 Try.underlying9 (hB.ext e) l.length d rfl
  rw [← hs] at cv1 cv2
  have hks := Lib.hid (fun w' (e : Ext w w') => (show w'.cell? ⟨b, f + l.length, none⟩ = some (.int .u8 201) ∧ w'.cell? ⟨b, f + (l.length + 1), none⟩ = some (.int .u8 202) ∧
    (convert 32 9 (.slice (some ⟨b, f, none⟩) l.length c)).run Try.prog w' = .ok (.string s) w' ∧ (convert 32 9 (.slice B l.length d)).run Try.prog w' = .ok (.string s) w' from
    ⟨(e.cell (lt_of_cell a1)).trans a1, (e.cell (lt_of_cell a2)).trans a2, cv1 w' e, cv2 w' e⟩))
  clear hA hB hr hcl v1 v2 cv1 cv2 hs a1 a2
  go_enter Try.func15, Try.ntmps15
  go_wp2
  go_region_held3 (fun w' => w'.cell? ⟨b, f + l.length, none⟩ = some (.int .u8 201) ∧ w'.cell? ⟨b, f + (l.length + 1), none⟩ = some (.int .u8 202) ∧
    (convert 32 9 (.slice (some ⟨b, f, none⟩) l.length c)).run Try.prog w' = .ok (.string s) w' ∧ (convert 32 9 (.slice B l.length d)).run Try.prog w' = .ok (.string s) w') (exact hks.out _ (by (repeat (first | exact Ext.rfl' _ | assumption | refine Ext.dr ?_ | refine Ext.drN ?_ _ | refine Ext.al ?_ _ | refine Ext.st ?_ (by simp) _ | refine Ext.tr ?_ (by assumption))))) (fail)
  all_goals (go_wp2; go_ret; exact ⟨rfl, by (repeat (first | exact Ext.rfl' _ | assumption | refine Ext.dr ?_ | refine Ext.drN ?_ _ | refine Ext.al ?_ _ | refine Ext.st ?_ (by simp) _ | refine Ext.tr ?_ (by assumption)))⟩)
end Go.Proofs.Ytllpffdjlhamkaa
