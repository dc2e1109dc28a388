/-
Several parts in one, read again: the law's own parts.
-/
import Derived.Test.YtllpffdjlhamkaaDoorSp4
set_option linter.unusedVariables false
set_option linter.unusedSimpArgs false
namespace Go.Proofs.YtllpffdjlhamkaaDoor
open Go.RowKit

theorem keep_good {n : Int} (ps : List (Int × Int)) : ∀ q ∈ keepP n ps, goodP n q := by
  intro q hq
  unfold keepP at hq
  obtain ⟨h1, h2⟩ := List.mem_filter.1 hq
  obtain ⟨p, _, rfl⟩ := List.mem_map.1 h1
  have h3 : (partOf n p).1 < (partOf n p).2 := by simpa using h2
  unfold goodP
  unfold partOf at h3 ⊢
  split
  · rename_i h; rw [if_pos h] at h3; dsimp only at h3 ⊢; omega
  · rename_i h
    rw [if_neg h] at h3
    split
    · rename_i h4; rw [if_pos h4] at h3; dsimp only at h3 ⊢; omega
    · rename_i h4; rw [if_neg h4] at h3; dsimp only at h3 ⊢; omega
theorem keep_len (n : Int) (ps : List (Int × Int)) : (keepP n ps).length ≤ ps.length := by
  unfold keepP
  exact Nat.le_trans (List.length_filter_le _ _) (by simp)
/-- What is told: true is said only where it stands. -/
def HasV (l ww : List UInt8) (v : Value) (_ : World) : Prop := ∃ t : Bool, v = .bool t ∧ (t = true → HasW l ww)
set_option maxRecDepth 100000 in
set_option maxHeartbeats 2000000 in
theorem has17_c (l ww : List UInt8) (hl : l.length ≤ 140737488355328) (hw : ww.length ≤ 140737488355328) (w : World) :
    Calls Tryd.prog 11 #[.string (str l), .string (str ww)] w (Ret (HasV l ww) w) := by
  obtain ⟨sl, hsl⟩ : ∃ s, s = str l := ⟨_, rfl⟩
  obtain ⟨sw, hsw⟩ : ∃ s, s = str ww := ⟨_, rfl⟩
  have z1 : sl.size = l.length := by rw [hsl, str_size]
  have z2 : sw.size = ww.length := by rw [hsw, str_size]
  rw [← hsl, ← hsw]
  have HSL := Lib.hid hsl
  have HSW := Lib.hid hsw
  clear hsl hsw
  go_enter Tryd.func11, Tryd.ntmps11
  go_wp2
  go_loopw [5] (fun x wr => ∃ i : Nat, x = .int .i64 (i : Int) ∧ i ≤ l.length + 1 ∧ Ext w wr) (fun x _ => l.length + 1 - (intOf x).toNat)
  case atStart => exact ⟨0, rfl, by omega, by (repeat (first | exact Ext.rfl' _ | assumption | refine Ext.dr ?_ | refine Ext.drN ?_ _ | refine Ext.al ?_ _ | refine Ext.st ?_ (by simp) _ | refine Ext.tr ?_ (by assumption)))⟩
  case round =>
    obtain ⟨i, rfl, hi, hx⟩ := hrel
    have j6 : IntKind.i64.wrap ((i : Int) + (ww.length : Int)) = (i : Int) + (ww.length : Int) := by rw [IntKind.wrap_i64]; omega
    by_cases he : i + ww.length ≤ l.length
    · have j7 : (i : Int) + (ww.length : Int) ≤ (l.length : Int) := by omega
      have j0 : (0 : Int) ≤ (i : Int) := by omega
      have j1 : (i : Int) ≤ (i : Int) + (ww.length : Int) := by omega
      have j4 : ((i : Int) + (ww.length : Int)).toNat = i + ww.length := by omega
      have j5 : i ≤ i + ww.length := by omega
      obtain ⟨sx, hsx⟩ : ∃ s, s = sl.extract i (i + ww.length) := ⟨_, rfl⟩
      have hex : sl.extract i (i + ww.length) = sx := hsx.symm
      have hsx2 : sx = str ((l.drop i).take ww.length) := by
        rw [hsx, HSL.out, str_extract]; congr 1
        rw [List.drop_take]; congr 1; omega
      have HSX := Lib.hid hsx2
      clear hsx hsx2
      by_cases hq : sx = sw
      · subst hq
        go_wp2
        go_ret
        refine Ret.mk ⟨true, rfl, fun _ => ⟨i, he, ?_⟩⟩ (by (repeat (first | exact Ext.rfl' _ | assumption | refine Ext.dr ?_ | refine Ext.drN ?_ _ | refine Ext.al ?_ _ | refine Ext.st ?_ (by simp) _ | refine Ext.tr ?_ (by assumption))))
        unfold standsAt
        have := HSX.out.symm.trans HSW.out
        rwa [str_inj] at this
      · have q1 : ¬ sx.toList = sw.toList := by
          intro h; apply hq
          rw [Lib.toList_data, Lib.toList_data] at h
          have h2 := congrArg str h
          simpa using h2
        have q2 : (sx.toList == sw.toList) = false := by rw [beq_eq_false_iff_ne]; exact q1
        clear hq
        go_wp2
        go_roundw
        case rel => exact ⟨i + 1, by go_num, by omega, by (repeat (first | exact Ext.rfl' _ | assumption | refine Ext.dr ?_ | refine Ext.drN ?_ _ | refine Ext.al ?_ _ | refine Ext.st ?_ (by simp) _ | refine Ext.tr ?_ (by assumption)))⟩
        case measure => simp [intOf]; omega
    · have j7 : ¬ (i : Int) + (ww.length : Int) ≤ (l.length : Int) := by omega
      go_wp2
      go_ret
      exact Ret.mk ⟨false, rfl, fun h => by cases h⟩ (by (repeat (first | exact Ext.rfl' _ | assumption | refine Ext.dr ?_ | refine Ext.drN ?_ _ | refine Ext.al ?_ _ | refine Ext.st ?_ (by simp) _ | refine Ext.tr ?_ (by assumption))))
end Go.Proofs.YtllpffdjlhamkaaDoor
