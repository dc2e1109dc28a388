/-
The reference's Trim.
-/
import Derived.Test.YtpkgoppfihcpbaaGreatDoorAsc3
set_option linter.unusedVariables false
set_option linter.unusedSimpArgs false
namespace Go.Proofs.YtpkgoppfihcpbaaGreatDoor
open Go.RowKit

def blk (b : UInt8) : Bool := blkB b.toNat
theorem trimL_eq (l : List UInt8) : trimL l = ((l.dropWhile blk).reverse.dropWhile blk).reverse := by
  have hp : (fun b => ([32, 9] : List UInt8).contains b) = blk := funext blk_mem
  unfold trimL Lib.trimS Lib.trimLeftS Lib.trimRightS
  rw [hp]
  exact trim_comm blk l
theorem cons_len (b : UInt8) (t : List UInt8) : (str (b :: t)).size = t.length + 1 := by simp

theorem nil_or_snoc (l : List UInt8) : l = [] ∨ ∃ t b, l = t ++ [b] := by
  rcases List.eq_nil_or_concat l with h | ⟨t, b, h⟩
  · exact .inl h
  · exact .inr ⟨t, b, by simpa using h⟩
def strLen : Value → Nat | .string s => s.size | _ => 0
set_option maxRecDepth 100000 in
set_option maxHeartbeats 1000000 in
theorem rTrim_c (l : List UInt8) (hs : l.length ≤ maxLen) (w : World) : Calls Tryz.prog 53 #[.string (str l)] w (Gives (.string (str (trimL l))) w) := by
  unfold maxLen at hs
  rw [trimL_eq]
  go_enter Tryz.func53, Tryz.ntmps53
  go_wp2
  go_loopw [0] (fun v wr => ∃ l', v = .string (str l') ∧ l.dropWhile blk = l'.dropWhile blk ∧ l'.length ≤ l.length ∧ w = wr) (fun v _ => strLen v)
  case atStart => exact ⟨l, rfl, rfl, Nat.le_refl _, rfl⟩
  case round =>
    obtain ⟨l', rfl, hd, hll, rfl⟩ := hrel
    have HD := Lib.hid hd
    clear hd
    match l', hll, HD with
    | [], hll, HD =>
      go_wp2
      go_loopw [0] (fun v wr => ∃ l'', v = .string (str l'') ∧ ((l.dropWhile blk).reverse.dropWhile blk) = (l''.reverse.dropWhile blk) ∧ l''.length ≤ l.length ∧ w = wr) (fun v _ => strLen v)
      case atStart => exact ⟨[], rfl, by rw [HD.out, show List.dropWhile blk [] = [] from rfl], by simp only [List.length_cons, List.length_nil]; omega, rfl⟩
      case round =>
        clear HD
        obtain ⟨l'', rfl, hd2, hl2, rfl⟩ := hrel
        have HD2 := Lib.hid hd2
        clear hd2
        rcases nil_or_snoc l'' with rfl | ⟨t2, b2, rfl⟩
        · go_wp2
          go_ret
          exact ⟨ret_val (congrArg (fun x => Value.string (str x)) (by rw [HD2.out]; rfl)), Ext.rfl' _⟩
        · simp only [List.length_append, List.length_cons, List.length_nil] at hl2
          rw [List.reverse_append] at HD2
          by_cases hb2 : blk b2 = true
          · have hb2' : blkB b2.toNat = true := hb2
            go_wp2_with (go_at_call 44; refine (blank_c _ _).mono ?_; rintro e w1 ⟨rfl, rfl⟩)
            go_roundw
            case rel => exact ⟨t2, by simp, by rw [HD2.out]; simp [hb2], by omega, by trivial⟩
            case measure => simp [strLen]
          · have hb2' : blkB b2.toNat = false := by simpa [blk] using hb2
            go_wp2_with (go_at_call 44; refine (blank_c _ _).mono ?_; rintro e w1 ⟨rfl, rfl⟩)
            go_ret
            exact ⟨ret_val (congrArg (fun x => Value.string (str x)) (by rw [HD2.out]; simp [hb2])), Ext.rfl' _⟩
    | b :: t, hll, HD =>
      simp only [List.length_cons] at hll
      by_cases hb : blk b = true
      · have hb' : blkB b.toNat = true := hb
        go_wp2_with (go_at_call 44; refine (blank_c _ _).mono ?_; rintro e w1 ⟨rfl, rfl⟩)
        go_roundw
        case rel => exact ⟨t, rfl, by rw [HD.out, List.dropWhile_cons_of_pos hb], by omega, by trivial⟩
        case measure => simp [strLen]
      · have hb' : blkB b.toNat = false := by simpa [blk] using hb
        have HB := Lib.hid hb
        clear hb
        go_wp2_with (go_at_call 44; refine (blank_c _ _).mono ?_; rintro e w1 ⟨rfl, rfl⟩)
        go_loopw [0] (fun v wr => ∃ l'', v = .string (str l'') ∧ ((l.dropWhile blk).reverse.dropWhile blk) = (l''.reverse.dropWhile blk) ∧ l''.length ≤ l.length ∧ w = wr) (fun v _ => strLen v)
        case atStart => exact ⟨b :: t, rfl, by rw [HD.out, List.dropWhile_cons_of_neg HB.out], by simp only [List.length_cons, List.length_nil]; omega, rfl⟩
        case round =>
          clear HD
          obtain ⟨l'', rfl, hd2, hl2, rfl⟩ := hrel
          have HD2 := Lib.hid hd2
          clear hd2
          rcases nil_or_snoc l'' with rfl | ⟨t2, b2, rfl⟩
          · go_wp2
            go_ret
            exact ⟨ret_val (congrArg (fun x => Value.string (str x)) (by rw [HD2.out]; rfl)), Ext.rfl' _⟩
          · simp only [List.length_append, List.length_cons, List.length_nil] at hl2
            rw [List.reverse_append] at HD2
            by_cases hb2 : blk b2 = true
            · have hb2' : blkB b2.toNat = true := hb2
              go_wp2_with (go_at_call 44; refine (blank_c _ _).mono ?_; rintro e w1 ⟨rfl, rfl⟩)
              go_roundw
              case rel => exact ⟨t2, by simp, by rw [HD2.out]; simp [hb2], by omega, by trivial⟩
              case measure => simp [strLen]
            · have hb2' : blkB b2.toNat = false := by simpa [blk] using hb2
              go_wp2_with (go_at_call 44; refine (blank_c _ _).mono ?_; rintro e w1 ⟨rfl, rfl⟩)
              go_ret
              exact ⟨ret_val (congrArg (fun x => Value.string (str x)) (by rw [HD2.out]; simp [hb2])), Ext.rfl' _⟩
end Go.Proofs.YtpkgoppfihcpbaaGreatDoor
