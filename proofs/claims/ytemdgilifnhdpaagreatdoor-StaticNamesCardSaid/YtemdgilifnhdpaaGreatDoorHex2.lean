/-
Numbers written to the base 16: the program's HexDigits.
-/
import Derived.Test.YtemdgilifnhdpaaGreatDoorHex1
import Derived.Test.YtemdgilifnhdpaaGreatDoorOwn
import Derived.Test.YtemdgilifnhdpaaGreatDoorAsc7
import Derived.Laws.Bits64b
set_option linter.unusedVariables false
set_option linter.unusedSimpArgs false
namespace Go.Proofs.YtemdgilifnhdpaaGreatDoor
open Go.RowKit

/-- The library's table of trailing zeros, where it is asked. -/
def Bru (w : World) : Prop := w.cell? ⟨3, 15, none⟩ = some (.int .u8 4)
theorem Bru.ext {w w' : World} (h : Bru w) (e : Ext w w') : Bru w' := by
  unfold Bru at *; rw [← h]; exact e.cell (lt_of_cell h)

theorem isPow2_c (w : World) : Calls Tryz.prog 168 #[.int .i64 16] w fun e w' => e = .returned (.bool true) ∧ w = w' := by
  have e1 : bits .and .i64 16 15 = 0 := by decide +kernel
  go_enter Tryz.func168, Tryz.ntmps168
  go_wp2
  go_ret
  exact ⟨rfl, rfl⟩
theorem tz64_c (w : World) (h : Bru w) : Calls Tryz.prog 196 #[.int .u64 16] w fun e w' => e = .returned (.int .i64 4) ∧ w = w' := by
  unfold Bru at h
  have e1 : IntKind.u64.wrap (bits .and .u64 16 (IntKind.u64.wrap (-16)) * 285870213051353865) / 288230376151711744 = 15 := by decide +kernel
  go_enter Tryz.func196, Tryz.ntmps196
  go_wp2
  go_ret
  exact ⟨rfl, rfl⟩
theorem tz_c (w : World) (h : Bru w) : Calls Tryz.prog 169 #[.int .u64 16] w fun e w' => e = .returned (.int .i64 4) ∧ w = w' := by
  go_enter Tryz.func169, Tryz.ntmps169
  go_wp2_with (go_at_call 196; refine (tz64_c _ h).mono ?_; rintro e w1 ⟨rfl, rfl⟩)
  go_ret
  exact ⟨rfl, rfl⟩

theorem bits_and_mask (y : Nat) (hy : y < 18446744073709551616) : bits .and .u64 (y : Int) 15 = ((y % 16 : Nat) : Int) := by
  have h := bits_and_u64_nat y 15 hy (by omega)
  rw [show y &&& 15 = y % 16 from Nat.and_two_pow_sub_one_eq_mod y 4] at h
  exact h
def digs36 : ByteArray := ⟨#[48, 49, 50, 51, 52, 53, 54, 55, 56, 57, 97, 98, 99, 100, 101, 102, 103, 104, 105, 106, 107, 108, 109, 110, 111, 112, 113, 114, 115, 116, 117, 118, 119, 120, 121, 122]⟩
theorem digs36_at : ∀ d : Fin 16, digs36[d.val]'(Nat.lt_of_lt_of_le d.isLt (by decide)) = hxB d.val := by decide +kernel
theorem digs36_at' (d : Nat) (h : d < 16) (h' : d < digs36.size) : digs36[d] = hxB d := digs36_at ⟨d, h⟩
theorem zc65 : Tryz.zeroCells246 = Array.replicate 65 (.int .u8 0) := by kernel_rfl
theorem zeros65 (j : Nat) (h : j < 65) : Tryz.zeroCells246[j]? = some (.int .u8 ((0 : UInt8).toNat : Int)) ∧ (decide (((0, 0) : Nat × Nat).1 ≤ j) && decide (j < ((0, 0) : Nat × Nat).2)) = false := by
  rw [zc65]
  exact ⟨by simp [h], by simp⟩
theorem own65 (w : World) (t : TypeId) : Own (w.alloc (.cells Tryz.zeroCells246 t)) w.heap.size (List.replicate 65 0) := by
  refine ⟨_, _, (0, 0), heap_alloc_new w _, fun j hj => ?_⟩
  have := zeros65 j (by rw [List.length_replicate] at hj; exact hj)
  rw [List.getElem_replicate]; exact this
theorem set_digit (j : Nat) (out : List UInt8) (b : UInt8) : (List.replicate (j + 1) (0 : UInt8) ++ out).set j b = List.replicate j 0 ++ (b :: out) := by
  rw [List.replicate_succ', List.append_assoc, List.set_append, if_neg (by simp)]
  simp
theorem slice65 (w : World) (g j : Nat) (hj : j < 65) : (Instr.sliceAt 246 (.pointer (some ⟨g, 0, none⟩)) (some (.int .i64 (j : Int))) none none).run Tryz.prog w = .ok (.slice (some ⟨g, j, none⟩) (65 - j) (65 - j)) w := by
  have e1 : Tryz.prog.arrayLen 246 = 65 := by kernel_rfl
  rw [run_sliceAt_array_l w 246 ⟨g, 0, none⟩ (by rw [e1]; kernel_rfl) .i64 (j : Int) (by omega) (by rw [e1]; omega), e1]
  have e2 : (sizeOf (Tryz.prog.elem 246)).run Tryz.prog w = .ok 1 w := by
    have : Tryz.prog.info? (Tryz.prog.elem 246) = Tryz.prog.info? 5 := by kernel_rfl
    have h8 : (Tryz.prog.info? 5).map (·.size) = some 1 := by kernel_rfl
    obtain ⟨i, hi, hs⟩ := Option.map_eq_some_iff.1 h8
    simp [sizeOf, typeInfo, this, hi, hs]
  rw [e2]
  simp only [Result.andThen_ok, slicedAt, Int.toNat_natCast]
  rw [if_neg (by omega), add_mk]
  simp
set_option maxRecDepth 100000 in
set_option maxHeartbeats 2000000 in
theorem formatBits_c (N : Nat) (hN : N < 18446744073709551616) (w : World) (h : Bru w) :
    Calls Tryz.prog 128 #[.slice none 0 0, .int .u64 (N : Int), .int .i64 16, .bool false, .bool false] w (Gives (.tuple #[.slice none 0 0, .string (str (hxL N))]) w) := by
  have hl := hx_len 15 N (by omega)
  have c1 : IntKind.u64.wrap (16 - 1) = 15 := by decide +kernel
  go_enter Tryz.func128, Tryz.ntmps128
  go_wp2_with (first
    | (go_at_call 168; refine (isPow2_c _).mono ?_; rintro e w1 ⟨rfl, rfl⟩)
    | (go_at_call 169; refine (tz_c _ (h.ext (by (repeat (first | exact Ext.rfl' _ | assumption | refine Ext.dr ?_ | refine Ext.drN ?_ _ | refine Ext.al ?_ _ | refine Ext.st ?_ (by simp) _ | refine Ext.tr ?_ (by assumption)))))).mono ?_; rintro e w2 ⟨rfl, rfl⟩))
  go_loopw [1, 13] (fun u i wr => ∃ (y k : Nat) (out : List UInt8), u = .int .u64 (y : Int) ∧ y ≤ N ∧ i = .int .i64 (k : Int) ∧ k + out.length = 65 ∧ hxL N = hxL y ++ out ∧ Own wr w.heap.size (List.replicate k 0 ++ out) ∧ Ext w wr) (fun u _ _ => (intOf u).toNat)
  case atStart => exact ⟨N, 65, [], rfl, Nat.le_refl _, rfl, rfl, by simp, by rw [List.append_nil]; exact own65 w _, by (repeat (first | exact Ext.rfl' _ | assumption | refine Ext.dr ?_ | refine Ext.drN ?_ _ | refine Ext.al ?_ _ | refine Ext.st ?_ (by simp) _ | refine Ext.tr ?_ (by assumption)))⟩
  case round =>
    obtain ⟨y, k, out, rfl, hy, rfl, hk, hd, hown, hext⟩ := hrel
    have hol : out.length ≤ 15 := by
      have h2 := congrArg List.length hd
      rw [List.length_append] at h2
      have := hx_pos y
      omega
    have HS := Lib.hid fun h : ¬ y < 16 => hx_step hd h
    have HL := Lib.hid fun h : y < 16 => hx_last hd h
    clear hd
    obtain ⟨j, rfl⟩ : ∃ j, k = j + 1 := ⟨k - 1, by omega⟩
    have a0 := hown.cell j (by simp; omega)
    have f0 := hown.free j (by simp; omega)
    have a1 : (List.replicate (j + 1) (0 : UInt8) ++ out)[j]'(by simp; omega) = 0 := by
      rw [List.getElem_append_left (by simp)]; simp
    rw [a1] at a0
    have HO := Lib.hid hown
    clear hown
    have i0 : ((j + 1 : Nat) : Int) - 1 = (j : Int) := by omega
    have i1 : (0 : Int) ≤ (j : Int) := by omega
    have i2 : (j : Int) < 65 := by omega
    have b0 : bits .and .u64 (y : Int) 15 = ((y % 16 : Nat) : Int) := bits_and_mask y (by omega)
    by_cases hy0 : y < 16
    · have dg := digs36_at' y hy0 (by show y < 36; omega)
      unfold digs36 at dg
      go_wp2
      rw [slice65 _ _ _ (by omega)]
      have ho2 := HO.out.set_ j (by simp; omega) (hxB y)
      have hx2 : Ext w (wr.setCell ⟨w.heap.size, j, none⟩ (.int .u8 ((hxB y).toNat : Int))) := hext.st (Nat.le_refl _) _
      generalize wr.setCell ⟨w.heap.size, j, none⟩ (.int .u8 ((hxB y).toNat : Int)) = w2 at *
      rw [set_digit] at ho2
      have hr2 : Rd w2 (some ⟨w.heap.size, j, none⟩) (bc (hxB y :: out)) := by
        have := ho2.rd.drop j
        rw [bc_drop, List.drop_append_of_le_length (by simp), List.drop_of_length_le (by simp), Nat.zero_add] at this
        exact this
      have cv := conv_bs (P := Tryz.prog) 22 9 5 Tryz.underlying22 Tryz.underlying5 Tryz.underlying9 hr2 (65 - j) (65 - j) (by simp; omega)
      go_wp2
      go_ret2
      exact ⟨ret_val (by rw [HL.out hy0, Nat.mod_eq_of_lt hy0]; rfl), hx2⟩
    · have dg := digs36_at' (y % 16) (Nat.mod_lt _ (by omega)) (by show y % 16 < 36; omega)
      unfold digs36 at dg
      go_wp2
      go_roundw
      case rel =>
        have ho2 := HO.out.set_ j (by simp; omega) (hxB (y % 16))
        rw [set_digit] at ho2
        exact ⟨y / 16, j, hxB (y % 16) :: out, by go_num, by omega, rfl, by simp only [List.length_cons]; omega, HS.out hy0, ho2, hext.st (Nat.le_refl _) _⟩
      case measure => simp [intOf]; omega

theorem iFormatUint_c (N : Nat) (hN : N < 18446744073709551616) (w : World) (h : Bru w) :
    Calls Tryz.prog 92 #[.int .u64 (N : Int), .int .i64 16] w (Gives (.string (str (hxL N))) w) := by
  have C := Lib.hid (formatBits_c N hN)
  generalize hxL N = l at *
  go_enter Tryz.func92, Tryz.ntmps92
  go_wp2_with (go_at_call 128; refine (C.out _ h).mono ?_; rintro e w1 ⟨rfl, hx⟩)
  go_ret
  exact ⟨rfl, hx⟩
theorem FormatUint_c (N : Nat) (hN : N < 18446744073709551616) (w : World) (h : Bru w) :
    Calls Tryz.prog 57 #[.int .u64 (N : Int), .int .i64 16] w (Gives (.string (str (hxL N))) w) := by
  have C := Lib.hid (iFormatUint_c N hN)
  generalize hxL N = l at *
  go_enter Tryz.func57, Tryz.ntmps57
  go_wp2_with (go_at_call 92; refine (C.out _ h).mono ?_; rintro e w1 ⟨rfl, hx⟩)
  go_ret
  exact ⟨rfl, hx⟩
theorem HexDigits_c (n : Int) (w : World) (h : Bru w) :
    Calls Tryz.prog 25 #[.int .i64 n] w (Gives (.string (hexB n)) w) := by
  have hN := u64N_lt n
  have hw : IntKind.u64.wrap n = (u64N n : Int) := by unfold u64N; simp [IntKind.wrap, IntKind.signed, IntKind.bits]; omega
  unfold hexB
  have C := Lib.hid (FormatUint_c (u64N n) hN)
  generalize u64N n = N at *
  generalize hxL N = l at *
  go_enter Tryz.func25, Tryz.ntmps25
  go_wp2_with (go_at_call 57; refine (C.out _ h).mono ?_; rintro e w1 ⟨rfl, hx⟩)
  go_ret
  exact ⟨rfl, hx⟩
end Go.Proofs.YtemdgilifnhdpaaGreatDoor
