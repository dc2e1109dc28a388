/-
Numbers written to the base 16: plain words, and the reference's HexDigits.
-/
import Derived.Test.YtnakeigpelcajaaGreatDoorDig
import Derived.Test.YtnakeigpelcajaaGreatDoorNum3
import Derived.Test.YtnakeigpelcajaaGreatDoorOwn
import Derived.Test.YtnakeigpelcajaaGreatDoorASa
import Derived.Laws.Bits64b
set_option linter.unusedVariables false
set_option linter.unusedSimpArgs false
/-
Numbers written to the base 16: plain words, and the reference's HexDigits.
-/
section
namespace Go.Proofs.YtnakeigpelcajaaGreatDoor
open Go.RowKit

def hxB (n : Nat) : UInt8 := if n < 10 then UInt8.ofNat (48 + n) else UInt8.ofNat (87 + n)
def hxL (n : Nat) : List UInt8 := if h : n < 16 then [hxB n] else hxL (n / 16) ++ [hxB (n % 16)]
termination_by n
decreasing_by omega
theorem hxL_lt {n : Nat} (h : n < 16) : hxL n = [hxB n] := by rw [hxL, dif_pos h]
theorem hxL_ge {n : Nat} (h : ¬ n < 16) : hxL n = hxL (n / 16) ++ [hxB (n % 16)] := by rw [hxL, dif_neg h]
theorem hx_step {N : Nat} {y : Nat} {out : List UInt8} (h : hxL N = hxL y ++ out) (hy : ¬ y < 16) : hxL N = hxL (y / 16) ++ (hxB (y % 16) :: out) := by
  rw [h, hxL_ge hy]; simp
theorem hx_last {N : Nat} {y : Nat} {out : List UInt8} (h : hxL N = hxL y ++ out) (hy : y < 16) : hxL N = hxB (y % 16) :: out := by
  rw [h, hxL_lt hy, Nat.mod_eq_of_lt hy]; rfl
/-- At most so many digits. -/
theorem hx_len : ∀ (k n : Nat), n < 16 ^ (k + 1) → (hxL n).length ≤ k + 1
  | 0, n, h => by rw [hxL_lt (by simpa using h)]; simp
  | k + 1, n, h => by
    by_cases hn : n < 16
    · rw [hxL_lt hn]; simp
    · rw [hxL_ge hn, List.length_append]
      have := hx_len k (n / 16) (by rw [Nat.pow_succ] at h; omega)
      simp only [List.length_cons, List.length_nil]; omega
theorem hx_pos (n : Nat) : 0 < (hxL n).length := by
  by_cases hn : n < 16
  · rw [hxL_lt hn]; simp
  · rw [hxL_ge hn]; simp
theorem hx_cut : ∀ d : Fin 16, ((⟨#[48, 49, 50, 51, 52, 53, 54, 55, 56, 57, 97, 98, 99, 100, 101, 102]⟩ : ByteArray).extract d.val (d.val + 1)) = str [hxB d.val] := by decide +kernel

/-- A number as a word of 64 bits. -/
def u64N (n : Int) : Nat := (n % 18446744073709551616).toNat
theorem u64N_lt (n : Int) : u64N n < 18446744073709551616 := by unfold u64N; omega
/-- The text to the base 16. -/
def hexB (n : Int) : ByteArray := str (hxL (u64N n))

set_option maxRecDepth 100000 in
set_option maxHeartbeats 1000000 in
theorem rHexDigits_c (n : Int) (w : World) :
    Calls Tryz.prog 17 #[.int .i64 n] w (Gives (.string (hexB n)) w) := by
  have hN := u64N_lt n
  have hl := hx_len 15 (u64N n) (by omega)
  have hw : IntKind.u64.wrap n = (u64N n : Int) := by unfold u64N; simp [IntKind.wrap, IntKind.signed, IntKind.bits]; omega
  unfold hexB
  generalize u64N n = N at *
  go_enter Tryz.func17, Tryz.ntmps17
  go_wp2
  go_loopw [3, 5] (fun i o wr => ∃ (y : Nat) (out : List UInt8), i = .int .u64 y ∧ y ≤ N ∧ o = .string (str out) ∧ hxL N = hxL y ++ out ∧ Ext w wr) (fun i _ _ => (intOf i).toNat)
  case atStart => exact ⟨N, [], by first | rfl | (rw [hw]), Nat.le_refl _, rfl, by simp, Ext.rfl' _⟩
  case round =>
    obtain ⟨y, out, rfl, hy, rfl, hd, hext⟩ := hrel
    have hol : out.length ≤ 16 := by
      have h2 := congrArg List.length hd
      rw [List.length_append] at h2
      omega
    have hcut : (⟨#[48, 49, 50, 51, 52, 53, 54, 55, 56, 57, 97, 98, 99, 100, 101, 102]⟩ : ByteArray).extract (y % 16) (y % 16 + 1) ++ str out = str (hxB (y % 16) :: out) := by
      rw [hx_cut ⟨y % 16, Nat.mod_lt _ (by omega)⟩, str_app]; rfl
    have HS := Lib.hid fun h : ¬ y < 16 => hx_step hd h
    have HL := Lib.hid fun h : y < 16 => hx_last hd h
    have HC := Lib.hid hcut
    clear hd hcut
    by_cases hy0 : y < 16
    · go_wp2
      go_ret
      exact ⟨ret_val (by rw [HL.out hy0]; exact congrArg Value.string HC.out), by (repeat (first | exact Ext.rfl' _ | assumption | refine Ext.dr ?_ | refine Ext.drN ?_ _ | refine Ext.al ?_ _ | refine Ext.st ?_ (by simp) _ | refine Ext.tr ?_ (by assumption)))⟩
    · go_wp2
      go_roundw
      case rel => exact ⟨y / 16, hxB (y % 16) :: out, by go_num, by omega, congrArg Value.string HC.out, HS.out hy0, by (repeat (first | exact Ext.rfl' _ | assumption | refine Ext.dr ?_ | refine Ext.drN ?_ _ | refine Ext.al ?_ _ | refine Ext.st ?_ (by simp) _ | refine Ext.tr ?_ (by assumption)))⟩
      case measure => simp [intOf]; omega
end Go.Proofs.YtnakeigpelcajaaGreatDoor
end

/-
What is written is read as it was: plain laws on numbers and texts. No program in sight.
-/
section
namespace Go.Proofs.YtnakeigpelcajaaGreatDoor
open Go.RowKit

theorem low_idem (l : List UInt8) : lowL (lowL l) = lowL l := by
  unfold lowL
  rw [List.map_map]
  refine List.map_congr_left fun b _ => ?_
  have : ∀ c : Fin 256, lowB (lowB c.val.toUInt8) = lowB c.val.toUInt8 := by decide +kernel
  have h := this ⟨b.toNat, UInt8.toNat_lt b⟩
  simpa using h
theorem dw_idem (p : UInt8 → Bool) : ∀ l : List UInt8, (l.dropWhile p).dropWhile p = l.dropWhile p
  | [] => rfl
  | a :: l => by by_cases h : p a = true <;> simp [List.dropWhile_cons, h, dw_idem p l]
theorem trim_idem (l : List UInt8) : trimL (trimL l) = trimL l := by
  rw [trimL_eq (trimL l)]
  have h1 : (trimL l).dropWhile blk = trimL l := by
    rw [trimL_eq l, ← trim_comm blk l, dw_idem]
  rw [h1]
  have h2 : (trimL l).reverse.dropWhile blk = (trimL l).reverse := by
    rw [trimL_eq l, List.reverse_reverse, dw_idem]
  rw [h2, List.reverse_reverse]
theorem valF_one (B a : Nat) (b : UInt8) : valF B a [b] = a * B + digV b := rfl
theorem hxB_dig : ∀ d : Fin 16, isDig 16 (hxB d.val) = true ∧ digV (hxB d.val) = d.val ∧ lowB (hxB d.val) = hxB d.val := by decide +kernel
theorem hxL_all : ∀ n : Nat, (hxL n).all (isDig 16) = true ∧ valL 16 (hxL n) = n ∧ lowL (hxL n) = hxL n := by
  intro n
  induction n using Nat.strongRecOn with
  | ind n ih =>
    by_cases h : n < 16
    · have := hxB_dig ⟨n, h⟩
      rw [hxL_lt h]
      refine ⟨by simp [this.1], ?_, by simp [lowL, this.2.2]⟩
      have e : valL 16 [hxB n] = 0 * 16 + digV (hxB n) := rfl
      rw [e, this.2.1]; simp
    · have := hxB_dig ⟨n % 16, Nat.mod_lt _ (by omega)⟩
      obtain ⟨h1, h2, h3⟩ := ih (n / 16) (by omega)
      rw [hxL_ge h]
      refine ⟨by simp [h1, this.1], ?_, ?_⟩
      · unfold valL at h2 ⊢
        rw [valF_app, h2, valF_one, this.2.1]; simp only; omega
      · unfold lowL at h3 ⊢
        rw [List.map_append, h3]; simp [this.2.2]
theorem dec_dig : ∀ d : Fin 10, isDig 10 (UInt8.ofNat (48 + d.val)) = true ∧ digV (UInt8.ofNat (48 + d.val)) = d.val ∧ lowB (UInt8.ofNat (48 + d.val)) = UInt8.ofNat (48 + d.val) := by decide +kernel
theorem decL_all : ∀ n : Nat, (Lib.decDigits n).all (isDig 10) = true ∧ valL 10 (Lib.decDigits n) = n ∧ lowL (Lib.decDigits n) = Lib.decDigits n ∧ 0 < (Lib.decDigits n).length := by
  intro n
  induction n using Nat.strongRecOn with
  | ind n ih =>
    by_cases h : n < 10
    · have t := dec_dig ⟨n, h⟩
      have t1 : isDig 10 (UInt8.ofNat (48 + n)) = true := t.1
      have t2 : digV (UInt8.ofNat (48 + n)) = n := t.2.1
      have t3 : lowB (UInt8.ofNat (48 + n)) = UInt8.ofNat (48 + n) := t.2.2
      rw [Lib.decDigits_one h]
      generalize UInt8.ofNat (48 + n) = b at *
      refine ⟨by simp [t1], ?_, by simp [lowL, t3], by simp⟩
      have e : valL 10 [b] = 0 * 10 + digV b := rfl
      rw [e, t2]; simp
    · have t := dec_dig ⟨n % 10, Nat.mod_lt _ (by omega)⟩
      have t1 : isDig 10 (UInt8.ofNat (48 + n % 10)) = true := t.1
      have t2 : digV (UInt8.ofNat (48 + n % 10)) = n % 10 := t.2.1
      have t3 : lowB (UInt8.ofNat (48 + n % 10)) = UInt8.ofNat (48 + n % 10) := t.2.2
      obtain ⟨h1, h2, h3, _⟩ := ih (n / 10) (by omega)
      rw [Lib.decDigits, dif_neg h]
      generalize UInt8.ofNat (48 + n % 10) = b at *
      refine ⟨by simp [h1, t1], ?_, ?_, by simp⟩
      · unfold valL at h2 ⊢
        rw [valF_app, h2, valF_one, t2]; omega
      · unfold lowL at h3 ⊢
        rw [List.map_append, h3]; simp [t3]
/-- A number of digits that is not too great is read as it was. -/
theorem num_hex (n : Nat) (h : n ≤ 1152921504606846976) : numL 16 1152921504606846976 (hxL n) = ((n : Int), 0) := by
  obtain ⟨h1, h2, h3⟩ := hxL_all n
  have hp := hx_pos n
  unfold numL
  rw [h3, h2, if_neg, if_pos h]
  intro hh
  rcases hh with hh | hh
  · rw [hh] at hp; simp at hp
  · rw [h1] at hh; cases hh
theorem num_dec (n : Nat) (h : n ≤ 1000000000000000000) : numL 10 1000000000000000000 (Lib.itoa n) = ((n : Int), 0) := by
  obtain ⟨h1, h2, h3, hp⟩ := decL_all n
  rw [Lib.itoa_nonneg]
  unfold numL
  rw [h3, h2, if_neg, if_pos h]
  intro hh
  rcases hh with hh | hh
  · rw [hh] at hp; simp at hp
  · rw [h1] at hh; cases hh
end Go.Proofs.YtnakeigpelcajaaGreatDoor
end

/-
Numbers written to the base 16: the program's HexDigits.
-/
section
namespace Go.Proofs.YtnakeigpelcajaaGreatDoor
open Go.RowKit

/-- The library's table of trailing zeros, where it is asked. -/
def Bru (w : World) : Prop := w.cell? ⟨5, 15, none⟩ = some (.int .u8 4)
theorem Bru.ext {w w' : World} (h : Bru w) (e : Ext w w') : Bru w' := by
  unfold Bru at *; rw [← h]; exact e.cell (lt_of_cell h)

theorem isPow2_c (w : World) : Calls Tryz.prog 73 #[.int .i64 16] w fun e w' => e = .returned (.bool true) ∧ w = w' := by
  have e1 : bits .and .i64 16 15 = 0 := by decide +kernel
  go_enter Tryz.func73, Tryz.ntmps73
  go_wp2
  go_ret
  exact ⟨rfl, rfl⟩
theorem tz64_c (w : World) (h : Bru w) : Calls Tryz.prog 84 #[.int .u64 16] w fun e w' => e = .returned (.int .i64 4) ∧ w = w' := by
  unfold Bru at h
  have e1 : IntKind.u64.wrap (bits .and .u64 16 (IntKind.u64.wrap (-16)) * 285870213051353865) / 288230376151711744 = 15 := by decide +kernel
  go_enter Tryz.func84, Tryz.ntmps84
  go_wp2
  go_ret
  exact ⟨rfl, rfl⟩
theorem tz_c (w : World) (h : Bru w) : Calls Tryz.prog 74 #[.int .u64 16] w fun e w' => e = .returned (.int .i64 4) ∧ w = w' := by
  go_enter Tryz.func74, Tryz.ntmps74
  go_wp2_with (go_at_call 84; refine (tz64_c _ h).mono ?_; rintro e w1 ⟨rfl, rfl⟩)
  go_ret
  exact ⟨rfl, rfl⟩

theorem bits_and_mask (y : Nat) (hy : y < 18446744073709551616) : bits .and .u64 (y : Int) 15 = ((y % 16 : Nat) : Int) := by
  have h := bits_and_u64_nat y 15 hy (by omega)
  rw [show y &&& 15 = y % 16 from Nat.and_two_pow_sub_one_eq_mod y 4] at h
  exact h
def digs36 : ByteArray := ⟨#[48, 49, 50, 51, 52, 53, 54, 55, 56, 57, 97, 98, 99, 100, 101, 102, 103, 104, 105, 106, 107, 108, 109, 110, 111, 112, 113, 114, 115, 116, 117, 118, 119, 120, 121, 122]⟩
theorem digs36_at : ∀ d : Fin 16, digs36[d.val]'(Nat.lt_of_lt_of_le d.isLt (by decide)) = hxB d.val := by decide +kernel
theorem digs36_at' (d : Nat) (h : d < 16) (h' : d < digs36.size) : digs36[d] = hxB d := digs36_at ⟨d, h⟩
theorem zc65 : Tryz.zeroCells104 = Array.replicate 65 (.int .u8 0) := by kernel_rfl
theorem zeros65 (j : Nat) (h : j < 65) : Tryz.zeroCells104[j]? = some (.int .u8 ((0 : UInt8).toNat : Int)) ∧ (decide (((0, 0) : Nat × Nat).1 ≤ j) && decide (j < ((0, 0) : Nat × Nat).2)) = false := by
  rw [zc65]
  exact ⟨by simp [h], by simp⟩
theorem own65 (w : World) (t : TypeId) : Own (w.alloc (.cells Tryz.zeroCells104 t)) w.heap.size (List.replicate 65 0) := by
  refine ⟨_, _, (0, 0), heap_alloc_new w _, fun j hj => ?_⟩
  have := zeros65 j (by rw [List.length_replicate] at hj; exact hj)
  rw [List.getElem_replicate]; exact this
theorem set_digit (j : Nat) (out : List UInt8) (b : UInt8) : (List.replicate (j + 1) (0 : UInt8) ++ out).set j b = List.replicate j 0 ++ (b :: out) := by
  rw [List.replicate_succ', List.append_assoc, List.set_append, if_neg (by simp)]
  simp
theorem slice65 (w : World) (g j : Nat) (hj : j < 65) : (Instr.sliceAt 104 (.pointer (some ⟨g, 0, none⟩)) (some (.int .i64 (j : Int))) none none).run Tryz.prog w = .ok (.slice (some ⟨g, j, none⟩) (65 - j) (65 - j)) w := by
  have e1 : Tryz.prog.arrayLen 104 = 65 := by kernel_rfl
  rw [run_sliceAt_array_l w 104 ⟨g, 0, none⟩ (by rw [e1]; kernel_rfl) .i64 (j : Int) (by omega) (by rw [e1]; omega), e1]
  have e2 : (sizeOf (Tryz.prog.elem 104)).run Tryz.prog w = .ok 1 w := by
    have : Tryz.prog.info? (Tryz.prog.elem 104) = Tryz.prog.info? 5 := by kernel_rfl
    have h8 : (Tryz.prog.info? 5).map (·.size) = some 1 := by kernel_rfl
    obtain ⟨i, hi, hs⟩ := Option.map_eq_some_iff.1 h8
    simp [sizeOf, typeInfo, this, hi, hs]
  rw [e2]
  simp only [Result.andThen_ok, slicedAt, Int.toNat_natCast]
  rw [if_neg (by omega), add_mk]
  simp
set_option maxRecDepth 100000 in
set_option maxHeartbeats 2000000 in
theorem formatBits_c (N : Nat) (hN : N < 18446744073709551616) (w : World) (h : Bru w) :
    Calls Tryz.prog 55 #[.slice none 0 0, .int .u64 (N : Int), .int .i64 16, .bool false, .bool false] w (Gives (.tuple #[.slice none 0 0, .string (str (hxL N))]) w) := by
  have hl := hx_len 15 N (by omega)
  have c1 : IntKind.u64.wrap (16 - 1) = 15 := by decide +kernel
  go_enter Tryz.func55, Tryz.ntmps55
  go_wp2_with (first
    | (go_at_call 73; refine (isPow2_c _).mono ?_; rintro e w1 ⟨rfl, rfl⟩)
    | (go_at_call 74; refine (tz_c _ (h.ext (by (repeat (first | exact Ext.rfl' _ | assumption | refine Ext.dr ?_ | refine Ext.drN ?_ _ | refine Ext.al ?_ _ | refine Ext.st ?_ (by simp) _ | refine Ext.tr ?_ (by assumption)))))).mono ?_; rintro e w2 ⟨rfl, rfl⟩))
  go_loopw [1, 13] (fun u i wr => ∃ (y k : Nat) (out : List UInt8), u = .int .u64 (y : Int) ∧ y ≤ N ∧ i = .int .i64 (k : Int) ∧ k + out.length = 65 ∧ hxL N = hxL y ++ out ∧ Own wr w.heap.size (List.replicate k 0 ++ out) ∧ Ext w wr) (fun u _ _ => (intOf u).toNat)
  case atStart => exact ⟨N, 65, [], rfl, Nat.le_refl _, rfl, rfl, by simp, by rw [List.append_nil]; exact own65 w _, by (repeat (first | exact Ext.rfl' _ | assumption | refine Ext.dr ?_ | refine Ext.drN ?_ _ | refine Ext.al ?_ _ | refine Ext.st ?_ (by simp) _ | refine Ext.tr ?_ (by assumption)))⟩
  case round =>
    obtain ⟨y, k, out, rfl, hy, rfl, hk, hd, hown, hext⟩ := hrel
    have hol : out.length ≤ 15 := by
      have h2 := congrArg List.length hd
      rw [List.length_append] at h2
      have := hx_pos y
      omega
    have HS := Lib.hid fun h : ¬ y < 16 => hx_step hd h
    have HL := Lib.hid fun h : y < 16 => hx_last hd h
    clear hd
    obtain ⟨j, rfl⟩ : ∃ j, k = j + 1 := ⟨k - 1, by omega⟩
    have a0 := hown.cell j (by simp; omega)
    have f0 := hown.free j (by simp; omega)
    have a1 : (List.replicate (j + 1) (0 : UInt8) ++ out)[j]'(by simp; omega) = 0 := by
      rw [List.getElem_append_left (by simp)]; simp
    rw [a1] at a0
    have HO := Lib.hid hown
    clear hown
    have i0 : ((j + 1 : Nat) : Int) - 1 = (j : Int) := by omega
    have i1 : (0 : Int) ≤ (j : Int) := by omega
    have i2 : (j : Int) < 65 := by omega
    have b0 : bits .and .u64 (y : Int) 15 = ((y % 16 : Nat) : Int) := bits_and_mask y (by omega)
    by_cases hy0 : y < 16
    · have dg := digs36_at' y hy0 (by show y < 36; omega)
      unfold digs36 at dg
      go_wp2
      rw [slice65 _ _ _ (by omega)]
      have ho2 := HO.out.set_ j (by simp; omega) (hxB y)
      have hx2 : Ext w (wr.setCell ⟨w.heap.size, j, none⟩ (.int .u8 ((hxB y).toNat : Int))) := hext.st (Nat.le_refl _) _
      generalize wr.setCell ⟨w.heap.size, j, none⟩ (.int .u8 ((hxB y).toNat : Int)) = w2 at *
      rw [set_digit] at ho2
      have hr2 : Rd w2 (some ⟨w.heap.size, j, none⟩) (bc (hxB y :: out)) := by
        have := ho2.rd.drop j
        rw [bc_drop, List.drop_append_of_le_length (by simp), List.drop_of_length_le (by simp), Nat.zero_add] at this
        exact this
      have cv := conv_bs (P := Tryz.prog) 22 9 5 Tryz.underlying22 Tryz.underlying5 Tryz.underlying9 hr2 (65 - j) (65 - j) (by simp; omega)
      go_wp2
      go_ret2
      exact ⟨ret_val (by rw [HL.out hy0, Nat.mod_eq_of_lt hy0]; rfl), hx2⟩
    · have dg := digs36_at' (y % 16) (Nat.mod_lt _ (by omega)) (by show y % 16 < 36; omega)
      unfold digs36 at dg
      go_wp2
      go_roundw
      case rel =>
        have ho2 := HO.out.set_ j (by simp; omega) (hxB (y % 16))
        rw [set_digit] at ho2
        exact ⟨y / 16, j, hxB (y % 16) :: out, by go_num, by omega, rfl, by simp only [List.length_cons]; omega, HS.out hy0, ho2, hext.st (Nat.le_refl _) _⟩
      case measure => simp [intOf]; omega

theorem iFormatUint_c (N : Nat) (hN : N < 18446744073709551616) (w : World) (h : Bru w) :
    Calls Tryz.prog 32 #[.int .u64 (N : Int), .int .i64 16] w (Gives (.string (str (hxL N))) w) := by
  have C := Lib.hid (formatBits_c N hN)
  generalize hxL N = l at *
  go_enter Tryz.func32, Tryz.ntmps32
  go_wp2_with (go_at_call 55; refine (C.out _ h).mono ?_; rintro e w1 ⟨rfl, hx⟩)
  go_ret
  exact ⟨rfl, hx⟩
theorem FormatUint_c (N : Nat) (hN : N < 18446744073709551616) (w : World) (h : Bru w) :
    Calls Tryz.prog 25 #[.int .u64 (N : Int), .int .i64 16] w (Gives (.string (str (hxL N))) w) := by
  have C := Lib.hid (iFormatUint_c N hN)
  generalize hxL N = l at *
  go_enter Tryz.func25, Tryz.ntmps25
  go_wp2_with (go_at_call 32; refine (C.out _ h).mono ?_; rintro e w1 ⟨rfl, hx⟩)
  go_ret
  exact ⟨rfl, hx⟩
theorem HexDigits_c (n : Int) (w : World) (h : Bru w) :
    Calls Tryz.prog 16 #[.int .i64 n] w (Gives (.string (hexB n)) w) := by
  have hN := u64N_lt n
  have hw : IntKind.u64.wrap n = (u64N n : Int) := by unfold u64N; simp [IntKind.wrap, IntKind.signed, IntKind.bits]; omega
  unfold hexB
  have C := Lib.hid (FormatUint_c (u64N n) hN)
  generalize u64N n = N at *
  generalize hxL N = l at *
  go_enter Tryz.func16, Tryz.ntmps16
  go_wp2_with (go_at_call 25; refine (C.out _ h).mono ?_; rintro e w1 ⟨rfl, hx⟩)
  go_ret
  exact ⟨rfl, hx⟩
end Go.Proofs.YtnakeigpelcajaaGreatDoor
end
