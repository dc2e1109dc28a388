/-
Numbers written to the base 16: the program's HexDigits.
-/
import Derived.Test.YtemdgilifnhdpaaGreatDoorZah
import Derived.Test.YtemdgilifnhdpaaGreatDoorZaf
import Derived.Test.YtemdgilifnhdpaaGreatDoorZae
import Derived.Laws.Bits64b
import Derived.WalkMore
set_option linter.unusedVariables false
set_option linter.unusedSimpArgs false
section
namespace Go.Proofs.YtemdgilifnhdpaaGreatDoor
open Go.RowKit

def Bru (w : World) : Prop := w.cell? ⟨3, 15, none⟩ = some (.int .u8 4)
theorem Bru.ext {w w' : World} (h : Bru w) (e : Ext w w') : Bru w' := by
  unfold Bru at *; rw [← h]; exact e.cell (lt_of_cell h)

theorem isPow2_c (w : World) : Calls Tryz.prog 168 #[.int .i64 16] w fun e w' => e = .returned (.bool true) ∧ w = w' := by
  have e1 : bits .and .i64 16 15 = 0 := by decide +kernel
  go_enter Tryz.func168, Tryz.ntmps168
  go_wp2
  go_ret
  exact ⟨rfl, rfl⟩
theorem tz64_c (w : World) (h : Bru w) : Calls Tryz.prog 196 #[.int .u64 16] w fun e w' => e = .returned (.int .i64 4) ∧ w = w' := by
  unfold Bru at h
  have e1 : IntKind.u64.wrap (bits .and .u64 16 (IntKind.u64.wrap (-16)) * 285870213051353865) / 288230376151711744 = 15 := by decide +kernel
  go_enter Tryz.func196, Tryz.ntmps196
  go_wp2
  go_ret
  exact ⟨rfl, rfl⟩
theorem tz_c (w : World) (h : Bru w) : Calls Tryz.prog 169 #[.int .u64 16] w fun e w' => e = .returned (.int .i64 4) ∧ w = w' := by
  go_enter Tryz.func169, Tryz.ntmps169
  go_wp2_with (go_at_call 196; refine (tz64_c _ h).mono ?_; rintro e w1 ⟨rfl, rfl⟩)
  go_ret
  exact ⟨rfl, rfl⟩

theorem bits_and_mask (y : Nat) (hy : y < 18446744073709551616) : bits .and .u64 (y : Int) 15 = ((y % 16 : Nat) : Int) := by
  have h := bits_and_u64_nat y 15 hy (by omega)
  rw [show y &&& 15 = y % 16 from Nat.and_two_pow_sub_one_eq_mod y 4] at h
  exact h
def digs36 : ByteArray := ⟨#[48, 49, 50, 51, 52, 53, 54, 55, 56, 57, 97, 98, 99, 100, 101, 102, 103, 104, 105, 106, 107, 108, 109, 110, 111, 112, 113, 114, 115, 116, 117, 118, 119, 120, 121, 122]⟩
theorem digs36_at : ∀ d : Fin 16, digs36[d.val]'(Nat.lt_of_lt_of_le d.isLt (by decide)) = hxB d.val := by decide +kernel
theorem digs36_at' (d : Nat) (h : d < 16) (h' : d < digs36.size) : digs36[d] = hxB d := digs36_at ⟨d, h⟩
theorem zc65 : Tryz.zeroCells246 = Array.replicate 65 (.int .u8 0) := by kernel_rfl
theorem zeros65 (j : Nat) (h : j < 65) : Tryz.zeroCells246[j]? = some (.int .u8 ((0 : UInt8).toNat : Int)) ∧ (decide (((0, 0) : Nat × Nat).1 ≤ j) && decide (j < ((0, 0) : Nat × Nat).2)) = false := by
  rw [zc65]
  exact ⟨by simp [h], by simp⟩
theorem own65 (w : World) (t : TypeId) : Own (w.alloc (.cells Tryz.zeroCells246 t)) w.heap.size (List.replicate 65 0) := by
  refine ⟨_, _, (0, 0), heap_alloc_new w _, fun j hj => ?_⟩
  have := zeros65 j (by rw [List.length_replicate] at hj; exact hj)
  rw [List.getElem_replicate]; exact this
theorem set_digit (j : Nat) (out : List UInt8) (b : UInt8) : (List.replicate (j + 1) (0 : UInt8) ++ out).set j b = List.replicate j 0 ++ (b :: out) := by
  rw [List.replicate_succ', List.append_assoc, List.set_append, if_neg (by simp)]
  simp
theorem slice65 (w : World) (g j : Nat) (hj : j < 65) : (Instr.sliceAt 246 (.pointer (some ⟨g, 0, none⟩)) (some (.int .i64 (j : Int))) none none).run Tryz.prog w = .ok (.slice (some ⟨g, j, none⟩) (65 - j) (65 - j)) w := by
  have e1 : Tryz.prog.arrayLen 246 = 65 := by kernel_rfl
  rw [run_sliceAt_array_l w 246 ⟨g, 0, none⟩ (by rw [e1]; kernel_rfl) .i64 (j : Int) (by omega) (by rw [e1]; omega), e1]
  have e2 : (sizeOf (Tryz.prog.elem 246)).run Tryz.prog w = .ok 1 w := by
    have : Tryz.prog.info? (Tryz.prog.elem 246) = Tryz.prog.info? 5 := by kernel_rfl
    have h8 : (Tryz.prog.info? 5).map (·.size) = some 1 := by kernel_rfl
    obtain ⟨i, hi, hs⟩ := Option.map_eq_some_iff.1 h8
    simp [sizeOf, typeInfo, this, hi, hs]
  rw [e2]
  simp only [Result.andThen_ok, slicedAt, Int.toNat_natCast]
  rw [if_neg (by omega), add_mk]
  simp
set_option maxRecDepth 100000 in
set_option maxHeartbeats 2000000 in
theorem formatBits_c (N : Nat) (hN : N < 18446744073709551616) (w : World) (h : Bru w) :
    Calls Tryz.prog 128 #[.slice none 0 0, .int .u64 (N : Int), .int .i64 16, .bool false, .bool false] w (Gives (.tuple #[.slice none 0 0, .string (str (hxL N))]) w) := by
  have hl := hx_len 15 N (by omega)
  have c1 : IntKind.u64.wrap (16 - 1) = 15 := by decide +kernel
  go_enter Tryz.func128, Tryz.ntmps128
  go_wp2_with (first
    | (go_at_call 168; refine (isPow2_c _).mono ?_; rintro e w1 ⟨rfl, rfl⟩)
    | (go_at_call 169; refine (tz_c _ (h.ext (by (repeat (first | exact Ext.rfl' _ | assumption | refine Ext.dr ?_ | refine Ext.drN ?_ _ | refine Ext.al ?_ _ | refine Ext.st ?_ (by simp) _ | refine Ext.tr ?_ (by assumption)))))).mono ?_; rintro e w2 ⟨rfl, rfl⟩))
  go_loopw [1, 13] (fun u i wr => ∃ (y k : Nat) (out : List UInt8), u = .int .u64 (y : Int) ∧ y ≤ N ∧ i = .int .i64 (k : Int) ∧ k + out.length = 65 ∧ hxL N = hxL y ++ out ∧ Own wr w.heap.size (List.replicate k 0 ++ out) ∧ Ext w wr) (fun u _ _ => (intOf u).toNat)
  case atStart => exact ⟨N, 65, [], rfl, Nat.le_refl _, rfl, rfl, by simp, by rw [List.append_nil]; exact own65 w _, by (repeat (first | exact Ext.rfl' _ | assumption | refine Ext.dr ?_ | refine Ext.drN ?_ _ | refine Ext.al ?_ _ | refine Ext.st ?_ (by simp) _ | refine Ext.tr ?_ (by assumption)))⟩
  case round =>
    obtain ⟨y, k, out, rfl, hy, rfl, hk, hd, hown, hext⟩ := hrel
    have hol : out.length ≤ 15 := by
      have h2 := congrArg List.length hd
      rw [List.length_append] at h2
      have := hx_pos y
      omega
    have HS := Lib.hid fun h : ¬ y < 16 => hx_step hd h
    have HL := Lib.hid fun h : y < 16 => hx_last hd h
    clear hd
    obtain ⟨j, rfl⟩ : ∃ j, k = j + 1 := ⟨k - 1, by omega⟩
    have a0 := hown.cell j (by simp; omega)
    have f0 := hown.free j (by simp; omega)
    have a1 : (List.replicate (j + 1) (0 : UInt8) ++ out)[j]'(by simp; omega) = 0 := by
      rw [List.getElem_append_left (by simp)]; simp
    rw [a1] at a0
    have HO := Lib.hid hown
    clear hown
    have i0 : ((j + 1 : Nat) : Int) - 1 = (j : Int) := by omega
    have i1 : (0 : Int) ≤ (j : Int) := by omega
    have i2 : (j : Int) < 65 := by omega
    have b0 : bits .and .u64 (y : Int) 15 = ((y % 16 : Nat) : Int) := bits_and_mask y (by omega)
    by_cases hy0 : y < 16
    · have dg := digs36_at' y hy0 (by show y < 36; omega)
      unfold digs36 at dg
      go_wp2
      rw [slice65 _ _ _ (by omega)]
      have ho2 := HO.out.set_ j (by simp; omega) (hxB y)
      have hx2 : Ext w (wr.setCell ⟨w.heap.size, j, none⟩ (.int .u8 ((hxB y).toNat : Int))) := hext.st (Nat.le_refl _) _
      generalize wr.setCell ⟨w.heap.size, j, none⟩ (.int .u8 ((hxB y).toNat : Int)) = w2 at *
      rw [set_digit] at ho2
      have hr2 : Rd w2 (some ⟨w.heap.size, j, none⟩) (bc (hxB y :: out)) := by
        have := ho2.rd.drop j
        rw [bc_drop, List.drop_append_of_le_length (by simp), List.drop_of_length_le (by simp), Nat.zero_add] at this
        exact this
      have cv := conv_bs (P := Tryz.prog) 22 9 5 Tryz.underlying22 Tryz.underlying5 Tryz.underlying9 hr2 (65 - j) (65 - j) (by simp; omega)
      go_wp2
      go_ret2
      exact ⟨ret_val (by rw [HL.out hy0, Nat.mod_eq_of_lt hy0]; rfl), hx2⟩
    · have dg := digs36_at' (y % 16) (Nat.mod_lt _ (by omega)) (by show y % 16 < 36; omega)
      unfold digs36 at dg
      go_wp2
      go_roundw
      case rel =>
        have ho2 := HO.out.set_ j (by simp; omega) (hxB (y % 16))
        rw [set_digit] at ho2
        exact ⟨y / 16, j, hxB (y % 16) :: out, by go_num, by omega, rfl, by simp only [List.length_cons]; omega, HS.out hy0, ho2, hext.st (Nat.le_refl _) _⟩
      case measure => simp [intOf]; omega

theorem iFormatUint_c (N : Nat) (hN : N < 18446744073709551616) (w : World) (h : Bru w) :
    Calls Tryz.prog 92 #[.int .u64 (N : Int), .int .i64 16] w (Gives (.string (str (hxL N))) w) := by
  have C := Lib.hid (formatBits_c N hN)
  generalize hxL N = l at *
  go_enter Tryz.func92, Tryz.ntmps92
  go_wp2_with (go_at_call 128; refine (C.out _ h).mono ?_; rintro e w1 ⟨rfl, hx⟩)
  go_ret
  exact ⟨rfl, hx⟩
theorem FormatUint_c (N : Nat) (hN : N < 18446744073709551616) (w : World) (h : Bru w) :
    Calls Tryz.prog 57 #[.int .u64 (N : Int), .int .i64 16] w (Gives (.string (str (hxL N))) w) := by
  have C := Lib.hid (iFormatUint_c N hN)
  generalize hxL N = l at *
  go_enter Tryz.func57, Tryz.ntmps57
  go_wp2_with (go_at_call 92; refine (C.out _ h).mono ?_; rintro e w1 ⟨rfl, hx⟩)
  go_ret
  exact ⟨rfl, hx⟩
theorem HexDigits_c (n : Int) (w : World) (h : Bru w) :
    Calls Tryz.prog 25 #[.int .i64 n] w (Gives (.string (hexB n)) w) := by
  have hN := u64N_lt n
  have hw : IntKind.u64.wrap n = (u64N n : Int) := by unfold u64N; simp [IntKind.wrap, IntKind.signed, IntKind.bits]; omega
  unfold hexB
  have C := Lib.hid (FormatUint_c (u64N n) hN)
  generalize u64N n = N at *
  generalize hxL N = l at *
  go_enter Tryz.func25, Tryz.ntmps25
  go_wp2_with (go_at_call 57; refine (C.out _ h).mono ?_; rintro e w1 ⟨rfl, hx⟩)
  go_ret
  exact ⟨rfl, hx⟩
end Go.Proofs.YtemdgilifnhdpaaGreatDoor
end

section
namespace Go.Proofs.YtemdgilifnhdpaaGreatDoor
open Go.RowKit

def tagL (n mt ve : Int) : List UInt8 := hxL (u64N n) ++ [45] ++ hxL (u64N mt) ++ [45] ++ hxL (u64N ve)
theorem hex_sz (n : Int) : (hxL (u64N n)).length ≤ 16 := hx_len 15 (u64N n) (by have := u64N_lt n; omega)
theorem catS {P : Program} (l m : List UInt8) (h : l.length + m.length ≤ 140737488355328) (w : World) : (Op.stringOp .add (str l) (str m)).run P w = .ok (.string (str (l ++ m))) w := by
  rw [cat_ok _ _ (by rw [str_size, str_size]; omega)]; simp
set_option maxRecDepth 100000 in
set_option maxHeartbeats 4000000 in
theorem stTag_c (p : ByteArray) (A : Option Addr) (n c : Nat) (mt ve : Int) (w : World) (hB : Bru w) : Calls Tryz.prog 7 #[.agg #[.string p, .slice A n c, .int .i64 mt], .int .i64 ve] w (Gives (.agg #[.bool false, .string (str (tagL n mt ve))]) w) := by
  have CH := fun (w' : World) (e : Ext w w') => And.intro (HexDigits_c (n : Int) w' (hB.ext e)) (And.intro (HexDigits_c mt w' (hB.ext e)) (HexDigits_c ve w' (hB.ext e)))
  obtain ⟨h1, e1⟩ : ∃ x, x = hexB (n : Int) := ⟨_, rfl⟩
  obtain ⟨h2, e2⟩ : ∃ x, x = hexB mt := ⟨_, rfl⟩
  obtain ⟨h3, e3⟩ : ∃ x, x = hexB ve := ⟨_, rfl⟩
  obtain ⟨s1, f1⟩ : ∃ x, x = str (hxL (u64N n) ++ [45]) := ⟨_, rfl⟩
  obtain ⟨s2, f2⟩ : ∃ x, x = str (hxL (u64N n) ++ [45] ++ hxL (u64N mt)) := ⟨_, rfl⟩
  obtain ⟨s3, f3⟩ : ∃ x, x = str (hxL (u64N n) ++ [45] ++ hxL (u64N mt) ++ [45]) := ⟨_, rfl⟩
  obtain ⟨s4, f4⟩ : ∃ x, x = str (tagL n mt ve) := ⟨_, rfl⟩
  have g1 := hex_sz n
  have g2 := hex_sz mt
  have g3 := hex_sz ve
  have c1 : ∀ w, (Op.stringOp .add h1 ⟨#[45]⟩).run Tryz.prog w = .ok (.string s1) w := fun w => by rw [e1, f1]; exact catS _ [45] (by simp; omega) w
  have c2 : ∀ w, (Op.stringOp .add s1 h2).run Tryz.prog w = .ok (.string s2) w := fun w => by rw [f1, e2, f2]; exact catS _ _ (by simp; omega) w
  have c3 : ∀ w, (Op.stringOp .add s2 ⟨#[45]⟩).run Tryz.prog w = .ok (.string s3) w := fun w => by rw [f2, f3]; exact catS _ [45] (by simp; omega) w
  have c4 : ∀ w, (Op.stringOp .add s3 h3).run Tryz.prog w = .ok (.string s4) w := fun w => by rw [f3, e3, f4]; exact catS _ _ (by simp; omega) w
  have HF := Lib.hid f4
  rw [← f4]
  clear f1 f2 f3 f4 g1 g2 g3
  rw [← e1, ← e2, ← e3] at CH
  have HE := Lib.hid (And.intro e1 (And.intro e2 e3))
  clear e1 e2 e3
  go_enter Tryz.func7, Tryz.ntmps7
  go_upto_region 1 with (fail)
  obtain ⟨Wb, hWb⟩ : ∃ W, W = w.alloc (.cells #[.string p, .slice A n c, .int .i64 mt] 24) := ⟨_, rfl⟩
  rw [← hWb]
  have hxb : Ext w Wb := by rw [hWb]; (repeat (first | exact Ext.rfl' _ | assumption | refine Ext.dr ?_ | refine Ext.drN ?_ _ | refine Ext.al ?_ _ | refine Ext.st ?_ (by simp) _ | refine Ext.tr ?_ (by assumption)))
  have hrow : Wb.heap[w.heap.size]? = some (.cells #[.string p, .slice A n c, .int .i64 mt] 24 (0, 0)) := by rw [hWb]; exact heap_alloc_new w _
  have hks := Lib.hid (fun w' (e : Ext Wb w') => (show w'.cell? ⟨w.heap.size, 1, none⟩ = some (.slice A n c) ∧ w'.cell? ⟨w.heap.size, 2, none⟩ = some (.int .i64 mt) from by
    have h := (e.block w.heap.size (row_lt hrow)).trans hrow
    exact ⟨(row_facts h 1 _ rfl).1, (row_facts h 2 _ rfl).1⟩))
  have hzb : Wb.heap.size = w.heap.size + 1 := by rw [hWb]; simp
  have hrow2 : (Wb.alloc (.cells #[.bool false, .string ⟨#[]⟩] 29)).heap[w.heap.size + 1]? = some (.cells #[.bool false, .string ⟨#[]⟩] 29 (0, 0)) := by rw [← hzb]; exact heap_alloc_new Wb _
  have hq := Lib.hid (fun w' (e : Ext (Wb.alloc (.cells #[.bool false, .string ⟨#[]⟩] 29)) w') => (show (w'.cell? ⟨w.heap.size + 1, 0, none⟩ = some (.bool false) ∧ w'.frozen? ⟨w.heap.size + 1, 0, none⟩ = false) ∧ (w'.cell? ⟨w.heap.size + 1, 1, none⟩ = some (.string ⟨#[]⟩) ∧ w'.frozen? ⟨w.heap.size + 1, 1, none⟩ = false) from by
    have h := (e.block (w.heap.size + 1) (row_lt hrow2)).trans hrow2
    exact ⟨row_facts h 0 _ rfl, row_facts h 1 _ rfl⟩))
  have HZB := Lib.hid hzb
  have hxs := Lib.hid (fun w' u v (e : Ext Wb w') => (show Ext Wb ((w'.setCell ⟨w.heap.size + 1, 0, none⟩ u).setCell ⟨w.heap.size + 1, 1, none⟩ v) from Ext.st (Ext.st e (by rw [HZB.out]; exact Nat.le_refl _) u) (by rw [HZB.out]; exact Nat.le_refl _) v))
  have HXB := Lib.hid hxb
  have CH1 := Lib.hid (fun w' e => (CH w' e).1)
  have CH2 := Lib.hid (fun w' e => (CH w' e).2.1)
  have CH3 := Lib.hid (fun w' e => (CH w' e).2.2)
  clear CH
  clear hWb hxb hrow hzb hrow2
  go_region_held3 (fun w' => w'.cell? ⟨w.heap.size, 1, none⟩ = some (.slice A n c) ∧ w'.cell? ⟨w.heap.size, 2, none⟩ = some (.int .i64 mt)) (with_reducible first | exact hks.out _ (hxs.out _ _ _ (by (repeat (first | exact Ext.rfl' _ | assumption | refine Ext.dr ?_ | refine Ext.al ?_ _ | refine Ext.st ?_ (by simp) _ | refine Ext.tr ?_ (by assumption))))) | exact hks.out _ (by (repeat (first | exact Ext.rfl' _ | assumption | refine Ext.dr ?_ | refine Ext.al ?_ _ | refine Ext.st ?_ (by simp) _ | refine Ext.tr ?_ (by assumption))))) (first
    | (go_at_call 25; refine (CH1.out _ (HXB.out.tr (by (repeat (first | exact Ext.rfl' _ | assumption | refine Ext.dr ?_ | refine Ext.drN ?_ _ | refine Ext.al ?_ _ | refine Ext.st ?_ (by simp) _ | refine Ext.tr ?_ (by assumption)))))).mono ?_; clear CH1; rintro e w2 ⟨rfl, hx2⟩)
    | (go_at_call 25; refine (CH2.out _ (HXB.out.tr (by (repeat (first | exact Ext.rfl' _ | assumption | refine Ext.dr ?_ | refine Ext.drN ?_ _ | refine Ext.al ?_ _ | refine Ext.st ?_ (by simp) _ | refine Ext.tr ?_ (by assumption)))))).mono ?_; clear CH2; rintro e w3 ⟨rfl, hx3⟩)
    | (go_at_call 25; refine (CH3.out _ (HXB.out.tr (by (repeat (first | exact Ext.rfl' _ | assumption | refine Ext.dr ?_ | refine Ext.drN ?_ _ | refine Ext.al ?_ _ | refine Ext.st ?_ (by simp) _ | refine Ext.tr ?_ (by assumption)))))).mono ?_; rintro e w4 ⟨rfl, hx4⟩; obtain ⟨⟨y0, y1⟩, y2, y3⟩ := hq.out w4 (by (repeat (first | exact Ext.rfl' _ | assumption | refine Ext.dr ?_ | refine Ext.drN ?_ _ | refine Ext.al ?_ _ | refine Ext.st ?_ (by simp) _ | refine Ext.tr ?_ (by assumption))))))
  all_goals (
    go_wp2
    refine bodyPost_ret (v := .agg #[.bool false, .string s4]) (by simp [results, Tryz.results7, go_sem, y0, y1, y2, y3]) rfl ?_
    exact ⟨rfl, HXB.out.tr (Ext.st (Ext.st (by (repeat (first | exact Ext.rfl' _ | assumption | refine Ext.dr ?_ | refine Ext.drN ?_ _ | refine Ext.al ?_ _ | refine Ext.st ?_ (by simp) _ | refine Ext.tr ?_ (by assumption)))) (by rw [HZB.out]; exact Nat.le_refl _) _) (by rw [HZB.out]; exact Nat.le_refl _) _)⟩)
end Go.Proofs.YtemdgilifnhdpaaGreatDoor
end

section
namespace Go.Proofs.YtemdgilifnhdpaaGreatDoor
open Go.RowKit

set_option maxRecDepth 100000 in
set_option maxHeartbeats 1000000 in
theorem TagText_c (l : List UInt8) (hl : l.length ≤ 1000000) (w : World) : Calls Tryz.prog 70 #[.agg #[.bool false, .string (str l)]] w (Gives (.string (str ([34] ++ l ++ [34]))) w) := by
  obtain ⟨s0, h0⟩ : ∃ s, s = str l := ⟨_, rfl⟩
  obtain ⟨s1, h1⟩ : ∃ s, s = str ([34] ++ l) := ⟨_, rfl⟩
  obtain ⟨s2, h2⟩ : ∃ s, s = str ([34] ++ l ++ [34]) := ⟨_, rfl⟩
  have k0 : ∀ w, (Op.stringOp .add ⟨#[]⟩ ⟨#[34]⟩).run Tryz.prog w = .ok (.string ⟨#[34]⟩) w := fun w => catD [] [34] (by simp) w
  have k1 : ∀ w, (Op.stringOp .add ⟨#[34]⟩ s0).run Tryz.prog w = .ok (.string s1) w := fun w => by rw [h0, h1]; exact catD [34] l (by simp; omega) w
  have k2 : ∀ w, (Op.stringOp .add s1 ⟨#[34]⟩).run Tryz.prog w = .ok (.string s2) w := fun w => by rw [h1, h2]; exact catD ([34] ++ l) [34] (by simp; omega) w
  rw [← h0, ← h2]
  clear h0 h1 h2 hl
  have c0 := row_facts (heap_alloc_new w (.cells #[.bool false, .string s0] 29)) 0 _ rfl
  have c1 := row_facts (heap_alloc_new w (.cells #[.bool false, .string s0] 29)) 1 _ rfl
  go_enter Tryz.func70, Tryz.ntmps70
  go_wp2
  go_ret
  exact ⟨rfl, by (repeat (first | exact Ext.rfl' _ | assumption | refine Ext.dr ?_ | refine Ext.drN ?_ _ | refine Ext.al ?_ _ | refine Ext.st ?_ (by simp) _ | refine Ext.tr ?_ (by assumption)))⟩
end Go.Proofs.YtemdgilifnhdpaaGreatDoor
end

section
namespace Go.Proofs.YtemdgilifnhdpaaGreatDoor
open Go.RowKit

theorem slt_fld : SlT Tryz.prog 25 67 (.agg #[.string ⟨#[]⟩, .string ⟨#[]⟩]) 2 32 := ⟨Tryz.underlying25, by kernel_rfl, rfl, by omega⟩
end Go.Proofs.YtemdgilifnhdpaaGreatDoor
end

section
namespace Go.Proofs.YtemdgilifnhdpaaGreatDoor
open Go.RowKit

structure AnAt (w : World) (o : Ow) (k P : Nat) (fs : List Fld) (st : Int) (bv : Value) (br : Bool) (A : Option Addr) (c : Nat) : Prop where
  own : o P = k
  row : w.heap[P]? = some (.cells #[.slice A fs.length c, .int .i64 st, bv, .bool br] 77 (0, 0))
  sl : Sl w o (k + 1) 2 A fs.length c (fc fs)
  z : A = none → c = 0
def AnsTo (k P : Nat) (fs : List Fld) (st : Int) (bv : Value) (br : Bool) (w : World) (o : Ow) (e : Ending) (w' : World) : Prop :=
  e = .returned (.tuple #[]) ∧ ∃ o' A c, AnAt w' o' k P fs st bv br A c ∧ Stp (fun i => i = k ∨ i = k + 1) w o w' o'
set_option maxRecDepth 100000 in
set_option maxHeartbeats 1000000 in
theorem stAdd_c (k P : Nat) (fs : List Fld) (a v : List UInt8) (hl : fs.length ≤ 1000) (st : Int) (bv : Value) (br : Bool) (A : Option Addr) (c : Nat) (w : World) (o : Ow) (h : AnAt w o k P fs st bv br A c) :
    Calls Tryz.prog 27 #[.pointer (some ⟨P, 0, none⟩), .string (str a), .string (str v)] w (AnsTo k P (fs ++ [(a, v)]) st bv br w o) := by
  have H := Lib.hid h
  have c0 := (row_facts h.row 0 _ rfl).1
  have hP := row_lt h.row
  have hz := h.z
  have HN := Lib.hid (show fs.length + 1 = (fs ++ [(a, v)]).length from by simp)
  have HF := Lib.hid (show fc fs ++ [.string (str a), .string (str v)] = fc (fs ++ [(a, v)]) from by simp [fc])
  clear h
  go_enter Tryz.func27, Tryz.ntmps27
  go_wp2_with (at_builtin; refine wpL_put slt_fld (.tmp 10) (.tmp 14) rfl rfl rfl rfl (H.out.sl.ext (Ext.al (Ext.rfl' w) _)) hz (Src.ofSlice (size := 2) _ Tryz.underlying25 ⟨w.heap.size, 0, none⟩ 1 1 [.string (str a), .string (str v)] (by simp) (new_cells w #[.string (str a), .string (str v)] 67) (by simp [Value.oneCell'])) (by omega) (by simp only [maxLen]; omega) ?_; intro A7 c7 w7 o7 hs7 hst7 hn7; have st7 : Stp (fun i => i = k + 1) w o w7 o7 := (Stp.ext ((Ext.rfl' w).al _)).tr hst7; have hr7 := (st7.keep P hP (by rw [H.out.own]; omega)).trans H.out.row; have j0 := (row_facts hr7 0 _ rfl).1; have g0 := (row_facts hr7 0 _ rfl).2)
  go_end0
  refine ⟨rfl, o7, A7, c7, ⟨(st7.own P hP).trans H.out.own, ?_, ?_, hn7⟩, ?_⟩
  · rw [← HN.out]; exact row_set hr7 0 _
  · rw [← HN.out, ← HF.out]; exact hs7.stp (Stp.set (K := fun i => i = k) P 0 _ (fun _ => (st7.own P hP).trans H.out.own)) (by omega)
  · exact (st7.mono fun _ h => .inr h).tr (Stp.set P 0 _ (fun _ => .inl ((st7.own P hP).trans H.out.own)))
end Go.Proofs.YtemdgilifnhdpaaGreatDoor
end

section
namespace Go.Proofs.YtemdgilifnhdpaaGreatDoor
open Go.RowKit

set_option maxRecDepth 100000 in
set_option maxHeartbeats 2000000 in
theorem cdInR_no (fs : List Fld) (A : Option Addr) (n c : Nat) (hn : fs.length = n) (hb : n ≤ 8796093022206) (hsz : ∀ p ∈ fs, p.1.length ≤ maxLen) (hno : valsH fs [73, 102, 45, 82, 97, 110, 103, 101] = []) (wk ex : Bool) (tg : ByteArray) (md now : Int) (w : World) (h : Rd w A (fc fs)) :
    Calls Tryz.prog 33 #[.string ⟨#[71, 69, 84]⟩, .slice A n c, .agg #[.bool wk, .string tg, .int .i64 md, .bool ex], .int .i64 now] w (Gives (.bool ex) w) := by
  have C := fun w' h' => hFirst_c fs [73, 102, 45, 82, 97, 110, 103, 101] A n c hn hb (by simp [maxLen]) hsz w' h'
  rw [hno] at C
  have C := Lib.hid C
  have H := Lib.hid h
  have HN := Lib.hid (fun w1 (e : Ext (w.alloc (.cells #[.bool wk, .string tg, .int .i64 md, .bool ex] 80)) w1) => (show w1.cell? ⟨w.heap.size, 3, none⟩ = some (.bool ex) from
    have r := heap_alloc_new w (.cells #[.bool wk, .string tg, .int .i64 md, .bool ex] 80)
    (row_facts ((e.block _ (row_lt r)).trans r) 3 _ rfl).1))
  clear h hno hsz hn
  cases ex with
  | true =>
    go_enter Tryz.func33, Tryz.ntmps33
    go_wp2_with (go_at_call 72; refine (C.out _ (H.out.ext (by (repeat (first | exact Ext.rfl' _ | assumption | refine Ext.dr ?_ | refine Ext.drN ?_ _ | refine Ext.al ?_ _ | refine Ext.st ?_ (by simp) _ | refine Ext.tr ?_ (by assumption)))))).mono ?_; rintro e w1 ⟨rfl, hx1⟩; have hc3 := HN.out w1 hx1; unfold firstV)
    go_ret
    exact ⟨rfl, by (repeat (first | exact Ext.rfl' _ | assumption | refine Ext.dr ?_ | refine Ext.drN ?_ _ | refine Ext.al ?_ _ | refine Ext.st ?_ (by simp) _ | refine Ext.tr ?_ (by assumption)))⟩
  | false =>
    go_enter Tryz.func33, Tryz.ntmps33
    go_wp2_with (go_at_call 72; refine (C.out _ (H.out.ext (by (repeat (first | exact Ext.rfl' _ | assumption | refine Ext.dr ?_ | refine Ext.drN ?_ _ | refine Ext.al ?_ _ | refine Ext.st ?_ (by simp) _ | refine Ext.tr ?_ (by assumption)))))).mono ?_; rintro e w1 ⟨rfl, hx1⟩; have hc3 := HN.out w1 hx1; unfold firstV)
    go_ret
    exact ⟨rfl, by (repeat (first | exact Ext.rfl' _ | assumption | refine Ext.dr ?_ | refine Ext.drN ?_ _ | refine Ext.al ?_ _ | refine Ext.st ?_ (by simp) _ | refine Ext.tr ?_ (by assumption)))⟩
end Go.Proofs.YtemdgilifnhdpaaGreatDoor
end
