/-
strconv.ParseUint at a row of digits, to the bases 10 and 16, at 63 bits: the number, or an error that is not nil.
-/
import Derived.Test.YtemdgilifnhdpaaGreatDoorPu2
import Derived.Test.YtemdgilifnhdpaaGreatDoorShelfPu
import Derived.Test.YtemdgilifnhdpaaGreatDoorZag
import Derived.Test.YtemdgilifnhdpaaGreatDoorZaa
import Derived.Deep.AppendSrc
import Derived.Deep.Upon
import Derived.Test.YtemdgilifnhdpaaGreatDoorProg
import Derived.Test.YtemdgilifnhdpaaGreatDoorShelf
import Derived.Lib.AppendIntMem
import Derived.Lib.ItoaLen
import Derived.Lib.ItoaMem
set_option linter.unusedVariables false
set_option linter.unusedSimpArgs false
section
namespace Go.Proofs.YtemdgilifnhdpaaGreatDoor
open Go.RowKit

def ErrR (w : World) : Prop := ∃ te pe, w.cell? ⟨7, 0, none⟩ = some (.iface te pe)
theorem ErrR.ext {w w' : World} (h : ErrR w) (x : Ext w w') : ErrR w' := by
  obtain ⟨te, pe, hc⟩ := h
  exact ⟨te, pe, (x.cell (lt_of_cell hc)).trans hc⟩
theorem toErr_c (fn s : ByteArray) (base bits : Int) (w : World) (hlim : s.size ≤ 281474976710656) (h : ErrR w) :
    Calls Tryz.prog 218 #[.string fn, .string s, .int .i64 base, .int .i64 bits, .iface 291 (.int .i64 1)] w fun e w' => ∃ N, e = .returned (.iface 293 (.pointer (some ⟨N, 0, none⟩))) ∧ Ext w w' := by
  obtain ⟨te, pe, hc⟩ := h
  have hn : Go.Proofs.LaysPu.n17 Tryz.prog Tryz.laysPu14_ren := { Tryz.laysPu14 with }
  have := AnyPu.strconv_toError_range (P := Tryz.prog) (ρ := Tryz.laysPu14_ren) hn fn s base bits (.iface te pe) w hlim hc (.inr ⟨te, pe, rfl⟩)
  refine Calls.mono this ?_
  rintro e w' ⟨N, rfl, h1, h2, h3⟩
  exact ⟨N, rfl, h3⟩
def IsErr2 (v : Value) (_ : World) : Prop := ∃ N, v = .tuple #[.int .u64 9223372036854775807, .iface 293 (.pointer (some ⟨N, 0, none⟩))]

theorem ParseUint16_ok (l : List UInt8) (hne : 0 < l.length) (hs : l.length ≤ 140737488355328) (hd : ∀ b ∈ l, isDig 16 b = true) (n : Nat) (hn : n = valL 16 l) (hlt : n < 9223372036854775808) (w : World) :
    Calls Tryz.prog 202 #[.string (str l), .int .i64 16, .int .i64 63] w (Gives (.tuple #[.int .u64 (n : Int), .nilIface]) w) := by
  have C := iParseUint16_c l hne hs hd
  rw [← hn, puV_lt hlt] at C
  have C := Lib.hid C
  clear hd hn hlt
  go_enter Tryz.func202, Tryz.ntmps202
  go_wp2_with (go_at_call 217; refine (C.out _).mono ?_; rintro e w1 ⟨rfl, hx⟩)
  go_ret2
  exact ⟨rfl, hx⟩
theorem ParseUint16_range (l : List UInt8) (hne : 0 < l.length) (hs : l.length ≤ 140737488355328) (hd : ∀ b ∈ l, isDig 16 b = true) (hge : 9223372036854775808 ≤ valL 16 l) (w : World) (hE : ErrR w) :
    Calls Tryz.prog 202 #[.string (str l), .int .i64 16, .int .i64 63] w (Ret IsErr2 w) := by
  have C := iParseUint16_c l hne hs hd
  rw [puV_ge hge] at C
  have C := Lib.hid C
  clear hd hge
  go_enter Tryz.func202, Tryz.ntmps202
  go_wp2_with (first
    | (go_at_call 217; refine (C.out _).mono ?_; rintro e w1 ⟨rfl, hx⟩)
    | (go_at_call 218; refine (toErr_c _ _ _ _ _ (by rw [str_size]; omega) (hE.ext hx)).mono ?_; rintro e w2 ⟨N, rfl, hx2⟩))
  go_ret2
  exact Ret.is rfl ⟨N, rfl⟩ (by (repeat (first | exact Ext.rfl' _ | assumption | refine Ext.dr ?_ | refine Ext.drN ?_ _ | refine Ext.al ?_ _ | refine Ext.st ?_ (by simp) _ | refine Ext.tr ?_ (by assumption))))
end Go.Proofs.YtemdgilifnhdpaaGreatDoor
end

section
namespace Go.Proofs.YtemdgilifnhdpaaGreatDoor
open Go.RowKit

def digs : List UInt8 := [48, 49, 50, 51, 52, 53, 54, 55, 56, 57, 97, 98, 99, 100, 101, 102]
theorem idx_dig0 : ∀ B : Fin 17, ∀ c : Fin 256, (isDig B.val c.val.toUInt8 = true ∧ Lib.indexByte digs c.val.toUInt8 = (digV c.val.toUInt8 : Int) ∧ digV c.val.toUInt8 < B.val) ∨
    (isDig B.val c.val.toUInt8 = false ∧ (Lib.indexByte digs c.val.toUInt8 = -1 ∨ (Lib.indexByte digs c.val.toUInt8 = (digV c.val.toUInt8 : Int) ∧ B.val ≤ digV c.val.toUInt8 ∧ digV c.val.toUInt8 < 16))) := by decide +kernel
theorem idx_dig (B : Nat) (hB : B ≤ 16) (b : UInt8) : (isDig B b = true ∧ ∃ d : Nat, Lib.indexByte digs b = (d : Int) ∧ d < B) ∨
    (isDig B b = false ∧ (Lib.indexByte digs b = -1 ∨ ∃ d : Nat, Lib.indexByte digs b = (d : Int) ∧ B ≤ d ∧ d < 16)) := by
  have := idx_dig0 ⟨B, by omega⟩ ⟨b.toNat, UInt8.toNat_lt b⟩
  simp only [Nat.toUInt8_eq, UInt8.ofNat_toNat] at this
  rcases this with ⟨h1, h2, h3⟩ | ⟨h1, h2 | ⟨h2, h3, h4⟩⟩
  · exact .inl ⟨h1, _, h2, h3⟩
  · exact .inr ⟨h1, .inl h2⟩
  · exact .inr ⟨h1, .inr ⟨_, h2, h3, h4⟩⟩
theorem ixd_c (b : UInt8) (w : World) : Calls Tryz.prog 88 #[.string ⟨#[48, 49, 50, 51, 52, 53, 54, 55, 56, 57, 97, 98, 99, 100, 101, 102]⟩, .int .u8 (b.toNat : Int)] w fun e w' => e = .returned (.int .i64 (Lib.indexByte digs b)) ∧ w = w' := by
  have hu : (b.toNat : Int).toNat.toUInt8 = b := by simp
  refine (Tryz.strings_IndexByte _ _ w).mono ?_
  rintro e w' ⟨rfl, rfl⟩
  rw [hu]
  exact ⟨rfl, rfl⟩
theorem numL_m (B most : Nat) (l m : List UInt8) (hm : m = lowL l) : numL B most l = if m = [] ∨ m.all (isDig B) = false then (0, 21) else if valL B m ≤ most then ((valL B m : Int), 0) else (0, 11) := by
  subst hm
  have e : (l = []) = (lowL l = []) := by unfold lowL; simp
  unfold numL
  simp only [e]

set_option maxHeartbeats 2000000 in
set_option maxRecDepth 100000 in
theorem number16_c (l : List UInt8) (hs : l.length ≤ 140737488355328) (w : World) (hE : ErrR w) :
    Calls Tryz.prog 174 #[.string (str l), .int .i64 16, .int .i64 1152921504606846976] w (Gives (.tuple #[.int .i64 (numL 16 1152921504606846976 l).1, .int .i64 (numL 16 1152921504606846976 l).2]) w) := by
  obtain ⟨m, hm⟩ : ∃ m, m = lowL l := ⟨_, rfl⟩
  have hml : m.length ≤ 140737488355328 := by rw [hm, low_length]; exact hs
  have hnum := numL_m 16 1152921504606846976 l m hm
  have CL := Lower_c l (by unfold maxLen; omega)
  rw [← hm] at CL
  have CL := Lib.hid CL
  generalize numL 16 1152921504606846976 l = N at *
  have HN := Lib.hid hnum
  clear hnum hm
  have HE := Lib.hid hE
  clear hE
  go_enter Tryz.func174, Tryz.ntmps174
  go_wp2_with (go_at_call 39; refine (CL.out _).mono ?_; rintro e w1 ⟨rfl, hx1⟩)
  go_loopw [17] (fun i wr => ∃ k : Nat, k ≤ m.length ∧ i = .int .i64 k ∧ (m.take k).all (isDig 16) = true ∧ w1 = wr) (fun i _ => m.length - (intOf i).toNat)
  case atStart => exact ⟨0, Nat.zero_le _, rfl, rfl, rfl⟩
  case round =>
    obtain ⟨k, hk, rfl, hall, rfl⟩ := hrel
    have HA := Lib.hid hall
    clear hall
    by_cases hlt : k < m.length
    · have hsucc := all_succ_l m (isDig 16) k hlt
      rw [HA.out] at hsucc
      have HS := Lib.hid hsucc
      clear hsucc
      rcases idx_dig 16 (by omega) m[k] with ⟨hg, d, hv, hd⟩ | ⟨hg, hv⟩
      · have HG := Lib.hid hg
        have HV := Lib.hid hv
        clear hg hv
        go_wp2_with (go_at_call 88; refine (ixd_c _ _).mono ?_; rintro e w2 ⟨rfl, rfl⟩; rw [HV.out])
        go_roundw
        case rel => exact ⟨k + 1, by omega, by go_num, by rw [HS.out, HG.out]; rfl, by trivial⟩
        case measure => simp [intOf]; omega
      · have hbad : N = (0, 21) := by
          rw [HN.out]
          refine if_pos (.inr ?_)
          rw [Bool.eq_false_iff]
          intro ha
          have := List.all_eq_true.1 ha m[k] (List.getElem_mem hlt)
          rw [hg] at this
          cases this
        have HB := Lib.hid hbad
        clear hbad hg
        rcases hv with hv | ⟨d, hv, hd, hd2⟩
        · have HV := Lib.hid hv
          clear hv
          go_wp2_with (go_at_call 88; refine (ixd_c _ _).mono ?_; rintro e w2 ⟨rfl, rfl⟩; rw [HV.out])
          go_ret2
          exact ⟨ret_val (by rw [HB.out]; rfl), hx1⟩
        · have HV := Lib.hid hv
          clear hv
          go_wp2_with (go_at_call 88; refine (ixd_c _ _).mono ?_; rintro e w2 ⟨rfl, rfl⟩; rw [HV.out])
          all_goals go_ret2
          all_goals exact ⟨ret_val (by rw [HB.out]; rfl), hx1⟩
    · obtain rfl : k = m.length := by omega
      rw [List.take_of_length_le (Nat.le_refl _)] at HA
      by_cases h0 : m = []
      · rw [if_pos (.inl h0)] at HN
        have he : m.isEmpty = true := by rw [h0]; rfl
        clear h0
        go_wp2
        go_ret2
        exact ⟨ret_val (by rw [HN.out]; rfl), hx1⟩
      · rw [if_neg (by rw [HA.out]; simp [h0])] at HN
        have he : m.isEmpty = false := by cases m with | nil => exact absurd rfl h0 | cons _ _ => rfl
        have hpos : 0 < m.length := List.length_pos_iff.2 h0
        have hdall : ∀ b ∈ m, isDig 16 b = true := List.all_eq_true.1 HA.out
        have HDA := Lib.hid hdall
        clear h0 hdall
        by_cases hbig : 9223372036854775808 ≤ valL 16 m
        · rw [if_neg (by omega)] at HN
          have HBG := Lib.hid hbig
          clear hbig
          go_wp2_with (go_at_call 202; refine (ParseUint16_range m hpos hml HDA.out HBG.out _ (HE.out.ext hx1)).mono ?_; rintro e w2 ⟨v, rfl, ⟨Nn, rfl⟩, hx2⟩)
          go_ret2
          exact ⟨ret_val (by rw [HN.out]; rfl), by (repeat (first | exact Ext.rfl' _ | assumption | refine Ext.dr ?_ | refine Ext.drN ?_ _ | refine Ext.al ?_ _ | refine Ext.st ?_ (by simp) _ | refine Ext.tr ?_ (by assumption)))⟩
        · obtain ⟨n, hn⟩ : ∃ n, n = valL 16 m := ⟨_, rfl⟩
          rw [← hn] at HN hbig
          have hlt63 : n < 9223372036854775808 := by omega
          have C1 := ParseUint16_ok m hpos hml HDA.out n hn hlt63
          obtain ⟨a, ha⟩ : ∃ a : Int, a = (n : Int) := ⟨_, rfl⟩
          rw [← ha] at C1
          have C1 := Lib.hid C1
          have a0 : 0 ≤ a := by omega
          have a1 : a < 9223372036854775808 := by omega
          by_cases hle : n ≤ 1152921504606846976
          · rw [if_pos hle, ← ha] at HN
            have hle' : a ≤ 1152921504606846976 := by omega
            clear hbig hn hle hlt63 ha
            go_wp2_with (go_at_call 202; refine (C1.out _).mono ?_; rintro e w2 ⟨rfl, hx2⟩)
            go_ret2
            exact ⟨ret_val (by rw [HN.out]; rfl), by (repeat (first | exact Ext.rfl' _ | assumption | refine Ext.dr ?_ | refine Ext.drN ?_ _ | refine Ext.al ?_ _ | refine Ext.st ?_ (by simp) _ | refine Ext.tr ?_ (by assumption)))⟩
          · rw [if_neg hle] at HN
            have hle' : 1152921504606846976 < a := by omega
            clear hbig hn hle hlt63 ha
            go_wp2_with (go_at_call 202; refine (C1.out _).mono ?_; rintro e w2 ⟨rfl, hx2⟩)
            go_ret2
            exact ⟨ret_val (by rw [HN.out]; rfl), by (repeat (first | exact Ext.rfl' _ | assumption | refine Ext.dr ?_ | refine Ext.drN ?_ _ | refine Ext.al ?_ _ | refine Ext.st ?_ (by simp) _ | refine Ext.tr ?_ (by assumption)))⟩
theorem Hex_c (l : List UInt8) (hs : l.length ≤ 140737488355328) (w : World) (hE : ErrR w) :
    Calls Tryz.prog 131 #[.string (str l)] w (Gives (.tuple #[.int .i64 (numL 16 1152921504606846976 l).1, .int .i64 (numL 16 1152921504606846976 l).2]) w) := by
  have C := fun w hE => number16_c l hs w hE
  generalize (numL 16 1152921504606846976 l).1 = a at *
  generalize (numL 16 1152921504606846976 l).2 = b at *
  have C := Lib.hid C
  go_enter Tryz.func131, Tryz.ntmps131
  go_wp2_with (go_at_call 174; refine (C.out _ hE).mono ?_; rintro e w1 ⟨rfl, hx⟩)
  go_ret2
  exact ⟨rfl, hx⟩
end Go.Proofs.YtemdgilifnhdpaaGreatDoor
end

section
namespace Go.Proofs.YtemdgilifnhdpaaGreatDoor
open Go.RowKit

end Go.Proofs.YtemdgilifnhdpaaGreatDoor
end

section
namespace Go.Proofs.YtemdgilifnhdpaaGreatDoor
open Go.RowKit

abbrev Ow := Nat → Nat

structure Stp (K : Nat → Prop) (w : World) (o : Ow) (w' : World) (o' : Ow) : Prop where
  os : w'.os = w.os
  tape : w'.tape = w.tape
  output : w'.output = w.output
  size : w.heap.size ≤ w'.heap.size
  own : ∀ b, b < w.heap.size → o' b = o b
  keep : ∀ b, b < w.heap.size → ¬ K (o b) → w'.heap[b]? = w.heap[b]?

section
variable {K L : Nat → Prop} {w w' w'' : World} {o o' o'' : Ow}
theorem Stp.rfl' : Stp K w o w o := ⟨rfl, rfl, rfl, Nat.le_refl _, fun _ _ => rfl, fun _ _ _ => rfl⟩
theorem Stp.tr (h : Stp K w o w' o') (k : Stp K w' o' w'' o'') : Stp K w o w'' o'' :=
  ⟨k.os.trans h.os, k.tape.trans h.tape, k.output.trans h.output, Nat.le_trans h.size k.size,
   fun b hb => (k.own b (Nat.lt_of_lt_of_le hb h.size)).trans (h.own b hb),
   fun b hb hk => (k.keep b (Nat.lt_of_lt_of_le hb h.size) (by rw [h.own b hb]; exact hk)).trans (h.keep b hb hk)⟩
theorem Stp.mono (h : Stp K w o w' o') (hm : ∀ i, K i → L i) : Stp L w o w' o' :=
  ⟨h.os, h.tape, h.output, h.size, h.own, fun b hb hk => h.keep b hb fun x => hk (hm _ x)⟩
theorem Stp.ext (h : Ext w w') : Stp K w o w' o := ⟨h.os, h.tape, h.output, h.size, fun _ _ => rfl, fun b hb _ => h.block b hb⟩
theorem Stp.ext2 (h : Ext w w') (ho : ∀ b, b < w.heap.size → o' b = o b) : Stp K w o w' o' := ⟨h.os, h.tape, h.output, h.size, ho, fun b hb _ => h.block b hb⟩
theorem Stp.toExt (h : Stp K w o w' o') (hk : ∀ b, b < w.heap.size → ¬ K (o b)) : Ext w w' := ⟨h.os, h.tape, h.output, h.size, fun b hb => h.keep b hb (hk b hb)⟩
theorem Stp.cell (h : Stp K w o w' o') {a : Addr} {u : Value} (hb : ¬ K (o a.block)) (hc : w.cell? a = some u) : w'.cell? a = some u := by
  rw [← hc]; exact World.cell?_of_block (h.keep _ (lt_of_cell hc) hb)
theorem Stp.frozen (h : Stp K w o w' o') {a : Addr} (hl : a.block < w.heap.size) (hb : ¬ K (o a.block)) : w'.frozen? a = w.frozen? a :=
  World.frozen?_of_block (h.keep _ hl hb)
theorem Stp.set (b off : Nat) (u : Value) (hk : b < w.heap.size → K (o b)) : Stp K w o (w.setCell ⟨b, off, none⟩ u) o := by
  refine ⟨rfl, rfl, rfl, ?_, fun _ _ => rfl, fun i hi hn => ?_⟩
  · simp
  · by_cases he : i = b
    · subst he; exact absurd (hk hi) hn
    · exact Below.heap_setCell w ⟨b, off, none⟩ u i he
theorem Rd.stp {A : Option Addr} {xs : List Value} (h : Rd w A xs) (s : Stp K w o w' o') (hk : ∀ a, A = some a → a.block < w.heap.size → ¬ K (o a.block)) : Rd w' A xs := by
  rcases h with h | ⟨b, f, hA, hc⟩
  · exact .inl h
  · exact .inr ⟨b, f, hA, fun j u hu => s.cell (a := ⟨b, f + j, none⟩) (hk ⟨b, f, none⟩ hA (show b < w.heap.size from lt_of_cell (hc j u hu))) (hc j u hu)⟩
end

structure Sl (w : World) (o : Ow) (k size : Nat) (A : Option Addr) (n c : Nat) (xs : List Value) : Prop where
  len : xs.length = n * size
  le : n ≤ c
  max : c ≤ maxLen
  at_ : c = 0 ∨ ∃ g f, A = some ⟨g, f, none⟩ ∧ o g = k ∧ g < w.heap.size ∧ (∀ j u, xs[j]? = some u → w.cell? ⟨g, f + j, none⟩ = some u) ∧
    (∀ j, j < c * size → (w.cell? ⟨g, f + j, none⟩).isSome = true ∧ w.frozen? ⟨g, f + j, none⟩ = false)

section
variable {K : Nat → Prop} {w w' : World} {o o' : Ow} {k size n c : Nat} {A : Option Addr} {xs : List Value}
theorem Sl.nil_ (w : World) (o : Ow) (k size : Nat) (A : Option Addr) : Sl w o k size A 0 0 [] := ⟨by simp, Nat.le_refl _, by simp [maxLen], .inl rfl⟩
theorem Sl.rd (h : Sl w o k size A n c xs) : Rd w A xs := by
  rcases h.at_ with h0 | ⟨g, f, hA, _, _, hc, _⟩
  · have := h.len; have := h.le
    obtain rfl : n = 0 := by omega
    exact .inl (List.eq_nil_of_length_eq_zero (by omega))
  · exact .inr ⟨g, f, hA, hc⟩
theorem Sl.stp (h : Sl w o k size A n c xs) (s : Stp K w o w' o') (hk : ¬ K k) : Sl w' o' k size A n c xs := by
  refine ⟨h.len, h.le, h.max, ?_⟩
  rcases h.at_ with h0 | ⟨g, f, hA, ho, hl, hc, hr⟩
  · exact .inl h0
  · have hg : w'.heap[g]? = w.heap[g]? := s.keep g hl (by rw [ho]; exact hk)
    refine .inr ⟨g, f, hA, by rw [s.own g hl]; exact ho, Nat.lt_of_lt_of_le hl s.size, fun j u hu => ?_, fun j hj => ?_⟩
    · rw [World.cell?_of_block (a := ⟨g, f + j, none⟩) hg]; exact hc j u hu
    · rw [World.cell?_of_block (a := ⟨g, f + j, none⟩) hg, World.frozen?_of_block (a := ⟨g, f + j, none⟩) hg]; exact hr j hj
theorem Sl.ext (h : Sl w o k size A n c xs) (e : Ext w w') : Sl w' o k size A n c xs := h.stp (K := fun _ => False) (Stp.ext e) (fun x => x)
theorem Sl.take (h : Sl w o k size A n c xs) (m : Nat) (hm : m ≤ n) : Sl w o k size A m c (xs.take (m * size)) := by
  have hl := h.len
  have h1 : m * size ≤ n * size := Nat.mul_le_mul_right _ hm
  refine ⟨by rw [List.length_take]; omega, Nat.le_trans hm h.le, h.max, ?_⟩
  rcases h.at_ with h0 | ⟨g, f, hA, ho, hg, hc, hr⟩
  · exact .inl h0
  · exact .inr ⟨g, f, hA, ho, hg, fun j u hu => hc j u (by rw [List.getElem?_take] at hu; split at hu; exact hu; cases hu), hr⟩
theorem Sl.drop {g f : Nat} (h : Sl w o k size (some ⟨g, f, none⟩) n c xs) (m : Nat) (hm : m ≤ n) : Sl w o k size (some ⟨g, f + m * size, none⟩) (n - m) (c - m) (xs.drop (m * size)) := by
  have hl := h.len
  have h1 : m * size ≤ n * size := Nat.mul_le_mul_right _ hm
  refine ⟨by rw [List.length_drop, Nat.sub_mul]; omega, by have := h.le; omega, by have := h.max; omega, ?_⟩
  rcases h.at_ with h0 | ⟨g', f', hA, ho, hg, hc, hr⟩
  · exact .inl (by omega)
  · cases hA
    refine .inr ⟨_, _, rfl, ho, hg, fun j u hu => by rw [Nat.add_assoc]; exact hc _ _ (by simpa using hu), fun j hj => by rw [Nat.add_assoc]; exact hr _ (by rw [Nat.sub_mul] at hj; omega)⟩
theorem Sl.src {P : Program} {tx e' : TypeId} (hk : P.underlying tx = some (.slice e')) (h : Rd w A xs) (hl : xs.length = n * size) (hs : 0 < size) (h1 : ∀ u ∈ xs, u.oneCell' = true) (c : Nat) : Src P size tx (.slice A n c) n xs w := by
  rcases h with h | ⟨g, f, hA, hc⟩
  · subst h
    obtain rfl : n = 0 := by
      rcases Nat.eq_zero_or_pos n with h0 | h0
      · exact h0
      · have := Nat.mul_pos h0 hs; simp at hl; omega
    cases A with
    | none => exact Src.ofNil w hk c
    | some a => exact Src.ofSlice w hk a 0 c [] (by simp) (fun j u hu => by simp at hu) (fun u hu => by cases hu)
  · subst hA
    exact Src.ofSlice w hk _ n c xs hl (fun j u hu => by rw [add_mk]; exact hc j u hu) h1
end

section
variable {P : Program} {t e : TypeId} {z : Value} {size bytes : Nat}
theorem tape_setCells (b : Nat) : ∀ (vs : List Value) (f : Nat) (w : World), (w.setCells b f vs).tape = w.tape
  | [], _, _ => rfl
  | v :: vs, f, w => by unfold World.setCells; rw [tape_setCells b vs]; rfl
theorem run_put (hT : SlT P t e z size bytes) {w : World} {o : Ow} {k n c m : Nat} {A : Option Addr} {xs news : List Value} {x : Value} {tx : TypeId} (ty : TypeId)
    (hs : Sl w o k size A n c xs) (hna : A = none → c = 0) (src : Src P size tx x m news w) (hbytes : (n + m) * bytes ≤ 140737488355328) (h63 : n + m ≤ maxLen) :
    ∃ A' c' w' o', (Builtin.append_ #[t, tx] ty #[.slice A n c, x]).run P w = .ok (.slice A' (n + m) c') w' ∧ Sl w' o' k size A' (n + m) c' (xs ++ news) ∧ Stp (fun i => 0 < c ∧ i = k) w o w' o' ∧ (A' = none → c' = 0) := by
  obtain ⟨ht, hi0, hz, hsz⟩ := hT
  obtain ⟨i, hi, h2, h3, h4⟩ := info_parts hi0
  subst h3
  subst h4
  have hnl := src.newsLen
  have hsmall : n + m ≤ 9223372036854775807 := by simp only [maxLen] at h63; omega
  have hL : (xs ++ news).length = (n + m) * i.size := by rw [List.length_append, hs.len, hnl, Nat.add_mul]
  by_cases hroom : n + m ≤ c
  · rcases Nat.eq_zero_or_pos c with h0 | hcp
    · obtain rfl : m = 0 := by omega
      obtain rfl : n = 0 := by omega
      obtain rfl : news = [] := List.eq_nil_of_length_eq_zero (by simpa using hnl)
      refine ⟨A, c, w, o, run_append_nothing (P := P) w t tx ty e i ht hi A 0 c (by omega) x src, ?_, Stp.rfl', hna⟩
      simpa using hs
    rcases hs.at_ with h0 | ⟨g, f, rfl, ho, hg, hc, hr⟩
    · omega
    · have hbd : ∀ j, j < news.length → n * i.size + j < c * i.size := fun j hj => by
        have : (n + m) * i.size ≤ c * i.size := Nat.mul_le_mul_right _ hroom
        rw [Nat.add_mul] at this; omega
      have hsome : ∀ j, j < news.length → (w.cell? ⟨g, f + n * i.size + j, none⟩).isSome = true := fun j hj => by rw [Nat.add_assoc]; exact (hr _ (hbd j hj)).1
      have hfr : ∀ j, j < news.length → w.frozen? ⟨g, f + n * i.size + j, none⟩ = false := fun j hj => by rw [Nat.add_assoc]; exact (hr _ (hbd j hj)).2
      have hkb := World.keptBut_setCells g (may := fun p => p.block = g) news (f + n * i.size) w (fun _ _ => rfl)
      refine ⟨_, _, _, o, run_append_room_src (P := P) w t tx ty e i ht hi g f n c x m news src hroom hsome hfr, ⟨hL, hroom, hs.max, .inr ⟨g, f, rfl, ho, Nat.lt_of_lt_of_le hg hkb.size, fun j u hu => ?_, fun j hj => ⟨World.isSome_setCells _ _ _ _ _ (hr j hj).1, ?_⟩⟩⟩,
        ⟨hkb.1, tape_setCells _ _ _ _, hkb.2.1, hkb.size, fun _ _ => rfl, fun b hb hn => World.heap_setCells_other w g _ news hb (fun e => hn (by rw [e]; exact ⟨hcp, ho⟩))⟩, fun e => by cases e⟩
      · by_cases hj : j < xs.length
        · rw [World.cell?_setCells_out g _ _ _ _ (fun _ _ => Or.inl (by show f + j < f + n * i.size; rw [← hs.len]; omega))]
          exact hc j u (by rw [List.getElem?_append_left hj] at hu; exact hu)
        · rw [List.getElem?_append_right (by omega)] at hu
          obtain ⟨ht', hu'⟩ := List.getElem?_eq_some_iff.1 hu
          have := World.cell?_setCells_in g news (f + n * i.size) w hsome (j - xs.length) ht'
          rw [show f + n * i.size + (j - xs.length) = f + j by rw [← hs.len]; omega] at this
          rw [this, hu']
      · rw [World.frozen?_setCells]; exact (hr j hj).2
  · have hold : (Builtin.firstCells i.size n (.slice A n c)).run P w.drew = .ok xs.toArray w.drew := by
      rcases hs.at_ with h0 | ⟨g, f, rfl, ho, hg, hc, hr⟩
      · have := hs.le; have := hs.len
        obtain rfl : n = 0 := by omega
        obtain rfl : xs = [] := List.eq_nil_of_length_eq_zero (by omega)
        cases A with
        | none => exact run_firstCells_none w.drew i.size 0 0 c
        | some a' => exact run_firstCells_some w.drew i.size 0 a' 0 c [] (by simp) (by intro _ _ h'; simp at h')
      · exact run_firstCells_some w.drew i.size n ⟨g, f, none⟩ n c xs hs.len (fun j u hu => by rw [add_mk]; exact hc j u hu)
    have hrun := run_append_grow_src (P := P) w t tx ty e i z ht hi h2 A n c xs hold x m news src (by omega) (by omega) (growslice_fits (by omega) hbytes)
    have hge := grownCap_ge w (n + m) c e
    have hcm := grownCap_le_maxLen w (n + m) c e h63
    refine ⟨_, _, _, fun b => if b < w.heap.size then o b else k, hrun, ⟨hL, hge, hcm, .inr ⟨w.heap.size, 0, rfl, by simp, by simp, fun j u hu => ?_, fun j hj => ⟨?_, ?_⟩⟩⟩, ⟨rfl, rfl, rfl, by simp, fun b hb => by simp [hb], fun b hb _ => Below.heap_alloc w.drew _ b hb⟩, fun e => by cases e⟩
    · have e1 : (w.drew.alloc (.cells ((xs ++ news).toArray ++ Builtin.zeroCells z.cells (grownCap w (n + m) c e - (n + m))) e)).cell? ⟨w.heap.size, 0 + j, none⟩ = _ := World.cell?_alloc_new w.drew _ _ (0 + j)
      rw [e1, Nat.zero_add, Array.getElem?_append_left (by simp only [List.size_toArray]; exact (List.getElem?_eq_some_iff.1 hu).1), List.getElem?_toArray, hu]
    · have e1 : (w.drew.alloc (.cells ((xs ++ news).toArray ++ Builtin.zeroCells z.cells (grownCap w (n + m) c e - (n + m))) e)).cell? ⟨w.heap.size, 0 + j, none⟩ = _ := World.cell?_alloc_new w.drew _ _ (0 + j)
      rw [e1]
      have hsz' : ((xs ++ news).toArray ++ Builtin.zeroCells z.cells (grownCap w (n + m) c e - (n + m))).size = grownCap w (n + m) c e * i.size := by
        rw [Array.size_append, List.size_toArray, hL, size_zeroCells, hz, ← Nat.add_mul]
        congr 1
        omega
      rw [Array.getElem?_eq_getElem (by rw [hsz', Nat.zero_add]; exact hj)]
      rfl
    · exact World.frozen?_alloc_new w.drew _ _ (0 + j)

theorem wpL_put (hT : SlT P t e z size bytes) {ops : Array Oper} {rest : List Oper} {op : Oper} {a : Act} {Q : Exit → Act → World → Prop} (s x : Operand) {tx : TypeId}
    (ho : op.op = .call { callee := .builtin .append, args := #[s, x], argTypes := #[t, tx] }) (hw : Region.wanted op (yielded ops a.tmps) = true)
    {w : World} {o : Ow} {k n c m : Nat} {A : Option Addr} {xs news : List Value} {xv : Value} (hs : a.eval s = .slice A n c) (hx : a.eval x = xv)
    (hsl : Sl w o k size A n c xs) (hna : A = none → c = 0) (src : Src P size tx xv m news w) (hbytes : (n + m) * bytes ≤ 140737488355328) (h63 : n + m ≤ maxLen)
    (h : ∀ A' c' w' o', Sl w' o' k size A' (n + m) c' (xs ++ news) → Stp (fun i => i = k) w o w' o' → (A' = none → c' = 0) → wpList P ops Q rest (a.put op.dst (.slice A' (n + m) c')) w') : wpList P ops Q (op :: rest) a w := by
  obtain ⟨A', c', w', o', hr, h1, h2, h3⟩ := run_put hT op.type hsl hna src hbytes h63
  refine wpList_step fun _ hK => ?_
  rw [if_pos hw]
  unfold Oper.wp execOp
  simp only [ho, resolve, invoke, builtin, Sem.run_bind, Sem.run_pure, Result.andThen_ok, List.map_toArray, List.map_cons, List.map_nil, hs, hx, hr]
  exact hK _ _ (h A' c' w' o' h1 (h2.mono fun _ hi => hi.2) h3)
theorem wpL_fresh (hT : SlT P t e z size bytes) {ops : Array Oper} {rest : List Oper} {op : Oper} {a : Act} {Q : Exit → Act → World → Prop} (s x : Operand) {tx : TypeId}
    (ho : op.op = .call { callee := .builtin .append, args := #[s, x], argTypes := #[t, tx] }) (hw : Region.wanted op (yielded ops a.tmps) = true)
    {w : World} {o : Ow} (k : Nat) {m : Nat} {A : Option Addr} {news : List Value} {xv : Value} (hs : a.eval s = .slice A 0 0) (hx : a.eval x = xv)
    (src : Src P size tx xv m news w) (hbytes : m * bytes ≤ 140737488355328) (h63 : m ≤ maxLen)
    (h : ∀ A' c' w' o', Sl w' o' k size A' m c' news → Stp (fun _ => False) w o w' o' → (A' = none → c' = 0) → wpList P ops Q rest (a.put op.dst (.slice A' m c')) w') : wpList P ops Q (op :: rest) a w := by
  obtain ⟨A', c', w', o', hr, h1, h2, h3⟩ := run_put hT op.type (Sl.nil_ w o k size A) (fun _ => rfl) src (by rw [Nat.zero_add]; exact hbytes) (by rw [Nat.zero_add]; exact h63)
  rw [Nat.zero_add] at hr h1
  refine wpList_step fun _ hK => ?_
  rw [if_pos hw]
  unfold Oper.wp execOp
  simp only [ho, resolve, invoke, builtin, Sem.run_bind, Sem.run_pure, Result.andThen_ok, List.map_toArray, List.map_cons, List.map_nil, hs, hx, hr]
  exact hK _ _ (h A' c' w' o' h1 (h2.mono fun _ hi => by omega) h3)
end
theorem Stp.noExt {w w' : World} {o o' : Ow} (h : Stp (fun _ => False) w o w' o') : Ext w w' := h.toExt (fun _ _ x => x)
end Go.Proofs.YtemdgilifnhdpaaGreatDoor
end

section
namespace Go.Proofs.YtemdgilifnhdpaaGreatDoor
open Go.RowKit

def Turns (K : Nat → Prop) (w : World) (o : Ow) (R : Value → World → Ow → Prop) (e : Ending) (w' : World) : Prop := ∃ v o', e = .returned v ∧ R v w' o' ∧ Stp K w o w' o'
theorem Turns.mk {K : Nat → Prop} {w : World} {o : Ow} {R : Value → World → Ow → Prop} {e : Ending} {w' : World} {v : Value} (o' : Ow) (he : e = .returned v) (h : R v w' o') (s : Stp K w o w' o') : Turns K w o R e w' := ⟨v, o', he, h, s⟩
def IsB (k : Nat) (l : List UInt8) (v : Value) (w : World) (o : Ow) : Prop := ∃ A c, v = .slice A l.length c ∧ Sl w o k 1 A l.length c (bc l) ∧ (A = none → c = 0)
theorem slt_u8 : SlT Tryz.prog 22 5 (.int .u8 0) 1 1 := ⟨Tryz.underlying22, by kernel_rfl, rfl, by omega⟩

theorem row_facts {w : World} {p : Nat} {cs : Array Value} {t : TypeId} (h : w.heap[p]? = some (.cells cs t (0, 0))) (i : Nat) (u : Value) (hu : cs[i]? = some u) :
    w.cell? ⟨p, i, none⟩ = some u ∧ w.frozen? ⟨p, i, none⟩ = false := by
  refine ⟨by rw [cell_of_row w p i cs t (0, 0) h]; exact hu, ?_⟩
  unfold World.frozen?
  simp only [h]
  simp
theorem row_lt {w : World} {p : Nat} {x : Obj} (h : w.heap[p]? = some x) : p < w.heap.size := (Array.getElem?_eq_some_iff.1 h).1
theorem row_set {w : World} {p : Nat} {cs : Array Value} {t : TypeId} (h : w.heap[p]? = some (.cells cs t (0, 0))) (i : Nat) (u : Value) :
    (w.setCell ⟨p, i, none⟩ u).heap[p]? = some (.cells (cs.setIfInBounds i u) t (0, 0)) := by
  simp [World.setCell, Array.getElem?_modify, h]
theorem IsB.stp {K : Nat → Prop} {w w' : World} {o o' : Ow} {k : Nat} {l : List UInt8} {v : Value} (h : IsB k l v w o) (s : Stp K w o w' o') (hk : ¬ K k) : IsB k l v w' o' := by
  obtain ⟨A, c, hv, hs, hn⟩ := h
  exact ⟨A, c, hv, hs.stp s hk, hn⟩
theorem IsB.ext {w w' : World} {o : Ow} {k : Nat} {l : List UInt8} {v : Value} (h : IsB k l v w o) (e : Ext w w') : IsB k l v w' o := h.stp (K := fun _ => False) (Stp.ext e) (fun x => x)
theorem IsB.nil_ (k : Nat) (w : World) (o : Ow) : IsB k [] (.slice none 0 0) w o := ⟨none, 0, rfl, Sl.nil_ _ _ _ _ _, fun _ => rfl⟩
end Go.Proofs.YtemdgilifnhdpaaGreatDoor
end

section
namespace Go.Proofs.YtemdgilifnhdpaaGreatDoor
open Go.RowKit

def Pow (w : World) : Prop := Lib.TabIs Tryz.prog w "internal/strconv.uint64pow10" .u64 Lib.pow10Tab
theorem gPow : Tryz.prog.globalNamed "internal/strconv.uint64pow10" = some 1 := by kernel_rfl
theorem Pow.ext {w w' : World} (h : Pow w) (e : Ext w w') : Pow w' := by
  have h0 := h.cell gPow 0 (by rw [Lib.pow10Tab_length]; omega)
  exact var?_below e gPow (lt_of_cell h0) h

def decB (n : Int) : ByteArray := str (Lib.itoa n)

theorem Digits_c (n : Int) (w : World) (h : Pow w) (h0 : -9223372036854775808 ≤ n) (h1 : n ≤ 9223372036854775807) :
    Calls Tryz.prog 71 #[.int .i64 n] w (Gives (.string (decB n)) w) := by
  go_enter Tryz.func71, Tryz.ntmps71
  go_wp2_with (go_at_call 101; refine (Tryz.strconv_Itoa n h0 h1 _ h).mono ?_; rintro e w1 ⟨rfl, k, os, rfl⟩)
  go_ret
  exact ⟨rfl, Lib.below_grow _ _ (Nat.le_refl _) _ _⟩

end Go.Proofs.YtemdgilifnhdpaaGreatDoor
end
