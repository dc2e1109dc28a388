/-
strconv.ParseUint at a row of digits, to the bases 10 and 16, at 63 bits: the number, or an error that is not nil.
-/
import Derived.Test.YtemdgilifnhdpaaGreatDoorPu2
import Derived.Test.YtemdgilifnhdpaaGreatDoorShelfPu
import Derived.Test.YtemdgilifnhdpaaGreatDoorZap
import Derived.Test.YtemdgilifnhdpaaGreatDoorZal
import Derived.Test.YtemdgilifnhdpaaGreatDoorProg
import Derived.Test.YtemdgilifnhdpaaGreatDoorZaf
import Derived.Test.YtemdgilifnhdpaaGreatDoorZah
import Derived.Stop.LaidErr
import Derived.LaidLaws
import Derived.Test.YtemdgilifnhdpaaGreatDoorZao
import Derived.Test.YtemdgilifnhdpaaGreatDoorZae
set_option linter.unusedVariables false
set_option linter.unusedSimpArgs false
section
namespace Go.Proofs.YtemdgilifnhdpaaGreatDoor
open Go.RowKit

def ErrR (w : World) : Prop := ∃ te pe, w.cell? ⟨7, 0, none⟩ = some (.iface te pe)
theorem ErrR.ext {w w' : World} (h : ErrR w) (x : Ext w w') : ErrR w' := by
  obtain ⟨te, pe, hc⟩ := h
  exact ⟨te, pe, (x.cell (lt_of_cell hc)).trans hc⟩
theorem toErr_c (fn s : ByteArray) (base bits : Int) (w : World) (hlim : s.size ≤ 281474976710656) (h : ErrR w) :
    Calls Tryz.prog 218 #[.string fn, .string s, .int .i64 base, .int .i64 bits, .iface 291 (.int .i64 1)] w fun e w' => ∃ N, e = .returned (.iface 293 (.pointer (some ⟨N, 0, none⟩))) ∧ Ext w w' := by
  obtain ⟨te, pe, hc⟩ := h
  have hn : Go.Proofs.LaysPu.n17 Tryz.prog Tryz.laysPu14_ren := { Tryz.laysPu14 with }
  have := AnyPu.strconv_toError_range (P := Tryz.prog) (ρ := Tryz.laysPu14_ren) hn fn s base bits (.iface te pe) w hlim hc (.inr ⟨te, pe, rfl⟩)
  refine Calls.mono this ?_
  rintro e w' ⟨N, rfl, h1, h2, h3⟩
  exact ⟨N, rfl, h3⟩
def IsErr2 (v : Value) (_ : World) : Prop := ∃ N, v = .tuple #[.int .u64 9223372036854775807, .iface 293 (.pointer (some ⟨N, 0, none⟩))]

theorem ParseUint16_ok (l : List UInt8) (hne : 0 < l.length) (hs : l.length ≤ 140737488355328) (hd : ∀ b ∈ l, isDig 16 b = true) (n : Nat) (hn : n = valL 16 l) (hlt : n < 9223372036854775808) (w : World) :
    Calls Tryz.prog 202 #[.string (str l), .int .i64 16, .int .i64 63] w (Gives (.tuple #[.int .u64 (n : Int), .nilIface]) w) := by
  have C := iParseUint16_c l hne hs hd
  rw [← hn, puV_lt hlt] at C
  have C := Lib.hid C
  clear hd hn hlt
  go_enter Tryz.func202, Tryz.ntmps202
  go_wp2_with (go_at_call 217; refine (C.out _).mono ?_; rintro e w1 ⟨rfl, hx⟩)
  go_ret2
  exact ⟨rfl, hx⟩
theorem ParseUint16_range (l : List UInt8) (hne : 0 < l.length) (hs : l.length ≤ 140737488355328) (hd : ∀ b ∈ l, isDig 16 b = true) (hge : 9223372036854775808 ≤ valL 16 l) (w : World) (hE : ErrR w) :
    Calls Tryz.prog 202 #[.string (str l), .int .i64 16, .int .i64 63] w (Ret IsErr2 w) := by
  have C := iParseUint16_c l hne hs hd
  rw [puV_ge hge] at C
  have C := Lib.hid C
  clear hd hge
  go_enter Tryz.func202, Tryz.ntmps202
  go_wp2_with (first
    | (go_at_call 217; refine (C.out _).mono ?_; rintro e w1 ⟨rfl, hx⟩)
    | (go_at_call 218; refine (toErr_c _ _ _ _ _ (by rw [str_size]; omega) (hE.ext hx)).mono ?_; rintro e w2 ⟨N, rfl, hx2⟩))
  go_ret2
  exact Ret.is rfl ⟨N, rfl⟩ (by (repeat (first | exact Ext.rfl' _ | assumption | refine Ext.dr ?_ | refine Ext.drN ?_ _ | refine Ext.al ?_ _ | refine Ext.st ?_ (by simp) _ | refine Ext.tr ?_ (by assumption))))
end Go.Proofs.YtemdgilifnhdpaaGreatDoor
end

section
namespace Go.Proofs.YtemdgilifnhdpaaGreatDoor
open Go.RowKit

def digs : List UInt8 := [48, 49, 50, 51, 52, 53, 54, 55, 56, 57, 97, 98, 99, 100, 101, 102]
theorem idx_dig0 : ∀ B : Fin 17, ∀ c : Fin 256, (isDig B.val c.val.toUInt8 = true ∧ Lib.indexByte digs c.val.toUInt8 = (digV c.val.toUInt8 : Int) ∧ digV c.val.toUInt8 < B.val) ∨
    (isDig B.val c.val.toUInt8 = false ∧ (Lib.indexByte digs c.val.toUInt8 = -1 ∨ (Lib.indexByte digs c.val.toUInt8 = (digV c.val.toUInt8 : Int) ∧ B.val ≤ digV c.val.toUInt8 ∧ digV c.val.toUInt8 < 16))) := by decide +kernel
theorem idx_dig (B : Nat) (hB : B ≤ 16) (b : UInt8) : (isDig B b = true ∧ ∃ d : Nat, Lib.indexByte digs b = (d : Int) ∧ d < B) ∨
    (isDig B b = false ∧ (Lib.indexByte digs b = -1 ∨ ∃ d : Nat, Lib.indexByte digs b = (d : Int) ∧ B ≤ d ∧ d < 16)) := by
  have := idx_dig0 ⟨B, by omega⟩ ⟨b.toNat, UInt8.toNat_lt b⟩
  simp only [Nat.toUInt8_eq, UInt8.ofNat_toNat] at this
  rcases this with ⟨h1, h2, h3⟩ | ⟨h1, h2 | ⟨h2, h3, h4⟩⟩
  · exact .inl ⟨h1, _, h2, h3⟩
  · exact .inr ⟨h1, .inl h2⟩
  · exact .inr ⟨h1, .inr ⟨_, h2, h3, h4⟩⟩
theorem ixd_c (b : UInt8) (w : World) : Calls Tryz.prog 88 #[.string ⟨#[48, 49, 50, 51, 52, 53, 54, 55, 56, 57, 97, 98, 99, 100, 101, 102]⟩, .int .u8 (b.toNat : Int)] w fun e w' => e = .returned (.int .i64 (Lib.indexByte digs b)) ∧ w = w' := by
  have hu : (b.toNat : Int).toNat.toUInt8 = b := by simp
  refine (Tryz.strings_IndexByte _ _ w).mono ?_
  rintro e w' ⟨rfl, rfl⟩
  rw [hu]
  exact ⟨rfl, rfl⟩
theorem numL_m (B most : Nat) (l m : List UInt8) (hm : m = lowL l) : numL B most l = if m = [] ∨ m.all (isDig B) = false then (0, 21) else if valL B m ≤ most then ((valL B m : Int), 0) else (0, 11) := by
  subst hm
  have e : (l = []) = (lowL l = []) := by unfold lowL; simp
  unfold numL
  simp only [e]

set_option maxHeartbeats 2000000 in
set_option maxRecDepth 100000 in
theorem number16_c (l : List UInt8) (hs : l.length ≤ 140737488355328) (w : World) (hE : ErrR w) :
    Calls Tryz.prog 174 #[.string (str l), .int .i64 16, .int .i64 1152921504606846976] w (Gives (.tuple #[.int .i64 (numL 16 1152921504606846976 l).1, .int .i64 (numL 16 1152921504606846976 l).2]) w) := by
  obtain ⟨m, hm⟩ : ∃ m, m = lowL l := ⟨_, rfl⟩
  have hml : m.length ≤ 140737488355328 := by rw [hm, low_length]; exact hs
  have hnum := numL_m 16 1152921504606846976 l m hm
  have CL := Lower_c l (by unfold maxLen; omega)
  rw [← hm] at CL
  have CL := Lib.hid CL
  generalize numL 16 1152921504606846976 l = N at *
  have HN := Lib.hid hnum
  clear hnum hm
  have HE := Lib.hid hE
  clear hE
  go_enter Tryz.func174, Tryz.ntmps174
  go_wp2_with (go_at_call 39; refine (CL.out _).mono ?_; rintro e w1 ⟨rfl, hx1⟩)
  go_loopw [17] (fun i wr => ∃ k : Nat, k ≤ m.length ∧ i = .int .i64 k ∧ (m.take k).all (isDig 16) = true ∧ w1 = wr) (fun i _ => m.length - (intOf i).toNat)
  case atStart => exact ⟨0, Nat.zero_le _, rfl, rfl, rfl⟩
  case round =>
    obtain ⟨k, hk, rfl, hall, rfl⟩ := hrel
    have HA := Lib.hid hall
    clear hall
    by_cases hlt : k < m.length
    · have hsucc := all_succ_l m (isDig 16) k hlt
      rw [HA.out] at hsucc
      have HS := Lib.hid hsucc
      clear hsucc
      rcases idx_dig 16 (by omega) m[k] with ⟨hg, d, hv, hd⟩ | ⟨hg, hv⟩
      · have HG := Lib.hid hg
        have HV := Lib.hid hv
        clear hg hv
        go_wp2_with (go_at_call 88; refine (ixd_c _ _).mono ?_; rintro e w2 ⟨rfl, rfl⟩; rw [HV.out])
        go_roundw
        case rel => exact ⟨k + 1, by omega, by go_num, by rw [HS.out, HG.out]; rfl, by trivial⟩
        case measure => simp [intOf]; omega
      · have hbad : N = (0, 21) := by
          rw [HN.out]
          refine if_pos (.inr ?_)
          rw [Bool.eq_false_iff]
          intro ha
          have := List.all_eq_true.1 ha m[k] (List.getElem_mem hlt)
          rw [hg] at this
          cases this
        have HB := Lib.hid hbad
        clear hbad hg
        rcases hv with hv | ⟨d, hv, hd, hd2⟩
        · have HV := Lib.hid hv
          clear hv
          go_wp2_with (go_at_call 88; refine (ixd_c _ _).mono ?_; rintro e w2 ⟨rfl, rfl⟩; rw [HV.out])
          go_ret2
          exact ⟨ret_val (by rw [HB.out]; rfl), hx1⟩
        · have HV := Lib.hid hv
          clear hv
          go_wp2_with (go_at_call 88; refine (ixd_c _ _).mono ?_; rintro e w2 ⟨rfl, rfl⟩; rw [HV.out])
          all_goals go_ret2
          all_goals exact ⟨ret_val (by rw [HB.out]; rfl), hx1⟩
    · obtain rfl : k = m.length := by omega
      rw [List.take_of_length_le (Nat.le_refl _)] at HA
      by_cases h0 : m = []
      · rw [if_pos (.inl h0)] at HN
        have he : m.isEmpty = true := by rw [h0]; rfl
        clear h0
        go_wp2
        go_ret2
        exact ⟨ret_val (by rw [HN.out]; rfl), hx1⟩
      · rw [if_neg (by rw [HA.out]; simp [h0])] at HN
        have he : m.isEmpty = false := by cases m with | nil => exact absurd rfl h0 | cons _ _ => rfl
        have hpos : 0 < m.length := List.length_pos_iff.2 h0
        have hdall : ∀ b ∈ m, isDig 16 b = true := List.all_eq_true.1 HA.out
        have HDA := Lib.hid hdall
        clear h0 hdall
        by_cases hbig : 9223372036854775808 ≤ valL 16 m
        · rw [if_neg (by omega)] at HN
          have HBG := Lib.hid hbig
          clear hbig
          go_wp2_with (go_at_call 202; refine (ParseUint16_range m hpos hml HDA.out HBG.out _ (HE.out.ext hx1)).mono ?_; rintro e w2 ⟨v, rfl, ⟨Nn, rfl⟩, hx2⟩)
          go_ret2
          exact ⟨ret_val (by rw [HN.out]; rfl), by (repeat (first | exact Ext.rfl' _ | assumption | refine Ext.dr ?_ | refine Ext.drN ?_ _ | refine Ext.al ?_ _ | refine Ext.st ?_ (by simp) _ | refine Ext.tr ?_ (by assumption)))⟩
        · obtain ⟨n, hn⟩ : ∃ n, n = valL 16 m := ⟨_, rfl⟩
          rw [← hn] at HN hbig
          have hlt63 : n < 9223372036854775808 := by omega
          have C1 := ParseUint16_ok m hpos hml HDA.out n hn hlt63
          obtain ⟨a, ha⟩ : ∃ a : Int, a = (n : Int) := ⟨_, rfl⟩
          rw [← ha] at C1
          have C1 := Lib.hid C1
          have a0 : 0 ≤ a := by omega
          have a1 : a < 9223372036854775808 := by omega
          by_cases hle : n ≤ 1152921504606846976
          · rw [if_pos hle, ← ha] at HN
            have hle' : a ≤ 1152921504606846976 := by omega
            clear hbig hn hle hlt63 ha
            go_wp2_with (go_at_call 202; refine (C1.out _).mono ?_; rintro e w2 ⟨rfl, hx2⟩)
            go_ret2
            exact ⟨ret_val (by rw [HN.out]; rfl), by (repeat (first | exact Ext.rfl' _ | assumption | refine Ext.dr ?_ | refine Ext.drN ?_ _ | refine Ext.al ?_ _ | refine Ext.st ?_ (by simp) _ | refine Ext.tr ?_ (by assumption)))⟩
          · rw [if_neg hle] at HN
            have hle' : 1152921504606846976 < a := by omega
            clear hbig hn hle hlt63 ha
            go_wp2_with (go_at_call 202; refine (C1.out _).mono ?_; rintro e w2 ⟨rfl, hx2⟩)
            go_ret2
            exact ⟨ret_val (by rw [HN.out]; rfl), by (repeat (first | exact Ext.rfl' _ | assumption | refine Ext.dr ?_ | refine Ext.drN ?_ _ | refine Ext.al ?_ _ | refine Ext.st ?_ (by simp) _ | refine Ext.tr ?_ (by assumption)))⟩
theorem Hex_c (l : List UInt8) (hs : l.length ≤ 140737488355328) (w : World) (hE : ErrR w) :
    Calls Tryz.prog 131 #[.string (str l)] w (Gives (.tuple #[.int .i64 (numL 16 1152921504606846976 l).1, .int .i64 (numL 16 1152921504606846976 l).2]) w) := by
  have C := fun w hE => number16_c l hs w hE
  generalize (numL 16 1152921504606846976 l).1 = a at *
  generalize (numL 16 1152921504606846976 l).2 = b at *
  have C := Lib.hid C
  go_enter Tryz.func131, Tryz.ntmps131
  go_wp2_with (go_at_call 174; refine (C.out _ hE).mono ?_; rintro e w1 ⟨rfl, hx⟩)
  go_ret2
  exact ⟨rfl, hx⟩
end Go.Proofs.YtemdgilifnhdpaaGreatDoor
end

section
namespace Go.Proofs.YtemdgilifnhdpaaGreatDoor
open Go.RowKit

end Go.Proofs.YtemdgilifnhdpaaGreatDoor
end

section
namespace Go.Proofs.YtemdgilifnhdpaaGreatDoor
open Go.RowKit

structure QAt (T : TypeId) (w : World) (o : Ow) (k p : Nat) (l : List UInt8) (lim : Nat) : Prop where
  own : o p = k
  lo : 1 ≤ lim
  hi : lim ≤ 1048576
  le : l.length ≤ lim
  at_ : ∃ A c, w.heap[p]? = some (.cells #[.slice A l.length c, .int .i64 (lim : Int)] T (0, 0)) ∧ Sl w o (k + 1) 1 A l.length c (bc l) ∧ (A = none → c = 0)
def KQ (k : Nat) (i : Nat) : Prop := i = k ∨ i = k + 1
theorem QAt.put {T : TypeId} {w w' : World} {o o' : Ow} {k p lim n c : Nat} {l l' : List UInt8} {A : Option Addr} (h : QAt T w o k p l lim) (s : Stp (fun i => i = k + 1) w o w' o') (hl : l'.length ≤ lim) (hn : n = l'.length) (hs : Sl w' o' (k + 1) 1 A n c (bc l')) (ha : A = none → c = 0) :
    QAt T (w'.setCell ⟨p, 0, none⟩ (.slice A n c)) o' k p l' lim ∧ Stp (KQ k) w o (w'.setCell ⟨p, 0, none⟩ (.slice A n c)) o' := by
  subst hn
  obtain ⟨A0, c0, hh, _, _⟩ := h.at_
  have hp : o' p = k := by rw [s.own p (row_lt hh)]; exact h.own
  have hh' : w'.heap[p]? = _ := (s.keep p (row_lt hh) (by rw [h.own]; omega)).trans hh
  have st : Stp (fun i => i = k) w' o' (w'.setCell ⟨p, 0, none⟩ (.slice A l'.length c)) o' := Stp.set p 0 _ (fun _ => hp)
  exact ⟨⟨hp, h.lo, h.hi, hl, A, c, row_set hh' 0 _, hs.stp st (by omega), ha⟩, (s.mono fun i hi => .inr hi).tr (st.mono fun i hi => .inl hi)⟩
theorem QAt.stp {T : TypeId} {K : Nat → Prop} {w w' : World} {o o' : Ow} {k p lim : Nat} {l : List UInt8} (h : QAt T w o k p l lim) (s : Stp K w o w' o') (h0 : ¬ K k) (h1 : ¬ K (k + 1)) : QAt T w' o' k p l lim := by
  obtain ⟨A, c, hh, hs, hn⟩ := h.at_
  exact ⟨by rw [s.own p (row_lt hh)]; exact h.own, h.lo, h.hi, h.le, A, c, by rw [s.keep p (row_lt hh) (by rw [h.own]; exact h0)]; exact hh, hs.stp s h1, hn⟩
theorem QAt.ext {T : TypeId} {w w' : World} {o : Ow} {k p lim : Nat} {l : List UInt8} (h : QAt T w o k p l lim) (e : Ext w w') : QAt T w' o k p l lim := h.stp (K := fun _ => False) (Stp.ext e) (fun x => x) (fun x => x)

end Go.Proofs.YtemdgilifnhdpaaGreatDoor
end

section
namespace Go.Proofs.YtemdgilifnhdpaaGreatDoor
open Go.RowKit Go.ChangeShapes

theorem star_es : "*" ++ "errors.errorString" = "*errors.errorString" := by decide
theorem row_es (u : TypeId) (h : Tryz.prog.typeName? 3 u = some "*errors.errorString") : u = 300 :=
  typeName_ptr_named (nm := "errors.errorString") (by rw [star_es]; kernel_rfl) (by kernel_rfl) (by decide) u (by rw [star_es]; exact h)
theorem gErr_n : Tryz.prog.globalNamed "strconv.ErrRange" = some 7 := by kernel_rfl
theorem gErr_t : (Tryz.prog.globals[7]?).map (·.type) = some 198 := by kernel_rfl
theorem cells_es : Tryz.prog.cellsOf 302 = 1 := by kernel_rfl
theorem cells_str : Tryz.prog.cellsOf 9 = 1 := by kernel_rfl
theorem errR_of {text : List UInt8} {r : List (String × DataW Unit)} {W : World} (h : laidMet Tryz.prog (("strconv.ErrRange", .iface "*errors.errorString" (.ptr (.agg [.lit (.string text)]))) :: r) W) : ErrR W := by
  obtain ⟨a, s, hv, _⟩ := laid_sentinel h gErr_n gErr_t Tryz.underlying198 row_es Tryz.underlying300 Tryz.underlying302 rfl rfl Tryz.underlying9 cells_es cells_str
  exact ⟨_, _, World.var?_cell gErr_n hv 0⟩
end Go.Proofs.YtemdgilifnhdpaaGreatDoor
end

section
namespace Go.Proofs.YtemdgilifnhdpaaGreatDoor
open Go.RowKit

def decR (l : List UInt8) : List UInt8 × Int := match decL l with | some x => (x, 0) | none => ([], 40)
theorem decR_some {l x : List UInt8} (h : decL l = some x) : decR l = (x, 0) := by unfold decR; rw [h]
theorem decR_none {l : List UInt8} (h : decL l = none) : decR l = ([], 40) := by unfold decR; rw [h]
theorem dig_lt {b : UInt8} (h : isDig 16 b = true) : digV b < 16 := by
  unfold isDig at h; simp only [Bool.and_eq_true, decide_eq_true_eq] at h; exact h.2
theorem num_two (a b : UInt8) : numL 16 1152921504606846976 [a, b] = if isDig 16 (lowB a) = true ∧ isDig 16 (lowB b) = true then (((digV (lowB a) * 16 + digV (lowB b) : Nat) : Int), 0) else (0, 21) := by
  unfold numL lowL
  by_cases h : isDig 16 (lowB a) = true ∧ isDig 16 (lowB b) = true
  · have h1 := dig_lt h.1
    have h2 := dig_lt h.2
    rw [if_neg (by simp [h.1, h.2]), if_pos h]
    have e : valL 16 (List.map lowB [a, b]) = digV (lowB a) * 16 + digV (lowB b) := by simp [valL, valF]
    rw [e, if_pos (by omega)]
  · rw [if_pos (.inr (by simp only [List.map_cons, List.map_nil, List.all_cons, List.all_nil, Bool.and_true, Bool.and_eq_false_iff]; by_cases h1 : isDig 16 (lowB a) = true; exact .inr (by simpa using fun h2 => h ⟨h1, h2⟩); exact .inl (by simpa using h1))), if_neg h]

set_option maxRecDepth 100000 in
set_option maxHeartbeats 2000000 in
theorem uDecode_c (l : List UInt8) (hs : l.length ≤ 140737488351232) (w : World) (hE : ErrR w) :
    Calls Tryz.prog 95 #[.string (str l)] w (Gives (.tuple #[.string (str (decR l).1), .int .i64 (decR l).2]) w) := by
  have hms : maxLen = 9223372036854775807 := rfl
  have HE := Lib.hid hE
  clear hE
  go_enter Tryz.func95, Tryz.ntmps95
  go_wp2
  go_loopw [0, 4] (fun s v wr => ∃ acc l', s = .string (str l') ∧ decL l = (decL l').map (acc ++ ·) ∧ acc.length + l'.length ≤ l.length ∧ wr.ownsRow w.heap.size 5 1 v acc.length (bc acc) ∧ Ext w wr) (fun s _ _ => strLen s)
  case atStart => exact ⟨[], l, rfl, by simp, by simp, World.ownsRow_nil _ _ _ _, Ext.rfl' _⟩
  case round =>
    obtain ⟨acc, l', rfl, hinv, hll, hown, hext⟩ := hrel
    have HI := Lib.hid hinv
    have HO := Lib.hid hown
    clear hinv hown
    cases l' with
    | nil =>
      obtain ⟨A, c, rfl, hnc, hcm, hr, _⟩ := Rd.of_own HO.out
      have cv := conv_bs (P := Tryz.prog) 22 9 5 Tryz.underlying22 Tryz.underlying5 Tryz.underlying9 hr acc.length c rfl
      obtain ⟨s, hs2⟩ : ∃ s, s = str acc := ⟨_, rfl⟩
      rw [← hs2] at cv
      have HS := Lib.hid hs2
      have hemp : str ([] : List UInt8) = ⟨#[]⟩ := rfl
      rw [hemp]
      clear hs2 hr hemp
      go_wp2
      go_ret2
      exact ⟨ret_val (by rw [decR_some (x := acc) (by rw [HI.out]; simp [decL])]; show Value.tuple #[.string s, .int .i64 0] = _; rw [HS.out]), hext⟩
    | cons b t =>
      simp only [List.length_cons] at hll
      have h256 := UInt8.toNat_lt b
      by_cases hb : b = 37
      · subst hb
        by_cases h2 : t.length < 2
        · have hlt : decide ((t.length : Int) < 2) = true := by rw [decide_eq_true_eq]; omega
          have HB := Lib.hid (show decL l = none by rw [HI.out, dec_short _ h2]; rfl)
          go_wp2
          go_ret2
          exact ⟨ret_val (by rw [decR_none HB.out]; rfl), hext⟩
        · obtain ⟨a, t, rfl⟩ : ∃ a t', t = a :: t' := by cases t with | nil => simp at h2 | cons a t => exact ⟨a, t, rfl⟩
          obtain ⟨b, t, rfl⟩ : ∃ a t', t = a :: t' := by cases t with | nil => simp at h2 | cons a t => exact ⟨a, t, rfl⟩
          clear h2
          simp only [List.length_cons] at hll
          have h2 := num_two a b
          have CH := fun w hE => Hex_c [a, b] (by simp) w hE
          rw [h2] at CH
          have hlt : decide (((a :: b :: t).length : Int) < 2) = false := by rw [decide_eq_false_iff_not]; simp only [List.length_cons]; omega
          simp only [List.length_cons] at hlt
          by_cases hd : isDig 16 (lowB a) = true ∧ isDig 16 (lowB b) = true
          · rw [if_pos hd] at CH
            have d1 := dig_lt hd.1
            have d2 := dig_lt hd.2
            obtain ⟨n, hn⟩ : ∃ n : Nat, n = digV (lowB a) * 16 + digV (lowB b) := ⟨_, rfl⟩
            rw [← hn] at CH
            have hn2 : n < 256 := by omega
            have HS := Lib.hid (show decL l = (decL t).map ((acc ++ [UInt8.ofNat n]) ++ ·) by
              rw [HI.out, dec_pct, if_pos hd, ← hn]; simp [Option.map_map, Function.comp_def])
            have CH := Lib.hid CH
            have hbt : ((UInt8.ofNat n).toNat : Int) = (n : Int) := by rw [UInt8.toNat_ofNat']; omega
            have HBT := Lib.hid hbt
            clear hd hn h2 hbt d1 d2
            go_wp2_with (go_at_call 131; refine (CH.out _ (HE.out.ext (by (repeat (first | exact Ext.rfl' _ | assumption | refine Ext.dr ?_ | refine Ext.drN ?_ _ | refine Ext.al ?_ _ | refine Ext.st ?_ (by simp) _ | refine Ext.tr ?_ (by assumption)))))).mono ?_; rintro e w1 ⟨rfl, hx1⟩)
            go_quiet (fail)
            have hxq : Ext w (w1.drewN nq) := by (repeat (first | exact Ext.rfl' _ | assumption | refine Ext.dr ?_ | refine Ext.drN ?_ _ | refine Ext.al ?_ _ | refine Ext.st ?_ (by simp) _ | refine Ext.tr ?_ (by assumption)))
            go_wp2_with (at_builtin; refine wpL_app slt_u8 (.tmp 31) (.tmp 33) rfl rfl rfl rfl (hxq.al _) ((own_ext HO.out ((hx1.drN nq))).alloc _) (by rfl) (new_cells (w1.drewN nq) #[.int .u8 (n : Int)] 5) (by simp [Value.oneCell']) (by omega) (by simp only [maxLen]; omega) ?_; intro v' w' hown' hext' hgg; clear hgg)
            go_roundw
            case rel =>
              have hbc : bc [UInt8.ofNat n] = [.int .u8 (n : Int)] := by show [Value.int .u8 ((UInt8.ofNat n).toNat : Int)] = _; rw [HBT.out]
              exact ⟨acc ++ [UInt8.ofNat n], t, rfl, HS.out, by simp only [List.length_append, List.length_cons, List.length_nil]; omega, by rw [bc_app, List.length_append, hbc]; exact hown', hext'⟩
            case measure => simp [strLen]; try omega
          · rw [if_neg hd] at CH
            have HB := Lib.hid (show decL l = none by rw [HI.out, dec_pct, if_neg hd]; rfl)
            have CH := Lib.hid CH
            clear hd h2
            go_wp2_with (go_at_call 131; refine (CH.out _ (HE.out.ext (by (repeat (first | exact Ext.rfl' _ | assumption | refine Ext.dr ?_ | refine Ext.drN ?_ _ | refine Ext.al ?_ _ | refine Ext.st ?_ (by simp) _ | refine Ext.tr ?_ (by assumption)))))).mono ?_; rintro e w1 ⟨rfl, hx1⟩)
            go_ret2
            exact ⟨ret_val (by rw [decR_none HB.out]; rfl), by (repeat (first | exact Ext.rfl' _ | assumption | refine Ext.dr ?_ | refine Ext.drN ?_ _ | refine Ext.al ?_ _ | refine Ext.st ?_ (by simp) _ | refine Ext.tr ?_ (by assumption)))⟩
      · have hb1 : ((b.toNat : Int) == 37) = false := by
          rw [beq_eq_false_iff_ne]; intro h; exact hb (UInt8.toNat_inj.1 (by show b.toNat = 37; omega))
        have HS := Lib.hid (show decL l = (decL t).map ((acc ++ [b]) ++ ·) by
          rw [HI.out, dec_plain _ _ hb]; simp [Option.map_map, Function.comp_def])
        clear hb
        go_wp2_with (at_builtin; refine wpL_app slt_u8 (.tmp 31) (.tmp 33) rfl rfl rfl rfl (Ext.al (by (repeat (first | exact Ext.rfl' _ | assumption | refine Ext.dr ?_ | refine Ext.drN ?_ _ | refine Ext.al ?_ _ | refine Ext.st ?_ (by simp) _ | refine Ext.tr ?_ (by assumption)))) _) ((own_ext HO.out (by (repeat (first | exact Ext.rfl' _ | assumption | refine Ext.dr ?_ | refine Ext.drN ?_ _ | refine Ext.al ?_ _ | refine Ext.st ?_ (by simp) _ | refine Ext.tr ?_ (by assumption))))).alloc _) (by rfl) (new_cells wr #[.int .u8 (b.toNat : Int)] 5) (by simp [Value.oneCell']) (by omega) (by simp only [maxLen]; omega) ?_; intro v' w' hown' hext' hgg; clear hgg)
        go_roundw
        case rel => exact ⟨acc ++ [b], t, rfl, HS.out, by simp only [List.length_append, List.length_cons, List.length_nil]; omega, by rw [bc_app, List.length_append]; exact hown', hext'⟩
        case measure => simp [strLen]

end Go.Proofs.YtemdgilifnhdpaaGreatDoor
end

section
namespace Go.Proofs.YtemdgilifnhdpaaGreatDoor
open Go.RowKit

def resU (l : List UInt8) : List UInt8 × Int := match decL l with | some x => cleanL x | none => ([], 40)
theorem resU_some {l x : List UInt8} (h : decL l = some x) : resU l = cleanL x := by unfold resU; rw [h]
theorem resU_none {l : List UInt8} (h : decL l = none) : resU l = ([], 40) := by unfold resU; rw [h]
set_option maxRecDepth 100000 in
set_option maxHeartbeats 2000000 in
theorem uResolve_c (l : List UInt8) (hs : l.length ≤ 140737488351232) (w : World) (hE : ErrR w) :
    Calls Tryz.prog 59 #[.string (str l)] w (Gives (.tuple #[.string (str (resU l).1), .int .i64 (resU l).2]) w) := by
  have HE := Lib.hid hE
  clear hE
  cases hd : decL l with
  | none =>
    have CD := fun (w : World) (hE : ErrR w) => uDecode_c l hs w hE
    rw [decR_none hd] at CD
    rw [resU_none hd]
    have CD := Lib.hid CD
    clear hd
    go_enter Tryz.func59, Tryz.ntmps59
    go_wp2_with (go_at_call 95; refine (CD.out _ (HE.out.ext (by (repeat (first | exact Ext.rfl' _ | assumption | refine Ext.dr ?_ | refine Ext.drN ?_ _ | refine Ext.al ?_ _ | refine Ext.st ?_ (by simp) _ | refine Ext.tr ?_ (by assumption)))))).mono ?_; rintro e w1 ⟨rfl, hx1⟩)
    go_ret2
    exact ⟨rfl, by (repeat (first | exact Ext.rfl' _ | assumption | refine Ext.dr ?_ | refine Ext.drN ?_ _ | refine Ext.al ?_ _ | refine Ext.st ?_ (by simp) _ | refine Ext.tr ?_ (by assumption)))⟩
  | some x =>
    have hxl := dec_len l x hd
    have CD := fun (w : World) (hE : ErrR w) => uDecode_c l hs w hE
    rw [decR_some hd] at CD
    rw [resU_some hd]
    have CC := fun w => Clean_c x (by omega) w
    have CD := Lib.hid CD
    clear hd
    obtain ⟨r, hr⟩ : ∃ r, r = cleanL x := ⟨_, rfl⟩
    rw [← hr] at CC ⊢
    have CC := Lib.hid CC
    clear hr
    go_enter Tryz.func59, Tryz.ntmps59
    go_wp2_with (first
      | (go_at_call 95; refine (CD.out _ (HE.out.ext (by (repeat (first | exact Ext.rfl' _ | assumption | refine Ext.dr ?_ | refine Ext.drN ?_ _ | refine Ext.al ?_ _ | refine Ext.st ?_ (by simp) _ | refine Ext.tr ?_ (by assumption)))))).mono ?_; rintro e w1 ⟨rfl, hx1⟩)
      | (go_at_call 55; refine (CC.out _).mono ?_; rintro e w2 ⟨rfl, hx2⟩))
    go_ret2
    exact ⟨rfl, by (repeat (first | exact Ext.rfl' _ | assumption | refine Ext.dr ?_ | refine Ext.drN ?_ _ | refine Ext.al ?_ _ | refine Ext.st ?_ (by simp) _ | refine Ext.tr ?_ (by assumption)))⟩
end Go.Proofs.YtemdgilifnhdpaaGreatDoor
end
