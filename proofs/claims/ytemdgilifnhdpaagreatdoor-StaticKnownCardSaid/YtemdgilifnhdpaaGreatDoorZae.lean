/-
Which texts are tokens and which are values of fields: the program's loops over the table of classes.
-/
import Derived.Test.YtemdgilifnhdpaaGreatDoorAsc1
import Derived.Test.YtemdgilifnhdpaaGreatDoorZac
import Derived.Test.YtemdgilifnhdpaaGreatDoorShelf
import Derived.Shelf.Strings.SlTrimAscii
import Derived.Lib.IndexLaws
set_option linter.unusedVariables false
set_option linter.unusedSimpArgs false
section
namespace Go.Proofs.YtemdgilifnhdpaaGreatDoor
open Go.RowKit

theorem gd (l : List UInt8) (k : Nat) (d : UInt8) (h : k < l.length) : l.getD k d = l[k] := by simp [List.getD, h]
def bt (s : ByteArray) (k : Nat) : Nat := (s.data.toList.getD k 0).toNat
theorem bit4 : ∀ c, c < 256 → (bits .and .i64 (cls c) 4 == 0) = !uppB c := by decide +kernel
theorem tab_at {w : World} (c : Nat) (hc : c < 256) : ((w.alloc (.cells (clsA 0) 148)).setRow w.heap.size (clsA 256)).cell? ⟨w.heap.size, c, none⟩ = some (.int .i64 (cls c)) := by
  rw [cell_setRow_same _ _ _ _ _ _ _ (heap_alloc_new w _), clsA_at _ _ hc, if_pos hc]
theorem ext_tab {a w : World} (h : Ext a w) : Ext a ((w.alloc (.cells (clsA 0) 148)).setRow w.heap.size (clsA 256)) := (h.al _).row h.size _

end Go.Proofs.YtemdgilifnhdpaaGreatDoor
end

section
namespace Go.Proofs.YtemdgilifnhdpaaGreatDoor
open Go.RowKit

@[simp] theorem str_get (l : List UInt8) (i : Nat) (h : i < (str l).size) : (str l)[i] = l[i]'(by simpa using h) := rfl
@[simp] theorem str_extract (l : List UInt8) (a b : Nat) : (str l).extract a b = str ((l.take b).drop a) := by
  have h : ((str l).extract a b).data.toList = (l.take b).drop a := by
    rw [Lib.extract_data, str_data, List.drop_take]
  rw [← str_toList ((str l).extract a b), h]

def blkB (c : Nat) : Bool := decide (c = 9) || decide (c = 32)
def trimL (l : List UInt8) : List UInt8 := Lib.trimS l [32, 9]
theorem Trim_c (l : List UInt8) (hs : l.length ≤ maxLen) (w : World) : Calls Tryz.prog 132 #[.string (str l)] w (Gives (.string (str (trimL l))) w) := by
  unfold maxLen at hs
  go_enter Tryz.func132, Tryz.ntmps132
  go_wp2_with fail
  refine (Any.strings_Trim_laid Tryz.lays160 (by kernel_rfl) (str l) ⟨#[32, 9]⟩ _ (by rw [str_size]; omega) (by decide) (ascii_of_all (by decide))).mono ?_
  rintro e w1 ⟨rfl, hx⟩
  go_wp2
  go_ret
  exact ⟨rfl, hx⟩
end Go.Proofs.YtemdgilifnhdpaaGreatDoor
end

section
namespace Go.Proofs.YtemdgilifnhdpaaGreatDoor
open Go.RowKit

def blk (b : UInt8) : Bool := blkB b.toNat
def strLen : Value → Nat | .string s => s.size | _ => 0
end Go.Proofs.YtemdgilifnhdpaaGreatDoor
end

section
namespace Go.Proofs.YtemdgilifnhdpaaGreatDoor
open Go.RowKit

end Go.Proofs.YtemdgilifnhdpaaGreatDoor
end

section
namespace Go.Proofs.YtemdgilifnhdpaaGreatDoor
open Go.RowKit

@[simp] theorem str_tl (l : List UInt8) : (str l).toList = l := by rw [ByteArray.toList_eq]; rfl
end Go.Proofs.YtemdgilifnhdpaaGreatDoor
end

section
namespace Go.Proofs.YtemdgilifnhdpaaGreatDoor
open Go.RowKit

def Own (w : World) (g : Nat) (l : List UInt8) : Prop :=
  ∃ C t fr, w.heap[g]? = some (.cells C t fr) ∧ ∀ j (h : j < l.length), C[j]? = some (.int .u8 (l[j].toNat : Int)) ∧ (decide (fr.1 ≤ j) && decide (j < fr.2)) = false
theorem Own.cell {w : World} {g : Nat} {l : List UInt8} (h : Own w g l) (j : Nat) (hj : j < l.length) : w.cell? ⟨g, j, none⟩ = some (.int .u8 (l[j].toNat : Int)) := by
  obtain ⟨C, t, fr, hh, hc⟩ := h
  rw [cell_of_row w g j C t fr hh]; exact (hc j hj).1
theorem Own.free {w : World} {g : Nat} {l : List UInt8} (h : Own w g l) (j : Nat) (hj : j < l.length) : w.frozen? ⟨g, j, none⟩ = false := by
  obtain ⟨C, t, fr, hh, hc⟩ := h
  unfold World.frozen?
  simp only [hh]
  exact (hc j hj).2
theorem Own.set_ {w : World} {g : Nat} {l : List UInt8} (h : Own w g l) (j : Nat) (hj : j < l.length) (b : UInt8) : Own (w.setCell ⟨g, j, none⟩ (.int .u8 (b.toNat : Int))) g (l.set j b) := by
  obtain ⟨C, t, fr, hh, hc⟩ := h
  refine ⟨C.setIfInBounds j (.int .u8 (b.toNat : Int)), t, fr, ?_, ?_⟩
  · simp [World.setCell, Array.getElem?_modify, hh]
  · intro i hi
    simp only [List.length_set] at hi
    have h0 := hc i hi
    refine ⟨?_, h0.2⟩
    by_cases hij : j = i
    · subst hij
      have hs : j < C.size := (Array.getElem?_eq_some_iff.1 h0.1).1
      rw [Array.getElem?_setIfInBounds_self_of_lt hs]
      simp
    · rw [Array.getElem?_setIfInBounds_ne hij, h0.1]
      simp [List.getElem_set, hij]
theorem Own.rd {w : World} {g : Nat} {l : List UInt8} (h : Own w g l) : Rd w (some ⟨g, 0, none⟩) (bc l) := by
  refine .inr ⟨g, 0, rfl, fun j u hj => ?_⟩
  have hl : j < l.length := by have := (List.getElem?_eq_some_iff.1 hj).1; simpa using this
  rw [bc_at l j hl] at hj
  rw [Nat.zero_add, h.cell j hl, ← hj]

def cvC (w : World) (e : TypeId) (n : Nat) : Nat := grownCap w n 0 e
def cvW (w : World) (e : TypeId) (s : ByteArray) : World :=
  w.drew.alloc (.cells (bytesRow s (grownCap w s.size 0 e)) e ((bytesRow s (grownCap w s.size 0 e)).size, (bytesRow s (grownCap w s.size 0 e)).size + 1))
theorem cv_run {P : Program} {src dst e : TypeId} (s : ByteArray) (hs : P.underlying src = some .string) (hd : P.underlying dst = some (.slice e)) (he : P.underlying e = some (.int .u8)) (w : World) :
    (convert src dst (.string s)).run P w = .ok (.slice (some ⟨w.heap.size, 0, none⟩) s.size (cvC w e s.size)) (cvW w e s) := run_bytes_of_string w src dst e s hs hd he
theorem cv_ext (w : World) (e : TypeId) (s : ByteArray) : Ext w (cvW w e s) := by unfold cvW; exact Ext.al (Ext.dr (Ext.rfl' w)) _
theorem cv_own (w : World) (e : TypeId) (l : List UInt8) : Own (cvW w e (str l)) w.heap.size l := by
  refine ⟨_, _, _, heap_alloc_new w.drew _, fun j hj => ⟨?_, ?_⟩⟩
  · exact bytesRow_at (str l) _ j (by simpa [str] using hj)
  · have : j < (bytesRow (str l) (grownCap w (str l).size 0 e)).size := by simp [bytesRow, str]; omega
    simp only [Bool.and_eq_false_iff, decide_eq_false_iff_not]
    exact .inl (by omega)
theorem cv_cap (w : World) (e : TypeId) (n : Nat) (h : n ≤ maxLen) : n ≤ cvC w e n ∧ cvC w e n ≤ maxLen := ⟨grownCap_ge _ _ _ _, grownCap_le_maxLen _ _ _ _ h⟩

def lowB (b : UInt8) : UInt8 := if uppB b.toNat then b + 32 else b
def lowL (l : List UInt8) : List UInt8 := l.map lowB
theorem low_set (l : List UInt8) (k : Nat) (h : k < l.length) : (lowL (l.take k) ++ l.drop k).set k (lowB l[k]) = lowL (l.take (k + 1)) ++ l.drop (k + 1) := by
  unfold lowL
  rw [List.take_succ_eq_append_getElem h, List.map_append]
  rw [List.set_append_right _ _ (by simp; omega)]
  have : k - (List.map lowB (List.take k l)).length = 0 := by simp; omega
  rw [this, List.drop_eq_getElem_cons h, List.set_cons_zero]; simp
theorem low_at (l : List UInt8) (k : Nat) (h : k < l.length) : (lowL (l.take k) ++ l.drop k)[k]'(by simp [lowL]; omega) = l[k] := by
  have h1 : (lowL (l.take k)).length = k := by simp [lowL]; omega
  rw [List.getElem_append_right (by omega)]
  simp [h1]
theorem low_same (l : List UInt8) (k : Nat) (h : k < l.length) (hu : uppB l[k].toNat = false) : lowL (l.take k) ++ l.drop k = lowL (l.take (k + 1)) ++ l.drop (k + 1) := by
  rw [← low_set l k h]
  have hb : lowB l[k] = l[k] := by unfold lowB; rw [hu]; rfl
  rw [hb]
  have := low_at l k h
  conv => rhs; rw [← this]
  rw [List.set_getElem_self]
theorem low_len (l : List UInt8) (k : Nat) : (lowL (l.take k) ++ l.drop k).length = l.length := by simp [lowL]; omega

set_option maxRecDepth 100000 in
set_option maxHeartbeats 2000000 in
theorem Lower_c (l : List UInt8) (hs : l.length ≤ maxLen) (w : World) :
    Calls Tryz.prog 39 #[.string (str l)] w (Gives (.string (str (lowL l))) w) := by
  unfold maxLen at hs
  have hi85 : (Tryz.prog.info? 148).map (·.size) = some 256 := by kernel_rfl
  have HI := Lib.hid hi85
  clear hi85
  have kc := fun W => cv_run (P := Tryz.prog) (src := 9) (dst := 22) (e := 5) (str l) Tryz.underlying9 Tryz.underlying22 Tryz.underlying5 W
  go_enter Tryz.func39, Tryz.ntmps39
  go_wp2_with fail
  refine (classes_c _).mono ?_
  rintro e w1 ⟨rfl, hx1⟩
  go_wp2_with (refine wpList_store_row rfl 148 (.tmp 3) (.tmp 7) rfl w1.heap.size (clsA 256) rfl rfl 148 (clsA 0) (by rw [← zero85]; exact heap_alloc_new w1 _) (by rw [clsA_size]; exact HI.out) (by rw [clsA_size, clsA_size]) (clsA_one 256) ?_)
  rw [zero85]
  have hx2 := ext_tab hx1
  have ht := fun c hc => tab_at (w := w1) c hc
  have HT := Lib.hid ht
  clear ht kc
  have hz : ((w1.alloc (.cells (clsA 0) 148)).setRow w1.heap.size (clsA 256)).heap.size = w1.heap.size + 1 := by simp [World.setRow]
  generalize (w1.alloc (.cells (clsA 0) 148)).setRow w1.heap.size (clsA 256) = w2 at *
  have ho := cv_own w2 5 l
  rw [hz] at ho
  have HZ := Lib.hid hz
  clear hz
  have hx3 := cv_ext w2 5 (str l)
  obtain ⟨hc1, hc2⟩ := cv_cap w2 5 l.length (by unfold maxLen; omega)
  generalize cvW w2 5 (str l) = w3 at *
  generalize cvC w2 5 l.length = c at *
  go_loopw [12] (fun i wr => ∃ k : Nat, k ≤ l.length ∧ i = .int .i64 k ∧ Own wr (w1.heap.size + 1) (lowL (l.take k) ++ l.drop k) ∧ Ext w2 wr) (fun i _ => l.length - (intOf i).toNat)
  case atStart => exact ⟨0, Nat.zero_le _, rfl, ho, hx3⟩
  case round =>
    clear hx3 ho
    obtain ⟨k, hk, rfl, hown, hext⟩ := hrel
    have HO := Lib.hid hown
    clear hown
    by_cases hlt : k < l.length
    · have ce := HO.out.cell k (by rw [low_len]; exact hlt)
      have fe := HO.out.free k (by rw [low_len]; exact hlt)
      rw [low_at l k hlt] at ce
      have h256 : (l[k].toNat : Int) < 256 := by have := UInt8.toNat_lt l[k]; omega
      have h000 : (0 : Int) ≤ (l[k].toNat : Int) := by omega
      have hc := HT.out l[k].toNat (UInt8.toNat_lt _)
      have hc' := (hext.cell (p := ⟨w1.heap.size, l[k].toNat, none⟩) (by rw [HZ.out]; simp)).trans hc
      clear hc
      have hb4 := bit4 l[k].toNat (UInt8.toNat_lt _)
      have hadd : ((l[k].toNat : Int) + 32) % 256 = ((l[k] + 32).toNat : Int) := by
        rw [UInt8.toNat_add]; simp
      have HAD := Lib.hid hadd
      clear hadd
      go_wp2
      · have hu : uppB l[k].toNat = true := by
          have h : (bits BinOp.and IntKind.i64 (cls l[k].toNat) 4 != 0) = true := by assumption
          unfold bne at h
          rw [hb4] at h
          simpa using h
        go_roundw
        case rel =>
          refine ⟨k + 1, by omega, by go_num, ?_, Ext.st hext (by rw [HZ.out]; exact Nat.le_refl _) _⟩
          rw [← low_set l k hlt, HAD.out]
          have hb : lowB l[k] = l[k] + 32 := by unfold lowB; rw [hu]; rfl
          rw [hb]
          exact HO.out.set_ k (by rw [low_len]; exact hlt) _
        case measure => simp [intOf]; omega
      · have hu : uppB l[k].toNat = false := by
          have h : (bits BinOp.and IntKind.i64 (cls l[k].toNat) 4 != 0) = false := by assumption
          unfold bne at h
          rw [hb4] at h
          simpa using h
        go_roundw
        case rel => exact ⟨k + 1, by omega, by go_num, by rw [← low_same l k hlt hu]; exact HO.out, hext⟩
        case measure => simp [intOf]; omega
    · obtain rfl : k = l.length := by omega
      rw [List.take_of_length_le (Nat.le_refl _), List.drop_of_length_le (Nat.le_refl _), List.append_nil] at HO
      have kb := conv_bs (P := Tryz.prog) 22 9 5 Tryz.underlying22 Tryz.underlying5 Tryz.underlying9 HO.out.rd l.length c (by simp [lowL])
      go_wp2
      go_ret
      exact ⟨rfl, hx2.tr hext⟩
end Go.Proofs.YtemdgilifnhdpaaGreatDoor
end

section
namespace Go.Proofs.YtemdgilifnhdpaaGreatDoor
open Go.RowKit

theorem upp_cases : ∀ c, c < 256 → (uppB c = true ∧ 65 ≤ c ∧ c ≤ 90) ∨ (uppB c = false ∧ (c < 65 ∨ 90 < c)) := by decide +kernel

set_option maxRecDepth 100000 in
set_option maxHeartbeats 2000000 in
theorem rLower_c (l : List UInt8) (hs : l.length ≤ maxLen) (w : World) :
    Calls Tryz.prog 40 #[.string (str l)] w (Gives (.string (str (lowL l))) w) := by
  unfold maxLen at hs
  have kc := fun W => cv_run (P := Tryz.prog) (src := 9) (dst := 22) (e := 5) (str l) Tryz.underlying9 Tryz.underlying22 Tryz.underlying5 W
  go_enter Tryz.func40, Tryz.ntmps40
  go_wp2_with fail
  clear kc
  have ho := cv_own w 5 l
  have hx := cv_ext w 5 (str l)
  obtain ⟨hc1, hc2⟩ := cv_cap w 5 l.length (by unfold maxLen; omega)
  generalize cvW w 5 (str l) = w1 at *
  generalize cvC w 5 l.length = c at *
  go_loopw [4] (fun i wr => ∃ k : Nat, k ≤ l.length ∧ i = .int .i64 k ∧ Own wr w.heap.size (lowL (l.take k) ++ l.drop k) ∧ Ext w wr) (fun i _ => l.length - (intOf i).toNat)
  case atStart => exact ⟨0, Nat.zero_le _, rfl, ho, hx⟩
  case round =>
    clear hx ho
    obtain ⟨k, hk, rfl, hown, hext⟩ := hrel
    have HO := Lib.hid hown
    clear hown
    by_cases hlt : k < l.length
    · have ce := HO.out.cell k (by rw [low_len]; exact hlt)
      have fe := HO.out.free k (by rw [low_len]; exact hlt)
      rw [low_at l k hlt] at ce
      have h256 : (l[k].toNat : Int) < 256 := by have := UInt8.toNat_lt l[k]; omega
      have h000 : (0 : Int) ≤ (l[k].toNat : Int) := by omega
      have hadd : ((l[k].toNat : Int) + 32) % 256 = ((l[k] + 32).toNat : Int) := by
        rw [UInt8.toNat_add]; simp
      have HAD0 := Lib.hid hadd
      clear hadd
      rcases upp_cases l[k].toNat (UInt8.toNat_lt _) with ⟨hu, h1, h2⟩ | ⟨hu, hp⟩
      · have HU := Lib.hid hu
        clear hu
        have g1 : (65 : Int) ≤ (l[k].toNat : Int) := by omega
        have g2 : (l[k].toNat : Int) ≤ 90 := by omega
        have hadd : (l[k].toNat : Int) + 32 = ((l[k] + 32).toNat : Int) := by have := HAD0.out; omega
        have HAD := Lib.hid hadd
        clear hadd
        go_wp2
        go_roundw
        case rel =>
          refine ⟨k + 1, by omega, by go_num, ?_, Ext.st hext (Nat.le_refl _) _⟩
          rw [← low_set l k hlt, HAD.out]
          have hb : lowB l[k] = l[k] + 32 := by unfold lowB; rw [HU.out]; rfl
          rw [hb]
          exact HO.out.set_ k (by rw [low_len]; exact hlt) _
        case measure => simp [intOf]; omega
      · have HU := Lib.hid hu
        clear hu
        rcases hp with hp | hp
        · have g1 : ¬ (65 : Int) ≤ (l[k].toNat : Int) := by omega
          clear hp
          go_wp2
          go_roundw
          case rel => exact ⟨k + 1, by omega, by go_num, by rw [← low_same l k hlt HU.out]; exact HO.out, hext⟩
          case measure => simp [intOf]; omega
        · have g1 : (65 : Int) ≤ (l[k].toNat : Int) := by omega
          have g2 : ¬ (l[k].toNat : Int) ≤ 90 := by omega
          clear hp
          go_wp2
          go_roundw
          case rel => exact ⟨k + 1, by omega, by go_num, by rw [← low_same l k hlt HU.out]; exact HO.out, hext⟩
          case measure => simp [intOf]; omega
    · obtain rfl : k = l.length := by omega
      rw [List.take_of_length_le (Nat.le_refl _), List.drop_of_length_le (Nat.le_refl _), List.append_nil] at HO
      have kb := conv_bs (P := Tryz.prog) 22 9 5 Tryz.underlying22 Tryz.underlying5 Tryz.underlying9 HO.out.rd l.length c (by simp [lowL])
      go_wp2
      go_ret
      exact ⟨rfl, hext⟩

theorem str_inj (a b : List UInt8) : (str a = str b) ↔ a = b := by
  constructor
  · intro h; have := congrArg (fun s : ByteArray => s.data.toList) h; simpa [str] using this
  · rintro rfl; rfl
theorem low_length (l : List UInt8) : (lowL l).length = l.length := by simp [lowL]

end Go.Proofs.YtemdgilifnhdpaaGreatDoor
end

section
namespace Go.Proofs.YtemdgilifnhdpaaGreatDoor
open Go.RowKit

set_option maxRecDepth 100000 in
theorem rEqual_c (a b : List UInt8) (ha : a.length ≤ maxLen) (hb : b.length ≤ maxLen) (w : World) :
    Calls Tryz.prog 48 #[.string (str a), .string (str b)] w (Gives (.bool (lowL a == lowL b)) w) := by
  go_enter Tryz.func48, Tryz.ntmps48
  go_wp2_with (go_at_call 40; refine (rLower_c _ (by assumption) _).mono ?_; rintro e w1 ⟨rfl, hx⟩)
  go_ret
  exact ⟨ret_bool (by try simp [str_inj]), by (repeat (first | exact Ext.rfl' _ | assumption | refine Ext.dr ?_ | refine Ext.al ?_ _ | refine Ext.st ?_ (by simp) _ | refine Ext.tr ?_ (by assumption)))⟩
set_option maxRecDepth 100000 in
theorem Equal_c (a b : List UInt8) (ha : a.length ≤ maxLen) (hb : b.length ≤ maxLen) (w : World) :
    Calls Tryz.prog 79 #[.string (str a), .string (str b)] w (Gives (.bool (lowL a == lowL b)) w) := by
  by_cases hl : a.length = b.length
  · have hl' : ((a.length : Int) == (b.length : Int)) = true := by rw [beq_iff_eq]; omega
    have HL := Lib.hid hl
    clear hl
    go_enter Tryz.func79, Tryz.ntmps79
    go_wp2_with (go_at_call 39; refine (Lower_c _ (by assumption) _).mono ?_; rintro e w1 ⟨rfl, hx⟩)
    go_ret
    exact ⟨ret_bool (by try simp [str_inj]), by (repeat (first | exact Ext.rfl' _ | assumption | refine Ext.dr ?_ | refine Ext.al ?_ _ | refine Ext.st ?_ (by simp) _ | refine Ext.tr ?_ (by assumption)))⟩
  · have hl' : ((a.length : Int) == (b.length : Int)) = false := by rw [beq_eq_false_iff_ne]; omega
    have hne : (lowL a == lowL b) = false := by
      rw [beq_eq_false_iff_ne]; intro h; have := congrArg List.length h; simp [lowL] at this; exact hl this
    have HN := Lib.hid hne
    clear hne hl
    go_enter Tryz.func79, Tryz.ntmps79
    go_wp2_with (go_at_call 39; refine (Lower_c _ (by assumption) _).mono ?_; rintro e w1 ⟨rfl, hx⟩)
    go_ret
    exact ⟨ret_bool (by rw [HN.out]), by (repeat (first | exact Ext.rfl' _ | assumption | refine Ext.dr ?_ | refine Ext.al ?_ _ | refine Ext.st ?_ (by simp) _ | refine Ext.tr ?_ (by assumption)))⟩
end Go.Proofs.YtemdgilifnhdpaaGreatDoor
end

section
namespace Go.Proofs.YtemdgilifnhdpaaGreatDoor
open Go.RowKit

def sc (ps : List (List UInt8)) : List Value := ps.map fun p => .string (str p)
@[simp] theorem sc_len (ps : List (List UInt8)) : (sc ps).length = ps.length := by simp [sc]
theorem sc_at (ps : List (List UInt8)) (k : Nat) (h : k < ps.length) : (sc ps)[k]? = some (.string (str ps[k])) := by simp [sc, h]
theorem sc_app (a b : List (List UInt8)) : sc (a ++ b) = sc a ++ sc b := by simp [sc]
def IsSlS (ps : List (List UInt8)) (v : Value) (w : World) : Prop := ∃ A c, v = .slice A ps.length c ∧ Rd w A (sc ps) ∧ c ≤ maxLen
theorem IsSlS.mk {ps : List (List UInt8)} {w : World} {A : Option Addr} {n c : Nat} (hn : n = ps.length) (h : Rd w A (sc ps)) (hc : c ≤ maxLen) : IsSlS ps (.slice A n c) w := ⟨A, c, by rw [hn], h, hc⟩
theorem slt_str : SlT Tryz.prog 56 9 (.string ⟨#[]⟩) 1 16 := ⟨Tryz.underlying56, by kernel_rfl, rfl, by omega⟩

theorem not_mem_of {l : List UInt8} {c : UInt8} (h : ∀ k : Nat, l[k]? ≠ some c) : c ∉ l := by
  intro hm
  obtain ⟨j, hj, hj2⟩ := List.getElem_of_mem hm
  exact h j (by rw [List.getElem?_eq_getElem hj, hj2])
end Go.Proofs.YtemdgilifnhdpaaGreatDoor
end

section
namespace Go.Proofs.YtemdgilifnhdpaaGreatDoor
open Go.RowKit

end Go.Proofs.YtemdgilifnhdpaaGreatDoor
end

section
namespace Go.Proofs.YtemdgilifnhdpaaGreatDoor
open Go.RowKit

theorem Rd.text {w : World} {A : Option Addr} {ps : List (List UInt8)} (h : Rd w A (sc ps)) {k : Nat} (hk : k < ps.length) :
    ∃ b o, A = some ⟨b, o, none⟩ ∧ b < w.heap.size ∧ Hid (∀ w', Ext w w' → w'.cell? ⟨b, o + k, none⟩ = some (.string (str ps[k]))) := by
  obtain ⟨b, o, rfl, hb, _⟩ := h.at_ (by rw [sc_len]; omega)
  refine ⟨b, o, rfl, hb, fun w' e => ?_⟩
  obtain ⟨b', o', he, _, hc'⟩ := (h.ext e).at_ (by rw [sc_len]; omega)
  cases he
  exact hc' k _ (sc_at ps k hk)

end Go.Proofs.YtemdgilifnhdpaaGreatDoor
end
