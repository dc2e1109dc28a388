/-
Fields by their names: Values, the program's and the reference's.
-/
import Derived.Test.YtemdgilifnhdpaaGreatDoorZae
import Derived.Test.YtemdgilifnhdpaaGreatDoorZac
import Derived.Deep.AppendSrc
import Derived.Deep.Upon
import Derived.Test.YtemdgilifnhdpaaGreatDoorProg
set_option linter.unusedVariables false
set_option linter.unusedSimpArgs false
section
namespace Go.Proofs.YtemdgilifnhdpaaGreatDoor
open Go.RowKit

abbrev Fld := List UInt8 × List UInt8
def fc (fs : List Fld) : List Value := fs.flatMap fun p => [.string (str p.1), .string (str p.2)]
theorem fc_len (fs : List Fld) : (fc fs).length = fs.length * 2 := by
  induction fs with
  | nil => rfl
  | cons p fs ih => simp [fc, List.flatMap_cons] at *; omega
theorem fc_at : ∀ (fs : List Fld) (k : Nat) (h : k < fs.length), (fc fs)[k * 2]? = some (.string (str fs[k].1)) ∧ (fc fs)[k * 2 + 1]? = some (.string (str fs[k].2))
  | [], k, h => by simp at h
  | p :: fs, 0, _ => ⟨rfl, rfl⟩
  | p :: fs, k + 1, h => by
    have ih := fc_at fs k (by simpa using h)
    have e : fc (p :: fs) = .string (str p.1) :: .string (str p.2) :: fc fs := rfl
    rw [e, show (k + 1) * 2 = k * 2 + 1 + 1 from by omega]
    simpa using ih
theorem Rd.fld {w : World} {A : Option Addr} {fs : List Fld} (h : Rd w A (fc fs)) {k : Nat} (hk : k < fs.length) :
    ∃ b o, A = some ⟨b, o, none⟩ ∧ b < w.heap.size ∧ Hid (∀ w', Ext w w' → (w'.cell? ⟨b, o + k * 2, none⟩ = some (.string (str fs[k].1)) ∧ w'.cell? ⟨b, o + k * 2 + 1, none⟩ = some (.string (str fs[k].2)))) := by
  obtain ⟨b, o, rfl, hb, hc⟩ := h.at_ (by rw [fc_len]; omega)
  obtain ⟨h1, h2⟩ := fc_at fs k hk
  refine ⟨b, o, rfl, hb, fun w' e => ⟨(e.cell (p := ⟨b, o + k * 2, none⟩) hb).trans (hc _ _ h1), (e.cell (p := ⟨b, o + k * 2 + 1, none⟩) hb).trans (hc _ _ h2)⟩⟩
def valsH (fs : List Fld) (nm : List UInt8) : List (List UInt8) := (fs.filter fun p => lowL p.1 == lowL nm).map Prod.snd
theorem vals_succ (fs : List Fld) (nm : List UInt8) (k : Nat) (h : k < fs.length) : valsH (fs.take (k + 1)) nm = valsH (fs.take k) nm ++ (if (lowL fs[k].1 == lowL nm) = true then [fs[k].2] else []) := by
  unfold valsH
  rw [List.take_succ_eq_append_getElem h, List.filter_append, List.map_append]
  congr 1
  by_cases hc : (lowL fs[k].1 == lowL nm) = true
  · rw [if_pos hc]; simp [List.filter_cons, hc]
  · rw [if_neg hc]; simp [List.filter_cons, hc]
theorem vals_len (fs : List Fld) (nm : List UInt8) : (valsH fs nm).length ≤ fs.length := by
  unfold valsH; rw [List.length_map]; exact List.length_filter_le _ _
def IsTx (ls : List (List UInt8)) (v : Value) (w : World) : Prop := ∃ A c, v = .slice A ls.length c ∧ Rd w A (sc ls)
def IsTxC (ls : List (List UInt8)) (v : Value) (w : World) : Prop := ∃ A c, v = .slice A ls.length c ∧ Rd w A (sc ls) ∧ ls.length ≤ c
set_option maxRecDepth 100000 in
set_option maxHeartbeats 2000000 in
theorem hValues_t (fs : List Fld) (nm : List UInt8) (A : Option Addr) (n c : Nat) (hn : fs.length = n) (hb : n ≤ 8796093022206) (hnm : nm.length ≤ maxLen) (hsz : ∀ p ∈ fs, p.1.length ≤ maxLen) (w : World) (h : Rd w A (fc fs)) :
    Calls Tryz.prog 35 #[.slice A n c, .string (str nm)] w (Ret (IsTxC (valsH fs nm)) w) := by
  go_enter Tryz.func35, Tryz.ntmps35
  go_wp2
  go_loopw [5, 10] (fun v i wr => ∃ k : Nat, i = .int .i64 (k : Int) ∧ k ≤ n ∧ wr.ownsRow w.heap.size 9 1 v (valsH (fs.take k) nm).length (sc (valsH (fs.take k) nm)) ∧ Ext w wr) (fun _ i _ => n - (intOf i).toNat)
  case atStart => exact ⟨0, rfl, Nat.zero_le _, World.ownsRow_nil _ _ _ _, Ext.rfl' _⟩
  case round =>
    obtain ⟨k, rfl, hk, hown, hext⟩ := hrel
    by_cases hlt : k < n
    · obtain ⟨b, o, rfl, hbl, hS⟩ := h.fld (k := k) (by omega)
      obtain ⟨a0, a1⟩ := hS.out wr hext
      have hks := Lib.hid (fun w' (e : Ext wr w') => hS.out w' (hext.tr e))
      have hl1 := hsz _ (List.getElem_mem (show k < fs.length by omega))
      have hSu := vals_succ fs nm k (by omega)
      have hle := vals_len (fs.take k) nm
      rw [List.length_take] at hle
      obtain ⟨⟨x, y⟩, hp⟩ : ∃ p, p = fs[k] := ⟨_, rfl⟩
      rw [← hp] at a0 a1 hl1 hSu
      have hks : Hid (∀ w', Ext wr w' → (w'.cell? ⟨b, o + k * 2, none⟩ = some (.string (str x)) ∧ w'.cell? ⟨b, o + k * 2 + 1, none⟩ = some (.string (str y)))) := by rw [← hp] at hks; exact hks
      dsimp only at hl1 hSu
      have HL1 := Lib.hid hl1
      obtain ⟨vs, hvs⟩ : ∃ v, v = valsH (fs.take k) nm := ⟨_, rfl⟩
      rw [← hvs] at hown hSu hle
      have HO := Lib.hid hown
      have hk0 : (0 : Int) ≤ (k : Int) := by omega
      have hk1 : (k : Int) < (n : Int) := by omega
      clear hown hp hvs hl1 hS
      by_cases hc : (lowL x == lowL nm) = true
      · rw [if_pos hc] at hSu
        have HSU := Lib.hid hSu
        have C := fun w' => Equal_c x nm HL1.out hnm w'
        rw [hc] at C
        have C := Lib.hid C
        clear hSu hc
        go_wp2_with (first
          | (go_at_call 79; refine (C.out _).mono ?_; rintro e w2 ⟨rfl, hx2⟩; have t1 := hx2.new 1 _ rfl; have x3 : Ext wr w2 := (by (repeat (first | exact Ext.rfl' _ | assumption | refine Ext.dr ?_ | refine Ext.drN ?_ _ | refine Ext.al ?_ _ | refine Ext.st ?_ (by simp) _ | refine Ext.tr ?_ (by assumption)))))
          | (at_builtin; refine wpL_app slt_str (.tmp 18) (.tmp 21) rfl rfl rfl rfl (Ext.al (hext.tr x3) _) ((own_ext HO.out x3).alloc _) (by rfl) (new_cells w2 #[.string (str y)] 9) (by simp [Value.oneCell']) (by omega) (by simp only [maxLen]; omega) ?_; intro v' w' hown' hext' hgg; clear hgg))
        go_roundw
        case rel => exact ⟨k + 1, by go_num, by omega, by rw [HSU.out, sc_app, List.length_append]; exact hown', hext'⟩
        case measure => simp [intOf]; omega
      · rw [if_neg hc] at hSu
        have HSU := Lib.hid hSu
        have C := fun w' => Equal_c x nm HL1.out hnm w'
        rw [show (lowL x == lowL nm) = false from by revert hc; cases (lowL x == lowL nm) <;> simp] at C
        have C := Lib.hid C
        clear hSu hc
        go_wp2_with (first
          | (go_at_call 79; refine (C.out _).mono ?_; rintro e w2 ⟨rfl, hx2⟩; have t1 := hx2.new 1 _ rfl; have x3 : Ext wr w2 := (by (repeat (first | exact Ext.rfl' _ | assumption | refine Ext.dr ?_ | refine Ext.drN ?_ _ | refine Ext.al ?_ _ | refine Ext.st ?_ (by simp) _ | refine Ext.tr ?_ (by assumption))))))
        go_roundw
        case rel => exact ⟨k + 1, by go_num, by omega, by rw [HSU.out, List.append_nil]; exact own_ext HO.out x3, hext.tr x3⟩
        case measure => simp [intOf]; omega
    · have hkn : n = k := by omega
      subst hkn
      rw [List.take_of_length_le (by omega)] at hown
      obtain ⟨A', c', rfl, hnc, _, hr, _⟩ := Rd.of_own hown
      have HNC := Lib.hid hnc
      clear hown hnc
      go_wp2
      go_ret
      exact Ret.mk ⟨A', c', rfl, hr, HNC.out⟩ hext
theorem hValues_c (fs : List Fld) (nm : List UInt8) (A : Option Addr) (n c : Nat) (hn : fs.length = n) (hb : n ≤ 8796093022206) (hnm : nm.length ≤ maxLen) (hsz : ∀ p ∈ fs, p.1.length ≤ maxLen) (w : World) (h : Rd w A (fc fs)) :
    Calls Tryz.prog 35 #[.slice A n c, .string (str nm)] w (Ret (IsTx (valsH fs nm)) w) :=
  (hValues_t fs nm A n c hn hb hnm hsz w h).mono fun _ _ ⟨v, h1, ⟨A', c', h2, h3, _⟩, h4⟩ => ⟨v, h1, ⟨A', c', h2, h3⟩, h4⟩
set_option maxRecDepth 100000 in
set_option maxHeartbeats 2000000 in
theorem rhValues_c (fs : List Fld) (nm : List UInt8) (A : Option Addr) (n c : Nat) (hn : fs.length = n) (hb : n ≤ 8796093022206) (hnm : nm.length ≤ maxLen) (hsz : ∀ p ∈ fs, p.1.length ≤ maxLen) (w : World) (h : Rd w A (fc fs)) :
    Calls Tryz.prog 53 #[.slice A n c, .string (str nm)] w (Ret (IsTx (valsH fs nm)) w) := by
  go_enter Tryz.func53, Tryz.ntmps53
  go_wp2
  go_loopw [5, 6] (fun v i wr => ∃ k : Nat, i = .int .i64 (k : Int) ∧ k ≤ n ∧ wr.ownsRow w.heap.size 9 1 v (valsH (fs.take k) nm).length (sc (valsH (fs.take k) nm)) ∧ Ext w wr) (fun _ i _ => n - (intOf i).toNat)
  case atStart => exact ⟨0, rfl, Nat.zero_le _, World.ownsRow_nil _ _ _ _, Ext.rfl' _⟩
  case round =>
    obtain ⟨k, rfl, hk, hown, hext⟩ := hrel
    by_cases hlt : k < n
    · obtain ⟨b, o, rfl, hbl, hS⟩ := h.fld (k := k) (by omega)
      obtain ⟨a0, a1⟩ := hS.out wr hext
      have hks := Lib.hid (fun w' (e : Ext wr w') => hS.out w' (hext.tr e))
      have hl1 := hsz _ (List.getElem_mem (show k < fs.length by omega))
      have hSu := vals_succ fs nm k (by omega)
      have hle := vals_len (fs.take k) nm
      rw [List.length_take] at hle
      obtain ⟨⟨x, y⟩, hp⟩ : ∃ p, p = fs[k] := ⟨_, rfl⟩
      rw [← hp] at a0 a1 hl1 hSu
      have hks : Hid (∀ w', Ext wr w' → (w'.cell? ⟨b, o + k * 2, none⟩ = some (.string (str x)) ∧ w'.cell? ⟨b, o + k * 2 + 1, none⟩ = some (.string (str y)))) := by rw [← hp] at hks; exact hks
      dsimp only at hl1 hSu
      have HL1 := Lib.hid hl1
      obtain ⟨vs, hvs⟩ : ∃ v, v = valsH (fs.take k) nm := ⟨_, rfl⟩
      rw [← hvs] at hown hSu hle
      have HO := Lib.hid hown
      have hk0 : (0 : Int) ≤ (k : Int) := by omega
      have hk1 : (k : Int) < (n : Int) := by omega
      clear hown hp hvs hl1 hS
      by_cases hc : (lowL x == lowL nm) = true
      · rw [if_pos hc] at hSu
        have HSU := Lib.hid hSu
        have C := fun w' => rEqual_c x nm HL1.out hnm w'
        rw [hc] at C
        have C := Lib.hid C
        clear hSu hc
        go_wp2_with (first
          | (go_at_call 48; refine (C.out _).mono ?_; rintro e w2 ⟨rfl, hx2⟩; have x3 : Ext wr w2 := (by (repeat (first | exact Ext.rfl' _ | assumption | refine Ext.dr ?_ | refine Ext.drN ?_ _ | refine Ext.al ?_ _ | refine Ext.st ?_ (by simp) _ | refine Ext.tr ?_ (by assumption)))); have t1 := (hks.out w2 x3).2)
          | (at_builtin; refine wpL_app slt_str (.tmp 20) (.tmp 26) rfl rfl rfl rfl (Ext.al (hext.tr x3) _) ((own_ext HO.out x3).alloc _) (by rfl) (new_cells w2 #[.string (str y)] 9) (by simp [Value.oneCell']) (by omega) (by simp only [maxLen]; omega) ?_; intro v' w' hown' hext' hgg; clear hgg))
        go_roundw
        case rel => exact ⟨k + 1, by go_num, by omega, by rw [HSU.out, sc_app, List.length_append]; exact hown', hext'⟩
        case measure => simp [intOf]; omega
      · rw [if_neg hc] at hSu
        have HSU := Lib.hid hSu
        have C := fun w' => rEqual_c x nm HL1.out hnm w'
        rw [show (lowL x == lowL nm) = false from by revert hc; cases (lowL x == lowL nm) <;> simp] at C
        have C := Lib.hid C
        clear hSu hc
        go_wp2_with (first
          | (go_at_call 48; refine (C.out _).mono ?_; rintro e w2 ⟨rfl, hx2⟩; have x3 : Ext wr w2 := (by (repeat (first | exact Ext.rfl' _ | assumption | refine Ext.dr ?_ | refine Ext.drN ?_ _ | refine Ext.al ?_ _ | refine Ext.st ?_ (by simp) _ | refine Ext.tr ?_ (by assumption)))); have t1 := (hks.out w2 x3).2))
        go_roundw
        case rel => exact ⟨k + 1, by go_num, by omega, by rw [HSU.out, List.append_nil]; exact own_ext HO.out x3, hext.tr x3⟩
        case measure => simp [intOf]; omega
    · have hkn : n = k := by omega
      subst hkn
      rw [List.take_of_length_le (by omega)] at hown
      obtain ⟨A', c', rfl, _, _, hr, _⟩ := Rd.of_own hown
      clear hown
      go_wp2
      go_ret
      exact Ret.mk ⟨A', c', rfl, hr⟩ hext
end Go.Proofs.YtemdgilifnhdpaaGreatDoor
end

section
namespace Go.Proofs.YtemdgilifnhdpaaGreatDoor
open Go.RowKit

def firstV : List (List UInt8) → Value
  | [] => .tuple #[.string ⟨#[]⟩, .bool false]
  | v :: _ => .tuple #[.string (str v), .bool true]
theorem sc_first {w : World} {A : Option Addr} {v : List UInt8} {ls : List (List UInt8)} (h : Rd w A (sc (v :: ls))) : ∃ b f, A = some ⟨b, f, none⟩ ∧ w.cell? ⟨b, f, none⟩ = some (.string (str v)) := by
  obtain ⟨b, f, rfl, _, hc⟩ := h.at_ (by simp)
  exact ⟨b, f, rfl, hc 0 _ rfl⟩
set_option maxRecDepth 100000 in
set_option maxHeartbeats 2000000 in
theorem hFirst_c (fs : List Fld) (nm : List UInt8) (A : Option Addr) (n c : Nat) (hn : fs.length = n) (hb : n ≤ 8796093022206) (hnm : nm.length ≤ maxLen) (hsz : ∀ p ∈ fs, p.1.length ≤ maxLen) (w : World) (h : Rd w A (fc fs)) :
    Calls Tryz.prog 72 #[.slice A n c, .string (str nm)] w (Gives (firstV (valsH fs nm)) w) := by
  have C := fun w' h' => hValues_c fs nm A n c hn hb hnm hsz w' h'
  have H := Lib.hid h
  have hle := vals_len fs nm
  obtain ⟨vs, hvs⟩ : ∃ v, v = valsH fs nm := ⟨_, rfl⟩
  rw [← hvs] at C hle ⊢
  clear hvs h hsz
  have C := Lib.hid C
  cases vs with
  | nil =>
    go_enter Tryz.func72, Tryz.ntmps72
    go_wp2_with (go_at_call 35; refine (C.out _ (H.out.ext (by (repeat (first | exact Ext.rfl' _ | assumption | refine Ext.dr ?_ | refine Ext.drN ?_ _ | refine Ext.al ?_ _ | refine Ext.st ?_ (by simp) _ | refine Ext.tr ?_ (by assumption)))))).mono ?_; rintro e w1 ⟨v, rfl, ⟨A1, c1, rfl, hr1⟩, hx1⟩)
    go_loopw [12] (fun i wr => i = .int .i64 0 ∧ w1 = wr) (fun i _ => 1 - (intOf i).toNat)
    case atStart => exact ⟨rfl, by trivial⟩
    case round =>
      obtain ⟨rfl, rfl⟩ := hrel
      go_wp2
      go_ret2
      exact ⟨rfl, hx1⟩
  | cons v ls =>
    go_enter Tryz.func72, Tryz.ntmps72
    go_wp2_with (go_at_call 35; refine (C.out _ (H.out.ext (by (repeat (first | exact Ext.rfl' _ | assumption | refine Ext.dr ?_ | refine Ext.drN ?_ _ | refine Ext.al ?_ _ | refine Ext.st ?_ (by simp) _ | refine Ext.tr ?_ (by assumption)))))).mono ?_; rintro e w1 ⟨v, rfl, ⟨A1, c1, rfl, hr1⟩, hx1⟩)
    obtain ⟨b, f, rfl, hc⟩ := sc_first hr1
    go_loopw [12] (fun i wr => i = .int .i64 0 ∧ w1 = wr) (fun i _ => 1 - (intOf i).toNat)
    case atStart => exact ⟨rfl, by trivial⟩
    case round =>
      obtain ⟨rfl, rfl⟩ := hrel
      have h0 : (0 : Int) < ((ls.length + 1 : Nat) : Int) := by omega
      have h1 : (0 : Int) < (ls.length : Int) + 1 := by omega
      go_wp2
      go_ret2
      exact ⟨rfl, hx1⟩
set_option maxRecDepth 100000 in
set_option maxHeartbeats 2000000 in
theorem rhFirst_c (fs : List Fld) (nm : List UInt8) (A : Option Addr) (n c : Nat) (hn : fs.length = n) (hb : n ≤ 8796093022206) (hnm : nm.length ≤ maxLen) (hsz : ∀ p ∈ fs, p.1.length ≤ maxLen) (w : World) (h : Rd w A (fc fs)) :
    Calls Tryz.prog 22 #[.slice A n c, .string (str nm)] w (Gives (firstV (valsH fs nm)) w) := by
  have C := fun w' h' => rhValues_c fs nm A n c hn hb hnm hsz w' h'
  have H := Lib.hid h
  have hle := vals_len fs nm
  obtain ⟨vs, hvs⟩ : ∃ v, v = valsH fs nm := ⟨_, rfl⟩
  rw [← hvs] at C hle ⊢
  clear hvs h hsz
  have C := Lib.hid C
  cases vs with
  | nil =>
    go_enter Tryz.func22, Tryz.ntmps22
    go_wp2_with (go_at_call 53; refine (C.out _ (H.out.ext (by (repeat (first | exact Ext.rfl' _ | assumption | refine Ext.dr ?_ | refine Ext.drN ?_ _ | refine Ext.al ?_ _ | refine Ext.st ?_ (by simp) _ | refine Ext.tr ?_ (by assumption)))))).mono ?_; rintro e w1 ⟨v, rfl, ⟨A1, c1, rfl, hr1⟩, hx1⟩)
    go_ret2
    exact ⟨rfl, hx1⟩
  | cons v ls =>
    have h2 : (((ls.length : Int) + 1) == 0) = false := by rw [beq_eq_false_iff_ne]; omega
    have h1 : (0 : Int) < (ls.length : Int) + 1 := by omega
    go_enter Tryz.func22, Tryz.ntmps22
    go_wp2_with (go_at_call 53; refine (C.out _ (H.out.ext (by (repeat (first | exact Ext.rfl' _ | assumption | refine Ext.dr ?_ | refine Ext.drN ?_ _ | refine Ext.al ?_ _ | refine Ext.st ?_ (by simp) _ | refine Ext.tr ?_ (by assumption)))))).mono ?_; rintro e w1 ⟨v, rfl, ⟨A1, c1, rfl, hr1⟩, hx1⟩; obtain ⟨b, f, rfl, hc⟩ := sc_first hr1)
    go_ret2
    exact ⟨rfl, hx1⟩
end Go.Proofs.YtemdgilifnhdpaaGreatDoor
end

section
namespace Go.Proofs.YtemdgilifnhdpaaGreatDoor
open Go.RowKit

theorem doe_of (d o : Int) (h0 : 0 ≤ d) (h1 : d ≤ 146096) (ho : o = (d - d / 1460 + d / 36524 - d / 146096) / 365) : 0 ≤ o ∧ o ≤ 399 ∧ 0 ≤ d - (365 * o + o / 4 - o / 100) ∧ d - (365 * o + o / 4 - o / 100) ≤ 365 := by
  have hb : d / 36524 = 0 ∨ d / 36524 = 1 ∨ d / 36524 = 2 ∨ d / 36524 = 3 ∨ d / 36524 = 4 := by omega
  have hc : d / 146096 = 0 ∨ d / 146096 = 1 := by omega
  have h5 : o / 100 = 0 ∨ o / 100 = 1 ∨ o / 100 = 2 ∨ o / 100 = 3 := by omega
  rcases hb with hb | hb | hb | hb | hb <;> rcases hc with hc | hc <;> rw [hb, hc] at ho <;> rcases h5 with h5 | h5 | h5 | h5 <;> rw [h5] <;> omega
end Go.Proofs.YtemdgilifnhdpaaGreatDoor
end

section
namespace Go.Proofs.YtemdgilifnhdpaaGreatDoor
open Go.RowKit

abbrev Ow := Nat → Nat

structure Stp (K : Nat → Prop) (w : World) (o : Ow) (w' : World) (o' : Ow) : Prop where
  os : w'.os = w.os
  tape : w'.tape = w.tape
  output : w'.output = w.output
  size : w.heap.size ≤ w'.heap.size
  own : ∀ b, b < w.heap.size → o' b = o b
  keep : ∀ b, b < w.heap.size → ¬ K (o b) → w'.heap[b]? = w.heap[b]?

section
variable {K L : Nat → Prop} {w w' w'' : World} {o o' o'' : Ow}
theorem Stp.rfl' : Stp K w o w o := ⟨rfl, rfl, rfl, Nat.le_refl _, fun _ _ => rfl, fun _ _ _ => rfl⟩
theorem Stp.tr (h : Stp K w o w' o') (k : Stp K w' o' w'' o'') : Stp K w o w'' o'' :=
  ⟨k.os.trans h.os, k.tape.trans h.tape, k.output.trans h.output, Nat.le_trans h.size k.size,
   fun b hb => (k.own b (Nat.lt_of_lt_of_le hb h.size)).trans (h.own b hb),
   fun b hb hk => (k.keep b (Nat.lt_of_lt_of_le hb h.size) (by rw [h.own b hb]; exact hk)).trans (h.keep b hb hk)⟩
theorem Stp.mono (h : Stp K w o w' o') (hm : ∀ i, K i → L i) : Stp L w o w' o' :=
  ⟨h.os, h.tape, h.output, h.size, h.own, fun b hb hk => h.keep b hb fun x => hk (hm _ x)⟩
theorem Stp.ext (h : Ext w w') : Stp K w o w' o := ⟨h.os, h.tape, h.output, h.size, fun _ _ => rfl, fun b hb _ => h.block b hb⟩
theorem Stp.ext2 (h : Ext w w') (ho : ∀ b, b < w.heap.size → o' b = o b) : Stp K w o w' o' := ⟨h.os, h.tape, h.output, h.size, ho, fun b hb _ => h.block b hb⟩
theorem Stp.toExt (h : Stp K w o w' o') (hk : ∀ b, b < w.heap.size → ¬ K (o b)) : Ext w w' := ⟨h.os, h.tape, h.output, h.size, fun b hb => h.keep b hb (hk b hb)⟩
theorem Stp.cell (h : Stp K w o w' o') {a : Addr} {u : Value} (hb : ¬ K (o a.block)) (hc : w.cell? a = some u) : w'.cell? a = some u := by
  rw [← hc]; exact World.cell?_of_block (h.keep _ (lt_of_cell hc) hb)
theorem Stp.frozen (h : Stp K w o w' o') {a : Addr} (hl : a.block < w.heap.size) (hb : ¬ K (o a.block)) : w'.frozen? a = w.frozen? a :=
  World.frozen?_of_block (h.keep _ hl hb)
theorem Stp.set (b off : Nat) (u : Value) (hk : b < w.heap.size → K (o b)) : Stp K w o (w.setCell ⟨b, off, none⟩ u) o := by
  refine ⟨rfl, rfl, rfl, ?_, fun _ _ => rfl, fun i hi hn => ?_⟩
  · simp
  · by_cases he : i = b
    · subst he; exact absurd (hk hi) hn
    · exact Below.heap_setCell w ⟨b, off, none⟩ u i he
theorem Rd.stp {A : Option Addr} {xs : List Value} (h : Rd w A xs) (s : Stp K w o w' o') (hk : ∀ a, A = some a → a.block < w.heap.size → ¬ K (o a.block)) : Rd w' A xs := by
  rcases h with h | ⟨b, f, hA, hc⟩
  · exact .inl h
  · exact .inr ⟨b, f, hA, fun j u hu => s.cell (a := ⟨b, f + j, none⟩) (hk ⟨b, f, none⟩ hA (show b < w.heap.size from lt_of_cell (hc j u hu))) (hc j u hu)⟩
end

structure Sl (w : World) (o : Ow) (k size : Nat) (A : Option Addr) (n c : Nat) (xs : List Value) : Prop where
  len : xs.length = n * size
  le : n ≤ c
  max : c ≤ maxLen
  at_ : c = 0 ∨ ∃ g f, A = some ⟨g, f, none⟩ ∧ o g = k ∧ g < w.heap.size ∧ (∀ j u, xs[j]? = some u → w.cell? ⟨g, f + j, none⟩ = some u) ∧
    (∀ j, j < c * size → (w.cell? ⟨g, f + j, none⟩).isSome = true ∧ w.frozen? ⟨g, f + j, none⟩ = false)

section
variable {K : Nat → Prop} {w w' : World} {o o' : Ow} {k size n c : Nat} {A : Option Addr} {xs : List Value}
theorem Sl.nil_ (w : World) (o : Ow) (k size : Nat) (A : Option Addr) : Sl w o k size A 0 0 [] := ⟨by simp, Nat.le_refl _, by simp [maxLen], .inl rfl⟩
theorem Sl.rd (h : Sl w o k size A n c xs) : Rd w A xs := by
  rcases h.at_ with h0 | ⟨g, f, hA, _, _, hc, _⟩
  · have := h.len; have := h.le
    obtain rfl : n = 0 := by omega
    exact .inl (List.eq_nil_of_length_eq_zero (by omega))
  · exact .inr ⟨g, f, hA, hc⟩
theorem Sl.stp (h : Sl w o k size A n c xs) (s : Stp K w o w' o') (hk : ¬ K k) : Sl w' o' k size A n c xs := by
  refine ⟨h.len, h.le, h.max, ?_⟩
  rcases h.at_ with h0 | ⟨g, f, hA, ho, hl, hc, hr⟩
  · exact .inl h0
  · have hg : w'.heap[g]? = w.heap[g]? := s.keep g hl (by rw [ho]; exact hk)
    refine .inr ⟨g, f, hA, by rw [s.own g hl]; exact ho, Nat.lt_of_lt_of_le hl s.size, fun j u hu => ?_, fun j hj => ?_⟩
    · rw [World.cell?_of_block (a := ⟨g, f + j, none⟩) hg]; exact hc j u hu
    · rw [World.cell?_of_block (a := ⟨g, f + j, none⟩) hg, World.frozen?_of_block (a := ⟨g, f + j, none⟩) hg]; exact hr j hj
theorem Sl.ext (h : Sl w o k size A n c xs) (e : Ext w w') : Sl w' o k size A n c xs := h.stp (K := fun _ => False) (Stp.ext e) (fun x => x)
theorem Sl.take (h : Sl w o k size A n c xs) (m : Nat) (hm : m ≤ n) : Sl w o k size A m c (xs.take (m * size)) := by
  have hl := h.len
  have h1 : m * size ≤ n * size := Nat.mul_le_mul_right _ hm
  refine ⟨by rw [List.length_take]; omega, Nat.le_trans hm h.le, h.max, ?_⟩
  rcases h.at_ with h0 | ⟨g, f, hA, ho, hg, hc, hr⟩
  · exact .inl h0
  · exact .inr ⟨g, f, hA, ho, hg, fun j u hu => hc j u (by rw [List.getElem?_take] at hu; split at hu; exact hu; cases hu), hr⟩
theorem Sl.drop {g f : Nat} (h : Sl w o k size (some ⟨g, f, none⟩) n c xs) (m : Nat) (hm : m ≤ n) : Sl w o k size (some ⟨g, f + m * size, none⟩) (n - m) (c - m) (xs.drop (m * size)) := by
  have hl := h.len
  have h1 : m * size ≤ n * size := Nat.mul_le_mul_right _ hm
  refine ⟨by rw [List.length_drop, Nat.sub_mul]; omega, by have := h.le; omega, by have := h.max; omega, ?_⟩
  rcases h.at_ with h0 | ⟨g', f', hA, ho, hg, hc, hr⟩
  · exact .inl (by omega)
  · cases hA
    refine .inr ⟨_, _, rfl, ho, hg, fun j u hu => by rw [Nat.add_assoc]; exact hc _ _ (by simpa using hu), fun j hj => by rw [Nat.add_assoc]; exact hr _ (by rw [Nat.sub_mul] at hj; omega)⟩
theorem Sl.src {P : Program} {tx e' : TypeId} (hk : P.underlying tx = some (.slice e')) (h : Rd w A xs) (hl : xs.length = n * size) (hs : 0 < size) (h1 : ∀ u ∈ xs, u.oneCell' = true) (c : Nat) : Src P size tx (.slice A n c) n xs w := by
  rcases h with h | ⟨g, f, hA, hc⟩
  · subst h
    obtain rfl : n = 0 := by
      rcases Nat.eq_zero_or_pos n with h0 | h0
      · exact h0
      · have := Nat.mul_pos h0 hs; simp at hl; omega
    cases A with
    | none => exact Src.ofNil w hk c
    | some a => exact Src.ofSlice w hk a 0 c [] (by simp) (fun j u hu => by simp at hu) (fun u hu => by cases hu)
  · subst hA
    exact Src.ofSlice w hk _ n c xs hl (fun j u hu => by rw [add_mk]; exact hc j u hu) h1
end

section
variable {P : Program} {t e : TypeId} {z : Value} {size bytes : Nat}
theorem tape_setCells (b : Nat) : ∀ (vs : List Value) (f : Nat) (w : World), (w.setCells b f vs).tape = w.tape
  | [], _, _ => rfl
  | v :: vs, f, w => by unfold World.setCells; rw [tape_setCells b vs]; rfl
theorem run_put (hT : SlT P t e z size bytes) {w : World} {o : Ow} {k n c m : Nat} {A : Option Addr} {xs news : List Value} {x : Value} {tx : TypeId} (ty : TypeId)
    (hs : Sl w o k size A n c xs) (hna : A = none → c = 0) (src : Src P size tx x m news w) (hbytes : (n + m) * bytes ≤ 140737488355328) (h63 : n + m ≤ maxLen) :
    ∃ A' c' w' o', (Builtin.append_ #[t, tx] ty #[.slice A n c, x]).run P w = .ok (.slice A' (n + m) c') w' ∧ Sl w' o' k size A' (n + m) c' (xs ++ news) ∧ Stp (fun i => 0 < c ∧ i = k) w o w' o' ∧ (A' = none → c' = 0) := by
  obtain ⟨ht, hi0, hz, hsz⟩ := hT
  obtain ⟨i, hi, h2, h3, h4⟩ := info_parts hi0
  subst h3
  subst h4
  have hnl := src.newsLen
  have hsmall : n + m ≤ 9223372036854775807 := by simp only [maxLen] at h63; omega
  have hL : (xs ++ news).length = (n + m) * i.size := by rw [List.length_append, hs.len, hnl, Nat.add_mul]
  by_cases hroom : n + m ≤ c
  · rcases Nat.eq_zero_or_pos c with h0 | hcp
    · obtain rfl : m = 0 := by omega
      obtain rfl : n = 0 := by omega
      obtain rfl : news = [] := List.eq_nil_of_length_eq_zero (by simpa using hnl)
      refine ⟨A, c, w, o, run_append_nothing (P := P) w t tx ty e i ht hi A 0 c (by omega) x src, ?_, Stp.rfl', hna⟩
      simpa using hs
    rcases hs.at_ with h0 | ⟨g, f, rfl, ho, hg, hc, hr⟩
    · omega
    · have hbd : ∀ j, j < news.length → n * i.size + j < c * i.size := fun j hj => by
        have : (n + m) * i.size ≤ c * i.size := Nat.mul_le_mul_right _ hroom
        rw [Nat.add_mul] at this; omega
      have hsome : ∀ j, j < news.length → (w.cell? ⟨g, f + n * i.size + j, none⟩).isSome = true := fun j hj => by rw [Nat.add_assoc]; exact (hr _ (hbd j hj)).1
      have hfr : ∀ j, j < news.length → w.frozen? ⟨g, f + n * i.size + j, none⟩ = false := fun j hj => by rw [Nat.add_assoc]; exact (hr _ (hbd j hj)).2
      have hkb := World.keptBut_setCells g (may := fun p => p.block = g) news (f + n * i.size) w (fun _ _ => rfl)
      refine ⟨_, _, _, o, run_append_room_src (P := P) w t tx ty e i ht hi g f n c x m news src hroom hsome hfr, ⟨hL, hroom, hs.max, .inr ⟨g, f, rfl, ho, Nat.lt_of_lt_of_le hg hkb.size, fun j u hu => ?_, fun j hj => ⟨World.isSome_setCells _ _ _ _ _ (hr j hj).1, ?_⟩⟩⟩,
        ⟨hkb.1, tape_setCells _ _ _ _, hkb.2.1, hkb.size, fun _ _ => rfl, fun b hb hn => World.heap_setCells_other w g _ news hb (fun e => hn (by rw [e]; exact ⟨hcp, ho⟩))⟩, fun e => by cases e⟩
      · by_cases hj : j < xs.length
        · rw [World.cell?_setCells_out g _ _ _ _ (fun _ _ => Or.inl (by show f + j < f + n * i.size; rw [← hs.len]; omega))]
          exact hc j u (by rw [List.getElem?_append_left hj] at hu; exact hu)
        · rw [List.getElem?_append_right (by omega)] at hu
          obtain ⟨ht', hu'⟩ := List.getElem?_eq_some_iff.1 hu
          have := World.cell?_setCells_in g news (f + n * i.size) w hsome (j - xs.length) ht'
          rw [show f + n * i.size + (j - xs.length) = f + j by rw [← hs.len]; omega] at this
          rw [this, hu']
      · rw [World.frozen?_setCells]; exact (hr j hj).2
  · have hold : (Builtin.firstCells i.size n (.slice A n c)).run P w.drew = .ok xs.toArray w.drew := by
      rcases hs.at_ with h0 | ⟨g, f, rfl, ho, hg, hc, hr⟩
      · have := hs.le; have := hs.len
        obtain rfl : n = 0 := by omega
        obtain rfl : xs = [] := List.eq_nil_of_length_eq_zero (by omega)
        cases A with
        | none => exact run_firstCells_none w.drew i.size 0 0 c
        | some a' => exact run_firstCells_some w.drew i.size 0 a' 0 c [] (by simp) (by intro _ _ h'; simp at h')
      · exact run_firstCells_some w.drew i.size n ⟨g, f, none⟩ n c xs hs.len (fun j u hu => by rw [add_mk]; exact hc j u hu)
    have hrun := run_append_grow_src (P := P) w t tx ty e i z ht hi h2 A n c xs hold x m news src (by omega) (by omega) (growslice_fits (by omega) hbytes)
    have hge := grownCap_ge w (n + m) c e
    have hcm := grownCap_le_maxLen w (n + m) c e h63
    refine ⟨_, _, _, fun b => if b < w.heap.size then o b else k, hrun, ⟨hL, hge, hcm, .inr ⟨w.heap.size, 0, rfl, by simp, by simp, fun j u hu => ?_, fun j hj => ⟨?_, ?_⟩⟩⟩, ⟨rfl, rfl, rfl, by simp, fun b hb => by simp [hb], fun b hb _ => Below.heap_alloc w.drew _ b hb⟩, fun e => by cases e⟩
    · have e1 : (w.drew.alloc (.cells ((xs ++ news).toArray ++ Builtin.zeroCells z.cells (grownCap w (n + m) c e - (n + m))) e)).cell? ⟨w.heap.size, 0 + j, none⟩ = _ := World.cell?_alloc_new w.drew _ _ (0 + j)
      rw [e1, Nat.zero_add, Array.getElem?_append_left (by simp only [List.size_toArray]; exact (List.getElem?_eq_some_iff.1 hu).1), List.getElem?_toArray, hu]
    · have e1 : (w.drew.alloc (.cells ((xs ++ news).toArray ++ Builtin.zeroCells z.cells (grownCap w (n + m) c e - (n + m))) e)).cell? ⟨w.heap.size, 0 + j, none⟩ = _ := World.cell?_alloc_new w.drew _ _ (0 + j)
      rw [e1]
      have hsz' : ((xs ++ news).toArray ++ Builtin.zeroCells z.cells (grownCap w (n + m) c e - (n + m))).size = grownCap w (n + m) c e * i.size := by
        rw [Array.size_append, List.size_toArray, hL, size_zeroCells, hz, ← Nat.add_mul]
        congr 1
        omega
      rw [Array.getElem?_eq_getElem (by rw [hsz', Nat.zero_add]; exact hj)]
      rfl
    · exact World.frozen?_alloc_new w.drew _ _ (0 + j)

theorem wpL_put (hT : SlT P t e z size bytes) {ops : Array Oper} {rest : List Oper} {op : Oper} {a : Act} {Q : Exit → Act → World → Prop} (s x : Operand) {tx : TypeId}
    (ho : op.op = .call { callee := .builtin .append, args := #[s, x], argTypes := #[t, tx] }) (hw : Region.wanted op (yielded ops a.tmps) = true)
    {w : World} {o : Ow} {k n c m : Nat} {A : Option Addr} {xs news : List Value} {xv : Value} (hs : a.eval s = .slice A n c) (hx : a.eval x = xv)
    (hsl : Sl w o k size A n c xs) (hna : A = none → c = 0) (src : Src P size tx xv m news w) (hbytes : (n + m) * bytes ≤ 140737488355328) (h63 : n + m ≤ maxLen)
    (h : ∀ A' c' w' o', Sl w' o' k size A' (n + m) c' (xs ++ news) → Stp (fun i => i = k) w o w' o' → (A' = none → c' = 0) → wpList P ops Q rest (a.put op.dst (.slice A' (n + m) c')) w') : wpList P ops Q (op :: rest) a w := by
  obtain ⟨A', c', w', o', hr, h1, h2, h3⟩ := run_put hT op.type hsl hna src hbytes h63
  refine wpList_step fun _ hK => ?_
  rw [if_pos hw]
  unfold Oper.wp execOp
  simp only [ho, resolve, invoke, builtin, Sem.run_bind, Sem.run_pure, Result.andThen_ok, List.map_toArray, List.map_cons, List.map_nil, hs, hx, hr]
  exact hK _ _ (h A' c' w' o' h1 (h2.mono fun _ hi => hi.2) h3)
theorem wpL_fresh (hT : SlT P t e z size bytes) {ops : Array Oper} {rest : List Oper} {op : Oper} {a : Act} {Q : Exit → Act → World → Prop} (s x : Operand) {tx : TypeId}
    (ho : op.op = .call { callee := .builtin .append, args := #[s, x], argTypes := #[t, tx] }) (hw : Region.wanted op (yielded ops a.tmps) = true)
    {w : World} {o : Ow} (k : Nat) {m : Nat} {A : Option Addr} {news : List Value} {xv : Value} (hs : a.eval s = .slice A 0 0) (hx : a.eval x = xv)
    (src : Src P size tx xv m news w) (hbytes : m * bytes ≤ 140737488355328) (h63 : m ≤ maxLen)
    (h : ∀ A' c' w' o', Sl w' o' k size A' m c' news → Stp (fun _ => False) w o w' o' → (A' = none → c' = 0) → wpList P ops Q rest (a.put op.dst (.slice A' m c')) w') : wpList P ops Q (op :: rest) a w := by
  obtain ⟨A', c', w', o', hr, h1, h2, h3⟩ := run_put hT op.type (Sl.nil_ w o k size A) (fun _ => rfl) src (by rw [Nat.zero_add]; exact hbytes) (by rw [Nat.zero_add]; exact h63)
  rw [Nat.zero_add] at hr h1
  refine wpList_step fun _ hK => ?_
  rw [if_pos hw]
  unfold Oper.wp execOp
  simp only [ho, resolve, invoke, builtin, Sem.run_bind, Sem.run_pure, Result.andThen_ok, List.map_toArray, List.map_cons, List.map_nil, hs, hx, hr]
  exact hK _ _ (h A' c' w' o' h1 (h2.mono fun _ hi => by omega) h3)
end
theorem Stp.noExt {w w' : World} {o o' : Ow} (h : Stp (fun _ => False) w o w' o') : Ext w w' := h.toExt (fun _ _ x => x)
end Go.Proofs.YtemdgilifnhdpaaGreatDoor
end

section
namespace Go.Proofs.YtemdgilifnhdpaaGreatDoor
open Go.RowKit

def Turns (K : Nat → Prop) (w : World) (o : Ow) (R : Value → World → Ow → Prop) (e : Ending) (w' : World) : Prop := ∃ v o', e = .returned v ∧ R v w' o' ∧ Stp K w o w' o'
theorem Turns.mk {K : Nat → Prop} {w : World} {o : Ow} {R : Value → World → Ow → Prop} {e : Ending} {w' : World} {v : Value} (o' : Ow) (he : e = .returned v) (h : R v w' o') (s : Stp K w o w' o') : Turns K w o R e w' := ⟨v, o', he, h, s⟩
def IsB (k : Nat) (l : List UInt8) (v : Value) (w : World) (o : Ow) : Prop := ∃ A c, v = .slice A l.length c ∧ Sl w o k 1 A l.length c (bc l) ∧ (A = none → c = 0)
theorem slt_u8 : SlT Tryz.prog 22 5 (.int .u8 0) 1 1 := ⟨Tryz.underlying22, by kernel_rfl, rfl, by omega⟩

theorem row_facts {w : World} {p : Nat} {cs : Array Value} {t : TypeId} (h : w.heap[p]? = some (.cells cs t (0, 0))) (i : Nat) (u : Value) (hu : cs[i]? = some u) :
    w.cell? ⟨p, i, none⟩ = some u ∧ w.frozen? ⟨p, i, none⟩ = false := by
  refine ⟨by rw [cell_of_row w p i cs t (0, 0) h]; exact hu, ?_⟩
  unfold World.frozen?
  simp only [h]
  simp
theorem row_lt {w : World} {p : Nat} {x : Obj} (h : w.heap[p]? = some x) : p < w.heap.size := (Array.getElem?_eq_some_iff.1 h).1
theorem row_set {w : World} {p : Nat} {cs : Array Value} {t : TypeId} (h : w.heap[p]? = some (.cells cs t (0, 0))) (i : Nat) (u : Value) :
    (w.setCell ⟨p, i, none⟩ u).heap[p]? = some (.cells (cs.setIfInBounds i u) t (0, 0)) := by
  simp [World.setCell, Array.getElem?_modify, h]
theorem IsB.stp {K : Nat → Prop} {w w' : World} {o o' : Ow} {k : Nat} {l : List UInt8} {v : Value} (h : IsB k l v w o) (s : Stp K w o w' o') (hk : ¬ K k) : IsB k l v w' o' := by
  obtain ⟨A, c, hv, hs, hn⟩ := h
  exact ⟨A, c, hv, hs.stp s hk, hn⟩
theorem IsB.ext {w w' : World} {o : Ow} {k : Nat} {l : List UInt8} {v : Value} (h : IsB k l v w o) (e : Ext w w') : IsB k l v w' o := h.stp (K := fun _ => False) (Stp.ext e) (fun x => x)
theorem IsB.nil_ (k : Nat) (w : World) (o : Ow) : IsB k [] (.slice none 0 0) w o := ⟨none, 0, rfl, Sl.nil_ _ _ _ _ _, fun _ => rfl⟩
end Go.Proofs.YtemdgilifnhdpaaGreatDoor
end
