/-
Fields by their names: Values, the program's and the reference's.
-/
import Derived.Test.YtnakeigpelcajaaGreatDoorASb
set_option linter.unusedVariables false
set_option linter.unusedSimpArgs false
namespace Go.Proofs.YtnakeigpelcajaaGreatDoor
open Go.RowKit

/-- A field: its name, its value. -/
abbrev Fld := List UInt8 × List UInt8
/-- The cells of fields. -/
def fc (fs : List Fld) : List Value := fs.flatMap fun p => [.string (str p.1), .string (str p.2)]
theorem fc_len (fs : List Fld) : (fc fs).length = fs.length * 2 := by
  induction fs with
  | nil => rfl
  | cons p fs ih => simp [fc, List.flatMap_cons] at *; omega
theorem fc_at : ∀ (fs : List Fld) (k : Nat) (h : k < fs.length), (fc fs)[k * 2]? = some (.string (str fs[k].1)) ∧ (fc fs)[k * 2 + 1]? = some (.string (str fs[k].2))
  | [], k, h => by simp at h
  | p :: fs, 0, _ => ⟨rfl, rfl⟩
  | p :: fs, k + 1, h => by
    have ih := fc_at fs k (by simpa using h)
    have e : fc (p :: fs) = .string (str p.1) :: .string (str p.2) :: fc fs := rfl
    rw [e, show (k + 1) * 2 = k * 2 + 1 + 1 from by omega]
    simpa using ih
/-- Element k of a slice of fields, in every later world. -/
theorem Rd.fld {w : World} {A : Option Addr} {fs : List Fld} (h : Rd w A (fc fs)) {k : Nat} (hk : k < fs.length) :
    ∃ b o, A = some ⟨b, o, none⟩ ∧ b < w.heap.size ∧ Hid (∀ w', Ext w w' → (w'.cell? ⟨b, o + k * 2, none⟩ = some (.string (str fs[k].1)) ∧ w'.cell? ⟨b, o + k * 2 + 1, none⟩ = some (.string (str fs[k].2)))) := by
  obtain ⟨b, o, rfl, hb, hc⟩ := h.at_ (by rw [fc_len]; omega)
  obtain ⟨h1, h2⟩ := fc_at fs k hk
  refine ⟨b, o, rfl, hb, fun w' e => ⟨(e.cell (p := ⟨b, o + k * 2, none⟩) hb).trans (hc _ _ h1), (e.cell (p := ⟨b, o + k * 2 + 1, none⟩) hb).trans (hc _ _ h2)⟩⟩
/-- The values of the fields that bear a name. -/
def valsH (fs : List Fld) (nm : List UInt8) : List (List UInt8) := (fs.filter fun p => lowL p.1 == lowL nm).map Prod.snd
theorem vals_succ (fs : List Fld) (nm : List UInt8) (k : Nat) (h : k < fs.length) : valsH (fs.take (k + 1)) nm = valsH (fs.take k) nm ++ (if (lowL fs[k].1 == lowL nm) = true then [fs[k].2] else []) := by
  unfold valsH
  rw [List.take_succ_eq_append_getElem h, List.filter_append, List.map_append]
  congr 1
  by_cases hc : (lowL fs[k].1 == lowL nm) = true
  · rw [if_pos hc]; simp [List.filter_cons, hc]
  · rw [if_neg hc]; simp [List.filter_cons, hc]
theorem vals_len (fs : List Fld) (nm : List UInt8) : (valsH fs nm).length ≤ fs.length := by
  unfold valsH; rw [List.length_map]; exact List.length_filter_le _ _
/-- A slice of texts. -/
def IsTx (ls : List (List UInt8)) (v : Value) (w : World) : Prop := ∃ A c, v = .slice A ls.length c ∧ Rd w A (sc ls)
set_option maxRecDepth 100000 in
set_option maxHeartbeats 2000000 in
theorem hValues_c (fs : List Fld) (nm : List UInt8) (A : Option Addr) (n c : Nat) (hn : fs.length = n) (hb : n ≤ 8796093022206) (hnm : nm.length ≤ maxLen) (hsz : ∀ p ∈ fs, p.1.length ≤ maxLen) (w : World) (h : Rd w A (fc fs)) :
    Calls Tryz.prog 27 #[.slice A n c, .string (str nm)] w (Ret (IsTx (valsH fs nm)) w) := by
  go_enter Tryz.func27, Tryz.ntmps27
  go_wp2
  go_loopw [5, 10] (fun v i wr => ∃ k : Nat, i = .int .i64 (k : Int) ∧ k ≤ n ∧ wr.ownsRow w.heap.size 9 1 v (valsH (fs.take k) nm).length (sc (valsH (fs.take k) nm)) ∧ Ext w wr) (fun _ i _ => n - (intOf i).toNat)
  case atStart => exact ⟨0, rfl, Nat.zero_le _, World.ownsRow_nil _ _ _ _, Ext.rfl' _⟩
  case round =>
    obtain ⟨k, rfl, hk, hown, hext⟩ := hrel
    by_cases hlt : k < n
    · obtain ⟨b, o, rfl, hbl, hS⟩ := h.fld (k := k) (by omega)
      obtain ⟨a0, a1⟩ := hS.out wr hext
      have hks := Lib.hid (fun w' (e : Ext wr w') => hS.out w' (hext.tr e))
      have hl1 := hsz _ (List.getElem_mem (show k < fs.length by omega))
      have hSu := vals_succ fs nm k (by omega)
      have hle := vals_len (fs.take k) nm
      rw [List.length_take] at hle
      obtain ⟨⟨x, y⟩, hp⟩ : ∃ p, p = fs[k] := ⟨_, rfl⟩
      rw [← hp] at a0 a1 hl1 hSu
      have hks : Hid (∀ w', Ext wr w' → (w'.cell? ⟨b, o + k * 2, none⟩ = some (.string (str x)) ∧ w'.cell? ⟨b, o + k * 2 + 1, none⟩ = some (.string (str y)))) := by rw [← hp] at hks; exact hks
      dsimp only at hl1 hSu
      have HL1 := Lib.hid hl1
      obtain ⟨vs, hvs⟩ : ∃ v, v = valsH (fs.take k) nm := ⟨_, rfl⟩
      rw [← hvs] at hown hSu hle
      have HO := Lib.hid hown
      have hk0 : (0 : Int) ≤ (k : Int) := by omega
      have hk1 : (k : Int) < (n : Int) := by omega
      clear hown hp hvs hl1 hS
      by_cases hc : (lowL x == lowL nm) = true
      · rw [if_pos hc] at hSu
        have HSU := Lib.hid hSu
        have C := fun w' => Equal_c x nm HL1.out hnm w'
        rw [hc] at C
        have C := Lib.hid C
        clear hSu hc
        go_wp2_with (first
          | (go_at_call 40; refine (C.out _).mono ?_; rintro e w2 ⟨rfl, hx2⟩; have t1 := hx2.new 1 _ rfl; have x3 : Ext wr w2 := (by (repeat (first | exact Ext.rfl' _ | assumption | refine Ext.dr ?_ | refine Ext.drN ?_ _ | refine Ext.al ?_ _ | refine Ext.st ?_ (by simp) _ | refine Ext.tr ?_ (by assumption)))))
          | (at_builtin; refine wpL_app slt_str (.tmp 18) (.tmp 21) rfl rfl rfl rfl (Ext.al (hext.tr x3) _) ((own_ext HO.out x3).alloc _) (by rfl) (new_cells w2 #[.string (str y)] 9) (by simp [Value.oneCell']) (by omega) (by simp only [maxLen]; omega) ?_; intro v' w' hown' hext' hgg; clear hgg))
        go_roundw
        case rel => exact ⟨k + 1, by go_num, by omega, by rw [HSU.out, sc_app, List.length_append]; exact hown', hext'⟩
        case measure => simp [intOf]; omega
      · rw [if_neg hc] at hSu
        have HSU := Lib.hid hSu
        have C := fun w' => Equal_c x nm HL1.out hnm w'
        rw [show (lowL x == lowL nm) = false from by revert hc; cases (lowL x == lowL nm) <;> simp] at C
        have C := Lib.hid C
        clear hSu hc
        go_wp2_with (first
          | (go_at_call 40; refine (C.out _).mono ?_; rintro e w2 ⟨rfl, hx2⟩; have t1 := hx2.new 1 _ rfl; have x3 : Ext wr w2 := (by (repeat (first | exact Ext.rfl' _ | assumption | refine Ext.dr ?_ | refine Ext.drN ?_ _ | refine Ext.al ?_ _ | refine Ext.st ?_ (by simp) _ | refine Ext.tr ?_ (by assumption))))))
        go_roundw
        case rel => exact ⟨k + 1, by go_num, by omega, by rw [HSU.out, List.append_nil]; exact own_ext HO.out x3, hext.tr x3⟩
        case measure => simp [intOf]; omega
    · have hkn : n = k := by omega
      subst hkn
      rw [List.take_of_length_le (by omega)] at hown
      obtain ⟨A', c', rfl, _, _, hr, _⟩ := Rd.of_own hown
      clear hown
      go_wp2
      go_ret
      exact Ret.mk ⟨A', c', rfl, hr⟩ hext
end Go.Proofs.YtnakeigpelcajaaGreatDoor
