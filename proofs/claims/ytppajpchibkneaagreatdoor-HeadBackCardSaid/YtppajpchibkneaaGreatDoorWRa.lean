/-
A head as bytes: plain laws.
-/
import Derived.Test.YtppajpchibkneaaGreatDoorHPx
import Derived.Test.YtppajpchibkneaaGreatDoorHt5
import Derived.Test.YtppajpchibkneaaGreatDoorBLa
import Derived.Test.YtppajpchibkneaaGreatDoorHv3
set_option linter.unusedVariables false
set_option linter.unusedSimpArgs false
/-
A head as bytes: plain laws.
-/
section
namespace Go.Proofs.YtppajpchibkneaaGreatDoor
open Go.RowKit

/-- May a field be written? -/
def okF (f : Fld) : Bool := tokL f.1 && vlL f.2
def lenF (f : Fld) : Nat := f.1.length + 2 + f.2.length
/-- How many bytes fields take. -/
def lenS (fs : List Fld) : Nat := (fs.map fun f => lenF f + 2).sum
/-- A field's line. -/
def wrF (f : Fld) : List UInt8 := f.1 ++ ([58, 32] ++ (f.2 ++ [13, 10]))
def wrS (fs : List Fld) : List UInt8 := fs.flatMap wrF
def longH (n : Nat) (fs : List Fld) : Bool := decide (8192 < n) || decide (100 < fs.length) || fs.any (fun f => decide (8192 < lenF f)) || decide (32768 < n + 4 + lenS fs)
/-- A head as bytes, or why not. -/
def wrH (first : List UInt8) (fs : List Fld) : List UInt8 × Int :=
  if fs.all okF = false then ([], 42) else if longH first.length fs = true then ([], 44) else (first ++ ([13, 10] ++ (wrS fs ++ [13, 10])), 0)
theorem wrF_len (f : Fld) : (wrF f).length = lenF f + 2 := by unfold wrF lenF; simp; omega
theorem wrS_len : ∀ fs : List Fld, (wrS fs).length = lenS fs
  | [] => rfl
  | f :: fs => by
    have ih := wrS_len fs
    unfold wrS lenS at *
    rw [List.flatMap_cons, List.length_append, ih, wrF_len, List.map_cons, List.sum_cons]
theorem lenS_take (fs : List Fld) (k : Nat) (h : k < fs.length) : lenS (fs.take (k + 1)) = lenS (fs.take k) + (lenF fs[k] + 2) := by
  unfold lenS
  rw [List.take_succ_eq_append_getElem h, List.map_append, List.sum_append]
  simp
theorem lenS_mono (fs : List Fld) : ∀ (k j : Nat), k ≤ j → lenS (fs.take k) ≤ lenS (fs.take j) := by
  intro k j h
  induction j with
  | zero => rw [Nat.le_zero.1 h]; exact Nat.le_refl _
  | succ j ih =>
    rcases Nat.lt_or_ge k (j + 1) with h1 | h1
    · have h2 := ih (by omega)
      by_cases hj : j < fs.length
      · rw [lenS_take fs j hj]; omega
      · have e1 : fs.take (j + 1) = fs := List.take_of_length_le (by omega)
        have e2 : fs.take j = fs := List.take_of_length_le (by omega)
        rw [e1]; rw [e2] at h2; exact h2
    · rw [show k = j + 1 by omega]; exact Nat.le_refl _
theorem lenS_all (fs : List Fld) (k : Nat) : lenS (fs.take k) ≤ lenS fs := by
  have := lenS_mono fs k (max k fs.length) (by omega)
  rw [List.take_of_length_le (show fs.length ≤ max k fs.length by omega)] at this
  exact this
theorem wrS_take (fs : List Fld) (k : Nat) (h : k < fs.length) : wrS (fs.take (k + 1)) = wrS (fs.take k) ++ wrF fs[k] := by
  unfold wrS
  rw [List.take_succ_eq_append_getElem h, List.flatMap_append]
  simp
theorem wrH_bad {first : List UInt8} {fs : List Fld} {k : Nat} (h : k < fs.length) (hb : okF fs[k] = false) : wrH first fs = ([], 42) := by
  unfold wrH
  rw [if_pos]
  rw [List.all_eq_false]
  exact ⟨fs[k], List.getElem_mem h, by rw [hb]; decide⟩
theorem all_ok {fs : List Fld} (h : ∀ j (hj : j < fs.length), okF fs[j] = true) : fs.all okF = true := by
  rw [List.all_eq_true]
  intro f hf
  obtain ⟨j, hj, rfl⟩ := List.getElem_of_mem hf
  exact h j hj
theorem wrH_long {first : List UInt8} {fs : List Fld} (h : fs.all okF = true) (hl : longH first.length fs = true) : wrH first fs = ([], 44) := by
  unfold wrH
  rw [if_neg (by rw [h]; decide), if_pos hl]
theorem wrH_good {first : List UInt8} {fs : List Fld} (h : fs.all okF = true) (hl : longH first.length fs = false) : wrH first fs = (first ++ ([13, 10] ++ (wrS fs ++ [13, 10])), 0) := by
  unfold wrH
  rw [if_neg (by rw [h]; decide), if_neg (by rw [hl]; decide)]
/-- What is long of the first k fields. -/
def anyL (fs : List Fld) (k : Nat) : Bool := (fs.take k).any fun f => decide (8192 < lenF f)
theorem anyL_succ (fs : List Fld) (k : Nat) (h : k < fs.length) : anyL fs (k + 1) = (anyL fs k || decide (8192 < lenF fs[k])) := by
  unfold anyL
  rw [List.take_succ_eq_append_getElem h, List.any_append]
  simp
end Go.Proofs.YtppajpchibkneaaGreatDoor
end

/-
Head's write: a head that may not be written.
-/
section
namespace Go.Proofs.YtppajpchibkneaaGreatDoor
open Go.RowKit

/-- Bytes, and a number. -/
def IsBy (r : List UInt8 × Int) (v : Value) (w : World) : Prop := ∃ A c, v = .tuple #[.slice A r.1.length c, .int .i64 r.2] ∧ Rd w A (bc r.1)
/-- The size that is summed, as far as it goes. -/
def SizeAt (n0 : Nat) (fs : List Fld) (k S : Nat) : Prop := (S ≤ 32768 ∧ S = n0 + 4 + lenS (fs.take k)) ∨ (32768 < S ∧ S ≤ 140737488500000 ∧ 32768 < n0 + 4 + lenS (fs.take k))
theorem size_zero (n0 : Nat) (fs : List Fld) (h : n0 ≤ 140737488400000) : SizeAt n0 fs 0 (n0 + 4) := by
  unfold SizeAt
  have : lenS (fs.take 0) = 0 := rfl
  omega
theorem size_next {n0 k S m : Nat} {fs : List Fld} (h : SizeAt n0 fs k S) (hk : k < fs.length) (hS : S ≤ 32768) (hm : m = lenF fs[k]) : SizeAt n0 fs (k + 1) (S + (min m 32768 + 2)) := by
  unfold SizeAt at *
  rw [lenS_take fs k hk, ← hm]
  omega
theorem size_same {n0 k S : Nat} {fs : List Fld} (h : SizeAt n0 fs k S) (hk : k < fs.length) (hS : ¬ S ≤ 32768) : SizeAt n0 fs (k + 1) S := by
  unfold SizeAt at *
  rw [lenS_take fs k hk]
  omega
theorem long_or {n0 : Nat} {fs : List Fld} {S : Nat} (h : SizeAt n0 fs fs.length S) : longH n0 fs = ((decide (8192 < n0) || decide (100 < fs.length)) || anyL fs fs.length || decide (32768 < S)) := by
  unfold longH anyL
  unfold SizeAt at h
  rw [List.take_of_length_le (Nat.le_refl _)] at h ⊢
  congr 1
  rw [decide_eq_decide]
  omega
end Go.Proofs.YtppajpchibkneaaGreatDoor
end

/-
Head's write: a head as bytes.
-/
section
namespace Go.Proofs.YtppajpchibkneaaGreatDoor
open Go.RowKit

set_option maxRecDepth 100000 in
set_option maxHeartbeats 8000000 in
theorem hWrite_big (first : List UInt8) (fs : List Fld) (A : Option Addr) (n c : Nat) (hn : fs.length = n) (hb : n ≤ 8796093022206) (hfl : first.length ≤ 140737488400000) (c1 : 8192 < first.length) (hsz : ∀ p ∈ fs, p.1.length ≤ 140737488351232 ∧ p.2.length ≤ 140737488351232) (w : World) (h : Rd w A (fc fs)) :
    Calls Tryz.prog 21 #[.string (str first), .slice A n c] w (Ret (IsBy (wrH first fs)) w) := by
  obtain ⟨R, hR⟩ : ∃ R, R = wrH first fs := ⟨_, rfl⟩
  rw [← hR]
  have HR := Lib.hid hR
  clear hR
  obtain ⟨sf, hsf⟩ : ∃ s, s = str first := ⟨_, rfl⟩
  have hsfz : sf.size = first.length := by rw [hsf]; exact str_size first
  have HSF := Lib.hid hsf
  rw [← hsf]
  clear hsf
  obtain ⟨n0, hn0⟩ : ∃ q, q = first.length := ⟨_, rfl⟩
  rw [← hn0] at hsfz hfl c1
  have HN0 := Lib.hid hn0
  clear hn0
  have s0 : IntKind.i64.wrap ((n0 : Int) + 4) = ((n0 + 4 : Nat) : Int) := by rw [IntKind.wrap_i64]; omega
  have HNF := Lib.hid hn
  have c2 : (8192 : Int) < (n0 : Int) := by omega
  go_enter Tryz.func21, Tryz.ntmps21
  go_wp2
  go_loopw [6, 7, 27] (fun vs vl vi wr => ∃ (k S : Nat) (lg : Bool), vs = .int .i64 (S : Int) ∧ vl = .bool lg ∧ vi = .int .i64 (k : Int) ∧ k ≤ n ∧ (∀ j (hj : j < fs.length), j < k → okF fs[j] = true) ∧ lg = (true || anyL fs k) ∧ SizeAt n0 fs k S ∧ Ext w wr) (fun _ _ vi _ => n - (intOf vi).toNat)
  case atStart => exact ⟨0, n0 + 4, true, by go_num, rfl, rfl, Nat.zero_le _, fun j _ h => by omega, by simp [anyL], size_zero n0 fs hfl, Ext.rfl' _⟩
  case round =>
    obtain ⟨k, S, lg, rfl, rfl, rfl, hk, hok, hlg, hsiz, hext⟩ := hrel
    have HLG := Lib.hid hlg
    clear hlg
    by_cases hlt : k < n
    · obtain ⟨b, o, rfl, hbl, hS⟩ := h.fld (k := k) (by omega)
      obtain ⟨a0, a1⟩ := hS.out wr hext
      have hf1 := hsz _ (List.getElem_mem (show k < fs.length by omega))
      have hNX := fun m (hm : m = lenF (fs[k]'(by omega))) hS => size_next hsiz (show k < fs.length by omega) hS hm
      have hSM := fun hS => size_same hsiz (show k < fs.length by omega) hS
      have hAN := anyL_succ fs k (by omega)
      have hBD := fun (hb : okF (fs[k]'(by omega)) = false) => wrH_bad (first := first) (show k < fs.length by omega) hb
      obtain ⟨⟨x, y⟩, hp⟩ : ∃ p, p = fs[k] := ⟨_, rfl⟩
      rw [← hp] at a0 a1 hf1 hNX hAN hBD
      dsimp only at a0 a1 hf1
      have HOK := Lib.hid hok
      have HPK := Lib.hid hp
      have hk0 : (0 : Int) ≤ (k : Int) := by omega
      have hk1 : (k : Int) < (n : Int) := by omega
      have CT := fun w => Token_h x (by unfold maxLen; omega) w
      have CV := fun w => Value_h y (by unfold maxLen; omega) w
      have hSB : S ≤ 140737488500000 := by unfold SizeAt at hsiz; omega
      have HBD := Lib.hid hBD
      have HNX := Lib.hid hNX
      have HSM := Lib.hid hSM
      have HAN := Lib.hid hAN
      clear hp hok hS hbl hNX hSM hAN hBD hsiz
      cases hvt : tokL x with
      | false =>
        rw [hvt] at CT
        have CT := Lib.hid CT
        have HV := Lib.hid (show R = ([], 42) from by rw [HR.out]; exact HBD.out (by unfold okF; rw [hvt]; rfl))
        clear hvt
        go_wp2_with (first
          | (go_at_call 19; refine (CT.out _).mono ?_; rintro e w2 ⟨rfl, hx2⟩; have t0 := hx2.new 0 _ rfl; have t1 := hx2.new 1 _ rfl))
        go_ret2
        rw [HV.out]
        exact Ret.mk ⟨none, 0, rfl, .inl rfl⟩ (by (repeat (first | exact Ext.rfl' _ | assumption | refine Ext.dr ?_ | refine Ext.drN ?_ _ | refine Ext.al ?_ _ | refine Ext.st ?_ (by simp) _ | refine Ext.tr ?_ (by assumption))))
      | true =>
        rw [hvt] at CT
        have CT := Lib.hid CT
        cases hvv : vlL y with
        | false =>
          rw [hvv] at CV
          have CV := Lib.hid CV
          have HV := Lib.hid (show R = ([], 42) from by rw [HR.out]; exact HBD.out (by unfold okF; rw [hvt]; dsimp only; rw [hvv]; rfl))
          clear hvt hvv
          go_wp2_with (first
            | (go_at_call 19; refine (CT.out _).mono ?_; rintro e w2 ⟨rfl, hx2⟩; have t0 := hx2.new 0 _ rfl; have t1 := hx2.new 1 _ rfl)
            | (go_at_call 36; refine (CV.out _).mono ?_; rintro e w3 ⟨rfl, hx3⟩; have g0 := (hx3.cell (lt_of_cell t0)).trans t0; have g1 := (hx3.cell (lt_of_cell t1)).trans t1; clear t0 t1))
          go_ret2
          rw [HV.out]
          exact Ret.mk ⟨none, 0, rfl, .inl rfl⟩ (by (repeat (first | exact Ext.rfl' _ | assumption | refine Ext.dr ?_ | refine Ext.drN ?_ _ | refine Ext.al ?_ _ | refine Ext.st ?_ (by simp) _ | refine Ext.tr ?_ (by assumption))))
        | true =>
          rw [hvv] at CV
          have CV := Lib.hid CV
          have HV := Lib.hid (show okF (x, y) = true from by unfold okF; rw [hvt]; dsimp only; rw [hvv]; rfl)
          obtain ⟨m, hm⟩ : ∃ m, m = x.length + 2 + y.length := ⟨_, rfl⟩
          have HM := Lib.hid hm
          have r1 : IntKind.i64.wrap ((x.length : Int) + 2) = (x.length : Int) + 2 := by rw [IntKind.wrap_i64]; omega
          have r2 : IntKind.i64.wrap ((x.length : Int) + 2 + (y.length : Int)) = (m : Int) := by rw [IntKind.wrap_i64]; omega
          have hmb : m ≤ 281474976702470 := by omega
          clear hvt hvv hf1
          obtain ⟨M, hM⟩ : ∃ M, M = min m 32768 := ⟨_, rfl⟩
          have r3 : min (m : Int) 32768 = (M : Int) := by omega
          have r4 : IntKind.i64.wrap ((M : Int) + 2) = (M : Int) + 2 := by rw [IntKind.wrap_i64]; omega
          have r5 : IntKind.i64.wrap ((S : Int) + ((M : Int) + 2)) = ((S + (M + 2) : Nat) : Int) := by rw [IntKind.wrap_i64]; omega
          have HMM := Lib.hid hM
          clear hm hM
          have HAK := Lib.hid (fun j (hj : j < fs.length) (h2 : j < k + 1) => (show okF fs[j] = true from by
            rcases Nat.lt_or_ge j k with h3 | h3
            · exact HOK.out j hj h3
            · obtain rfl : j = k := by omega
              rw [← HPK.out]; exact HV.out))
          have HLF := Lib.hid (show lenF (x, y) = m from by rw [HM.out]; rfl)
          cases lg with
          | true =>
            have HL2 := Lib.hid (show true = (true || anyL fs (k + 1)) from by rw [HAN.out, ← Bool.or_assoc, ← HLG.out]; rfl)
            by_cases c3 : S ≤ 32768
            · have c4 : (S : Int) ≤ 32768 := by omega
              have HS2 := Lib.hid (show SizeAt n0 fs (k + 1) (S + (M + 2)) from by rw [HMM.out]; exact HNX.out m HLF.out.symm c3)
              go_wp2_with (first
                | (go_at_call 19; refine (CT.out _).mono ?_; rintro e w2 ⟨rfl, hx2⟩; have t0 := hx2.new 0 _ rfl; have t1 := hx2.new 1 _ rfl)
                | (go_at_call 36; refine (CV.out _).mono ?_; rintro e w3 ⟨rfl, hx3⟩; have g0 := (hx3.cell (lt_of_cell t0)).trans t0; have g1 := (hx3.cell (lt_of_cell t1)).trans t1; clear t0 t1))
              go_roundw
              case rel => exact ⟨k + 1, S + (M + 2), true, by go_num, by first | rfl | trivial, by go_num, by omega, fun j hj h2 => HAK.out j hj h2, HL2.out, HS2.out, hext.tr (by (repeat (first | exact Ext.rfl' _ | assumption | refine Ext.dr ?_ | refine Ext.drN ?_ _ | refine Ext.al ?_ _ | refine Ext.st ?_ (by simp) _ | refine Ext.tr ?_ (by assumption))))⟩
              case measure => simp [intOf]; omega
            · have c4 : ¬ (S : Int) ≤ 32768 := by omega
              have HS2 := Lib.hid (HSM.out c3)
              go_wp2_with (first
                | (go_at_call 19; refine (CT.out _).mono ?_; rintro e w2 ⟨rfl, hx2⟩; have t0 := hx2.new 0 _ rfl; have t1 := hx2.new 1 _ rfl)
                | (go_at_call 36; refine (CV.out _).mono ?_; rintro e w3 ⟨rfl, hx3⟩; have g0 := (hx3.cell (lt_of_cell t0)).trans t0; have g1 := (hx3.cell (lt_of_cell t1)).trans t1; clear t0 t1))
              go_roundw
              case rel => exact ⟨k + 1, S, true, by go_num, by first | rfl | trivial, by go_num, by omega, fun j hj h2 => HAK.out j hj h2, HL2.out, HS2.out, hext.tr (by (repeat (first | exact Ext.rfl' _ | assumption | refine Ext.dr ?_ | refine Ext.drN ?_ _ | refine Ext.al ?_ _ | refine Ext.st ?_ (by simp) _ | refine Ext.tr ?_ (by assumption))))⟩
              case measure => simp [intOf]; omega
          | false => exact absurd HLG.out (by simp)
    · have hk1 : ¬ (k : Int) < (n : Int) := by omega
      have hall := all_ok (fs := fs) (fun j hj => hok j hj (by have := HNF.out; omega))
      have hlt2 := HLG.out
      rw [Bool.true_or] at hlt2
      subst hlt2
      have HV := Lib.hid (show R = ([], 44) from by rw [HR.out]; exact wrH_long hall (by unfold longH; rw [decide_eq_true (by rw [← HN0.out]; exact c1)]; simp))
      clear hok hall hsiz
      go_wp2
      go_ret2
      rw [HV.out]
      exact Ret.mk ⟨none, 0, rfl, .inl rfl⟩ hext
/-- No more than may be: the size is whole. -/
theorem good_bd {n0 : Nat} {fs : List Fld} (h : longH n0 fs = false) : n0 ≤ 8192 ∧ fs.length ≤ 100 ∧ n0 + 4 + lenS fs ≤ 32768 := by
  unfold longH at h
  simp only [Bool.or_eq_false_iff, decide_eq_false_iff_not] at h
  omega
set_option maxRecDepth 100000 in
set_option maxHeartbeats 8000000 in
theorem hWrite_c (first : List UInt8) (fs : List Fld) (A : Option Addr) (n c : Nat) (hn : fs.length = n) (hb : n ≤ 8796093022206) (hfl : first.length ≤ 140737488400000) (hsz : ∀ p ∈ fs, p.1.length ≤ 140737488351232 ∧ p.2.length ≤ 140737488351232) (w : World) (h : Rd w A (fc fs)) :
    Calls Tryz.prog 21 #[.string (str first), .slice A n c] w (Ret (IsBy (wrH first fs)) w) := by
  by_cases c1 : 8192 < first.length
  · exact hWrite_big first fs A n c hn hb hfl c1 hsz w h
  · obtain ⟨R, hR⟩ : ∃ R, R = wrH first fs := ⟨_, rfl⟩
    rw [← hR]
    have HR := Lib.hid hR
    clear hR
    obtain ⟨sf, hsf⟩ : ∃ s, s = str first := ⟨_, rfl⟩
    have hsfz : sf.size = first.length := by rw [hsf]; exact str_size first
    have HSF := Lib.hid hsf
    rw [← hsf]
    clear hsf
    obtain ⟨n0, hn0⟩ : ∃ q, q = first.length := ⟨_, rfl⟩
    rw [← hn0] at hsfz hfl c1
    have HN0 := Lib.hid hn0
    clear hn0
    have s0 : IntKind.i64.wrap ((n0 : Int) + 4) = ((n0 + 4 : Nat) : Int) := by rw [IntKind.wrap_i64]; omega
    have HNF := Lib.hid hn
    have c2 : ¬ (8192 : Int) < (n0 : Int) := by omega
    obtain ⟨L0, hL0⟩ : ∃ L, L = decide ((100 : Int) < (n : Int)) := ⟨_, rfl⟩
    go_enter Tryz.func21, Tryz.ntmps21
    go_wp2
    rw [← hL0]
    have HL0 := Lib.hid hL0
    clear hL0
    go_loopw [6, 7, 27] (fun vs vl vi wr => ∃ (k S : Nat) (lg : Bool), vs = .int .i64 (S : Int) ∧ vl = .bool lg ∧ vi = .int .i64 (k : Int) ∧ k ≤ n ∧ (∀ j (hj : j < fs.length), j < k → okF fs[j] = true) ∧ lg = (L0 || anyL fs k) ∧ SizeAt n0 fs k S ∧ Ext w wr) (fun _ _ vi _ => n - (intOf vi).toNat)
    case atStart => exact ⟨0, n0 + 4, L0, by go_num, rfl, rfl, Nat.zero_le _, fun j _ h => by omega, by simp [anyL], size_zero n0 fs hfl, Ext.rfl' _⟩
    case round =>
      obtain ⟨k, S, lg, rfl, rfl, rfl, hk, hok, hlg, hsiz, hext⟩ := hrel
      have HLG := Lib.hid hlg
      clear hlg
      by_cases hlt : k < n
      · obtain ⟨b, o, rfl, hbl, hS⟩ := h.fld (k := k) (by omega)
        obtain ⟨a0, a1⟩ := hS.out wr hext
        have hf1 := hsz _ (List.getElem_mem (show k < fs.length by omega))
        have hNX := fun m (hm : m = lenF (fs[k]'(by omega))) hS => size_next hsiz (show k < fs.length by omega) hS hm
        have hSM := fun hS => size_same hsiz (show k < fs.length by omega) hS
        have hAN := anyL_succ fs k (by omega)
        have hBD := fun (hb : okF (fs[k]'(by omega)) = false) => wrH_bad (first := first) (show k < fs.length by omega) hb
        obtain ⟨⟨x, y⟩, hp⟩ : ∃ p, p = fs[k] := ⟨_, rfl⟩
        rw [← hp] at a0 a1 hf1 hNX hAN hBD
        dsimp only at a0 a1 hf1
        have HOK := Lib.hid hok
        have HPK := Lib.hid hp
        have hk0 : (0 : Int) ≤ (k : Int) := by omega
        have hk1 : (k : Int) < (n : Int) := by omega
        have CT := fun w => Token_h x (by unfold maxLen; omega) w
        have CV := fun w => Value_h y (by unfold maxLen; omega) w
        have hSB : S ≤ 140737488500000 := by unfold SizeAt at hsiz; omega
        have HBD := Lib.hid hBD
        have HNX := Lib.hid hNX
        have HSM := Lib.hid hSM
        have HAN := Lib.hid hAN
        clear hp hok hS hbl hNX hSM hAN hBD hsiz
        cases hvt : tokL x with
        | false =>
          rw [hvt] at CT
          have CT := Lib.hid CT
          have HV := Lib.hid (show R = ([], 42) from by rw [HR.out]; exact HBD.out (by unfold okF; rw [hvt]; rfl))
          clear hvt
          go_wp2_with (first
            | (go_at_call 19; refine (CT.out _).mono ?_; rintro e w2 ⟨rfl, hx2⟩; have t0 := hx2.new 0 _ rfl; have t1 := hx2.new 1 _ rfl))
          go_ret2
          rw [HV.out]
          exact Ret.mk ⟨none, 0, rfl, .inl rfl⟩ (by (repeat (first | exact Ext.rfl' _ | assumption | refine Ext.dr ?_ | refine Ext.drN ?_ _ | refine Ext.al ?_ _ | refine Ext.st ?_ (by simp) _ | refine Ext.tr ?_ (by assumption))))
        | true =>
          rw [hvt] at CT
          have CT := Lib.hid CT
          cases hvv : vlL y with
          | false =>
            rw [hvv] at CV
            have CV := Lib.hid CV
            have HV := Lib.hid (show R = ([], 42) from by rw [HR.out]; exact HBD.out (by unfold okF; rw [hvt]; dsimp only; rw [hvv]; rfl))
            clear hvt hvv
            go_wp2_with (first
              | (go_at_call 19; refine (CT.out _).mono ?_; rintro e w2 ⟨rfl, hx2⟩; have t0 := hx2.new 0 _ rfl; have t1 := hx2.new 1 _ rfl)
              | (go_at_call 36; refine (CV.out _).mono ?_; rintro e w3 ⟨rfl, hx3⟩; have g0 := (hx3.cell (lt_of_cell t0)).trans t0; have g1 := (hx3.cell (lt_of_cell t1)).trans t1; clear t0 t1))
            go_ret2
            rw [HV.out]
            exact Ret.mk ⟨none, 0, rfl, .inl rfl⟩ (by (repeat (first | exact Ext.rfl' _ | assumption | refine Ext.dr ?_ | refine Ext.drN ?_ _ | refine Ext.al ?_ _ | refine Ext.st ?_ (by simp) _ | refine Ext.tr ?_ (by assumption))))
          | true =>
            rw [hvv] at CV
            have CV := Lib.hid CV
            have HV := Lib.hid (show okF (x, y) = true from by unfold okF; rw [hvt]; dsimp only; rw [hvv]; rfl)
            obtain ⟨m, hm⟩ : ∃ m, m = x.length + 2 + y.length := ⟨_, rfl⟩
            have HM := Lib.hid hm
            have r1 : IntKind.i64.wrap ((x.length : Int) + 2) = (x.length : Int) + 2 := by rw [IntKind.wrap_i64]; omega
            have r2 : IntKind.i64.wrap ((x.length : Int) + 2 + (y.length : Int)) = (m : Int) := by rw [IntKind.wrap_i64]; omega
            have hmb : m ≤ 281474976702470 := by omega
            clear hvt hvv hf1
            obtain ⟨M, hM⟩ : ∃ M, M = min m 32768 := ⟨_, rfl⟩
            have r3 : min (m : Int) 32768 = (M : Int) := by omega
            have r4 : IntKind.i64.wrap ((M : Int) + 2) = (M : Int) + 2 := by rw [IntKind.wrap_i64]; omega
            have r5 : IntKind.i64.wrap ((S : Int) + ((M : Int) + 2)) = ((S + (M + 2) : Nat) : Int) := by rw [IntKind.wrap_i64]; omega
            have HMM := Lib.hid hM
            clear hm hM
            have HAK := Lib.hid (fun j (hj : j < fs.length) (h2 : j < k + 1) => (show okF fs[j] = true from by
              rcases Nat.lt_or_ge j k with h3 | h3
              · exact HOK.out j hj h3
              · obtain rfl : j = k := by omega
                rw [← HPK.out]; exact HV.out))
            have HLF := Lib.hid (show lenF (x, y) = m from by rw [HM.out]; rfl)
            cases lg with
            | true =>
              have HL2 := Lib.hid (show true = (L0 || anyL fs (k + 1)) from by rw [HAN.out, ← Bool.or_assoc, ← HLG.out]; rfl)
              by_cases c3 : S ≤ 32768
              · have c4 : (S : Int) ≤ 32768 := by omega
                have HS2 := Lib.hid (show SizeAt n0 fs (k + 1) (S + (M + 2)) from by rw [HMM.out]; exact HNX.out m HLF.out.symm c3)
                go_wp2_with (first
                  | (go_at_call 19; refine (CT.out _).mono ?_; rintro e w2 ⟨rfl, hx2⟩; have t0 := hx2.new 0 _ rfl; have t1 := hx2.new 1 _ rfl)
                  | (go_at_call 36; refine (CV.out _).mono ?_; rintro e w3 ⟨rfl, hx3⟩; have g0 := (hx3.cell (lt_of_cell t0)).trans t0; have g1 := (hx3.cell (lt_of_cell t1)).trans t1; clear t0 t1))
                go_roundw
                case rel => exact ⟨k + 1, S + (M + 2), true, by go_num, by first | rfl | trivial, by go_num, by omega, fun j hj h2 => HAK.out j hj h2, HL2.out, HS2.out, hext.tr (by (repeat (first | exact Ext.rfl' _ | assumption | refine Ext.dr ?_ | refine Ext.drN ?_ _ | refine Ext.al ?_ _ | refine Ext.st ?_ (by simp) _ | refine Ext.tr ?_ (by assumption))))⟩
                case measure => simp [intOf]; omega
              · have c4 : ¬ (S : Int) ≤ 32768 := by omega
                have HS2 := Lib.hid (HSM.out c3)
                go_wp2_with (first
                  | (go_at_call 19; refine (CT.out _).mono ?_; rintro e w2 ⟨rfl, hx2⟩; have t0 := hx2.new 0 _ rfl; have t1 := hx2.new 1 _ rfl)
                  | (go_at_call 36; refine (CV.out _).mono ?_; rintro e w3 ⟨rfl, hx3⟩; have g0 := (hx3.cell (lt_of_cell t0)).trans t0; have g1 := (hx3.cell (lt_of_cell t1)).trans t1; clear t0 t1))
                go_roundw
                case rel => exact ⟨k + 1, S, true, by go_num, by first | rfl | trivial, by go_num, by omega, fun j hj h2 => HAK.out j hj h2, HL2.out, HS2.out, hext.tr (by (repeat (first | exact Ext.rfl' _ | assumption | refine Ext.dr ?_ | refine Ext.drN ?_ _ | refine Ext.al ?_ _ | refine Ext.st ?_ (by simp) _ | refine Ext.tr ?_ (by assumption))))⟩
                case measure => simp [intOf]; omega
            | false =>
              have HL2 := Lib.hid (show decide ((8192 : Int) < (m : Int)) = (L0 || anyL fs (k + 1)) from by rw [HAN.out, ← Bool.or_assoc, ← HLG.out, HLF.out, Bool.false_or, decide_eq_decide]; omega)
              by_cases c3 : S ≤ 32768
              · have c4 : (S : Int) ≤ 32768 := by omega
                have HS2 := Lib.hid (show SizeAt n0 fs (k + 1) (S + (M + 2)) from by rw [HMM.out]; exact HNX.out m HLF.out.symm c3)
                go_wp2_with (first
                  | (go_at_call 19; refine (CT.out _).mono ?_; rintro e w2 ⟨rfl, hx2⟩; have t0 := hx2.new 0 _ rfl; have t1 := hx2.new 1 _ rfl)
                  | (go_at_call 36; refine (CV.out _).mono ?_; rintro e w3 ⟨rfl, hx3⟩; have g0 := (hx3.cell (lt_of_cell t0)).trans t0; have g1 := (hx3.cell (lt_of_cell t1)).trans t1; clear t0 t1))
                go_roundw
                case rel => exact ⟨k + 1, S + (M + 2), decide ((8192 : Int) < (m : Int)), by go_num, by first | rfl | trivial, by go_num, by omega, fun j hj h2 => HAK.out j hj h2, HL2.out, HS2.out, hext.tr (by (repeat (first | exact Ext.rfl' _ | assumption | refine Ext.dr ?_ | refine Ext.drN ?_ _ | refine Ext.al ?_ _ | refine Ext.st ?_ (by simp) _ | refine Ext.tr ?_ (by assumption))))⟩
                case measure => simp [intOf]; omega
              · have c4 : ¬ (S : Int) ≤ 32768 := by omega
                have HS2 := Lib.hid (HSM.out c3)
                go_wp2_with (first
                  | (go_at_call 19; refine (CT.out _).mono ?_; rintro e w2 ⟨rfl, hx2⟩; have t0 := hx2.new 0 _ rfl; have t1 := hx2.new 1 _ rfl)
                  | (go_at_call 36; refine (CV.out _).mono ?_; rintro e w3 ⟨rfl, hx3⟩; have g0 := (hx3.cell (lt_of_cell t0)).trans t0; have g1 := (hx3.cell (lt_of_cell t1)).trans t1; clear t0 t1))
                go_roundw
                case rel => exact ⟨k + 1, S, decide ((8192 : Int) < (m : Int)), by go_num, by first | rfl | trivial, by go_num, by omega, fun j hj h2 => HAK.out j hj h2, HL2.out, HS2.out, hext.tr (by (repeat (first | exact Ext.rfl' _ | assumption | refine Ext.dr ?_ | refine Ext.drN ?_ _ | refine Ext.al ?_ _ | refine Ext.st ?_ (by simp) _ | refine Ext.tr ?_ (by assumption))))⟩
                case measure => simp [intOf]; omega
      · have hk1 : ¬ (k : Int) < (n : Int) := by omega
        have hkn : k = fs.length := by have := HNF.out; omega
        have hall := all_ok (fs := fs) (fun j hj => hok j hj (by omega))
        subst hkn
        have hlong := long_or hsiz
        have hb0 : (decide (8192 < n0) || decide (100 < fs.length)) = L0 := by rw [decide_eq_false c1, Bool.false_or, HL0.out, decide_eq_decide]; have := HNF.out; omega
        rw [hb0, ← HLG.out] at hlong
        rw [HN0.out] at hlong
        cases lg with
        | true =>
          have HV := Lib.hid (show R = ([], 44) from by rw [HR.out]; exact wrH_long hall (by rw [hlong]; rfl))
          clear hok hall hsiz hlong hb0
          go_wp2
          go_ret2
          rw [HV.out]
          exact Ret.mk ⟨none, 0, rfl, .inl rfl⟩ hext
        | false =>
          rw [Bool.false_or] at hlong
          by_cases c5 : 32768 < S
          · have c6 : (32768 : Int) < (S : Int) := by omega
            have HV := Lib.hid (show R = ([], 44) from by rw [HR.out]; exact wrH_long hall (by rw [hlong]; simpa using c5))
            clear hok hall hsiz hlong hb0
            go_wp2
            go_ret2
            rw [HV.out]
            exact Ret.mk ⟨none, 0, rfl, .inl rfl⟩ hext
          · have c6 : ¬ (32768 : Int) < (S : Int) := by omega
            have hlg2 : longH first.length fs = false := by rw [hlong]; simpa using c5
            have HV := Lib.hid (show R = (first ++ ([13, 10] ++ (wrS fs ++ [13, 10])), 0) from by rw [HR.out]; exact wrH_good hall hlg2)
            obtain ⟨g1, g2, g3⟩ := good_bd hlg2
            clear hok hall hsiz hlong hb0 hlg2
            have hN := HNF.out
            obtain ⟨b, hbw⟩ : ∃ b, b = wr.heap.size := ⟨_, rfl⟩
            have hwb : w.heap.size ≤ b := by rw [hbw]; exact hext.size
            obtain ⟨W2, hW2⟩ : ∃ W, W = wr.alloc (.cells #[.pointer none, .slice none 0 0] 65) := ⟨_, rfl⟩
            have hj0 : BldJ w.heap.size b (b + 1) [] W2 := bldJ_new hwb (by omega) (by rw [hW2, hbw]; simp) (by rw [hW2, hbw]; exact heap_alloc_new wr _)
            have xw2 : Ext w W2 := by rw [hW2]; exact hext.al _
            obtain ⟨s1, hs1⟩ : ∃ s, s = str (first ++ [13, 10]) := ⟨_, rfl⟩
            have K1 : ∀ w, (Op.stringOp .add sf ⟨#[13, 10]⟩).run Tryz.prog w = .ok (.string s1) w := fun w => by rw [HSF.out, hs1, cat_ok _ _ (by rw [str_size]; show first.length + 2 ≤ _; omega) w]; simp
            have C0 := WriteStringJ_c w.heap.size b (b + 1) [] (first ++ [13, 10]) W2 hj0 (by simp; omega)
            rw [← hs1] at C0
            have C0 := Lib.hid C0
            have XW2 := Lib.hid xw2
            have HW2 := Lib.hid hW2
            have HBW := Lib.hid hbw
            have hall2 := lenS_all fs
            clear hs1 hj0 xw2 hW2 hbw hext
            go_wp2_with (first
              | (go_at_call 37; rw [← HBW.out, ← HW2.out]; refine C0.out.mono ?_; rintro e w2 ⟨rfl, hj2, hfr2⟩))
            have xw3 : Ext w w2 := Below.trans XW2.out hfr2.1
            have hj3 : BldJ w.heap.size b (b + 1) (first ++ ([13, 10] ++ wrS (fs.take 0))) w2 := by simpa [wrS] using hj2
            clear hj2 hfr2
            go_loopw [72] (fun vi wx => ∃ k : Nat, vi = .int .i64 (k : Int) ∧ k ≤ n ∧ BldJ w.heap.size b (b + 1) (first ++ ([13, 10] ++ wrS (fs.take k))) wx ∧ Ext w wx) (fun vi _ => n - (intOf vi).toNat)
            case atStart => exact ⟨0, rfl, Nat.zero_le _, hj3, xw3⟩
            case round =>
              clear hj3 xw3
              obtain ⟨k, rfl, hk2, hj, hx⟩ := hrel
              have HJ := Lib.hid hj
              by_cases hlt2 : k < n
              · obtain ⟨g, f, rfl, hgl, hS2⟩ := h.fld (k := k) (by omega)
                obtain ⟨a0, a1⟩ := hS2.out _ hx
                have hTK := wrS_take fs k (by omega)
                have hLK := lenS_all fs (k + 1)
                obtain ⟨⟨x, y⟩, hp⟩ : ∃ p, p = fs[k] := ⟨_, rfl⟩
                rw [← hp] at a0 a1 hTK
                dsimp only at a0 a1
                have hL2 := congrArg List.length hTK
                rw [List.length_append, wrS_len, wrS_len, wrF_len] at hL2
                have hml : lenF (x, y) = x.length + 2 + y.length := rfl
                have HTK := Lib.hid hTK
                have hk0 : (0 : Int) ≤ (k : Int) := by omega
                have hk3 : (k : Int) < (n : Int) := by omega
                obtain ⟨sa, hsa⟩ : ∃ s, s = str (x ++ [58, 32]) := ⟨_, rfl⟩
                obtain ⟨sb, hsb⟩ : ∃ s, s = str (x ++ ([58, 32] ++ y)) := ⟨_, rfl⟩
                obtain ⟨sc1, hsc⟩ : ∃ s, s = str (wrF (x, y)) := ⟨_, rfl⟩
                have E1 : ∀ w, (Op.stringOp .add (str x) ⟨#[58, 32]⟩).run Tryz.prog w = .ok (.string sa) w := fun w => by rw [hsa, cat_ok _ _ (by rw [str_size]; show x.length + 2 ≤ _; omega) w]; simp
                have E2 : ∀ w, (Op.stringOp .add sa (str y)).run Tryz.prog w = .ok (.string sb) w := fun w => by rw [hsa, hsb, cat_ok _ _ (by rw [str_size, str_size]; simp; omega) w]; simp
                have E3 : ∀ w, (Op.stringOp .add sb ⟨#[13, 10]⟩).run Tryz.prog w = .ok (.string sc1) w := fun w => by rw [hsb, hsc, cat_ok _ _ (by rw [str_size]; show (x ++ ([58, 32] ++ y)).length + 2 ≤ _; simp; omega) w]; simp [wrF]
                have CW := fun W (hJ : BldJ w.heap.size b (b + 1) (first ++ ([13, 10] ++ wrS (fs.take k))) W) => WriteStringJ_c w.heap.size b (b + 1) (first ++ ([13, 10] ++ wrS (fs.take k))) (wrF (x, y)) W hJ (by rw [List.length_append, List.length_append, wrS_len, wrF_len]; show _ + (2 + _) + _ ≤ _; omega)
                rw [← hsc] at CW
                have CW := Lib.hid CW
                clear hp hTK hL2 hLK hsa hsb hsc hj hgl hS2 hml
                go_wp2_with (first
                  | (go_at_call 37; refine (CW.out _ (HJ.out.ext (by (repeat (first | exact Ext.rfl' _ | assumption | refine Ext.dr ?_ | refine Ext.drN ?_ _ | refine Ext.al ?_ _ | refine Ext.st ?_ (by simp) _ | refine Ext.tr ?_ (by assumption)))))).mono ?_; rintro e w9 ⟨rfl, hj9, hfr9⟩))
                go_roundw
                case rel => exact ⟨k + 1, by go_num, by omega, by rw [HTK.out]; simpa using hj9, Below.trans (hx.tr (by (repeat (first | exact Ext.rfl' _ | assumption | refine Ext.dr ?_ | refine Ext.drN ?_ _ | refine Ext.al ?_ _ | refine Ext.st ?_ (by simp) _ | refine Ext.tr ?_ (by assumption))))) hfr9.1⟩
                case measure => simp [intOf]; omega
              · have hk3 : ¬ (k : Int) < (n : Int) := by omega
                rw [List.take_of_length_le (show fs.length ≤ k by omega)] at hj
                have HJ := Lib.hid hj
                clear hj
                obtain ⟨so, hso⟩ : ∃ s, s = str (first ++ ([13, 10] ++ wrS fs)) := ⟨_, rfl⟩
                obtain ⟨sr, hsr⟩ : ∃ s, s = str (first ++ ([13, 10] ++ (wrS fs ++ [13, 10]))) := ⟨_, rfl⟩
                have hsl : (first ++ ([13, 10] ++ (wrS fs ++ [13, 10]))).length = n0 + 4 + lenS fs := by simp [wrS_len]; have := HN0.out; omega
                have K2 : ∀ w, (Op.stringOp .add so ⟨#[13, 10]⟩).run Tryz.prog w = .ok (.string sr) w := fun w => by rw [hso, hsr, cat_ok _ _ (by rw [str_size]; show (first ++ ([13, 10] ++ wrS fs)).length + 2 ≤ _; simp [wrS_len]; have := HN0.out; omega) w]; simp
                have CB := fun W (hJ : BldJ w.heap.size b (b + 1) (first ++ ([13, 10] ++ wrS fs)) W) => bStringJ_c w.heap.size b (b + 1) (first ++ ([13, 10] ++ wrS fs)) W hJ
                rw [← hso] at CB
                have CB := Lib.hid CB
                have RL := Lib.hid (fun W => (show Rd (Lib.bytesWorld W 5 sr) (some ⟨W.heap.size, 0, none⟩) (bc (first ++ ([13, 10] ++ (wrS fs ++ [13, 10])))) from by rw [hsr]; exact bw_rd W 5 _))
                have CV : ∀ w, (convert 9 25 (.string sr)).run Tryz.prog w = .ok (.slice (some ⟨w.heap.size, 0, none⟩) (n0 + 4 + lenS fs) (grownCap w (n0 + 4 + lenS fs) 0 5)) (Lib.bytesWorld w 5 sr) := fun w => by
                  have h0 := Lib.run_convert_string_bytes (P := Tryz.prog) w 9 25 5 sr Tryz.underlying9 Tryz.underlying25 Tryz.underlying5
                  have hz : sr.size = n0 + 4 + lenS fs := by rw [hsr, str_size, hsl]
                  rw [hz] at h0
                  exact h0
                have HSL := Lib.hid hsl
                clear hso hsr hsl
                go_wp2_with (first
                  | (go_at_call 38; refine (CB.out _ HJ.out).mono ?_; rintro e w9 ⟨rfl, hb9⟩))
                go_ret2
                rw [HV.out]
                exact Ret.mk ⟨_, _, by rw [HSL.out]; rfl, RL.out _⟩ (Ext.bwH (Below.trans hx hb9) _ _)
end Go.Proofs.YtppajpchibkneaaGreatDoor
end
