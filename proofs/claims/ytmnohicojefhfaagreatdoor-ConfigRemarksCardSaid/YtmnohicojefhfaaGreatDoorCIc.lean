/-
The statements' own parts: what must come is there; a text with remarks.
-/
import Derived.Test.YtmnohicojefhfaaGreatDoorCi3
import Derived.Test.YtmnohicojefhfaaGreatDoorCFa
import Derived.Test.YtmnohicojefhfaaGreatDoorCi4
set_option linter.unusedVariables false
set_option linter.unusedSimpArgs false
/-
The statements' own parts: what must come is there; a text with remarks.
-/
section
namespace Go.Proofs.YtmnohicojefhfaaGreatDoor
open Go.RowKit

set_option maxRecDepth 100000 in
theorem num14_c (x : Int) (w : World) : Calls Tryz.prog 13 #[.int .i64 x] w fun e w' => e = .returned (.int .i64 x) ∧ w = w' := by
  go_enter Tryz.func13, Tryz.ntmps13
  go_wp2
  go_ret
  exact ⟨rfl, rfl⟩
theorem cParse_A (w : World) (hE : ErrR w) : Calls Tryz.prog 9 #[.string (str knA14)] w
    fun e w' => Ext w w' ∧ ∃ UA uc sc g f, w'.cell? ⟨g, f + 1, none⟩ = some (.bool true) ∧ e = .returned (.tuple #[.agg #[.int .i64 75, .int .i64 65536, .int .i64 0, .int .i64 1000, .slice UA 0 uc, .slice (some ⟨g, f, none⟩) 1 sc], .int .i64 0, .int .i64 0]) := by
  refine (cParse_c knA14 (by decide) w hE).mono ?_
  rintro e w' ⟨v, rfl, ⟨cv, rfl, ⟨U, UA, uc, S, SA, sc, rfl, hR⟩, _, _⟩, hx⟩
  have h1 := kn_A14.1
  have h2 := kn_A14.2
  have hS := hR.hS
  have hr := hR.srvs
  rw [h1] at hS
  obtain ⟨x, rfl⟩ : ∃ x, S = [x] := by
    cases S with
    | nil => cases hS
    | cons x r => cases r with
      | nil => exact ⟨x, rfl⟩
      | cons y r => simp at hS
  have hx1 : x.1.dflt = true := by
    simp only [List.map_cons, List.map_nil, List.cons.injEq, and_true] at hS
    rw [hS]
  refine ⟨hx, ?_⟩
  rcases hr with hr | ⟨g, f, rfl, hc⟩
  · simp [srV] at hr
  · refine ⟨UA, uc, sc, g, f, ?_, ?_⟩
    · have := hc 1 (.bool x.1.dflt) (by simp [srV])
      rw [hx1] at this
      exact this
    · rw [show (parseC knA14).2.1 = 0 from by rw [h2], show (parseC knA14).2.2 = 0 from by rw [h2], h1]
      rfl
theorem cParse_B (w : World) (hE : ErrR w) : Calls Tryz.prog 9 #[.string (str knB14)] w
    fun e w' => Ext w w' ∧ ∃ (k1 k2 k3 k4 : Int) (A B : Option Addr) (n c m d : Nat), e = .returned (.tuple #[.agg #[.int .i64 k1, .int .i64 k2, .int .i64 k3, .int .i64 k4, .slice A n c, .slice B m d], .int .i64 2, .int .i64 60]) := by
  refine (cParse_c knB14 (by decide) w hE).mono ?_
  rintro e w' ⟨v, rfl, ⟨cv, rfl, ⟨U, UA, uc, S, SA, sc, rfl, hR⟩, _, _⟩, hx⟩
  have h2 := kn_B14
  refine ⟨hx, (parseC knB14).1.keep, (parseC knB14).1.body, (parseC knB14).1.store, (parseC knB14).1.conns, UA, SA, (parseC knB14).1.ups.length, uc, (parseC knB14).1.srvs.length, sc, ?_⟩
  rw [show (parseC knB14).2.1 = 2 from by rw [h2], show (parseC knB14).2.2 = 60 from by rw [h2]]
  rfl
set_option maxRecDepth 100000 in
set_option maxHeartbeats 2000000 in
theorem knows14_c (w : World) (hE : ErrR w) : Calls Tryz.prog 14 #[] w (Gives (.bool true) w) := by
  have CA := Lib.hid (cParse_A w hE)
  have CB := Lib.hid (fun w' (hx : Ext w w') => cParse_B w' (hE.ext hx))
  rw [show str knA14 = ⟨#[115, 101, 114, 118, 101, 114, 32, 123, 32, 100, 101, 102, 97, 117, 108, 116, 59, 32, 108, 111, 99, 97, 116, 105, 111, 110, 32, 47, 32, 123, 32, 114, 111, 111, 116, 32, 47, 102, 105, 108, 101, 115, 59, 32, 125, 32, 125]⟩ from rfl] at CA
  rw [show str knB14 = ⟨#[10, 102, 111, 111, 59]⟩ from rfl] at CB
  clear hE
  go_enter Tryz.func14, Tryz.ntmps14
  go_upto_region 2 with (go_at_call 9; refine CA.out.mono ?_; rintro e w1 ⟨hx1, UA, uc, sc, g, f, hc, rfl⟩)
  have b0 := new_at w1 #[.int .i64 75, .int .i64 65536, .int .i64 0, .int .i64 1000, .slice UA 0 uc, .slice (some ⟨g, f, none⟩) 1 sc] 25 0 _ rfl
  have b5 := new_at w1 #[.int .i64 75, .int .i64 65536, .int .i64 0, .int .i64 1000, .slice UA 0 uc, .slice (some ⟨g, f, none⟩) 1 sc] 25 5 _ rfl
  obtain ⟨W2, hW2⟩ : ∃ W, W = w1.alloc (.cells #[.int .i64 75, .int .i64 65536, .int .i64 0, .int .i64 1000, .slice UA 0 uc, .slice (some ⟨g, f, none⟩) 1 sc] 25) := ⟨_, rfl⟩
  have hx2 : Ext w1 W2 := by rw [hW2]; exact (Ext.rfl' _).al _
  have hc2 := (hx2.cell (lt_of_cell hc)).trans hc
  rw [← hW2] at b0 b5 ⊢
  clear hW2 hc
  go_upto_region 3 with (go_at_call 9; refine (CB.out _ (hx1.tr hx2)).mono ?_; rintro e w3 ⟨hx3, k1, k2, k3, k4, A, B, n, c, m, d, rfl⟩)
  obtain ⟨W4, hW4⟩ : ∃ W, W = w3.alloc (.cells #[.int .i64 k1, .int .i64 k2, .int .i64 k3, .int .i64 k4, .slice A n c, .slice B m d] 25) := ⟨_, rfl⟩
  have hx4 : Ext W2 W4 := by rw [hW4]; exact hx3.al _
  have c0 := (hx4.cell (lt_of_cell b0)).trans b0
  have c5 := (hx4.cell (lt_of_cell b5)).trans b5
  have cc := (hx4.cell (lt_of_cell hc2)).trans hc2
  rw [← hW4]
  clear hW4 b0 b5 hc2
  go_wp2_with (go_at_call 13; refine (num14_c _ _).mono ?_; rintro e w5 ⟨rfl, rfl⟩)
  go_ret
  exact ⟨rfl, by (repeat (first | exact Ext.rfl' _ | assumption | refine Ext.dr ?_ | refine Ext.drN ?_ _ | refine Ext.al ?_ _ | refine Ext.st ?_ (by simp) _ | refine Ext.tr ?_ (by assumption)))⟩
end Go.Proofs.YtmnohicojefhfaaGreatDoor
end

/-
A text with remarks at its lines' ends; the statement's walk.
-/
section
namespace Go.Proofs.YtmnohicojefhfaaGreatDoor
open Go.RowKit

theorem catR (l m : List UInt8) (h : l.length + m.length ≤ 140737488355328) (w : World) : (Op.stringOp .add (str l) (str m)).run Tryz.prog w = .ok (.string (str (l ++ m))) w := by
  rw [cat_ok _ _ (by rw [str_size, str_size]; omega)]
  simp
theorem remL_take (l : List UInt8) (i : Nat) (h : i < l.length) : remL (l.take (i + 1)) = remL (l.take i) ++ (if l[i] = 10 then remE ++ [10] else [l[i]]) := by
  rw [List.take_succ_eq_append_getElem h, remL_app, remL_cons]
  simp [remL]
set_option maxRecDepth 100000 in
set_option maxHeartbeats 2000000 in
theorem cRemarked_c (l : List UInt8) (hl : l.length ≤ 6000) (w : World) : Calls Tryz.prog 17 #[.string (str l)] w (Gives (.string (str (remL l))) w) := by
  obtain ⟨s, hs⟩ : ∃ s, s = str l := ⟨_, rfl⟩
  have hsz : s.size = l.length := by rw [hs, str_size]
  have HS := Lib.hid hs
  have HSZ := Lib.hid hsz
  rw [← hs]
  clear hs hsz
  obtain ⟨n, hn⟩ : ∃ n, n = s.size := ⟨_, rfl⟩
  have hnl : n = l.length := by rw [hn]; exact HSZ.out
  have HNL := Lib.hid hnl
  have hn6 : n ≤ 6000 := by omega
  clear hnl
  have HN := Lib.hid hn
  clear hn
  go_enter Tryz.func17, Tryz.ntmps17
  go_wp2
  go_loopw [3, 4] (fun v3 v4 wr => ∃ i : Nat, v3 = .string (str (remL (l.take i))) ∧ v4 = .int .i64 (i : Int) ∧ i ≤ l.length ∧ Ext w wr) (fun _ v4 _ => l.length - (intOf v4).toNat)
  case atStart => exact ⟨0, rfl, rfl, Nat.zero_le _, Ext.rfl' _⟩
  case round =>
    obtain ⟨i, rfl, rfl, hi, hx⟩ := hrel
    by_cases hlt : i < l.length
    · have j0 : (0 : Int) ≤ (i : Int) := by omega
      have hsz := HSZ.out
      have j1 : (i : Int) < (s.size : Int) := by omega
      have j2 : i < s.size := by omega
      have j3 : (i : Int) + 1 ≤ (s.size : Int) := by omega
      have hkk : IntKind.i64.wrap ((i : Int) + 1) = ((i + 1 : Nat) : Int) := by rw [IntKind.wrap_i64]; omega
      obtain ⟨c, hc⟩ : ∃ c, c = l[i] := ⟨_, rfl⟩
      have hget : ∀ h : i < s.size, s[i]'h = c := by
        have hs := HS.out
        subst hs
        intro h
        rw [hc]; rfl
      have hex : s.extract i (i + 1) = str [c] := by
        rw [HS.out, str_extract, List.take_succ_eq_append_getElem hlt, hc]
        congr 1
        rw [List.drop_append]
        simp [Nat.min_eq_left (Nat.le_of_lt hlt)]
      have hT := remL_take l i hlt
      rw [← hc] at hT
      have hlen := remL_len (l.take i)
      rw [List.length_take] at hlen
      have HT := Lib.hid hT
      clear hsz hc hT
      obtain ⟨a, ha⟩ : ∃ a, a = remL (l.take i) := ⟨_, rfl⟩
      rw [← ha] at hlen HT ⊢
      clear ha
      obtain ⟨sa, hsa⟩ : ∃ s, s = str a := ⟨_, rfl⟩
      have hal : a.length ≤ 48000 := by omega
      clear hlen
      by_cases h10 : c = 10
      · subst h10
        obtain ⟨sb, hsb⟩ : ∃ s, s = str (a ++ remE) := ⟨_, rfl⟩
        obtain ⟨sc, hsc⟩ : ∃ s, s = str (a ++ remE ++ [10]) := ⟨_, rfl⟩
        have HF : Hid (Value.string sc = .string (str (remL (l.take (i + 1))))) := Lib.hid (by rw [hsc, HT.out, if_pos rfl, List.append_assoc])
        have cc1 : ∀ w, (Op.stringOp .add sa ⟨#[32, 9, 35, 32, 123, 32, 120]⟩).run Tryz.prog w = .ok (.string sb) w := fun w => by rw [hsa, hsb]; exact catR a remE (by simp [remE]; omega) w
        have cc2 : ∀ w, (Op.stringOp .add sb (str [10])).run Tryz.prog w = .ok (.string sc) w := fun w => by rw [hsb, hsc]; exact catR (a ++ remE) [10] (by simp [remE]; omega) w
        rw [← hsa]
        clear hsa hsb hsc
        obtain ⟨sd, hsd⟩ : ∃ s, s = str [10] := ⟨_, rfl⟩
        rw [← hsd] at hex cc2
        clear hsd
        go_wp2
        go_roundw
        case rel => exact ⟨i + 1, HF.out, rfl, by omega, hx⟩
        case measure => simp [intOf]; omega
      · have h10' : ((c.toNat : Int) == 10) = false := by
          rw [beq_eq_false_iff_ne]; intro e; exact h10 (UInt8.toNat_inj.1 (by show c.toNat = 10; omega))
        obtain ⟨sc, hsc⟩ : ∃ s, s = str (a ++ [c]) := ⟨_, rfl⟩
        have HF : Hid (Value.string sc = .string (str (remL (l.take (i + 1))))) := Lib.hid (by rw [hsc, HT.out, if_neg h10])
        have cc2 : ∀ w, (Op.stringOp .add sa (str [c])).run Tryz.prog w = .ok (.string sc) w := fun w => by rw [hsa, hsc]; exact catR a [c] (by simp; omega) w
        rw [← hsa]
        clear hsa hsc
        obtain ⟨sd, hsd⟩ : ∃ s, s = str [c] := ⟨_, rfl⟩
        rw [← hsd] at hex cc2
        clear hsd h10
        go_wp2
        go_roundw
        case rel => exact ⟨i + 1, HF.out, rfl, by omega, hx⟩
        case measure => simp [intOf]; omega
    · have hsz := HSZ.out
      have j1 : ¬ (i : Int) < (s.size : Int) := by omega
      have HE : Hid (remL (l.take i) = remL l) := Lib.hid (by rw [List.take_of_length_le (by omega)])
      clear hsz
      obtain ⟨sa, hsa⟩ : ∃ s, s = str (remL (l.take i)) := ⟨_, rfl⟩
      rw [← hsa]
      have HSA := Lib.hid hsa
      clear hsa
      go_wp2
      go_ret
      exact ⟨ret_val (show Value.string sa = .string (str (remL l)) from by rw [HSA.out, HE.out]), hx⟩
end Go.Proofs.YtmnohicojefhfaaGreatDoor
end

/-
Remarks and blanks at lines' ends change nothing.
-/
section
namespace Go.Proofs.YtmnohicojefhfaaGreatDoor
open Go.RowKit

set_option maxRecDepth 100000 in
set_option maxHeartbeats 4000000 in
theorem ConfigRemarks_w (l : List UInt8) (hs : l.length ≤ 140737488355328) (w : World) (hE : ErrR w) : Calls Tryz.prog 5 #[.string (str l)] w (Gives (.bool true) w) := by
  have CK := Lib.hid (fun w' (hx : Ext w w') => knows14_c w' (hE.ext hx))
  have HE := Lib.hid hE
  clear hE
  obtain ⟨s, hsl⟩ : ∃ s, s = str l := ⟨_, rfl⟩
  have hsz : s.size = l.length := by rw [hsl, str_size]
  have HS := Lib.hid hsl
  have HSZ := Lib.hid hsz
  rw [← hsl]
  by_cases hl : l.length ≤ 6000
  · have d1 : decide ((6000 : Int) < (s.size : Int)) = false := decide_eq_false (by omega)
    clear hsl hsz
    go_enter Tryz.func5, Tryz.ntmps5
    go_wp2
    go_loopw [3] (fun v3 wr => ∃ i : Nat, v3 = .int .i64 (i : Int) ∧ i ≤ l.length ∧ Ext w wr ∧ Hid (34 ∉ l.take i)) (fun v3 _ => l.length - (intOf v3).toNat)
    case atStart => exact ⟨0, rfl, Nat.zero_le _, Ext.rfl' _, Lib.hid (by simp)⟩
    case round =>
      obtain ⟨i, rfl, hi, hx, HQ⟩ := hrel
      by_cases hlt : i < l.length
      · have j0 : (0 : Int) ≤ (i : Int) := by omega
        have hsz := HSZ.out
        have j1 : (i : Int) < (s.size : Int) := by omega
        have j2 : i < s.size := by omega
        have hkk : IntKind.i64.wrap ((i : Int) + 1) = ((i + 1 : Nat) : Int) := by rw [IntKind.wrap_i64]; omega
        obtain ⟨c, hc⟩ : ∃ c, c = l[i] := ⟨_, rfl⟩
        have hget : ∀ h : i < s.size, s[i]'h = c := by
          have hs := HS.out
          subst hs
          intro h
          rw [hc]; rfl
        have HC := Lib.hid hc
        clear hsz hc
        by_cases h34 : c = 34
        · subst h34
          clear HC
          go_wp2_with (go_at_call 14; refine (CK.out _ hx).mono ?_; rintro e w1 ⟨rfl, hx1⟩)
          go_ret
          exact ⟨rfl, hx.tr hx1⟩
        · have h34' : ((c.toNat : Int) == 34) = false := by
            rw [beq_eq_false_iff_ne]; intro e; exact h34 (UInt8.toNat_inj.1 (by show c.toNat = 34; omega))
          have HQ2 : Hid (34 ∉ l.take (i + 1)) := Lib.hid (by
            rw [List.take_succ_eq_append_getElem hlt, ← HC.out]
            intro h
            rcases List.mem_append.1 h with h | h
            · exact HQ.out h
            · rw [List.mem_singleton] at h; exact h34 h.symm)
          clear h34
          go_wp2
          go_roundw
          case rel => exact ⟨i + 1, rfl, by omega, hx, HQ2⟩
          case measure => simp [intOf]; omega
      · have hsz := HSZ.out
        have j1 : ¬ (i : Int) < (s.size : Int) := by omega
        have hq : 34 ∉ l := by have := HQ.out; rwa [List.take_of_length_le (by omega)] at this
        have hpr := parse_rem l hl hq
        have hrl := remL_len l
        have CP1 := Lib.hid (fun w' (hx : Ext w w') => cParse_c l (by omega) w' (HE.out.ext hx))
        have CP2 := Lib.hid (fun w' (hx : Ext w w') => cParse_c (remL l) (by omega) w' (HE.out.ext hx))
        have CR := Lib.hid (fun w' => cRemarked_c l hl w')
        rw [hpr] at CP2
        rw [← HS.out] at CP1 CR
        obtain ⟨s2, hs2⟩ : ∃ s, s = str (remL l) := ⟨_, rfl⟩
        rw [← hs2] at CP2 CR
        clear hpr hrl hsz hq HQ hs2 hlt
        obtain ⟨r, hr⟩ : ∃ r, r = parseC l := ⟨_, rfl⟩
        rw [← hr] at CP1 CP2
        clear hr
        obtain ⟨c, n, e⟩ := r
        go_upto_region 9 with (go_at_call 9; refine (CP1.out _ hx).mono ?_; rintro e' w1 ⟨v, rfl, ⟨cv, rfl, ⟨U1, UA1, uc1, S1, SA1, sc1, rfl, hR1⟩, hB, hT⟩, hx1⟩; have HR1 := Lib.hid hR1; have HB := Lib.hid hB; clear hR1 hB hT; dsimp only [cfV])
        have a0 := fun j u => new_at w1 #[.int .i64 c.keep, .int .i64 c.body, .int .i64 c.store, .int .i64 c.conns, .slice UA1 c.ups.length uc1, .slice SA1 c.srvs.length sc1] 25 j u
        obtain ⟨W2, hW2⟩ : ∃ W, W = w1.alloc (.cells #[.int .i64 c.keep, .int .i64 c.body, .int .i64 c.store, .int .i64 c.conns, .slice UA1 c.ups.length uc1, .slice SA1 c.srvs.length sc1] 25) := ⟨_, rfl⟩
        have hx2 : Ext w1 W2 := by rw [hW2]; exact (Ext.rfl' _).al _
        have hxw2 : Ext w W2 := (hx.tr hx1).tr hx2
        rw [← hW2] at a0 ⊢
        clear hW2
        have A0 := Lib.hid a0
        clear a0
        go_upto_region 10 with (first
          | (go_at_call 17; refine (CR.out _).mono ?_; rintro e' w3 ⟨rfl, hx3⟩)
          | (go_at_call 9; refine (CP2.out _ (hxw2.tr hx3)).mono ?_; rintro e' w4 ⟨v, rfl, ⟨cv, rfl, ⟨U2, UA2, uc2, S2, SA2, sc2, rfl, hR2⟩, hB, hT⟩, hx4⟩; have HR2 := Lib.hid hR2; clear hR2 hB hT; dsimp only [cfV]))
        have b0 := fun j u => new_at w4 #[.int .i64 c.keep, .int .i64 c.body, .int .i64 c.store, .int .i64 c.conns, .slice UA2 c.ups.length uc2, .slice SA2 c.srvs.length sc2] 25 j u
        obtain ⟨W5, hW5⟩ : ∃ W, W = w4.alloc (.cells #[.int .i64 c.keep, .int .i64 c.body, .int .i64 c.store, .int .i64 c.conns, .slice UA2 c.ups.length uc2, .slice SA2 c.srvs.length sc2] 25) := ⟨_, rfl⟩
        have hx5 : Ext w4 W5 := by rw [hW5]; exact (Ext.rfl' _).al _
        rw [← hW5] at b0 ⊢
        clear hW5
        have hx25 : Ext W2 W5 := (hx3.tr hx4).tr hx5
        have p0 := (hx25.cell (lt_of_cell (A0.out 0 _ rfl))).trans (A0.out 0 _ rfl)
        have p1 := (hx25.cell (lt_of_cell (A0.out 1 _ rfl))).trans (A0.out 1 _ rfl)
        have p2 := (hx25.cell (lt_of_cell (A0.out 2 _ rfl))).trans (A0.out 2 _ rfl)
        have p3 := (hx25.cell (lt_of_cell (A0.out 3 _ rfl))).trans (A0.out 3 _ rfl)
        have p4 := (hx25.cell (lt_of_cell (A0.out 4 _ rfl))).trans (A0.out 4 _ rfl)
        have p5 := (hx25.cell (lt_of_cell (A0.out 5 _ rfl))).trans (A0.out 5 _ rfl)
        have q0 := b0 0 _ rfl
        have q1 := b0 1 _ rfl
        have q2 := b0 2 _ rfl
        have q3 := b0 3 _ rfl
        have q4 := b0 4 _ rfl
        have q5 := b0 5 _ rfl
        have hb := HB.out
        have CSM := Lib.hid (cSame_c c U1 U2 UA1 UA2 uc1 uc2 S1 S2 SA1 SA2 sc1 sc2 W5 (HR1.out.ext (hx2.tr hx25)) (HR2.out.ext hx5) (by have := hb.ups; omega) (by have := hb.srvs; omega) (fun u hu => by have := hb.peers u hu; omega) (fun u hu => by have := hb.names u hu; omega) (fun u hu => by have := hb.locs u hu; omega))
        unfold cfV at CSM
        clear b0 hb

        go_wp2_with (first
          | (go_at_call 11; refine CSM.out.mono ?_; rintro e' w6 ⟨rfl, hx6⟩)
          | (go_at_call 13; refine (num14_c _ _).mono ?_; rintro e' w7 ⟨rfl, rfl⟩)
          | (go_at_call 14; refine (CK.out _ ((hxw2.tr hx25).tr hx6)).mono ?_; rintro e' w8 ⟨rfl, hx8⟩))
        go_ret
        exact ⟨rfl, ((hxw2.tr hx25).tr hx6).tr hx8⟩
  · have d1 : decide ((6000 : Int) < (s.size : Int)) = true := decide_eq_true (by omega)
    clear hsl hsz
    go_enter Tryz.func5, Tryz.ntmps5
    go_wp2_with (go_at_call 14; refine (CK.out _ (Ext.rfl' _)).mono ?_; rintro e w1 ⟨rfl, hx1⟩)
    go_ret
    exact ⟨rfl, hx1⟩
end Go.Proofs.YtmnohicojefhfaaGreatDoor
end
