/-
Whatever comes as a head: the law as a walk.
-/
import Derived.Test.YtppajpchibkneaaDoorHw2
import Derived.Test.YtppajpchibkneaaDoorOPa
import Derived.Test.YtppajpchibkneaaDoorHPx
set_option linter.unusedVariables false
set_option linter.unusedSimpArgs false
/-
Whatever comes as a head: the law as a walk.
-/
section
namespace Go.Proofs.YtppajpchibkneaaDoor
open Go.RowKit

/-- A text without a byte that could end a line, or hide one. -/
def clnL (l : List UInt8) : Prop := ∀ j (h : j < l.length), l[j].toNat ≠ 0 ∧ l[j].toNat ≠ 10 ∧ l[j].toNat ≠ 13 ∧ l[j].toNat ≠ 127
set_option maxRecDepth 100000 in
set_option maxHeartbeats 1000000 in
theorem hCln_c (l : List UInt8) (hl : l.length ≤ maxLen) (hc : clnL l) (w : World) : Calls Tryd.prog 12 #[.string (str l)] w (Gives (.bool true) w) := by
  unfold maxLen at hl
  have HC := Lib.hid hc
  clear hc
  go_enter Tryd.func12, Tryd.ntmps12
  go_wp2
  go_loopw [3] (fun i wr => ∃ k : Nat, i = .int .i64 (k : Int) ∧ k ≤ l.length ∧ Ext w wr) (fun i _ => l.length - (intOf i).toNat)
  case atStart => exact ⟨0, rfl, Nat.zero_le _, Ext.rfl' _⟩
  case round =>
    obtain ⟨k, rfl, hk, hx⟩ := hrel
    by_cases hlt : k < l.length
    · obtain ⟨h0, h1, h2, h3⟩ := HC.out k hlt
      have hk0 : (0 : Int) ≤ (k : Int) := by omega
      have hk1 : (k : Int) < (l.length : Int) := by omega
      obtain ⟨b, hb⟩ : ∃ b, b = l[k].toNat := ⟨_, rfl⟩
      have HB := Lib.hid hb
      rw [← hb] at h0 h1 h2 h3
      have d0 : ((b : Int) == 0) = false := by rw [beq_eq_false_iff_ne]; omega
      have d1 : ((b : Int) == 10) = false := by rw [beq_eq_false_iff_ne]; omega
      have d2 : ((b : Int) == 13) = false := by rw [beq_eq_false_iff_ne]; omega
      have d3 : ((b : Int) == 127) = false := by rw [beq_eq_false_iff_ne]; omega
      have hg := hb.symm
      clear h0 h1 h2 h3 hb
      go_wp2
      go_roundw
      case rel => exact ⟨k + 1, by go_num, by omega, hx⟩
      case measure => simp [intOf]; omega
    · have hkl : k = l.length := by omega
      have hk1 : ¬ (k : Int) < (l.length : Int) := by omega
      clear hkl
      go_wp2
      go_ret
      exact ⟨rfl, hx⟩
theorem cln_val {l : List UInt8} (h : vlL l = true) : clnL l := by
  unfold vlL at h
  rw [Bool.and_eq_true, List.all_eq_true] at h
  intro j hj
  have := h.1 l[j] (List.getElem_mem hj)
  unfold valB at this
  simp at this
  omega
theorem cln_tg {l : List UInt8} (h : tgH l = true) : clnL l ∧ l ≠ [] := by
  unfold tgH at h
  rw [Bool.and_eq_true, List.all_eq_true] at h
  refine ⟨fun j hj => ?_, by simpa using h.2⟩
  have := h.1 l[j] (List.getElem_mem hj)
  unfold tgB at this
  simp at this
  omega
set_option maxRecDepth 100000 in
/-- A part of bytes: its value and what it reads as. -/
theorem cut_partH (b : List UInt8) (B : Option Addr) (n c X Y : Nat) (w : World) (hR : Rd w B (bc b)) (hX : X ≤ Y) (hY : Y ≤ b.length) (hc : b.length ≤ c) :
    ∃ B', (∀ w', (Instr.slice 22 (.slice B n c) (some (.int .i64 (X : Int))) (some (.int .i64 (Y : Int))) none).run Tryd.prog w' = .ok (.slice B' (Y - X) (c - X)) w') ∧ Rd w B' (bc ((b.take Y).drop X)) ∧ (∀ a', B' = some a' → ∃ a, B = some a ∧ a.block = a'.block) := by
  have hl : ((b.take Y).drop X).length = Y - X := by rw [List.length_drop, List.length_take]; omega
  have hz : ∀ w', (Go.sizeOf 5).run Tryd.prog w' = .ok 1 w' := fun _ => rfl
  have hu := Tryd.underlying22
  refine ⟨if c = X then B else B.map (·.add (X * 1)), fun w' => ?_, ?_, ?_⟩
  · have h1 : (0 : Int) ≤ (Y : Int) := by omega
    have h2 : (Y : Int) ≤ (c : Int) := by omega
    have h3 : (0 : Int) ≤ (X : Int) := by omega
    have h4 : (X : Int) ≤ (Y : Int) := by omega
    simp [Instr.slice, Instr.sliceBounds, Instr.sliceBound, asIntOf, run_underlying hu, go_sem, h1, h2, h3, h4, hz, hX, (show Y ≤ c by omega)]
  · by_cases h0 : X = Y
    · have h5 : (b.take Y).drop X = [] := List.eq_nil_of_length_eq_zero (by rw [hl]; omega)
      exact .inl (by rw [h5]; rfl)
    · rw [if_neg (by omega)]
      obtain ⟨g, f, rfl, hg, hcc⟩ := hR.at_ (by rw [bc_len]; omega)
      refine .inr ⟨g, f + X * 1, by simp [Addr.add], fun j u hu => ?_⟩
      have hj : j < Y - X := by have := (List.getElem?_eq_some_iff.1 hu).1; rw [bc_len, hl] at this; exact this
      rw [Nat.mul_one, Nat.add_assoc]
      refine hcc (X + j) u ?_
      rw [← hu, ← bc_drop, ← bc_take, List.getElem?_drop, List.getElem?_take_of_lt (by omega)]
  · intro a' ha
    split at ha
    · exact ⟨a', ha, rfl⟩
    · cases B with
      | none => cases ha
      | some a => cases ha; exact ⟨a, rfl, by cases a; simp only [Addr.add]; split <;> rfl⟩
end Go.Proofs.YtppajpchibkneaaDoor
end

/-
Whatever comes as a head: the law as a walk.
-/
section
namespace Go.Proofs.YtppajpchibkneaaDoor
open Go.RowKit

set_option maxRecDepth 100000 in
set_option maxHeartbeats 8000000 in
theorem HeadClean_w (w : World) (hM : Mx w) (hE : ErrR w) (b : List UInt8) (B : Option Addr) (n d : Nat) (hn : n = b.length) (hb : n ≤ 4611686018427387904) (hd : n ≤ d) (hB : Rd w B (bc b)) : Calls Tryd.prog 3 #[.slice B n d] w (Gives (.bool true) w) := by
  have G0 := Lib.hid (show Gl w (fun _ => 0) from ⟨hM, hE, rfl, rfl⟩)
  have HM := Lib.hid hM
  have HER := Lib.hid hE
  have HB := Lib.hid hB
  have HN := Lib.hid hn
  have V := Lib.hid (fun (s : Pst) => (show feedV (feedP s b) = .tuple #[.int .i64 ((feedP s b).2.1 : Int), .bool (feedP s b).2.2.1, .int .i64 (feedP s b).2.2.2] from rfl))
  have CLN := feed_clean b
  obtain ⟨⟨z, u, dn, e⟩, hz⟩ : ∃ r, r = feedP (newP false) b := ⟨_, rfl⟩
  rw [← hz] at CLN
  have HZ := Lib.hid hz
  clear hM hE hB hz hn
  dsimp only at CLN
  have CF := Lib.hid (fun P (w' : World) (o : Ow) (hp : PsAt w' o 1 P (newP false)) (hx : Ext w w') (ho : ∀ x, x < w.heap.size → o x = 0) => hFeed_c 1 P (by decide) (newP false) (.inr (.inr (newP_ok false))) b B n d HN.out hb w' o hp (G0.out.stp (K := fun _ => False) (Stp.ext2 hx ho) (fun x => x)) (HB.out.ext hx) (by
    intro hne a ha hlt
    have hlt2 : a.block < w.heap.size := by
      obtain ⟨g, f, hB2, hg, _⟩ := HB.out.at_ (by rw [bc_len]; exact List.length_pos_iff.2 hne)
      rw [hB2] at ha
      cases ha
      exact hg
    rw [ho _ hlt2]
    unfold KP; omega))
  cases dn with
  | false =>
    clear CLN
    go_enter Tryd.func3, Tryd.ntmps3
    go_wp2_with (first
      | (go_at_call 7; refine (hNewParser_c 1 false _ (fun _ => 0)).mono ?_; rintro e w1 ⟨v, o1, rfl, ⟨P, rfl, hp1, hP1⟩, st1⟩; have x1 := st1.noExt)
      | (go_at_call 8; refine (knows11_c _ (HM.out.ext x1) (HER.out.ext x1)).mono ?_; rintro e w2 ⟨rfl, x2⟩)
      | (go_at_call 9; have C := CF.out P w2 o1 (hp1.ext x2) (x1.tr x2) (fun x hx => st1.own x hx); rw [V.out, ← HZ.out] at C; refine C.mono ?_; clear C; rintro e w3 ⟨v, o3, rfl, ⟨rfl, hp3⟩, st3⟩))
    go_ret
    have st5 : Stp (KP 1) w (fun _ => 0) w3 o3 := ((st1.mono fun _ h => h.elim).tr (Stp.ext x2)).tr st3
    exact ⟨rfl, st5.toExt (fun _ _ => by unfold KP; omega)⟩
  | true =>
    obtain ⟨⟨hends, htok, htg, hlm, hlt, hfl⟩, hle, hdone⟩ := CLN rfl
    clear CLN
    obtain ⟨hrp, hf⟩ := feed_rf b (newP false) (Nat.zero_le _)
    rw [← HZ.out] at hrp hf
    dsimp only at hrp hf
    have HAZ := Lib.hid (show askP z = (z.meth, z.targ, z.minor, z.fields) from by unfold askP; rw [if_pos (by rw [hdone, hrp]; rfl)])
    have CT0 := Lib.hid (fun w => (by have := Token_h z.meth (by unfold maxLen; omega) w; rw [htok] at this; exact this : Calls Tryd.prog 11 #[.string (str z.meth)] w (Gives (.bool true) w)))
    have CC0 := Lib.hid (fun w => hCln_c z.targ (by unfold maxLen; omega) (cln_tg htg).1 w)
    have hne0 := (cln_tg htg).2
    obtain ⟨vv, hvv⟩ := hends
    obtain ⟨h4, htail⟩ := tail_four hvv (by rw [← HN.out] at hle ⊢; exact hle)
    obtain ⟨me, hme⟩ : ∃ q, q = str z.meth := ⟨_, rfl⟩
    obtain ⟨ta, hta⟩ : ∃ q, q = str z.targ := ⟨_, rfl⟩
    obtain ⟨mi, hmi⟩ : ∃ q, q = z.minor := ⟨_, rfl⟩
    obtain ⟨fs, hfs⟩ : ∃ q, q = z.fields := ⟨_, rfl⟩
    have hta0 : ta.toList.isEmpty = false := by rw [hta, Lib.toList_data, List.isEmpty_eq_false_iff]; exact hne0
    have CA := Lib.hid (fun P w o h => (by have := hAsk_c 1 P z (by omega) w o h; rw [HAZ.out] at this; exact this : Calls Tryd.prog 10 #[.pointer (some ⟨P, 0, none⟩)] w (Ret (IsRq (z.meth, z.targ, z.minor, z.fields)) w)))
    rw [← hme] at CT0
    rw [← hta] at CC0
    rw [← hfs] at hfl hf
    rw [← hmi, ← hfs] at CA
    have HFL := Lib.hid hfl
    have HTA := Lib.hid hta
    have HME := Lib.hid hme
    clear hfl hvv hdone hrp htok htg hlm hlt hme hta hmi hfs hne0
    go_enter Tryd.func3, Tryd.ntmps3
    go_wp2_with (first
      | (go_at_call 7; refine (hNewParser_c 1 false _ (fun _ => 0)).mono ?_; rintro e w1 ⟨v, o1, rfl, ⟨P, rfl, hp1, hP1⟩, st1⟩; have x1 := st1.noExt)
      | (go_at_call 8; refine (knows11_c _ (HM.out.ext x1) (HER.out.ext x1)).mono ?_; rintro e w2 ⟨rfl, x2⟩)
      | (go_at_call 9; have C := CF.out P w2 o1 (hp1.ext x2) (x1.tr x2) (fun x hx => st1.own x hx); rw [V.out, ← HZ.out] at C; refine C.mono ?_; clear C; rintro e w3 ⟨v, o3, rfl, ⟨rfl, hp3⟩, st3⟩)
      | (go_at_call 10; refine (CA.out P w3 o3 hp3).mono ?_; rintro e w4 ⟨v, rfl, ⟨A4, c4, rfl, hr4⟩, x4⟩; dsimp only at hr4; rw [← HME.out, ← HTA.out]))
    have st5 : Stp (KP 1) w (fun _ => 0) w3 o3 := ((st1.mono fun _ h => h.elim).tr (Stp.ext x2)).tr st3
    have x3 : Ext w w3 := st5.toExt (fun _ _ => by unfold KP; omega)
    obtain ⟨R, hR⟩ : ∃ R, R = w4.heap.size := ⟨_, rfl⟩
    have hb5 := heap_alloc_new w4 (.cells #[.string me, .string ta, .int .i64 mi, .slice A4 fs.length c4] 31)
    obtain ⟨W5, hW5⟩ : ∃ W, W = w4.alloc (.cells #[.string me, .string ta, .int .i64 mi, .slice A4 fs.length c4] 31) := ⟨_, rfl⟩
    have x5 : Ext w4 W5 := by rw [hW5]; exact (Ext.rfl' w4).al _
    rw [← hR, ← hW5] at hb5
    rw [← hR, ← hW5]
    have X5 := Lib.hid ((x3.tr x4).tr x5)
    have HC5 := Lib.hid (fun w' (x : Ext W5 w') => (show w'.cell? ⟨R, 0, none⟩ = some (.string me) ∧ w'.cell? ⟨R, 1, none⟩ = some (.string ta) ∧ w'.cell? ⟨R, 3, none⟩ = some (.slice A4 fs.length c4) from by
      have hb := (x.block R (row_lt hb5)).trans hb5
      exact ⟨(row_facts hb 0 _ rfl).1, (row_facts hb 1 _ rfl).1, (row_facts hb 3 _ rfl).1⟩))
    have HR4 := Lib.hid (hr4.ext x5)
    clear st5 x3 hW5 hb5 hr4 st1 st3 x1 x2 x4 x5 hp1 hp3 hR
    go_loopw [8] (fun i wr => ∃ j : Nat, i = .int .i64 (j : Int) ∧ j ≤ fs.length ∧ Ext W5 wr) (fun i _ => fs.length - (intOf i).toNat)
    case atStart => exact ⟨0, rfl, Nat.zero_le _, Ext.rfl' _⟩
    case round =>
      obtain ⟨j, rfl, hj, hx⟩ := hrel
      obtain ⟨r0, r1, r3⟩ := HC5.out wr hx
      by_cases hlt : j < fs.length
      · obtain ⟨g, f, rfl, hg, hS⟩ := HR4.out.fld hlt
        obtain ⟨a0, a1⟩ := hS.out wr hx
        obtain ⟨q1, q2, q3, q4, q5⟩ := HFL.out _ (List.getElem_mem hlt)
        obtain ⟨⟨x, y⟩, hxy⟩ : ∃ p, p = fs[j] := ⟨_, rfl⟩
        rw [← hxy] at a0 a1 q1 q2 q3 q4 q5
        dsimp only at a0 a1 q1 q2 q3 q4 q5
        have CT := Lib.hid (fun w => (by have := Token_h x (by unfold maxLen; omega) w; rw [q1] at this; exact this : Calls Tryd.prog 11 #[.string (str x)] w (Gives (.bool true) w)))
        have CC := Lib.hid (fun w => hCln_c y (by unfold maxLen; omega) (cln_val q2) w)
        have CR := Lib.hid (fun w => (by have := Trim_c y (by unfold maxLen; omega) w; rw [q3] at this; exact this : Calls Tryd.prog 13 #[.string (str y)] w (Gives (.string (str y)) w)))
        have hj0 : (0 : Int) ≤ (j : Int) := by omega
        have hj1 : (j : Int) < (fs.length : Int) := by omega
        have hks := Lib.hid (fun w' (e : Ext (wr.alloc (.cells #[.string (str x), .string (str y)] 34)) w') => (show w'.cell? ⟨wr.heap.size, 0, none⟩ = some (.string (str x)) ∧ w'.cell? ⟨wr.heap.size, 1, none⟩ = some (.string (str y)) from ⟨e.new 0 _ rfl, e.new 1 _ rfl⟩))
        clear hxy q1 q2 q3 q4 q5 hS hg
        go_wp2
        go_region_held3 (fun w' => w'.cell? ⟨wr.heap.size, 0, none⟩ = some (.string (str x)) ∧ w'.cell? ⟨wr.heap.size, 1, none⟩ = some (.string (str y))) (exact hks.out _ (by (repeat (first | exact Ext.rfl' _ | assumption | refine Ext.dr ?_ | refine Ext.drN ?_ _ | refine Ext.al ?_ _ | refine Ext.st ?_ (by simp) _ | refine Ext.tr ?_ (by assumption))))) (first
          | (go_at_call 11; refine (CT.out _).mono ?_; rintro e w6 ⟨rfl, x6⟩)
          | (go_at_call 12; refine (CC.out _).mono ?_; rintro e w7 ⟨rfl, x7⟩)
          | (go_at_call 13; refine (CR.out _).mono ?_; rintro e w8 ⟨rfl, x8⟩))
        all_goals go_wp2
        all_goals go_roundw
        case rel => exact ⟨j + 1, by go_num, by omega, hx.tr (by (repeat (first | exact Ext.rfl' _ | assumption | refine Ext.dr ?_ | refine Ext.drN ?_ _ | refine Ext.al ?_ _ | refine Ext.st ?_ (by simp) _ | refine Ext.tr ?_ (by assumption))))⟩
        case measure => simp [intOf]; omega
      · have hj1 : ¬ (j : Int) < (fs.length : Int) := by omega
        have HB9 := Lib.hid (fun w' (x : Ext wr w') => HB.out.ext ((X5.out.tr hx).tr x))
        obtain ⟨B', hcut, hrd, _⟩ := cut_partH b B n d (u - 4) u wr (HB9.out wr (Ext.rfl' wr)) (by omega) hle (by have := HN.out; omega)
        rw [show u - (u - 4) = 4 by omega] at hcut
        have htk : (b.take u).drop (u - 4) = [13, 10, 13, 10] := by rw [← htail, List.drop_take]; congr 1; omega
        rw [htk] at hrd
        obtain ⟨s4, hs4⟩ : ∃ q, q = str [13, 10, 13, 10] := ⟨_, rfl⟩
        obtain ⟨cc, hcc⟩ : ∃ q, q = d - (u - 4) := ⟨_, rfl⟩
        rw [← hcc] at hcut
        have K1 : ∀ w, (Op.stringOp .add ⟨#[13, 10]⟩ ⟨#[13, 10]⟩).run Tryd.prog w = .ok (.string s4) w := fun w => by rw [hs4]; exact cat_ok _ _ (by decide) w
        have hks := Lib.hid (fun w' (x : Ext wr w') => (show w'.cell? ⟨R, 0, none⟩ = some (.string me) ∧ w'.cell? ⟨R, 1, none⟩ = some (.string ta) ∧ (convert 22 9 (.slice B' 4 cc)).run Tryd.prog w' = .ok (.string s4) w' from by
          obtain ⟨y0, y1, _⟩ := HC5.out w' (hx.tr x)
          refine ⟨y0, y1, ?_⟩
          rw [hs4]
          exact conv_bs 22 9 5 Tryd.underlying22 Tryd.underlying5 Tryd.underlying9 (hrd.ext x) 4 cc rfl))
        have su : IntKind.i64.wrap ((u : Int) - 4) = ((u - 4 : Nat) : Int) := by have := HN.out; rw [IntKind.wrap_i64]; omega
        have k4 : (4 : Int) ≤ (u : Int) := by omega
        have k5 : (u : Int) ≤ (n : Int) := by have := HN.out; omega
        obtain ⟨u4, hu4⟩ : ∃ q, q = u - 4 := ⟨_, rfl⟩
        rw [← hu4] at su hcut
        obtain ⟨v0, v1, v2⟩ := hks.out wr (Ext.rfl' wr)
        clear htk hs4 hcc hrd hu4 htail hle h4 hlt hj
        go_wp2
        go_region_held3 (fun w' => w'.cell? ⟨R, 0, none⟩ = some (.string me) ∧ w'.cell? ⟨R, 1, none⟩ = some (.string ta) ∧ (convert 22 9 (.slice B' 4 cc)).run Tryd.prog w' = .ok (.string s4) w') (exact hks.out _ (by (repeat (first | exact Ext.rfl' _ | assumption | refine Ext.dr ?_ | refine Ext.drN ?_ _ | refine Ext.al ?_ _ | refine Ext.st ?_ (by simp) _ | refine Ext.tr ?_ (by assumption))))) (first
          | (go_at_call 14; refine (hEnd_c _).mono ?_; rintro e w6 ⟨rfl, x6⟩)
          | (go_at_call 11; refine (CT0.out _).mono ?_; rintro e w7 ⟨rfl, x7⟩)
          | (go_at_call 12; refine (CC0.out _).mono ?_; rintro e w8 ⟨rfl, x8⟩))
        all_goals go_wp2
        all_goals (
          go_ret
          exact ⟨rfl, X5.out.tr (hx.tr (Ext.tr (Ext.tr (by (repeat (first | exact Ext.rfl' _ | assumption | refine Ext.dr ?_ | refine Ext.drN ?_ _ | refine Ext.al ?_ _ | refine Ext.st ?_ (by simp) _ | refine Ext.tr ?_ (by assumption)))) x7) x8))⟩)
end Go.Proofs.YtppajpchibkneaaDoor
end
