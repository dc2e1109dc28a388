/-
In whatever pieces a head comes: plain laws.
-/
import Derived.Test.YtppajpchibkneaaDoorHw3
import Derived.Test.YtppajpchibkneaaDoorHPx
set_option linter.unusedVariables false
set_option linter.unusedSimpArgs false
/-
In whatever pieces a head comes: plain laws.
-/
section
namespace Go.Proofs.YtppajpchibkneaaDoor
open Go.RowKit

theorem feed_le (s : Pst) (l : List UInt8) : (feedP s l).2.1 ≤ l.length := by
  unfold feedP
  split
  · exact Nat.zero_le _
  · exact run_le l s
theorem run_ok : ∀ (l : List UInt8) (s : Pst), Pok s → (runP s l).2.2 = 0 → (runP s l).1.done = false → Pok (runP s l).1
  | [], s, h, _, _ => h
  | c :: l, s, h, h0, h1 => by
    rw [run_cons] at h0 h1 ⊢
    by_cases k1 : (takeP s c).2 ≠ 0
    · rw [if_pos k1] at h0; exact absurd h0 k1
    · rw [if_neg k1] at h0 h1 ⊢
      by_cases k2 : (takeP s c).1.done = true
      · rw [if_pos k2] at h1; exact absurd (k2.symm.trans h1) (by decide)
      · rw [if_neg k2] at h0 h1 ⊢
        exact run_ok l _ (take_ok h (by simpa using k1) (by simpa using k2)) h0 h1
theorem feed_go (s : Pst) (l : List UInt8) (h : Pgo s) : Pgo (feedP s l).1 := by
  unfold feedP
  split
  · exact h
  · rename_i hc
    dsimp only
    rcases h with h | h | h
    · exact absurd (.inl h) hc
    · exact absurd (.inr h) hc
    · by_cases h0 : (runP s l).2.2 = 0
      · rw [h0, pst_e ((run_e l s).trans h.e0)]
        by_cases h1 : (runP s l).1.done = true
        · exact .inl h1
        · exact .inr (.inr (run_ok l s h h0 (by simpa using h1)))
      · exact .inr (.inl h0)
theorem pc_le {s0 : Pst} {b : List UInt8} {m n : Nat} {s : Pst} {d : Bool} {e : Int} (h : PcAt s0 b m s n d e) : n ≤ b.length := by
  have h1 := feed_le s0 (b.take m)
  rw [← h.n_, List.length_take] at h1
  have := h.le
  omega
/-- How far the next piece goes. -/
def cutT (n m : Nat) (ct : Int) : Nat := min n (m + (ct % ((n : Int) + 1)).toNat)
theorem cutT_ok (n m : Nat) (ct : Int) (_hc : 0 ≤ ct) (hm : m ≤ n) : m ≤ cutT n m ct ∧ cutT n m ct ≤ n ∧ 0 ≤ ct % ((n : Int) + 1) ∧ ct % ((n : Int) + 1) ≤ (n : Int) ∧ min (n : Int) ((m : Int) + ct % ((n : Int) + 1)) = (cutT n m ct : Int) := by
  have h1 : 0 ≤ ct % ((n : Int) + 1) := Int.emod_nonneg _ (by omega)
  have h2 : ct % ((n : Int) + 1) < (n : Int) + 1 := Int.emod_lt_of_pos ct (by omega)
  unfold cutT
  refine ⟨by omega, by omega, h1, by omega, ?_⟩
  omega
end Go.Proofs.YtppajpchibkneaaDoor
end

/-
In whatever pieces a head comes: the law as a walk.
-/
section
namespace Go.Proofs.YtppajpchibkneaaDoor
open Go.RowKit

theorem own_old {K : Nat → Prop} {w0 w w' : World} {o o' : Ow} (h : ∀ x, x < w0.heap.size → o x = 0) (s : Stp K w o w' o') (hz : w0.heap.size ≤ w.heap.size) : ∀ x, x < w0.heap.size → o' x = 0 := fun x hx => (s.own x (by omega)).trans (h x hx)
theorem ext_old {K : Nat → Prop} {w0 w w' : World} {o o' : Ow} (x : Ext w0 w) (h : ∀ x, x < w0.heap.size → o x = 0) (s : Stp K w o w' o') (hk : ¬ K 0) : Ext w0 w' :=
  ⟨s.os.trans x.os, s.tape.trans x.tape, s.output.trans x.output, Nat.le_trans x.size s.size, fun b hb => (s.keep b (by have := x.size; omega) (by rw [h b hb]; exact hk)).trans (x.block b hb)⟩
theorem int_at {w : World} {C : Option Addr} {cs : List Int} (h : Rd w C (cs.map (Value.int .i64))) {t : Nat} (ht : t < cs.length) : ∃ g f, C = some ⟨g, f, none⟩ ∧ w.cell? ⟨g, f + t, none⟩ = some (.int .i64 cs[t]) := by
  obtain ⟨g, f, hC, _, hc⟩ := h.at_ (by rw [List.length_map]; omega)
  exact ⟨g, f, hC, hc t _ (by simp [ht])⟩
set_option maxRecDepth 100000 in
set_option maxHeartbeats 8000000 in
theorem HeadPieces_w (w : World) (hM : Mx w) (hE : ErrR w) (rp : Bool) (b : List UInt8) (B : Option Addr) (n d : Nat) (hn : n = b.length) (hb : n ≤ 4611686018427387903) (hd : n ≤ d) (hB : Rd w B (bc b)) (cs : List Int) (C : Option Addr) (m q : Nat) (hm : m = cs.length) (hmb : m ≤ 4611686018427387903) (hcs : ∀ c ∈ cs, -9223372036854775808 ≤ c ∧ c ≤ 9223372036854775807) (hC : Rd w C (cs.map (Value.int .i64))) :
    Calls Tryd.prog 5 #[.bool rp, .slice B n d, .slice C m q] w (Gives (.bool true) w) := by
  have G0 := Lib.hid (show Gl w (fun _ => 0) from ⟨hM, hE, rfl, rfl⟩)
  have HM := Lib.hid hM
  have HER := Lib.hid hE
  have HB := Lib.hid hB
  have HN := Lib.hid hn
  have HCC := Lib.hid hC
  have HCS := Lib.hid hcs
  have HMM := Lib.hid hm
  have HBW := Lib.hid (show ∀ l : List UInt8, ∀ A : Option Addr, l ≠ [] → (∀ a', A = some a' → ∃ a, B = some a ∧ a.block = a'.block) → b ≠ [] → ∀ a, A = some a → a.block < w.heap.size from fun l A _ h hne a ha => by
    obtain ⟨g, f, hB2, hg, _⟩ := HB.out.at_ (by rw [bc_len]; exact List.length_pos_iff.2 hne)
    obtain ⟨a0, h0, h1⟩ := h a ha
    rw [hB2] at h0
    cases h0
    rw [← h1]; exact hg)
  have CF := Lib.hid (fun k (hk : 0 < k) P (s : Pst) (hs : Pgo s) (l : List UInt8) (A : Option Addr) (n d : Nat) (hn : n = l.length) (hln : n ≤ 4611686018427387904) (w' : World) (o : Ow) (hp : PsAt w' o k P s) (hx : Ext w w') (ho : ∀ x, x < w.heap.size → o x = 0) (hA : Rd w' A (bc l)) (hbl : l ≠ [] → ∀ a, A = some a → a.block < w.heap.size) => hFeed_c k P hk s hs l A n d hn hln w' o hp (G0.out.stp (K := fun _ => False) (Stp.ext2 hx ho) (fun x => x)) hA (by
    intro hne a ha hlt
    rw [ho _ (hbl hne a ha)]
    unfold KP; omega))
  obtain ⟨s0, hs0⟩ : ∃ s, s = newP rp := ⟨_, rfl⟩
  have hok0 : Pok s0 := by rw [hs0]; exact newP_ok rp
  have D0 := Lib.hid hok0.d0
  have E0 := Lib.hid hok0.e0
  have GO0 := Lib.hid (show Pgo s0 from .inr (.inr hok0))
  have HF0 := Lib.hid (show s0.fields.length ≤ 100 from hok0.fl)
  obtain ⟨⟨z, u, dn, e0⟩, hz⟩ : ∃ r, r = feedP s0 b := ⟨_, rfl⟩
  have HZ := Lib.hid hz
  have V := Lib.hid (fun (s : Pst) (l : List UInt8) (r : Pst × Nat × Bool × Int) (h : r = feedP s l) => (show feedV (feedP s l) = .tuple #[.int .i64 (r.2.1 : Int), .bool r.2.2.1, .int .i64 r.2.2.2] from by rw [h]; rfl))
  have CN := Lib.hid (fun k w o => (by have := hNewParser_c k rp w o; rw [← hs0] at this; exact this : Calls Tryd.prog 7 #[.bool rp] w (Turns (fun _ => False) w o fun v w' o' => ∃ p, v = .pointer (some ⟨p, 0, none⟩) ∧ PsAt w' o' k p s0 ∧ w.heap.size ≤ p)))
  clear hM hE hB hz hn hC hcs hm hs0 hok0
  go_enter Tryd.func5, Tryd.ntmps5
  go_wp2_with (first
    | (go_at_call 7; refine (CN.out 5 w1 o1).mono ?_; rintro e w2 ⟨v, o2, rfl, ⟨Q, rfl, hq2, hQ2⟩, st2⟩; have x2 := x1.tr st2.noExt; have own2 := own_old own1 st2 x1.size)
    | (go_at_call 7; refine (CN.out 1 w (fun _ => 0)).mono ?_; rintro e w1 ⟨v, o1, rfl, ⟨P, rfl, hp1, hP1⟩, st1⟩; have x1 := st1.noExt; have own1 := own_old (w0 := w) (fun _ _ => rfl) st1 (Nat.le_refl _))
    | (go_at_call 8; refine (knows11_c _ (HM.out.ext x2) (HER.out.ext x2)).mono ?_; rintro e w3 ⟨rfl, x3⟩)
    | (go_at_call 9; have C := CF.out 1 (by decide) P s0 GO0.out b B n d HN.out (by omega) w3 o2 ((hp1.stp st2 (fun x => x) (fun x => x) (fun x => x)).ext x3) (x2.tr x3) own2 (HB.out.ext (x2.tr x3)) (HBW.out [0] B (by decide) (fun a h => ⟨a, h, rfl⟩)); rw [V.out s0 b _ HZ.out, ← HZ.out] at C; refine C.mono ?_; clear C; rintro e w4 ⟨v, o4, rfl, ⟨rfl, hp4⟩, st4⟩))
  have st0 : Stp (KP 1) w (fun _ => 0) w4 o4 := (((st1.mono fun _ h => h.elim).tr (st2.mono fun _ h => h.elim)).tr (Stp.ext x3)).tr st4
  have x4 : Ext w w4 := st0.toExt (fun _ _ => by unfold KP; omega)
  have own4 := own_old own2 st4 ((x2.tr x3).size)
  have hq4 : PsAt w4 o4 5 Q s0 := (hq2.ext x3).stp st4 (by unfold KP; omega) (by unfold KP; omega) (by unfold KP; omega)
  have HP4 := Lib.hid hp4
  have HO4 := Lib.hid own4
  have HX4 := Lib.hid x4
  have HQ4 := Lib.hid hq4
  clear st0 st1 st2 st4 x1 x2 x3 x4 own1 own2 own4 hp1 hq2 hp4 hq4
  go_loopw [12, 13, 14, 15, 16] (fun vn vm vd ve vi wr => ∃ (N M t : Nat) (dd : Bool) (ee : Int) (s : Pst) (o' : Ow), vn = .int .i64 (N : Int) ∧ vm = .int .i64 (M : Int) ∧ vd = .bool dd ∧ ve = .int .i64 ee ∧ vi = .int .i64 (t : Int) ∧ t ≤ m + 1 ∧ (t = m + 1 → M = n) ∧ PcAt s0 b M s N dd ee ∧ Pgo s ∧ PsAt wr o' 5 Q s ∧ Stp (KP 5) w4 o4 wr o') (fun _ _ _ _ vi _ => m + 1 - (intOf vi).toNat)
  case atStart => exact ⟨0, 0, 0, false, 0, s0, o4, rfl, rfl, rfl, rfl, rfl, Nat.zero_le _, fun h => by omega, pc_zero s0 D0.out E0.out b, GO0.out, HQ4.out, Stp.rfl'⟩
  case round =>
    obtain ⟨N, M, t, dd, ee, s, o', rfl, rfl, rfl, rfl, rfl, ht, htm, hpc, hgo, hps, hst⟩ := hrel
    have HPC := Lib.hid hpc
    have HGO := Lib.hid hgo
    have HPS := Lib.hid hps
    have HST := Lib.hid hst
    have hMn : M ≤ n := by rw [HN.out]; exact hpc.le
    have hNn : N ≤ n := by rw [HN.out]; exact pc_le hpc
    clear hpc hgo hps hst
    by_cases hcont : t ≤ m ∧ dd = false ∧ ee = 0
    · obtain ⟨htl, rfl, rfl⟩ := hcont
      have XWR := Lib.hid (ext_old HX4.out HO4.out HST.out (by unfold KP; omega))
      have k1 : (t : Int) ≤ (m : Int) := by omega
      clear htm
      by_cases h1 : t < m
      · obtain ⟨g, f, rfl, hct⟩ := int_at (t := t) (HCC.out.ext XWR.out) (by rw [← HMM.out]; exact h1)
        have hcb := HCS.out _ (List.getElem_mem (show t < cs.length by rw [← HMM.out]; exact h1))
        obtain ⟨ct, hcte⟩ : ∃ c, c = cs[t]'(by rw [← HMM.out]; exact h1) := ⟨_, rfl⟩
        rw [← hcte] at hct hcb
        have t0 : (0 : Int) ≤ (t : Int) := by omega
        have t1 : (t : Int) < (m : Int) := by omega
        clear hcte
        by_cases hc : 0 ≤ ct
        · obtain ⟨hMT, hTn, c1, c2, c3⟩ := cutT_ok n M ct hc hMn
          have hlast : t + 1 = m + 1 → cutT n M ct = n := fun h => by omega
          have r1 : IntKind.i64.wrap ((n : Int) + 1) = (n : Int) + 1 := by rw [IntKind.wrap_i64]; omega
          have r2 : ¬ ((n : Int) + 1) = 0 := by omega
          have r4 : wrap64 ((M : Int) + ct % ((n : Int) + 1)) = (M : Int) + ct % ((n : Int) + 1) := by
            unfold wrap64; omega
          obtain ⟨T, hT⟩ : ∃ T, T = cutT n M ct := ⟨_, rfl⟩
          rw [← hT] at hMT hTn c3 hlast
          clear hT
          have HLAST := Lib.hid hlast
          clear hlast
          obtain ⟨B', hcut, hrd, hblk⟩ := cut_partH b B n d M T wr (HB.out.ext XWR.out) hMT (by rw [← HN.out]; exact hTn) (by rw [← HN.out]; exact hd)
          have hlen : T - M = ((b.take T).drop M).length := by rw [List.length_drop, List.length_take]; have := HN.out; omega
          have CQ := CF.out 5 (by decide) Q s HGO.out ((b.take T).drop M) B' (T - M) (d - M) hlen (by omega) wr o' HPS.out XWR.out (own_old HO4.out HST.out HX4.out.size) hrd (fun hne => HBW.out _ B' hne hblk (by intro h0; apply hne; rw [h0]; simp))
          have hpn := pc_next D0.out E0.out HPC.out T hMT (by rw [← HN.out]; exact hTn)
          have hgo2 := feed_go s ((b.take T).drop M) HGO.out
          obtain ⟨⟨s', N', d', e'⟩, hr⟩ : ∃ r, r = feedP s ((b.take T).drop M) := ⟨_, rfl⟩
          rw [V.out s _ _ hr, ← hr] at CQ
          rw [← hr] at hpn hgo2
          dsimp only at hpn hgo2
          have hNN := pc_le hpn
          rw [← HN.out] at hNN
          have HPN := Lib.hid hpn
          have HG2 := Lib.hid hgo2
          have CQ := Lib.hid CQ
          have sN : IntKind.i64.wrap ((N : Int) + (N' : Int)) = ((N + N' : Nat) : Int) := by rw [IntKind.wrap_i64]; omega
          have st : IntKind.i64.wrap ((t : Int) + 1) = ((t + 1 : Nat) : Int) := by rw [IntKind.wrap_i64]; omega
          obtain ⟨L, hL⟩ : ∃ L, L = T - M := ⟨_, rfl⟩
          obtain ⟨L2, hL2⟩ : ∃ L, L = d - M := ⟨_, rfl⟩
          rw [← hL, ← hL2] at hcut
          rw [← hL, ← hL2] at CQ
          clear hlen hrd hblk hpn hgo2 hr hL hL2 hNN
          go_wp2_with (first
            | (go_at_call 16; refine (num11_c _ _).mono ?_; rintro e w9 ⟨rfl, rfl⟩)
            | (go_at_call 9; refine CQ.out.mono ?_; rintro e w5 ⟨v, o5, rfl, ⟨rfl, hp5⟩, st5⟩))
          go_roundw
          case rel => exact ⟨N + N', T, t + 1, d', e', s', o5, by go_num, by go_num, rfl, rfl, by go_num, by omega, (fun hh => by first | rfl | exact HLAST.out hh), HPN.out, HG2.out, hp5, HST.out.tr st5⟩
          case measure => simp [intOf]; omega
        · have hMT : M ≤ n := hMn
          have hTn : n ≤ n := Nat.le_refl _
          have hlast : t + 1 = m + 1 → n = n := fun _ => rfl
          have HLAST := Lib.hid hlast
          clear hlast
          obtain ⟨B', hcut, hrd, hblk⟩ := cut_partH b B n d M n wr (HB.out.ext XWR.out) hMT (by rw [← HN.out]; exact hTn) (by rw [← HN.out]; exact hd)
          have hlen : n - M = ((b.take n).drop M).length := by rw [List.length_drop, List.length_take]; have := HN.out; omega
          have CQ := CF.out 5 (by decide) Q s HGO.out ((b.take n).drop M) B' (n - M) (d - M) hlen (by omega) wr o' HPS.out XWR.out (own_old HO4.out HST.out HX4.out.size) hrd (fun hne => HBW.out _ B' hne hblk (by intro h0; apply hne; rw [h0]; simp))
          have hpn := pc_next D0.out E0.out HPC.out n hMT (by rw [← HN.out]; exact hTn)
          have hgo2 := feed_go s ((b.take n).drop M) HGO.out
          obtain ⟨⟨s', N', d', e'⟩, hr⟩ : ∃ r, r = feedP s ((b.take n).drop M) := ⟨_, rfl⟩
          rw [V.out s _ _ hr, ← hr] at CQ
          rw [← hr] at hpn hgo2
          dsimp only at hpn hgo2
          have hNN := pc_le hpn
          rw [← HN.out] at hNN
          have HPN := Lib.hid hpn
          have HG2 := Lib.hid hgo2
          have CQ := Lib.hid CQ
          have sN : IntKind.i64.wrap ((N : Int) + (N' : Int)) = ((N + N' : Nat) : Int) := by rw [IntKind.wrap_i64]; omega
          have st : IntKind.i64.wrap ((t : Int) + 1) = ((t + 1 : Nat) : Int) := by rw [IntKind.wrap_i64]; omega
          obtain ⟨L, hL⟩ : ∃ L, L = n - M := ⟨_, rfl⟩
          obtain ⟨L2, hL2⟩ : ∃ L, L = d - M := ⟨_, rfl⟩
          rw [← hL, ← hL2] at hcut
          rw [← hL, ← hL2] at CQ
          clear hlen hrd hblk hpn hgo2 hr hL hL2 hNN
          go_wp2_with (first
            | (go_at_call 16; refine (num11_c _ _).mono ?_; rintro e w9 ⟨rfl, rfl⟩)
            | (go_at_call 9; refine CQ.out.mono ?_; rintro e w5 ⟨v, o5, rfl, ⟨rfl, hp5⟩, st5⟩))
          go_roundw
          case rel => exact ⟨N + N', n, t + 1, d', e', s', o5, by go_num, by go_num, rfl, rfl, by go_num, by omega, (fun hh => by first | rfl | exact HLAST.out hh), HPN.out, HG2.out, hp5, HST.out.tr st5⟩
          case measure => simp [intOf]; omega
      · have k2 : ¬ (t : Int) < (m : Int) := by omega
        have hMT : M ≤ n := hMn
        have hTn : n ≤ n := Nat.le_refl _
        have hlast : t + 1 = m + 1 → n = n := fun _ => rfl
        have HLAST := Lib.hid hlast
        clear hlast
        obtain ⟨B', hcut, hrd, hblk⟩ := cut_partH b B n d M n wr (HB.out.ext XWR.out) hMT (by rw [← HN.out]; exact hTn) (by rw [← HN.out]; exact hd)
        have hlen : n - M = ((b.take n).drop M).length := by rw [List.length_drop, List.length_take]; have := HN.out; omega
        have CQ := CF.out 5 (by decide) Q s HGO.out ((b.take n).drop M) B' (n - M) (d - M) hlen (by omega) wr o' HPS.out XWR.out (own_old HO4.out HST.out HX4.out.size) hrd (fun hne => HBW.out _ B' hne hblk (by intro h0; apply hne; rw [h0]; simp))
        have hpn := pc_next D0.out E0.out HPC.out n hMT (by rw [← HN.out]; exact hTn)
        have hgo2 := feed_go s ((b.take n).drop M) HGO.out
        obtain ⟨⟨s', N', d', e'⟩, hr⟩ : ∃ r, r = feedP s ((b.take n).drop M) := ⟨_, rfl⟩
        rw [V.out s _ _ hr, ← hr] at CQ
        rw [← hr] at hpn hgo2
        dsimp only at hpn hgo2
        have hNN := pc_le hpn
        rw [← HN.out] at hNN
        have HPN := Lib.hid hpn
        have HG2 := Lib.hid hgo2
        have CQ := Lib.hid CQ
        have sN : IntKind.i64.wrap ((N : Int) + (N' : Int)) = ((N + N' : Nat) : Int) := by rw [IntKind.wrap_i64]; omega
        have st : IntKind.i64.wrap ((t : Int) + 1) = ((t + 1 : Nat) : Int) := by rw [IntKind.wrap_i64]; omega
        obtain ⟨L, hL⟩ : ∃ L, L = n - M := ⟨_, rfl⟩
        obtain ⟨L2, hL2⟩ : ∃ L, L = d - M := ⟨_, rfl⟩
        rw [← hL, ← hL2] at hcut
        rw [← hL, ← hL2] at CQ
        clear hlen hrd hblk hpn hgo2 hr hL hL2 hNN
        go_wp2_with (first
          | (go_at_call 16; refine (num11_c _ _).mono ?_; rintro e w9 ⟨rfl, rfl⟩)
          | (go_at_call 9; refine CQ.out.mono ?_; rintro e w5 ⟨v, o5, rfl, ⟨rfl, hp5⟩, st5⟩))
        go_roundw
        case rel => exact ⟨N + N', n, t + 1, d', e', s', o5, by go_num, by go_num, rfl, rfl, by go_num, by omega, (fun hh => by first | rfl | exact HLAST.out hh), HPN.out, HG2.out, hp5, HST.out.tr st5⟩
        case measure => simp [intOf]; omega
    · have hend : M = b.length ∨ dd = true ∨ ee ≠ 0 := by
        rw [← HN.out]
        by_cases h1 : t ≤ m
        · cases dd with
          | true => exact .inr (.inl rfl)
          | false =>
            by_cases h2 : ee = 0
            · exact absurd ⟨h1, rfl, h2⟩ hcont
            · exact .inr (.inr h2)
        · exact .inl (htm (by omega))
      have hfin := pc_end D0.out E0.out HPC.out hend
      rw [← HZ.out] at hfin
      obtain ⟨rfl, rfl, rfl, rfl⟩ : z = s ∧ u = N ∧ dn = dd ∧ e0 = ee := by simpa using hfin
      have hzf : z.fields.length ≤ 1000000 := by
        have h1 := (feed_rf b s0 HF0.out).2
        rw [← HZ.out] at h1
        dsimp only at h1
        omega
      have CP := Lib.hid (hTell_c 1 P z hzf wr o' (HP4.out.stp HST.out (by unfold KP; omega) (by unfold KP; omega) (by unfold KP; omega)))
      have CQ := Lib.hid (fun w' (x : Ext wr w') => hTell_c 5 Q z hzf w' o' (HPS.out.ext x))
      have AP := Lib.hid (fun w' (x : Ext wr w') => hAsk_c 1 P z hzf w' o' ((HP4.out.stp HST.out (by unfold KP; omega) (by unfold KP; omega) (by unfold KP; omega)).ext x))
      have AQ := Lib.hid (fun w' (x : Ext wr w') => hAsk_c 5 Q z hzf w' o' (HPS.out.ext x))
      have htf : (tellP z).2.2.2.length ≤ maxLen := by unfold tellP maxLen; split <;> (dsimp only; first | omega | simp)
      have haf : (askP z).2.2.2.length ≤ maxLen := by unfold askP maxLen; split <;> (dsimp only; first | omega | simp)
      obtain ⟨⟨t1, t2, t3, t4⟩, htell⟩ : ∃ r, r = tellP z := ⟨_, rfl⟩
      obtain ⟨⟨a1, a2, a3, a4⟩, hask⟩ : ∃ r, r = askP z := ⟨_, rfl⟩
      rw [← htell] at CP CQ htf
      rw [← hask] at AP AQ haf
      dsimp only at htf haf
      have XW := Lib.hid (ext_old HX4.out HO4.out HST.out (by unfold KP; omega))
      clear htell hask hfin hend
      by_cases h1 : t ≤ m
      · have k1 : (t : Int) ≤ (m : Int) := by omega
        cases dn with
        | true =>
          clear hcont hzf htm
          by_cases h2 : M = n
          · subst h2
            have k2 : ¬ (M : Int) < (M : Int) := by omega
            clear h1
            go_wp2_with (first
              | (go_at_call 16; refine (num11_c _ _).mono ?_; rintro e w9 ⟨rfl, rfl⟩)
              | (go_at_call 15; refine (CQ.out w5 x5).mono ?_; rintro e w6 ⟨v, rfl, ⟨A6, c6, rfl, hr6⟩, x6⟩; dsimp only at hr6)
              | (go_at_call 15; refine CP.out.mono ?_; rintro e w5 ⟨v, rfl, ⟨A5, c5, rfl, hr5⟩, x5⟩; dsimp only at hr5)
              | (go_at_call 10; refine (AQ.out w7 (x5.tr (x6.tr x7))).mono ?_; rintro e w8 ⟨v, rfl, ⟨A8, c8, rfl, hr8⟩, x8⟩; dsimp only at hr8)
              | (go_at_call 10; refine (AP.out w6 (x5.tr x6)).mono ?_; rintro e w7 ⟨v, rfl, ⟨A7, c7, rfl, hr7⟩, x7⟩; dsimp only at hr7)
              | (go_at_call 17; refine (hSame_c _ _ _ a4 _ _ _ _ _ _ rfl rfl haf _ (hr7.ext x8) hr8).mono ?_; rintro e w10 ⟨rfl, x10⟩)
              | (go_at_call 18; refine (hFields_c t4 _ _ _ _ _ _ rfl rfl htf _ (hr5.ext (x6.tr (x7.tr (x8.tr x10)))) (hr6.ext (x7.tr (x8.tr x10)))).mono ?_; rintro e w11 ⟨rfl, x11⟩))
            go_ret
            exact ⟨rfl, XW.out.tr (x5.tr (x6.tr (x7.tr (x8.tr (x10.tr x11)))))⟩
          · have k2 : (M : Int) < (n : Int) := by omega
            clear h1 h2
            go_wp2_with (first
              | (go_at_call 16; refine (num11_c _ _).mono ?_; rintro e w9 ⟨rfl, rfl⟩)
              | (go_at_call 15; refine (CQ.out w5 x5).mono ?_; rintro e w6 ⟨v, rfl, ⟨A6, c6, rfl, hr6⟩, x6⟩; dsimp only at hr6)
              | (go_at_call 15; refine CP.out.mono ?_; rintro e w5 ⟨v, rfl, ⟨A5, c5, rfl, hr5⟩, x5⟩; dsimp only at hr5)
              | (go_at_call 10; refine (AQ.out w7 (x5.tr (x6.tr x7))).mono ?_; rintro e w8 ⟨v, rfl, ⟨A8, c8, rfl, hr8⟩, x8⟩; dsimp only at hr8)
              | (go_at_call 10; refine (AP.out w6 (x5.tr x6)).mono ?_; rintro e w7 ⟨v, rfl, ⟨A7, c7, rfl, hr7⟩, x7⟩; dsimp only at hr7)
              | (go_at_call 17; refine (hSame_c _ _ _ a4 _ _ _ _ _ _ rfl rfl haf _ (hr7.ext x8) hr8).mono ?_; rintro e w10 ⟨rfl, x10⟩)
              | (go_at_call 18; refine (hFields_c t4 _ _ _ _ _ _ rfl rfl htf _ (hr5.ext (x6.tr (x7.tr (x8.tr x10)))) (hr6.ext (x7.tr (x8.tr x10)))).mono ?_; rintro e w11 ⟨rfl, x11⟩))
            go_ret
            exact ⟨rfl, XW.out.tr (x5.tr (x6.tr (x7.tr (x8.tr (x10.tr x11)))))⟩
        | false =>
          have k3 : (e0 == 0) = false := by rw [beq_eq_false_iff_ne]; exact fun h => hcont ⟨h1, rfl, h⟩
          clear hcont hzf htm
          by_cases h2 : M = n
          · subst h2
            have k2 : ¬ (M : Int) < (M : Int) := by omega
            clear h1
            go_wp2_with (first
              | (go_at_call 16; refine (num11_c _ _).mono ?_; rintro e w9 ⟨rfl, rfl⟩)
              | (go_at_call 15; refine (CQ.out w5 x5).mono ?_; rintro e w6 ⟨v, rfl, ⟨A6, c6, rfl, hr6⟩, x6⟩; dsimp only at hr6)
              | (go_at_call 15; refine CP.out.mono ?_; rintro e w5 ⟨v, rfl, ⟨A5, c5, rfl, hr5⟩, x5⟩; dsimp only at hr5)
              | (go_at_call 10; refine (AQ.out w7 (x5.tr (x6.tr x7))).mono ?_; rintro e w8 ⟨v, rfl, ⟨A8, c8, rfl, hr8⟩, x8⟩; dsimp only at hr8)
              | (go_at_call 10; refine (AP.out w6 (x5.tr x6)).mono ?_; rintro e w7 ⟨v, rfl, ⟨A7, c7, rfl, hr7⟩, x7⟩; dsimp only at hr7)
              | (go_at_call 17; refine (hSame_c _ _ _ a4 _ _ _ _ _ _ rfl rfl haf _ (hr7.ext x8) hr8).mono ?_; rintro e w10 ⟨rfl, x10⟩)
              | (go_at_call 18; refine (hFields_c t4 _ _ _ _ _ _ rfl rfl htf _ (hr5.ext (x6.tr (x7.tr (x8.tr x10)))) (hr6.ext (x7.tr (x8.tr x10)))).mono ?_; rintro e w11 ⟨rfl, x11⟩))
            go_ret
            exact ⟨rfl, XW.out.tr (x5.tr (x6.tr (x7.tr (x8.tr (x10.tr x11)))))⟩
          · have k2 : (M : Int) < (n : Int) := by omega
            clear h1 h2
            go_wp2_with (first
              | (go_at_call 16; refine (num11_c _ _).mono ?_; rintro e w9 ⟨rfl, rfl⟩)
              | (go_at_call 15; refine (CQ.out w5 x5).mono ?_; rintro e w6 ⟨v, rfl, ⟨A6, c6, rfl, hr6⟩, x6⟩; dsimp only at hr6)
              | (go_at_call 15; refine CP.out.mono ?_; rintro e w5 ⟨v, rfl, ⟨A5, c5, rfl, hr5⟩, x5⟩; dsimp only at hr5)
              | (go_at_call 10; refine (AQ.out w7 (x5.tr (x6.tr x7))).mono ?_; rintro e w8 ⟨v, rfl, ⟨A8, c8, rfl, hr8⟩, x8⟩; dsimp only at hr8)
              | (go_at_call 10; refine (AP.out w6 (x5.tr x6)).mono ?_; rintro e w7 ⟨v, rfl, ⟨A7, c7, rfl, hr7⟩, x7⟩; dsimp only at hr7)
              | (go_at_call 17; refine (hSame_c _ _ _ a4 _ _ _ _ _ _ rfl rfl haf _ (hr7.ext x8) hr8).mono ?_; rintro e w10 ⟨rfl, x10⟩)
              | (go_at_call 18; refine (hFields_c t4 _ _ _ _ _ _ rfl rfl htf _ (hr5.ext (x6.tr (x7.tr (x8.tr x10)))) (hr6.ext (x7.tr (x8.tr x10)))).mono ?_; rintro e w11 ⟨rfl, x11⟩))
            go_ret
            exact ⟨rfl, XW.out.tr (x5.tr (x6.tr (x7.tr (x8.tr (x10.tr x11)))))⟩
      · have k1 : ¬ (t : Int) ≤ (m : Int) := by omega
        have h2 := htm (by omega)
        subst h2
        clear hcont hzf htm h1
        go_wp2_with (first
          | (go_at_call 16; refine (num11_c _ _).mono ?_; rintro e w9 ⟨rfl, rfl⟩)
          | (go_at_call 15; refine (CQ.out w5 x5).mono ?_; rintro e w6 ⟨v, rfl, ⟨A6, c6, rfl, hr6⟩, x6⟩; dsimp only at hr6)
          | (go_at_call 15; refine CP.out.mono ?_; rintro e w5 ⟨v, rfl, ⟨A5, c5, rfl, hr5⟩, x5⟩; dsimp only at hr5)
          | (go_at_call 10; refine (AQ.out w7 (x5.tr (x6.tr x7))).mono ?_; rintro e w8 ⟨v, rfl, ⟨A8, c8, rfl, hr8⟩, x8⟩; dsimp only at hr8)
          | (go_at_call 10; refine (AP.out w6 (x5.tr x6)).mono ?_; rintro e w7 ⟨v, rfl, ⟨A7, c7, rfl, hr7⟩, x7⟩; dsimp only at hr7)
          | (go_at_call 17; refine (hSame_c _ _ _ a4 _ _ _ _ _ _ rfl rfl haf _ (hr7.ext x8) hr8).mono ?_; rintro e w10 ⟨rfl, x10⟩)
          | (go_at_call 18; refine (hFields_c t4 _ _ _ _ _ _ rfl rfl htf _ (hr5.ext (x6.tr (x7.tr (x8.tr x10)))) (hr6.ext (x7.tr (x8.tr x10)))).mono ?_; rintro e w11 ⟨rfl, x11⟩))
        go_ret
        exact ⟨rfl, XW.out.tr (x5.tr (x6.tr (x7.tr (x8.tr (x10.tr x11)))))⟩
end Go.Proofs.YtppajpchibkneaaDoor
end
