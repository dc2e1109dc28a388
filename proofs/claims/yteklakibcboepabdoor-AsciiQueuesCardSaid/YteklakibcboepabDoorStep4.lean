/-
A queue's step in the law AsciiQueues: Put.
-/
import Derived.Test.YteklakibcboepabDoorStep3
import Derived.Test.YteklakibcboepabDoorKn1
set_option linter.unusedVariables false
set_option linter.unusedSimpArgs false
namespace Go.Proofs.YteklakibcboepabDoor
open Go.RowKit

set_option maxRecDepth 100000 in
set_option maxHeartbeats 4000000 in
theorem step_put (k p j r lim : Nat) (hk0 : 1 ≤ k) (hk : k + 1 < j) (hj : j + 1 < 9) (l mm : List UInt8) (n : Int) (B : Option Addr) (d : Nat) (hb : mm.length ≤ 140737488351232) (w : World) (o : Ow) (ht : Twin w o k p j r l lim)
    (hB : Rd w B (bc mm)) (hBo : mm ≠ [] → ∀ a, B = some a → a.block < w.heap.size → o a.block = 0) :
    Calls Tryd.prog 15 #[.pointer (some ⟨p, 0, none⟩), .pointer (some ⟨r, 0, none⟩), .agg #[.int .i64 0, .int .i64 n, .slice B mm.length d]] w (Turns (KS k j) w o (StepEnd k p j r lim)) := by
  have C1 := fun A c w o hq hr => qPut_c k p lim l mm A mm.length c rfl w o hq hr (by omega)
  have C2 := fun w o hq hr => rPut_c j r lim l mm B mm.length d rfl w o hq hr (by omega)
  obtain ⟨e1, he1⟩ : ∃ e, e = putE lim l mm := ⟨_, rfl⟩
  obtain ⟨l1, hl1⟩ : ∃ x, x = putL lim l mm := ⟨_, rfl⟩
  rw [← he1, ← hl1] at C1 C2
  have C1 := Lib.hid C1
  have C2 := Lib.hid C2
  have HT := Lib.hid ht
  clear ht he1 hl1
  obtain ⟨W0, hW0⟩ : ∃ W0, W0 = w.alloc (.cells #[.int .i64 0, .int .i64 n, .slice B mm.length d] 42) := ⟨_, rfl⟩
  obtain ⟨o0, ho0⟩ : ∃ o0 : Ow, o0 = fun b => if b = w.heap.size then 0 else o b := ⟨_, rfl⟩
  have st0 : Stp (fun _ => False) w o W0 o0 := by
    rw [hW0, ho0]; exact Stp.ext2 (Ext.al (Ext.rfl' w) _) (fun b hb => by rw [if_neg (by omega)])
  have T0 := Lib.hid (HT.out.stp st0 (fun x => x) (fun x => x) (fun x => x) (fun x => x))
  have ST0 := Lib.hid st0
  have hob : o0 w.heap.size = 0 := by rw [ho0]; simp
  have hsz : W0.heap.size = w.heap.size + 1 := by rw [hW0]; simp
  have b1 : W0.cell? ⟨w.heap.size, 2, none⟩ = some (.slice B mm.length d) := by rw [hW0]; exact new_at w _ _ 2 _ rfl
  have hks := Lib.hid (fun w' o' (e : Stp (KS k j) W0 o0 w' o') => (show w'.cell? ⟨w.heap.size, 2, none⟩ = some (.slice B mm.length d) from e.cell (by rw [hob]; unfold KS; omega) b1))
  have HB := Lib.hid (fun w' o' (e : Stp (KS k j) W0 o0 w' o') => (show Rd w' B (bc mm) from by
    by_cases hne : mm = []
    · exact .inl (by rw [hne]; rfl)
    refine (hB.stp st0 (fun _ _ _ h => h)).stp e (fun a ha hlt => ?_)
    have h0 : o0 a.block = 0 := by
      by_cases h : a.block = w.heap.size
      · rw [h]; exact hob
      · rw [ho0]; simp only [if_neg h]; exact hBo hne a ha (by omega)
    rw [h0]; unfold KS; omega))
  clear st0 ho0 hob b1 hB hBo hsz
  go_enter Tryd.func15, Tryd.ntmps15
  go_upto_region 4 with (go_at_call 31; rw [← hW0]; clear hW0; refine (Lent_c 9 mm B mm.length d rfl _ o0 (HB.out _ _ Stp.rfl') hb).mono ?_; rintro e w2 ⟨v, o2, rfl, ⟨A2, c2, rfl, hc2, hs2⟩, hst2⟩; have st2 : Stp (KS k j) W0 o0 w2 o2 := hst2.mono (fun x hx => by unfold KS; omega); have a2 := hks.out _ _ st2)
  have X2 := Lib.hid hs2
  have T2 := Lib.hid (T0.out.stp hst2 (by omega) (by omega) (by omega) (by omega))
  have hx2 := Lib.hid (show Rd w2 A2 (bc mm) from by have := hs2.rd.take mm.length; rw [bc_take, List.take_left] at this; exact this)
  clear hs2 T0
  go_cut [8] (fun v wx => v = .bool true ∧ ∃ o3, Stp (fun x => KQ k x ∨ KQ j x) w2 o2 wx o3 ∧ Twin wx o3 k p j r l1 lim)
  case first =>
    go_region_held3 (fun w' => w'.cell? ⟨w.heap.size, 2, none⟩ = some (.slice B mm.length d)) ((apply hks.out; (repeat (first | exact Stp.rfl' | assumption | apply Stp.dr | apply Stp.drN | apply Stp.al)))) (first
      | (go_at_call 8; refine (C1.out A2 c2 _ o2 (T2.out.1.ext (by (repeat (first | exact Ext.rfl' _ | assumption | refine Ext.dr ?_ | refine Ext.drN ?_ _ | refine Ext.al ?_ _ | refine Ext.st ?_ (by simp) _ | refine Ext.tr ?_ (by assumption))))) (hx2.out.ext (by (repeat (first | exact Ext.rfl' _ | assumption | refine Ext.dr ?_ | refine Ext.drN ?_ _ | refine Ext.al ?_ _ | refine Ext.st ?_ (by simp) _ | refine Ext.tr ?_ (by assumption)))))).mono ?_; rintro e w3 ⟨v3, o3, rfl, ⟨rfl, hq3⟩, hst3⟩; have sk3 : Stp (KQ k) w2 o2 w3 o3 := (Stp.ext (by (repeat (first | exact Ext.rfl' _ | assumption | refine Ext.dr ?_ | refine Ext.drN ?_ _ | refine Ext.al ?_ _ | refine Ext.st ?_ (by simp) _ | refine Ext.tr ?_ (by assumption))))).tr hst3; have st3 : Stp (KS k j) W0 o0 w3 o3 := st2.tr (sk3.mono (fun x hx => by unfold KQ at hx; unfold KS; omega)); have R3 := Lib.hid (T2.out.2.stp sk3 (by unfold KQ; omega) (by unfold KQ; omega)))
      | (go_at_call 7; refine (num01_c _ _).mono ?_; rintro e w9 ⟨rfl, rfl⟩)
      | (go_at_call 32; refine (C2.out _ o3 (R3.out.ext (by (repeat (first | exact Ext.rfl' _ | assumption | refine Ext.dr ?_ | refine Ext.drN ?_ _ | refine Ext.al ?_ _ | refine Ext.st ?_ (by simp) _ | refine Ext.tr ?_ (by assumption))))) ((HB.out _ _ st3).ext (by (repeat (first | exact Ext.rfl' _ | assumption | refine Ext.dr ?_ | refine Ext.drN ?_ _ | refine Ext.al ?_ _ | refine Ext.st ?_ (by simp) _ | refine Ext.tr ?_ (by assumption)))))).mono ?_; rintro e w4 ⟨v4, o4, rfl, ⟨rfl, hq4⟩, hst4⟩; have sk4 : Stp (KQ j) w3 o3 w4 o4 := (Stp.ext (by (repeat (first | exact Ext.rfl' _ | assumption | refine Ext.dr ?_ | refine Ext.drN ?_ _ | refine Ext.al ?_ _ | refine Ext.st ?_ (by simp) _ | refine Ext.tr ?_ (by assumption))))).tr hst4; have st4 : Stp (KS k j) W0 o0 w4 o4 := st3.tr (sk4.mono (fun x hx => by unfold KQ at hx; unfold KS; omega)); have X4 := Lib.hid ((X2.out.stp sk3 (by unfold KQ; omega)).stp sk4 (by unfold KQ; omega)))
      | (go_at_call 33; refine (Stays_c mm A2 B mm.length c2 mm.length d rfl rfl _ hc2 (X4.out.rd.ext (by (repeat (first | exact Ext.rfl' _ | assumption | refine Ext.dr ?_ | refine Ext.drN ?_ _ | refine Ext.al ?_ _ | refine Ext.st ?_ (by simp) _ | refine Ext.tr ?_ (by assumption))))) ((HB.out _ _ st4).ext (by (repeat (first | exact Ext.rfl' _ | assumption | refine Ext.dr ?_ | refine Ext.drN ?_ _ | refine Ext.al ?_ _ | refine Ext.st ?_ (by simp) _ | refine Ext.tr ?_ (by assumption))))) hb).mono ?_; rintro e w5 ⟨rfl, hx5⟩; have x5 : Ext w4 w5 := Ext.tr (by (repeat (first | exact Ext.rfl' _ | assumption | refine Ext.dr ?_ | refine Ext.drN ?_ _ | refine Ext.al ?_ _ | refine Ext.st ?_ (by simp) _ | refine Ext.tr ?_ (by assumption)))) hx5; have st5 : Stp (KS k j) W0 o0 w5 o4 := st4.tr (Stp.ext x5)))
    all_goals (go_wp2_with fail; go_meet)
    exact ⟨rfl, o4, ((sk3.mono (fun x hx => .inl hx)).tr (sk4.mono (fun x hx => .inr hx))).tr (Stp.ext x5), (hq3.stp sk4 (by unfold KQ; omega) (by unfold KQ; omega)).ext x5, hq4.ext x5⟩
  case rest =>
    obtain ⟨rfl, o3, st3, T3⟩ := hcut
    have hs3 := X2.out.stp st3 (by unfold KQ; omega)
    rw [bc_ints] at hs3
    have T3 := Lib.hid T3
    have ST3 := Lib.hid ((ST0.out.mono (fun _ x => x.elim)).tr (st2.tr (st3.mono (fun x hx => by unfold KQ at hx; unfold KS; omega))))
    have hzl0 : (xsOf (mm ++ [201, 202])).length = mm.length + 2 := by simp
    clear X2 st2 a2 hst2 st3 T2 hx2 ST0 C1 C2 HT HB hks
    go_wp2
    go_loopw [9] (fun i wr => ∃ (t : Nat) (zs : List Int), i = .int .i64 (t : Int) ∧ t ≤ mm.length ∧ Sl wr o3 9 1 A2 (mm.length + 2) c2 (zs.map (.int .u8)) ∧ Stp (fun x => x = 9) wc o3 wr o3) (fun i _ => mm.length - (intOf i).toNat)
    case atStart => exact ⟨0, xsOf (mm ++ [201, 202]), rfl, Nat.zero_le _, hs3, Stp.rfl'⟩
    case round =>
      obtain ⟨t, zs, rfl, ht, hz, hst⟩ := hrel
      by_cases hlt : t < mm.length
      · have hzl := hz.len
        have hzle := hz.le
        simp only [List.length_map, Nat.mul_one] at hzl
        rcases hz.at_ with h | ⟨g, f, rfl, ho, hg, hc, hr⟩
        · exfalso; omega
        · have a0 := hc t (.int .u8 (zs[t]'(by omega))) (by rw [List.getElem?_map, List.getElem?_eq_getElem (by omega)]; rfl)
          have f0 := (hr t (by omega)).2
          have HZ := Lib.hid hz
          have HST := Lib.hid hst
          have t0 : (0 : Int) ≤ (t : Int) := by omega
          have t1 : (t : Int) < (mm.length : Int) := by omega
          obtain ⟨z, hzt⟩ : ∃ z, z = zs[t]'(by omega) := ⟨_, rfl⟩
          rw [← hzt] at a0
          clear hz hst hc hr hzt
          go_wp2
          go_roundw
          case rel => exact ⟨t + 1, zs.set t _, by go_num, by omega, HZ.out.set8 t (by omega) _, HST.out.tr (Stp.set (K := fun x => x = 9) g (f + t) _ (fun _ => ho))⟩
          case measure => simp [intOf]; omega
      · obtain rfl : t = mm.length := by omega
        go_wp2
        go_ret
        exact Turns.mk o3 rfl ⟨rfl, l1, T3.out.stp hst (by omega) (by omega) (by omega) (by omega)⟩ (ST3.out.tr (hst.mono (fun x hx => by unfold KS; omega)))
end Go.Proofs.YteklakibcboepabDoor
