/-
A queue's step in the law AsciiQueues: Peek.
-/
import Derived.Test.YteklakibcboepabDoorStep2
set_option linter.unusedVariables false
set_option linter.unusedSimpArgs false
namespace Go.Proofs.YteklakibcboepabDoor
open Go.RowKit

/-- Bytes that are turned, cell by cell: still numbers. -/
def Room8 (A : Option Addr) (n c : Nat) (w : World) (o : Ow) : Prop := ∃ zs : List Int, Sl w o 9 1 A n c (zs.map (.int .u8))
set_option maxRecDepth 100000 in
set_option maxHeartbeats 4000000 in
theorem step_peek (k p j r lim : Nat) (hk0 : 1 ≤ k) (hk : k + 1 < j) (hj : j + 1 < 9) (l : List UInt8) (n : Int) (h0 : -9223372036854775808 ≤ n) (h1 : n ≤ 9223372036854775807) (B : Option Addr) (m d : Nat) (w : World) (o : Ow) (ht : Twin w o k p j r l lim) :
    Calls Tryd.prog 15 #[.pointer (some ⟨p, 0, none⟩), .pointer (some ⟨r, 0, none⟩), .agg #[.int .i64 2, .int .i64 n, .slice B m d]] w (Turns (KS k j) w o (StepEnd k p j r lim)) := by
  have C1 := fun w o hq => qPeek_c 9 k p lim l n w o hq h0 h1
  have C2 := fun w o hq => rPeek_c 9 j r lim l n w o hq h0 h1
  obtain ⟨a, ha⟩ : ∃ a, a = l.take n.toNat := ⟨_, rfl⟩
  have hal : a.length ≤ 1048576 := by
    have h2 := ht.1.hi; have h3 := ht.1.le
    rw [ha, List.length_take]; omega
  rw [← ha] at C1 C2
  have C1 := Lib.hid C1
  have C2 := Lib.hid C2
  have HT := Lib.hid ht
  obtain ⟨s, hs⟩ : ∃ s, s = str a := ⟨_, rfl⟩
  have HS := Lib.hid hs
  clear ht ha hs
  obtain ⟨kind, hkind⟩ : ∃ kind : Int, kind = 2 := ⟨_, rfl⟩
  rw [← hkind]
  obtain ⟨W0, hW0⟩ : ∃ W0, W0 = w.alloc (.cells #[.int .i64 kind, .int .i64 n, .slice B m d] 42) := ⟨_, rfl⟩
  obtain ⟨o0, ho0⟩ : ∃ o0 : Ow, o0 = fun b => if b = w.heap.size then 0 else o b := ⟨_, rfl⟩
  have st0 : Stp (fun _ => False) w o W0 o0 := by
    rw [hW0, ho0]; exact Stp.ext2 (Ext.al (Ext.rfl' w) _) (fun b hb => by rw [if_neg (by omega)])
  have T0 := Lib.hid (HT.out.stp st0 (fun x => x) (fun x => x) (fun x => x) (fun x => x))
  have ST0 := Lib.hid st0
  have hob : o0 w.heap.size = 0 := by rw [ho0]; simp
  have b1 : W0.cell? ⟨w.heap.size, 1, none⟩ = some (.int .i64 n) := by rw [hW0]; exact new_at w _ _ 1 _ rfl
  have hks := Lib.hid (fun w' (e : Ext W0 w') => (show w'.cell? ⟨w.heap.size, 1, none⟩ = some (.int .i64 n) from (e.cell (lt_of_cell b1)).trans b1))
  rw [hkind] at hW0 ⊢
  clear st0 ho0 hob b1 hkind
  go_enter Tryd.func15, Tryd.ntmps15
  go_upto_region 14 with (go_at_call 10; rw [← hW0]; clear hW0; refine (C1.out _ o0 T0.out.1).mono ?_; rintro e w2 ⟨v, o2, rfl, ⟨A2, c2, rfl, hs2, hn2⟩, hst2⟩; have x2 := hst2.noExt; have a2 := hks.out _ x2)
  have cvA := Lib.hid (fun w' (e : Ext w2 w') => (show (convert 22 9 (.slice A2 a.length c2)).run Tryd.prog w' = .ok (.string s) w' from by
    have := conv_bs (P := Tryd.prog) 22 9 5 Tryd.underlying22 Tryd.underlying5 Tryd.underlying9 (hs2.rd.ext e) a.length c2 rfl
    rw [← HS.out] at this; exact this))
  have S2 := Lib.hid hs2
  have R2 := Lib.hid (T0.out.2.stp hst2 (fun x => x) (fun x => x))
  clear hs2
  go_cut [11] (fun v wx => v = .bool true ∧ ∃ o3, Stp (fun _ => False) w2 o2 wx o3)
  case first =>
    have a3 : w2.drew.cell? ⟨w.heap.size, 1, none⟩ = some (.int .i64 n) := hks.out _ (x2.tr (Ext.dr (Ext.rfl' _)))
    have cv2 := cvA.out w2.drew (Ext.dr (Ext.rfl' _))
    go_region_with (first
      | (go_at_call 35; refine (C2.out _ o2 (R2.out.ext (w' := w2.drew) (by (repeat (first | exact Ext.rfl' _ | assumption | refine Ext.dr ?_ | refine Ext.drN ?_ _ | refine Ext.al ?_ _ | refine Ext.st ?_ (by simp) _ | refine Ext.tr ?_ (by assumption)))))).mono ?_; rintro e w3 ⟨v, o3, rfl, ⟨A3, c3, rfl, hs3, hn3⟩, hst3⟩; have st3 : Stp (fun _ => False) w2 o2 w3 o3 := (Stp.ext (by (repeat (first | exact Ext.rfl' _ | assumption | refine Ext.dr ?_ | refine Ext.drN ?_ _ | refine Ext.al ?_ _ | refine Ext.st ?_ (by simp) _ | refine Ext.tr ?_ (by assumption))))).tr hst3; have cv3 := conv_bs (P := Tryd.prog) 22 9 5 Tryd.underlying22 Tryd.underlying5 Tryd.underlying9 hs3.rd a.length c3 rfl; rw [← HS.out] at cv3; have cv23 := cvA.out w3 st3.noExt))
    all_goals (go_wp2_with fail; go_meet)
    all_goals exact ⟨rfl, o3, by first | exact st3 | exact st3.dr⟩
  case rest =>
    obtain ⟨rfl, o3, st3⟩ := hcut
    have hs3 := S2.out.stp st3 (fun x => x)
    rw [bc_ints] at hs3
    have T3 := Lib.hid ((T0.out.stp hst2 (fun x => x) (fun x => x) (fun x => x) (fun x => x)).stp st3 (fun x => x) (fun x => x) (fun x => x) (fun x => x))
    have ST3 := Lib.hid ((ST0.out.tr hst2).tr st3)
    clear S2 R2 cvA a2 hst2 x2 st3 T0 ST0 C1 C2 HT HS
    go_wp2
    go_loopw [12] (fun i wr => ∃ (t : Nat) (zs : List Int), i = .int .i64 (t : Int) ∧ t ≤ a.length ∧ Sl wr o3 9 1 A2 a.length c2 (zs.map (.int .u8)) ∧ Stp (fun x => x = 9) wc o3 wr o3) (fun i _ => a.length - (intOf i).toNat)
    case atStart => exact ⟨0, xsOf a, rfl, Nat.zero_le _, hs3, Stp.rfl'⟩
    case round =>
      obtain ⟨t, zs, rfl, ht, hz, hst⟩ := hrel
      by_cases hlt : t < a.length
      · have hzl := hz.len
        have hzle := hz.le
        simp only [List.length_map, Nat.mul_one] at hzl
        rcases hz.at_ with h | ⟨g, f, rfl, ho, hg, hc, hr⟩
        · exfalso; omega
        · have a0 := hc t (.int .u8 (zs[t]'(by omega))) (by simp [hzl, hlt])
          have f0 := (hr t (by omega)).2
          have HZ := Lib.hid hz
          have HST := Lib.hid hst
          have t0 : (0 : Int) ≤ (t : Int) := by omega
          have t1 : (t : Int) < (a.length : Int) := by omega
          obtain ⟨z, hzt⟩ : ∃ z, z = zs[t]'(by omega) := ⟨_, rfl⟩
          rw [← hzt] at a0
          clear hz hst hc hr hzt
          go_wp2
          go_roundw
          case rel => exact ⟨t + 1, zs.set t _, by go_num, by omega, HZ.out.set8 t hlt _, HST.out.tr (Stp.set (K := fun x => x = 9) g (f + t) _ (fun _ => ho))⟩
          case measure => simp [intOf]; omega
      · obtain rfl : t = a.length := by omega
        go_wp2
        go_ret
        exact Turns.mk o3 rfl ⟨rfl, l, T3.out.stp hst (by omega) (by omega) (by omega) (by omega)⟩ ((ST3.out.mono fun _ x => x.elim).tr (hst.mono (fun x hx => by unfold KS; omega)))
end Go.Proofs.YteklakibcboepabDoor
