/-
The law AsciiQueues as a walk: it answers true.
-/
import Derived.Test.YteklakibcboepabDoorStep5
set_option linter.unusedVariables false
set_option linter.unusedSimpArgs false
namespace Go.Proofs.YteklakibcboepabDoor
open Go.RowKit

theorem wpAnyH_mono {P : Program} {ops : Array Oper} {Q : Exit → Act → World → Prop} {md : Region.Mode} {S S' : World → Prop} (hS : ∀ w, S' w → S w) : ∀ {fuel : Nat} {listed : Array Bool} {a : Act} {w : World}, wpAnyH P md ops Q S' fuel listed a w → wpAnyH P md ops Q S fuel listed a w
  | 0, _, _, _, h => h
  | _ + 1, _, _, _, h => ⟨h.1, fun i hi => wpOp_mono (fun _ _ h' => ⟨hS _ h'.1, wpAnyH_mono hS h'.2⟩) (h.2 i hi)⟩
/-- Two queues of the law: there, or not. -/
def Pair (k j : Nat) (s : Option (Nat × Nat × Nat)) (w : World) (o : Ow) : Prop :=
  match s with
  | none => True
  | some (p, r, lim) => ∃ l, Twin w o k p j r l lim
theorem Pair.stp {K : Nat → Prop} {w w' : World} {o o' : Ow} {k j : Nat} {s : Option (Nat × Nat × Nat)} (h : Pair k j s w o) (e : Stp K w o w' o') (h0 : ¬ K k) (h1 : ¬ K (k + 1)) (h2 : ¬ K j) (h3 : ¬ K (j + 1)) : Pair k j s w' o' := by
  cases s with
  | none => trivial
  | some x => obtain ⟨l, t⟩ := h; exact ⟨l, t.stp e h0 h1 h2 h3⟩
/-- Where the law stands. -/
def QAtL (W : World) (s1 s2 : Option (Nat × Nat × Nat)) (w : World) : Prop := ∃ o, Stp (fun i => i ≠ 0) W (fun _ => 0) w o ∧ Pair 1 3 s1 w o ∧ Pair 5 7 s2 w o
theorem QAtL.ext {W w w' : World} {s1 s2 : Option (Nat × Nat × Nat)} (h : QAtL W s1 s2 w) (e : Ext w w') : QAtL W s1 s2 w' := by
  obtain ⟨o, h1, h2, h3⟩ := h
  exact ⟨o, h1.tr (Stp.ext e), h2.stp (K := fun _ => False) (Stp.ext e) (fun x => x) (fun x => x) (fun x => x) (fun x => x), h3.stp (K := fun _ => False) (Stp.ext e) (fun x => x) (fun x => x) (fun x => x) (fun x => x)⟩
theorem QAtL.toExt {W w : World} {s1 s2 : Option (Nat × Nat × Nat)} (h : QAtL W s1 s2 w) : Ext W w := by
  obtain ⟨o, h1, _⟩ := h
  exact h1.toExt fun _ _ hn => hn rfl

set_option maxRecDepth 100000 in
set_option maxHeartbeats 8000000 in
theorem AsciiQueues_gg (W : World) (hE : ErrR W) (a b : Int) (A1 A2 : Option Addr) (c1 c2 : Nat) (xs ys : List OpV) (h1 : RdOps W A1 xs) (h2 : RdOps W A2 ys) (hx : xs.length ≤ 140737488355328) (hy : ys.length ≤ 140737488355328) (ha : 1 ≤ a ∧ a ≤ 1048576) (hb : 1 ≤ b ∧ b ≤ 1048576) :
    Calls Tryd.prog 4 #[.int .i64 a, .int .i64 b, .slice A1 xs.length c1, .slice A2 ys.length c2] W (Gives (.bool true) W) := by
  have HE := Lib.hid hE
  clear hE
  obtain ⟨la, rfl⟩ : ∃ n : Nat, a = (n : Int) := ⟨a.toNat, by omega⟩
  have NA := Lib.hid (NewQueue_c 1 la (by omega) (by omega))
  have RA := Lib.hid (rNewQueue_c 3 la (by omega) (by omega))
  obtain ⟨lb, rfl⟩ : ∃ n : Nat, b = (n : Int) := ⟨b.toNat, by omega⟩
  have NB := Lib.hid (NewQueue_c 5 lb (by omega) (by omega))
  have RB := Lib.hid (rNewQueue_c 7 lb (by omega) (by omega))
  clear ha hb
  go_enter Tryd.func4, Tryd.ntmps4
  go_upto_region 2 with (go_at_call 13; refine (NA.out W (fun _ => 0)).mono ?_; rintro e w1 ⟨v, o1, rfl, ⟨p1, rfl, hq1, _⟩, hst1⟩)
  go_upto_region 3 with (go_at_call 13; refine (NB.out w1 o1).mono ?_; rintro e w2 ⟨v, o2, rfl, ⟨p2, rfl, hq2, _⟩, hst2⟩)
  go_upto_region 4 with (go_at_call 14; refine (RA.out w2 o2).mono ?_; rintro e w3 ⟨v, o3, rfl, ⟨r1, rfl, hr1, _⟩, hst3⟩)
  go_upto_region 5 with (go_at_call 14; refine (RB.out w3 o3).mono ?_; rintro e w4 ⟨v, o4, rfl, ⟨r2, rfl, hr2, _⟩, hst4⟩)
  have e4 : Ext W w4 := ((hst1.tr hst2).tr (hst3.tr hst4)).noExt
  go_wp2_with (first
    | (go_at_call 7; refine (num01_c _ _).mono ?_; rintro e w9 ⟨rfl, rfl⟩)
    | (go_at_call 12; refine (knows01_c _ (HE.out.ext e4)).mono ?_; rintro e w5 ⟨rfl, hx5⟩))
  have hat0 : QAtL W (some (p1, r1, la)) (some (p2, r2, lb)) w5 := ⟨o4, ((((hst1.tr hst2).tr (hst3.tr hst4)).mono (fun _ x => x.elim)).tr (Stp.ext hx5)),
    ⟨[], (hq1.stp ((hst2.tr hst3).tr hst4) (fun x => x) (fun x => x)).ext hx5, (hr1.stp hst4 (fun x => x) (fun x => x)).ext hx5⟩, ⟨[], (hq2.stp (hst3.tr hst4) (fun x => x) (fun x => x)).ext hx5, hr2.ext hx5⟩⟩
  clear hst1 hst2 hst3 hst4 hq1 hq2 hr1 hr2 NA NB RA RB hx5 e4
  go_loopw [15] (fun i wr => ∃ t : Nat, i = .int .i64 (t : Int) ∧ t ≤ max xs.length ys.length ∧ QAtL W (some (p1, r1, la)) (some (p2, r2, lb)) wr) (fun i _ => max xs.length ys.length - (intOf i).toNat)
  case atStart => exact ⟨0, rfl, Nat.zero_le _, hat0⟩
  case round =>
    obtain ⟨t, rfl, ht, hat⟩ := hrel
    have t0 : (0 : Int) ≤ (t : Int) := by omega
    have ti : (t : Int) + 1 ≤ 9223372036854775807 := by omega
    by_cases hend : t < xs.length ∨ t < ys.length
    · by_cases hlx : t < xs.length
      · have hlx' : (t : Int) < (xs.length : Int) := by omega
        obtain ⟨b, f, rfl, hb, a0, a1, a2⟩ := h1.row hlx
        go_upto_region 10 with fail
        go_cut [101] (fun v wx => v = .bool false ∧ QAtL W (some (p1, r1, la)) (some (p2, r2, lb)) wx)
        case first =>
          obtain ⟨o, hst, hp1, hp2⟩ := hat
          obtain ⟨l, T⟩ := hp1
          obtain ⟨hB, hlen, hn0, hn1⟩ := h1.each _ (List.getElem_mem hlx)
          obtain ⟨x, hxe⟩ : ∃ x, x = xs[t] := ⟨_, rfl⟩
          rw [← hxe] at hB hlen hn0 hn1 a0 a1 a2
          have ho : ∀ q, q < W.heap.size → o q = 0 := fun q hq => hst.own q hq
          have hW := hst.toExt (fun _ _ hn => hn rfl)
          have hks := Lib.hid (fun w' o' (e : Stp (KS 1 3) wr o w' o') => (show w'.cell? ⟨b, f + t * 3, none⟩ = some (.int .i64 x.kind) ∧ w'.cell? ⟨b, f + t * 3 + 1, none⟩ = some (.int .i64 x.n) ∧ w'.cell? ⟨b, f + t * 3 + 2, none⟩ = some (.slice x.B x.mm.length x.d) from
            ⟨e.cell (by rw [ho _ hb]; unfold KS; omega) ((hW.cell hb).trans a0), e.cell (by rw [ho _ hb]; unfold KS; omega) ((hW.cell hb).trans a1), e.cell (by rw [ho _ hb]; unfold KS; omega) ((hW.cell hb).trans a2)⟩))
          have HBW := Lib.hid (hB.ext hW)
          have HBo := Lib.hid (show x.mm ≠ [] → ∀ a, x.B = some a → o a.block = 0 from fun hne a ha => by
            obtain ⟨b', f', hA', hb', _⟩ := hB.at_ (by rw [bc_len]; exact List.length_pos_iff.2 hne)
            rw [ha] at hA'; cases hA'; exact ho _ hb')
          have HT := Lib.hid T
          have HP := Lib.hid hp2
          have HS := Lib.hid hst
          clear hp2 hst T hB a0 a1 a2 hxe ho hW
          refine wp_region_noPanic ?_
          refine wp_region_held_drew (S := fun w' => w'.cell? ⟨b, f + t * 3, none⟩ = some (.int .i64 x.kind) ∧ w'.cell? ⟨b, f + t * 3 + 1, none⟩ = some (.int .i64 x.n) ∧ w'.cell? ⟨b, f + t * 3 + 2, none⟩ = some (.slice x.B x.mm.length x.d)) (by kernel_rfl) (by apply hks.out; (repeat (first | exact Stp.rfl' | assumption | apply Stp.dr | apply Stp.drN | apply Stp.al))) (fun hHeld => ?_)
          refine wpAnyH_take (i := 0) (oi := ?_) (v := ?_) ?_ (by kernel_rfl) (by kernel_rfl) (by kernel_rfl) (fun _ _ _ h => h) (Or.inl ⟨?_, ?_⟩) (by assumption) ?_
          rotate_left 2
          · (simp only [List.getElem?_toArray, List.getElem?_cons_succ, List.getElem?_cons_zero]; first | done | rfl)
          · rfl
          · intro w hSw
            try dsimp only at hSw
            go_simp <;> with_reducible rfl
          try simp only [Act.put, List.setIfInBounds_toArray, List.set_cons_zero, List.set_cons_succ]
          refine wpAnyH_take (i := 1) (oi := ?_) (v := ?_) ?_ (by kernel_rfl) (by kernel_rfl) (by kernel_rfl) (fun _ _ _ h => h) (Or.inl ⟨?_, ?_⟩) (by assumption) ?_
          rotate_left 2
          · (simp only [List.getElem?_toArray, List.getElem?_cons_succ, List.getElem?_cons_zero]; first | done | rfl)
          · rfl
          · intro w hSw
            try dsimp only at hSw
            go_simp <;> with_reducible rfl
          try simp only [Act.put, List.setIfInBounds_toArray, List.set_cons_zero, List.set_cons_succ]
          refine wpAnyH_take (i := 2) (oi := ?_) (v := ?_) ?_ (by kernel_rfl) (by kernel_rfl) (by kernel_rfl) (fun _ _ _ h => h) (Or.inl ⟨?_, ?_⟩) (by assumption) ?_
          rotate_left 2
          · (simp only [List.getElem?_toArray, List.getElem?_cons_succ, List.getElem?_cons_zero]; first | done | rfl)
          · rfl
          · intro w hSw
            try dsimp only at hSw
            go_simp <;> with_reducible rfl
          try simp only [Act.put, List.setIfInBounds_toArray, List.set_cons_zero, List.set_cons_succ]
          refine wpAnyH_take (i := 3) (oi := ?_) (v := ?_) ?_ (by kernel_rfl) (by kernel_rfl) (by kernel_rfl) (fun _ _ _ h => h) (Or.inl ⟨?_, ?_⟩) (by assumption) ?_
          rotate_left 2
          · (simp only [List.getElem?_toArray, List.getElem?_cons_succ, List.getElem?_cons_zero]; first | done | rfl)
          · rfl
          · intro w hSw
            try dsimp only at hSw
            go_simp <;> with_reducible rfl
          try simp only [Act.put, List.setIfInBounds_toArray, List.set_cons_zero, List.set_cons_succ]
          refine wpAnyH_take (i := 4) (oi := ?_) (v := ?_) ?_ (by kernel_rfl) (by kernel_rfl) (by kernel_rfl) (fun _ _ _ h => h) (Or.inl ⟨?_, ?_⟩) (by assumption) ?_
          rotate_left 2
          · (simp only [List.getElem?_toArray, List.getElem?_cons_succ, List.getElem?_cons_zero]; first | done | rfl)
          · rfl
          · intro w hSw
            try dsimp only at hSw
            go_simp <;> with_reducible rfl
          try simp only [Act.put, List.setIfInBounds_toArray, List.set_cons_zero, List.set_cons_succ]
          refine wpAnyH_take (i := 5) (oi := ?_) (v := ?_) ?_ (by kernel_rfl) (by kernel_rfl) (by kernel_rfl) (fun _ _ _ h => h) (Or.inl ⟨?_, ?_⟩) (by assumption) ?_
          rotate_left 2
          · (simp only [List.getElem?_toArray, List.getElem?_cons_succ, List.getElem?_cons_zero]; first | done | rfl)
          · rfl
          · intro w hSw
            try dsimp only at hSw
            go_simp <;> with_reducible rfl
          try simp only [Act.put, List.setIfInBounds_toArray, List.set_cons_zero, List.set_cons_succ]
          refine wpAnyH_take (i := 6) (oi := ?_) (v := ?_) ?_ (by kernel_rfl) (by kernel_rfl) (by kernel_rfl) (fun _ _ _ h => h) (Or.inl ⟨?_, ?_⟩) (by assumption) ?_
          rotate_left 2
          · (simp only [List.getElem?_toArray, List.getElem?_cons_succ, List.getElem?_cons_zero]; first | done | rfl)
          · rfl
          · intro w hSw
            try dsimp only at hSw
            go_simp <;> with_reducible rfl
          try simp only [Act.put, List.setIfInBounds_toArray, List.set_cons_zero, List.set_cons_succ]
          refine wpAnyH_take (i := 7) (oi := ?_) (v := ?_) ?_ (by kernel_rfl) (by kernel_rfl) (by kernel_rfl) (fun _ _ _ h => h) (Or.inl ⟨?_, ?_⟩) (by assumption) ?_
          rotate_left 2
          · (simp only [List.getElem?_toArray, List.getElem?_cons_succ, List.getElem?_cons_zero]; first | done | rfl)
          · rfl
          · intro w hSw
            try dsimp only at hSw
            go_simp <;> with_reducible rfl
          try simp only [Act.put, List.setIfInBounds_toArray, List.set_cons_zero, List.set_cons_succ]
          refine wpAnyH_take (i := 8) (oi := ?_) (v := ?_) ?_ (by kernel_rfl) (by kernel_rfl) (by kernel_rfl) (fun _ _ _ h => h) (Or.inl ⟨?_, ?_⟩) (by assumption) ?_
          rotate_left 2
          · (simp only [List.getElem?_toArray, List.getElem?_cons_succ, List.getElem?_cons_zero]; first | done | rfl)
          · rfl
          · intro w hSw
            try dsimp only at hSw
            go_simp <;> with_reducible rfl
          try simp only [Act.put, List.setIfInBounds_toArray, List.set_cons_zero, List.set_cons_succ]
          refine wpAnyH_take (i := 9) (oi := ?_) (v := ?_) ?_ (by kernel_rfl) (by kernel_rfl) (by kernel_rfl) (fun _ _ _ h => h) (Or.inl ⟨?_, ?_⟩) (by assumption) ?_
          rotate_left 2
          · (simp only [List.getElem?_toArray, List.getElem?_cons_succ, List.getElem?_cons_zero]; first | done | rfl)
          · rfl
          · intro w hSw
            try dsimp only at hSw
            go_simp <;> with_reducible rfl
          try simp only [Act.put, List.setIfInBounds_toArray, List.set_cons_zero, List.set_cons_succ]
          refine wpAnyH_take (i := 10) (oi := ?_) (v := ?_) ?_ (by kernel_rfl) (by kernel_rfl) (by kernel_rfl) (fun _ _ _ h => h) (Or.inl ⟨?_, ?_⟩) (by assumption) ?_
          rotate_left 2
          · (simp only [List.getElem?_toArray, List.getElem?_cons_succ, List.getElem?_cons_zero]; first | done | rfl)
          · rfl
          · intro w hSw
            try dsimp only at hSw
            go_simp <;> with_reducible rfl
          try simp only [Act.put, List.setIfInBounds_toArray, List.set_cons_zero, List.set_cons_succ]
          refine wpAnyH_take (i := 11) (oi := ?_) (v := ?_) ?_ (by kernel_rfl) (by kernel_rfl) (by kernel_rfl) (fun _ _ _ h => h) (Or.inl ⟨?_, ?_⟩) (by assumption) ?_
          rotate_left 2
          · (simp only [List.getElem?_toArray, List.getElem?_cons_succ, List.getElem?_cons_zero]; first | done | rfl)
          · rfl
          · intro w hSw
            try dsimp only at hSw
            go_simp <;> with_reducible rfl
          try simp only [Act.put, List.setIfInBounds_toArray, List.set_cons_zero, List.set_cons_succ]
          refine wpAnyH_take (i := 12) (oi := ?_) (v := ?_) ?_ (by kernel_rfl) (by kernel_rfl) (by kernel_rfl) (fun _ _ _ h => h) (Or.inl ⟨?_, ?_⟩) (by assumption) ?_
          rotate_left 2
          · (simp only [List.getElem?_toArray, List.getElem?_cons_succ, List.getElem?_cons_zero]; first | done | rfl)
          · rfl
          · intro w hSw
            try dsimp only at hSw
            go_simp <;> with_reducible rfl
          try simp only [Act.put, List.setIfInBounds_toArray, List.set_cons_zero, List.set_cons_succ]
          refine wpAnyH_take (i := 13) (oi := ?_) (v := ?_) ?_ (by kernel_rfl) (by kernel_rfl) (by kernel_rfl) (fun _ _ _ h => h) (Or.inl ⟨?_, ?_⟩) (by assumption) ?_
          rotate_left 2
          · (simp only [List.getElem?_toArray, List.getElem?_cons_succ, List.getElem?_cons_zero]; first | done | rfl)
          · rfl
          · intro w hSw
            try dsimp only at hSw
            go_simp <;> with_reducible rfl
          try simp only [Act.put, List.setIfInBounds_toArray, List.set_cons_zero, List.set_cons_succ]
          refine wpAnyH_take (i := 14) (oi := ?_) (v := ?_) ?_ (by kernel_rfl) (by kernel_rfl) (by kernel_rfl) (fun _ _ _ h => h) (Or.inl ⟨?_, ?_⟩) (by assumption) ?_
          rotate_left 2
          · (simp only [List.getElem?_toArray, List.getElem?_cons_succ, List.getElem?_cons_zero]; first | done | rfl)
          · rfl
          · intro w hSw
            try dsimp only at hSw
            go_simp <;> with_reducible rfl
          try simp only [Act.put, List.setIfInBounds_toArray, List.set_cons_zero, List.set_cons_succ]
          refine wpAnyH_ready (rs := [15]) (by kernel_rfl) (by simp) ?_
          refine AllReadyH.cons rfl (fun K hK => ?_) AllReadyH.nil
          go_simp
          go_at_call 15
          refine (step_c 1 p1 3 r1 la (by omega) (by omega) (by omega) l x hn0 hn1 hlen _ o (HT.out.ext (by (repeat (first | exact Ext.rfl' _ | assumption | refine Ext.dr ?_ | refine Ext.drN ?_ _ | refine Ext.al ?_ _ | refine Ext.st ?_ (by simp) _ | refine Ext.tr ?_ (by assumption))))) (HBW.out.ext (by (repeat (first | exact Ext.rfl' _ | assumption | refine Ext.dr ?_ | refine Ext.drN ?_ _ | refine Ext.al ?_ _ | refine Ext.st ?_ (by simp) _ | refine Ext.tr ?_ (by assumption))))) (fun hne a ha _ => HBo.out hne a ha)).mono ?_
          rintro e w6 ⟨v, o6, rfl, ⟨rfl, l6, T6⟩, hst6⟩
          have st6 : Stp (KS 1 3) wr o w6 o6 := (Stp.ext (by (repeat (first | exact Ext.rfl' _ | assumption | refine Ext.dr ?_ | refine Ext.drN ?_ _ | refine Ext.al ?_ _ | refine Ext.st ?_ (by simp) _ | refine Ext.tr ?_ (by assumption))))).tr hst6
          obtain ⟨A6, c6, hh6, _, _⟩ := T6.2.at_
          have c60 := (q_facts hh6).1
          have T6 := Lib.hid T6
          refine hK.out _ _ (hks.out _ _ st6) (fun hHeld2 => ?_)
          clear hK K hHeld
          try simp only [Act.put, List.setIfInBounds_toArray, List.set_cons_zero, List.set_cons_succ]
          refine wpAnyH_mono (S' := fun w' => w'.cell? ⟨r1, 0, none⟩ = some (.slice A6 l6.length c6) ∧ w'.cell? ⟨b, f + t * 3, none⟩ = some (.int .i64 x.kind) ∧ w'.cell? ⟨b, f + t * 3 + 1, none⟩ = some (.int .i64 x.n) ∧ w'.cell? ⟨b, f + t * 3 + 2, none⟩ = some (.slice x.B x.mm.length x.d)) (fun w h => h.2) ?_
          have hHeld := And.intro c60 hHeld2
          refine wpAnyH_take (i := 16) (oi := ?_) (v := ?_) ?_ (by kernel_rfl) (by kernel_rfl) (by kernel_rfl) (fun _ _ _ h => h) (Or.inl ⟨?_, ?_⟩) (by assumption) ?_
          rotate_left 2
          · (simp only [List.getElem?_toArray, List.getElem?_cons_succ, List.getElem?_cons_zero]; first | done | rfl)
          · rfl
          · intro w hSw
            try dsimp only at hSw
            go_simp <;> with_reducible rfl
          try simp only [Act.put, List.setIfInBounds_toArray, List.set_cons_zero, List.set_cons_succ]
          refine wpAnyH_take (i := 17) (oi := ?_) (v := ?_) ?_ (by kernel_rfl) (by kernel_rfl) (by kernel_rfl) (fun _ _ _ h => h) (Or.inl ⟨?_, ?_⟩) (by assumption) ?_
          rotate_left 2
          · (simp only [List.getElem?_toArray, List.getElem?_cons_succ, List.getElem?_cons_zero]; first | done | rfl)
          · rfl
          · intro w hSw
            try dsimp only at hSw
            go_simp <;> with_reducible rfl
          try simp only [Act.put, List.setIfInBounds_toArray, List.set_cons_zero, List.set_cons_succ]
          refine wpAnyH_take (i := 18) (oi := ?_) (v := ?_) ?_ (by kernel_rfl) (by kernel_rfl) (by kernel_rfl) (fun _ _ _ h => h) (Or.inl ⟨?_, ?_⟩) (by assumption) ?_
          rotate_left 2
          · (simp only [List.getElem?_toArray, List.getElem?_cons_succ, List.getElem?_cons_zero]; first | done | rfl)
          · rfl
          · intro w hSw
            try dsimp only at hSw
            go_simp <;> with_reducible rfl
          try simp only [Act.put, List.setIfInBounds_toArray, List.set_cons_zero, List.set_cons_succ]
          refine wpAnyH_take (i := 20) (oi := ?_) (v := ?_) ?_ (by kernel_rfl) (by kernel_rfl) (by kernel_rfl) (fun _ _ _ h => h) (Or.inl ⟨?_, ?_⟩) (by assumption) ?_
          rotate_left 2
          · (simp only [List.getElem?_toArray, List.getElem?_cons_succ, List.getElem?_cons_zero]; first | done | rfl)
          · rfl
          · intro w hSw
            try dsimp only at hSw
            go_simp <;> with_reducible rfl
          try simp only [Act.put, List.setIfInBounds_toArray, List.set_cons_zero, List.set_cons_succ]
          refine wpAnyH_take (i := 21) (oi := ?_) (v := ?_) ?_ (by kernel_rfl) (by kernel_rfl) (by kernel_rfl) (fun _ _ _ h => h) (Or.inl ⟨?_, ?_⟩) (by assumption) ?_
          rotate_left 2
          · (simp only [List.getElem?_toArray, List.getElem?_cons_succ, List.getElem?_cons_zero]; first | done | rfl)
          · rfl
          · intro w hSw
            try dsimp only at hSw
            go_simp <;> with_reducible rfl
          try simp only [Act.put, List.setIfInBounds_toArray, List.set_cons_zero, List.set_cons_succ]
          refine wpAnyH_take (i := 22) (oi := ?_) (v := ?_) ?_ (by kernel_rfl) (by kernel_rfl) (by kernel_rfl) (fun _ _ _ h => h) (Or.inl ⟨?_, ?_⟩) (by assumption) ?_
          rotate_left 2
          · (simp only [List.getElem?_toArray, List.getElem?_cons_succ, List.getElem?_cons_zero]; first | done | rfl)
          · rfl
          · intro w hSw
            try dsimp only at hSw
            go_simp <;> with_reducible rfl
          try simp only [Act.put, List.setIfInBounds_toArray, List.set_cons_zero, List.set_cons_succ]
          refine wpAnyH_take (i := 23) (oi := ?_) (v := ?_) ?_ (by kernel_rfl) (by kernel_rfl) (by kernel_rfl) (fun _ _ _ h => h) (Or.inl ⟨?_, ?_⟩) (by assumption) ?_
          rotate_left 2
          · (simp only [List.getElem?_toArray, List.getElem?_cons_succ, List.getElem?_cons_zero]; first | done | rfl)
          · rfl
          · intro w hSw
            try dsimp only at hSw
            go_simp <;> with_reducible rfl
          try simp only [Act.put, List.setIfInBounds_toArray, List.set_cons_zero, List.set_cons_succ]
          refine wpAnyH_take (i := 24) (oi := ?_) (v := ?_) ?_ (by kernel_rfl) (by kernel_rfl) (by kernel_rfl) (fun _ _ _ h => h) (Or.inl ⟨?_, ?_⟩) (by assumption) ?_
          rotate_left 2
          · (simp only [List.getElem?_toArray, List.getElem?_cons_succ, List.getElem?_cons_zero]; first | done | rfl)
          · rfl
          · intro w hSw
            try dsimp only at hSw
            go_simp <;> with_reducible rfl
          try simp only [Act.put, List.setIfInBounds_toArray, List.set_cons_zero, List.set_cons_succ]
          refine wpAnyH_ready (rs := [19]) (by kernel_rfl) (by simp) ?_
          refine AllReadyH.cons rfl (fun K hK => ?_) AllReadyH.nil
          go_simp
          go_at_call 11
          refine (qLen_c _ o6 1 p1 la l6 (T6.out.1.ext (by (repeat (first | exact Ext.rfl' _ | assumption | refine Ext.dr ?_ | refine Ext.drN ?_ _ | refine Ext.al ?_ _ | refine Ext.st ?_ (by simp) _ | refine Ext.tr ?_ (by assumption)))))).mono ?_
          rintro e w7 ⟨rfl, rfl⟩
          refine hK.out _ _ hHeld (fun hHeld3 => ?_)
          clear hK K
          try simp only [Act.put, List.setIfInBounds_toArray, List.set_cons_zero, List.set_cons_succ]
          refine wpAnyH_take (i := 25) (oi := ?_) (v := ?_) ?_ (by kernel_rfl) (by kernel_rfl) (by kernel_rfl) (fun _ _ _ h => h) (Or.inl ⟨?_, ?_⟩) (by assumption) ?_
          rotate_left 2
          · (simp only [List.getElem?_toArray, List.getElem?_cons_succ, List.getElem?_cons_zero]; first | done | rfl)
          · rfl
          · intro w hSw
            try dsimp only at hSw
            go_simp <;> with_reducible rfl
          try simp only [Act.put, List.setIfInBounds_toArray, List.set_cons_zero, List.set_cons_succ]
          refine wpAnyH_take (i := 26) (oi := ?_) (v := ?_) ?_ (by kernel_rfl) (by kernel_rfl) (by kernel_rfl) (fun _ _ _ h => h) (Or.inl ⟨?_, ?_⟩) (by assumption) ?_
          rotate_left 2
          · (simp only [List.getElem?_toArray, List.getElem?_cons_succ, List.getElem?_cons_zero]; first | done | rfl)
          · rfl
          · intro w hSw
            try dsimp only at hSw
            go_simp <;> with_reducible rfl
          try simp only [Act.put, List.setIfInBounds_toArray, List.set_cons_zero, List.set_cons_succ]
          refine wpAnyH_take (i := 27) (oi := ?_) (v := ?_) ?_ (by kernel_rfl) (by kernel_rfl) (by kernel_rfl) (fun _ _ _ h => h) (Or.inl ⟨?_, ?_⟩) (by assumption) ?_
          rotate_left 2
          · (simp only [List.getElem?_toArray, List.getElem?_cons_succ, List.getElem?_cons_zero]; first | done | rfl)
          · rfl
          · intro w hSw
            try dsimp only at hSw
            go_simp <;> with_reducible rfl
          try simp only [Act.put, List.setIfInBounds_toArray, List.set_cons_zero, List.set_cons_succ]
          refine wpAnyH_done (by kernel_rfl) ?_ _
          refine NoPanic.normal ?_
          all_goals (go_wp2_with fail; go_meet)
          all_goals exact ⟨rfl, QAtL.ext ⟨o6, HS.out.tr (st6.mono (fun x hx => by unfold KS at hx; omega)), ⟨l6, T6.out⟩, HP.out.stp st6 (by unfold KS; omega) (by unfold KS; omega) (by unfold KS; omega) (by unfold KS; omega)⟩ (by (repeat (first | exact Ext.rfl' _ | assumption | refine Ext.dr ?_ | refine Ext.drN ?_ _ | refine Ext.al ?_ _ | refine Ext.st ?_ (by simp) _ | refine Ext.tr ?_ (by assumption))))⟩
        case rest =>
          obtain ⟨rfl, hat⟩ := hcut
          by_cases hly : t < ys.length
          · have hly' : (t : Int) < (ys.length : Int) := by omega
            obtain ⟨b, f, rfl, hb, a0, a1, a2⟩ := h2.row hly
            go_upto_region 12 with fail
            go_cut [129] (fun v wx => v = .bool false ∧ QAtL W (some (p1, r1, la)) (some (p2, r2, lb)) wx)
            case first =>
              obtain ⟨o, hst, hp1, hp2⟩ := hat
              obtain ⟨l, T⟩ := hp2
              obtain ⟨hB, hlen, hn0, hn1⟩ := h2.each _ (List.getElem_mem hly)
              obtain ⟨x, hxe⟩ : ∃ x, x = ys[t] := ⟨_, rfl⟩
              rw [← hxe] at hB hlen hn0 hn1 a0 a1 a2
              have ho : ∀ q, q < W.heap.size → o q = 0 := fun q hq => hst.own q hq
              have hW := hst.toExt (fun _ _ hn => hn rfl)
              have hks := Lib.hid (fun w' o' (e : Stp (KS 5 7) wc o w' o') => (show w'.cell? ⟨b, f + t * 3, none⟩ = some (.int .i64 x.kind) ∧ w'.cell? ⟨b, f + t * 3 + 1, none⟩ = some (.int .i64 x.n) ∧ w'.cell? ⟨b, f + t * 3 + 2, none⟩ = some (.slice x.B x.mm.length x.d) from
                ⟨e.cell (by rw [ho _ hb]; unfold KS; omega) ((hW.cell hb).trans a0), e.cell (by rw [ho _ hb]; unfold KS; omega) ((hW.cell hb).trans a1), e.cell (by rw [ho _ hb]; unfold KS; omega) ((hW.cell hb).trans a2)⟩))
              have HBW := Lib.hid (hB.ext hW)
              have HBo := Lib.hid (show x.mm ≠ [] → ∀ a, x.B = some a → o a.block = 0 from fun hne a ha => by
                obtain ⟨b', f', hA', hb', _⟩ := hB.at_ (by rw [bc_len]; exact List.length_pos_iff.2 hne)
                rw [ha] at hA'; cases hA'; exact ho _ hb')
              have HT := Lib.hid T
              have HP := Lib.hid hp1
              have HS := Lib.hid hst
              clear hp1 hst T hB a0 a1 a2 hxe ho hW
              refine wp_region_noPanic ?_
              refine wp_region_held_drew (S := fun w' => w'.cell? ⟨b, f + t * 3, none⟩ = some (.int .i64 x.kind) ∧ w'.cell? ⟨b, f + t * 3 + 1, none⟩ = some (.int .i64 x.n) ∧ w'.cell? ⟨b, f + t * 3 + 2, none⟩ = some (.slice x.B x.mm.length x.d)) (by kernel_rfl) (by apply hks.out; (repeat (first | exact Stp.rfl' | assumption | apply Stp.dr | apply Stp.drN | apply Stp.al))) (fun hHeld => ?_)
              refine wpAnyH_take (i := 0) (oi := ?_) (v := ?_) ?_ (by kernel_rfl) (by kernel_rfl) (by kernel_rfl) (fun _ _ _ h => h) (Or.inl ⟨?_, ?_⟩) (by assumption) ?_
              rotate_left 2
              · (simp only [List.getElem?_toArray, List.getElem?_cons_succ, List.getElem?_cons_zero]; first | done | rfl)
              · rfl
              · intro w hSw
                try dsimp only at hSw
                go_simp <;> with_reducible rfl
              try simp only [Act.put, List.setIfInBounds_toArray, List.set_cons_zero, List.set_cons_succ]
              refine wpAnyH_take (i := 1) (oi := ?_) (v := ?_) ?_ (by kernel_rfl) (by kernel_rfl) (by kernel_rfl) (fun _ _ _ h => h) (Or.inl ⟨?_, ?_⟩) (by assumption) ?_
              rotate_left 2
              · (simp only [List.getElem?_toArray, List.getElem?_cons_succ, List.getElem?_cons_zero]; first | done | rfl)
              · rfl
              · intro w hSw
                try dsimp only at hSw
                go_simp <;> with_reducible rfl
              try simp only [Act.put, List.setIfInBounds_toArray, List.set_cons_zero, List.set_cons_succ]
              refine wpAnyH_take (i := 2) (oi := ?_) (v := ?_) ?_ (by kernel_rfl) (by kernel_rfl) (by kernel_rfl) (fun _ _ _ h => h) (Or.inl ⟨?_, ?_⟩) (by assumption) ?_
              rotate_left 2
              · (simp only [List.getElem?_toArray, List.getElem?_cons_succ, List.getElem?_cons_zero]; first | done | rfl)
              · rfl
              · intro w hSw
                try dsimp only at hSw
                go_simp <;> with_reducible rfl
              try simp only [Act.put, List.setIfInBounds_toArray, List.set_cons_zero, List.set_cons_succ]
              refine wpAnyH_take (i := 3) (oi := ?_) (v := ?_) ?_ (by kernel_rfl) (by kernel_rfl) (by kernel_rfl) (fun _ _ _ h => h) (Or.inl ⟨?_, ?_⟩) (by assumption) ?_
              rotate_left 2
              · (simp only [List.getElem?_toArray, List.getElem?_cons_succ, List.getElem?_cons_zero]; first | done | rfl)
              · rfl
              · intro w hSw
                try dsimp only at hSw
                go_simp <;> with_reducible rfl
              try simp only [Act.put, List.setIfInBounds_toArray, List.set_cons_zero, List.set_cons_succ]
              refine wpAnyH_take (i := 4) (oi := ?_) (v := ?_) ?_ (by kernel_rfl) (by kernel_rfl) (by kernel_rfl) (fun _ _ _ h => h) (Or.inl ⟨?_, ?_⟩) (by assumption) ?_
              rotate_left 2
              · (simp only [List.getElem?_toArray, List.getElem?_cons_succ, List.getElem?_cons_zero]; first | done | rfl)
              · rfl
              · intro w hSw
                try dsimp only at hSw
                go_simp <;> with_reducible rfl
              try simp only [Act.put, List.setIfInBounds_toArray, List.set_cons_zero, List.set_cons_succ]
              refine wpAnyH_take (i := 5) (oi := ?_) (v := ?_) ?_ (by kernel_rfl) (by kernel_rfl) (by kernel_rfl) (fun _ _ _ h => h) (Or.inl ⟨?_, ?_⟩) (by assumption) ?_
              rotate_left 2
              · (simp only [List.getElem?_toArray, List.getElem?_cons_succ, List.getElem?_cons_zero]; first | done | rfl)
              · rfl
              · intro w hSw
                try dsimp only at hSw
                go_simp <;> with_reducible rfl
              try simp only [Act.put, List.setIfInBounds_toArray, List.set_cons_zero, List.set_cons_succ]
              refine wpAnyH_take (i := 6) (oi := ?_) (v := ?_) ?_ (by kernel_rfl) (by kernel_rfl) (by kernel_rfl) (fun _ _ _ h => h) (Or.inl ⟨?_, ?_⟩) (by assumption) ?_
              rotate_left 2
              · (simp only [List.getElem?_toArray, List.getElem?_cons_succ, List.getElem?_cons_zero]; first | done | rfl)
              · rfl
              · intro w hSw
                try dsimp only at hSw
                go_simp <;> with_reducible rfl
              try simp only [Act.put, List.setIfInBounds_toArray, List.set_cons_zero, List.set_cons_succ]
              refine wpAnyH_take (i := 7) (oi := ?_) (v := ?_) ?_ (by kernel_rfl) (by kernel_rfl) (by kernel_rfl) (fun _ _ _ h => h) (Or.inl ⟨?_, ?_⟩) (by assumption) ?_
              rotate_left 2
              · (simp only [List.getElem?_toArray, List.getElem?_cons_succ, List.getElem?_cons_zero]; first | done | rfl)
              · rfl
              · intro w hSw
                try dsimp only at hSw
                go_simp <;> with_reducible rfl
              try simp only [Act.put, List.setIfInBounds_toArray, List.set_cons_zero, List.set_cons_succ]
              refine wpAnyH_take (i := 8) (oi := ?_) (v := ?_) ?_ (by kernel_rfl) (by kernel_rfl) (by kernel_rfl) (fun _ _ _ h => h) (Or.inl ⟨?_, ?_⟩) (by assumption) ?_
              rotate_left 2
              · (simp only [List.getElem?_toArray, List.getElem?_cons_succ, List.getElem?_cons_zero]; first | done | rfl)
              · rfl
              · intro w hSw
                try dsimp only at hSw
                go_simp <;> with_reducible rfl
              try simp only [Act.put, List.setIfInBounds_toArray, List.set_cons_zero, List.set_cons_succ]
              refine wpAnyH_take (i := 9) (oi := ?_) (v := ?_) ?_ (by kernel_rfl) (by kernel_rfl) (by kernel_rfl) (fun _ _ _ h => h) (Or.inl ⟨?_, ?_⟩) (by assumption) ?_
              rotate_left 2
              · (simp only [List.getElem?_toArray, List.getElem?_cons_succ, List.getElem?_cons_zero]; first | done | rfl)
              · rfl
              · intro w hSw
                try dsimp only at hSw
                go_simp <;> with_reducible rfl
              try simp only [Act.put, List.setIfInBounds_toArray, List.set_cons_zero, List.set_cons_succ]
              refine wpAnyH_take (i := 10) (oi := ?_) (v := ?_) ?_ (by kernel_rfl) (by kernel_rfl) (by kernel_rfl) (fun _ _ _ h => h) (Or.inl ⟨?_, ?_⟩) (by assumption) ?_
              rotate_left 2
              · (simp only [List.getElem?_toArray, List.getElem?_cons_succ, List.getElem?_cons_zero]; first | done | rfl)
              · rfl
              · intro w hSw
                try dsimp only at hSw
                go_simp <;> with_reducible rfl
              try simp only [Act.put, List.setIfInBounds_toArray, List.set_cons_zero, List.set_cons_succ]
              refine wpAnyH_take (i := 11) (oi := ?_) (v := ?_) ?_ (by kernel_rfl) (by kernel_rfl) (by kernel_rfl) (fun _ _ _ h => h) (Or.inl ⟨?_, ?_⟩) (by assumption) ?_
              rotate_left 2
              · (simp only [List.getElem?_toArray, List.getElem?_cons_succ, List.getElem?_cons_zero]; first | done | rfl)
              · rfl
              · intro w hSw
                try dsimp only at hSw
                go_simp <;> with_reducible rfl
              try simp only [Act.put, List.setIfInBounds_toArray, List.set_cons_zero, List.set_cons_succ]
              refine wpAnyH_take (i := 12) (oi := ?_) (v := ?_) ?_ (by kernel_rfl) (by kernel_rfl) (by kernel_rfl) (fun _ _ _ h => h) (Or.inl ⟨?_, ?_⟩) (by assumption) ?_
              rotate_left 2
              · (simp only [List.getElem?_toArray, List.getElem?_cons_succ, List.getElem?_cons_zero]; first | done | rfl)
              · rfl
              · intro w hSw
                try dsimp only at hSw
                go_simp <;> with_reducible rfl
              try simp only [Act.put, List.setIfInBounds_toArray, List.set_cons_zero, List.set_cons_succ]
              refine wpAnyH_take (i := 13) (oi := ?_) (v := ?_) ?_ (by kernel_rfl) (by kernel_rfl) (by kernel_rfl) (fun _ _ _ h => h) (Or.inl ⟨?_, ?_⟩) (by assumption) ?_
              rotate_left 2
              · (simp only [List.getElem?_toArray, List.getElem?_cons_succ, List.getElem?_cons_zero]; first | done | rfl)
              · rfl
              · intro w hSw
                try dsimp only at hSw
                go_simp <;> with_reducible rfl
              try simp only [Act.put, List.setIfInBounds_toArray, List.set_cons_zero, List.set_cons_succ]
              refine wpAnyH_take (i := 14) (oi := ?_) (v := ?_) ?_ (by kernel_rfl) (by kernel_rfl) (by kernel_rfl) (fun _ _ _ h => h) (Or.inl ⟨?_, ?_⟩) (by assumption) ?_
              rotate_left 2
              · (simp only [List.getElem?_toArray, List.getElem?_cons_succ, List.getElem?_cons_zero]; first | done | rfl)
              · rfl
              · intro w hSw
                try dsimp only at hSw
                go_simp <;> with_reducible rfl
              try simp only [Act.put, List.setIfInBounds_toArray, List.set_cons_zero, List.set_cons_succ]
              refine wpAnyH_ready (rs := [15]) (by kernel_rfl) (by simp) ?_
              refine AllReadyH.cons rfl (fun K hK => ?_) AllReadyH.nil
              go_simp
              go_at_call 15
              refine (step_c 5 p2 7 r2 lb (by omega) (by omega) (by omega) l x hn0 hn1 hlen _ o (HT.out.ext (by (repeat (first | exact Ext.rfl' _ | assumption | refine Ext.dr ?_ | refine Ext.drN ?_ _ | refine Ext.al ?_ _ | refine Ext.st ?_ (by simp) _ | refine Ext.tr ?_ (by assumption))))) (HBW.out.ext (by (repeat (first | exact Ext.rfl' _ | assumption | refine Ext.dr ?_ | refine Ext.drN ?_ _ | refine Ext.al ?_ _ | refine Ext.st ?_ (by simp) _ | refine Ext.tr ?_ (by assumption))))) (fun hne a ha _ => HBo.out hne a ha)).mono ?_
              rintro e w6 ⟨v, o6, rfl, ⟨rfl, l6, T6⟩, hst6⟩
              have st6 : Stp (KS 5 7) wc o w6 o6 := (Stp.ext (by (repeat (first | exact Ext.rfl' _ | assumption | refine Ext.dr ?_ | refine Ext.drN ?_ _ | refine Ext.al ?_ _ | refine Ext.st ?_ (by simp) _ | refine Ext.tr ?_ (by assumption))))).tr hst6
              obtain ⟨A6, c6, hh6, _, _⟩ := T6.2.at_
              have c60 := (q_facts hh6).1
              have T6 := Lib.hid T6
              refine hK.out _ _ (hks.out _ _ st6) (fun hHeld2 => ?_)
              clear hK K hHeld
              try simp only [Act.put, List.setIfInBounds_toArray, List.set_cons_zero, List.set_cons_succ]
              refine wpAnyH_mono (S' := fun w' => w'.cell? ⟨r2, 0, none⟩ = some (.slice A6 l6.length c6) ∧ w'.cell? ⟨b, f + t * 3, none⟩ = some (.int .i64 x.kind) ∧ w'.cell? ⟨b, f + t * 3 + 1, none⟩ = some (.int .i64 x.n) ∧ w'.cell? ⟨b, f + t * 3 + 2, none⟩ = some (.slice x.B x.mm.length x.d)) (fun w h => h.2) ?_
              have hHeld := And.intro c60 hHeld2
              refine wpAnyH_take (i := 16) (oi := ?_) (v := ?_) ?_ (by kernel_rfl) (by kernel_rfl) (by kernel_rfl) (fun _ _ _ h => h) (Or.inl ⟨?_, ?_⟩) (by assumption) ?_
              rotate_left 2
              · (simp only [List.getElem?_toArray, List.getElem?_cons_succ, List.getElem?_cons_zero]; first | done | rfl)
              · rfl
              · intro w hSw
                try dsimp only at hSw
                go_simp <;> with_reducible rfl
              try simp only [Act.put, List.setIfInBounds_toArray, List.set_cons_zero, List.set_cons_succ]
              refine wpAnyH_take (i := 17) (oi := ?_) (v := ?_) ?_ (by kernel_rfl) (by kernel_rfl) (by kernel_rfl) (fun _ _ _ h => h) (Or.inl ⟨?_, ?_⟩) (by assumption) ?_
              rotate_left 2
              · (simp only [List.getElem?_toArray, List.getElem?_cons_succ, List.getElem?_cons_zero]; first | done | rfl)
              · rfl
              · intro w hSw
                try dsimp only at hSw
                go_simp <;> with_reducible rfl
              try simp only [Act.put, List.setIfInBounds_toArray, List.set_cons_zero, List.set_cons_succ]
              refine wpAnyH_take (i := 18) (oi := ?_) (v := ?_) ?_ (by kernel_rfl) (by kernel_rfl) (by kernel_rfl) (fun _ _ _ h => h) (Or.inl ⟨?_, ?_⟩) (by assumption) ?_
              rotate_left 2
              · (simp only [List.getElem?_toArray, List.getElem?_cons_succ, List.getElem?_cons_zero]; first | done | rfl)
              · rfl
              · intro w hSw
                try dsimp only at hSw
                go_simp <;> with_reducible rfl
              try simp only [Act.put, List.setIfInBounds_toArray, List.set_cons_zero, List.set_cons_succ]
              refine wpAnyH_take (i := 20) (oi := ?_) (v := ?_) ?_ (by kernel_rfl) (by kernel_rfl) (by kernel_rfl) (fun _ _ _ h => h) (Or.inl ⟨?_, ?_⟩) (by assumption) ?_
              rotate_left 2
              · (simp only [List.getElem?_toArray, List.getElem?_cons_succ, List.getElem?_cons_zero]; first | done | rfl)
              · rfl
              · intro w hSw
                try dsimp only at hSw
                go_simp <;> with_reducible rfl
              try simp only [Act.put, List.setIfInBounds_toArray, List.set_cons_zero, List.set_cons_succ]
              refine wpAnyH_take (i := 21) (oi := ?_) (v := ?_) ?_ (by kernel_rfl) (by kernel_rfl) (by kernel_rfl) (fun _ _ _ h => h) (Or.inl ⟨?_, ?_⟩) (by assumption) ?_
              rotate_left 2
              · (simp only [List.getElem?_toArray, List.getElem?_cons_succ, List.getElem?_cons_zero]; first | done | rfl)
              · rfl
              · intro w hSw
                try dsimp only at hSw
                go_simp <;> with_reducible rfl
              try simp only [Act.put, List.setIfInBounds_toArray, List.set_cons_zero, List.set_cons_succ]
              refine wpAnyH_take (i := 22) (oi := ?_) (v := ?_) ?_ (by kernel_rfl) (by kernel_rfl) (by kernel_rfl) (fun _ _ _ h => h) (Or.inl ⟨?_, ?_⟩) (by assumption) ?_
              rotate_left 2
              · (simp only [List.getElem?_toArray, List.getElem?_cons_succ, List.getElem?_cons_zero]; first | done | rfl)
              · rfl
              · intro w hSw
                try dsimp only at hSw
                go_simp <;> with_reducible rfl
              try simp only [Act.put, List.setIfInBounds_toArray, List.set_cons_zero, List.set_cons_succ]
              refine wpAnyH_take (i := 23) (oi := ?_) (v := ?_) ?_ (by kernel_rfl) (by kernel_rfl) (by kernel_rfl) (fun _ _ _ h => h) (Or.inl ⟨?_, ?_⟩) (by assumption) ?_
              rotate_left 2
              · (simp only [List.getElem?_toArray, List.getElem?_cons_succ, List.getElem?_cons_zero]; first | done | rfl)
              · rfl
              · intro w hSw
                try dsimp only at hSw
                go_simp <;> with_reducible rfl
              try simp only [Act.put, List.setIfInBounds_toArray, List.set_cons_zero, List.set_cons_succ]
              refine wpAnyH_take (i := 24) (oi := ?_) (v := ?_) ?_ (by kernel_rfl) (by kernel_rfl) (by kernel_rfl) (fun _ _ _ h => h) (Or.inl ⟨?_, ?_⟩) (by assumption) ?_
              rotate_left 2
              · (simp only [List.getElem?_toArray, List.getElem?_cons_succ, List.getElem?_cons_zero]; first | done | rfl)
              · rfl
              · intro w hSw
                try dsimp only at hSw
                go_simp <;> with_reducible rfl
              try simp only [Act.put, List.setIfInBounds_toArray, List.set_cons_zero, List.set_cons_succ]
              refine wpAnyH_ready (rs := [19]) (by kernel_rfl) (by simp) ?_
              refine AllReadyH.cons rfl (fun K hK => ?_) AllReadyH.nil
              go_simp
              go_at_call 11
              refine (qLen_c _ o6 5 p2 lb l6 (T6.out.1.ext (by (repeat (first | exact Ext.rfl' _ | assumption | refine Ext.dr ?_ | refine Ext.drN ?_ _ | refine Ext.al ?_ _ | refine Ext.st ?_ (by simp) _ | refine Ext.tr ?_ (by assumption)))))).mono ?_
              rintro e w7 ⟨rfl, rfl⟩
              refine hK.out _ _ hHeld (fun hHeld3 => ?_)
              clear hK K
              try simp only [Act.put, List.setIfInBounds_toArray, List.set_cons_zero, List.set_cons_succ]
              refine wpAnyH_take (i := 25) (oi := ?_) (v := ?_) ?_ (by kernel_rfl) (by kernel_rfl) (by kernel_rfl) (fun _ _ _ h => h) (Or.inl ⟨?_, ?_⟩) (by assumption) ?_
              rotate_left 2
              · (simp only [List.getElem?_toArray, List.getElem?_cons_succ, List.getElem?_cons_zero]; first | done | rfl)
              · rfl
              · intro w hSw
                try dsimp only at hSw
                go_simp <;> with_reducible rfl
              try simp only [Act.put, List.setIfInBounds_toArray, List.set_cons_zero, List.set_cons_succ]
              refine wpAnyH_take (i := 26) (oi := ?_) (v := ?_) ?_ (by kernel_rfl) (by kernel_rfl) (by kernel_rfl) (fun _ _ _ h => h) (Or.inl ⟨?_, ?_⟩) (by assumption) ?_
              rotate_left 2
              · (simp only [List.getElem?_toArray, List.getElem?_cons_succ, List.getElem?_cons_zero]; first | done | rfl)
              · rfl
              · intro w hSw
                try dsimp only at hSw
                go_simp <;> with_reducible rfl
              try simp only [Act.put, List.setIfInBounds_toArray, List.set_cons_zero, List.set_cons_succ]
              refine wpAnyH_take (i := 27) (oi := ?_) (v := ?_) ?_ (by kernel_rfl) (by kernel_rfl) (by kernel_rfl) (fun _ _ _ h => h) (Or.inl ⟨?_, ?_⟩) (by assumption) ?_
              rotate_left 2
              · (simp only [List.getElem?_toArray, List.getElem?_cons_succ, List.getElem?_cons_zero]; first | done | rfl)
              · rfl
              · intro w hSw
                try dsimp only at hSw
                go_simp <;> with_reducible rfl
              try simp only [Act.put, List.setIfInBounds_toArray, List.set_cons_zero, List.set_cons_succ]
              refine wpAnyH_done (by kernel_rfl) ?_ _
              refine NoPanic.normal ?_
              all_goals (go_wp2_with fail; go_meet)
              all_goals exact ⟨rfl, QAtL.ext ⟨o6, HS.out.tr (st6.mono (fun x hx => by unfold KS at hx; omega)), ⟨HP.out.stp st6 (by unfold KS; omega) (by unfold KS; omega) (by unfold KS; omega) (by unfold KS; omega), ⟨l6, T6.out⟩⟩⟩ (by (repeat (first | exact Ext.rfl' _ | assumption | refine Ext.dr ?_ | refine Ext.drN ?_ _ | refine Ext.al ?_ _ | refine Ext.st ?_ (by simp) _ | refine Ext.tr ?_ (by assumption))))⟩
            case rest =>
              obtain ⟨rfl, hat⟩ := hcut
              go_wp2
              go_roundw
              case rel => exact ⟨t + 1, by go_num, by omega, hat⟩
              case measure => simp [intOf]; omega
          · have hly' : ¬ (t : Int) < (ys.length : Int) := by omega
            go_upto_region 12 with fail
            go_cut [129] (fun v wx => v = .bool false ∧ QAtL W (some (p1, r1, la)) (some (p2, r2, lb)) wx)
            case first =>
              have HQ := Lib.hid hat
              go_quiet (fail)
              go_wp2_with fail
              go_meet
              exact ⟨rfl, HQ.out.ext (by (repeat (first | exact Ext.rfl' _ | assumption | refine Ext.dr ?_ | refine Ext.drN ?_ _ | refine Ext.al ?_ _ | refine Ext.st ?_ (by simp) _ | refine Ext.tr ?_ (by assumption))))⟩
            case rest =>
              obtain ⟨rfl, hat⟩ := hcut
              go_wp2
              go_roundw
              case rel => exact ⟨t + 1, by go_num, by omega, hat⟩
              case measure => simp [intOf]; omega
      · have hlx' : ¬ (t : Int) < (xs.length : Int) := by omega
        have hly : t < ys.length := by omega
        have hly' : (t : Int) < (ys.length : Int) := by omega
        go_upto_region 10 with fail
        go_cut [101] (fun v wx => v = .bool false ∧ QAtL W (some (p1, r1, la)) (some (p2, r2, lb)) wx)
        case first =>
          have HQ := Lib.hid hat
          go_quiet (fail)
          go_wp2_with fail
          go_meet
          exact ⟨rfl, HQ.out.ext (by (repeat (first | exact Ext.rfl' _ | assumption | refine Ext.dr ?_ | refine Ext.drN ?_ _ | refine Ext.al ?_ _ | refine Ext.st ?_ (by simp) _ | refine Ext.tr ?_ (by assumption))))⟩
        case rest =>
          obtain ⟨rfl, hat⟩ := hcut
          obtain ⟨b, f, rfl, hb, a0, a1, a2⟩ := h2.row hly
          go_upto_region 12 with fail
          go_cut [129] (fun v wx => v = .bool false ∧ QAtL W (some (p1, r1, la)) (some (p2, r2, lb)) wx)
          case first =>
            obtain ⟨o, hst, hp1, hp2⟩ := hat
            obtain ⟨l, T⟩ := hp2
            obtain ⟨hB, hlen, hn0, hn1⟩ := h2.each _ (List.getElem_mem hly)
            obtain ⟨x, hxe⟩ : ∃ x, x = ys[t] := ⟨_, rfl⟩
            rw [← hxe] at hB hlen hn0 hn1 a0 a1 a2
            have ho : ∀ q, q < W.heap.size → o q = 0 := fun q hq => hst.own q hq
            have hW := hst.toExt (fun _ _ hn => hn rfl)
            have hks := Lib.hid (fun w' o' (e : Stp (KS 5 7) wc o w' o') => (show w'.cell? ⟨b, f + t * 3, none⟩ = some (.int .i64 x.kind) ∧ w'.cell? ⟨b, f + t * 3 + 1, none⟩ = some (.int .i64 x.n) ∧ w'.cell? ⟨b, f + t * 3 + 2, none⟩ = some (.slice x.B x.mm.length x.d) from
              ⟨e.cell (by rw [ho _ hb]; unfold KS; omega) ((hW.cell hb).trans a0), e.cell (by rw [ho _ hb]; unfold KS; omega) ((hW.cell hb).trans a1), e.cell (by rw [ho _ hb]; unfold KS; omega) ((hW.cell hb).trans a2)⟩))
            have HBW := Lib.hid (hB.ext hW)
            have HBo := Lib.hid (show x.mm ≠ [] → ∀ a, x.B = some a → o a.block = 0 from fun hne a ha => by
              obtain ⟨b', f', hA', hb', _⟩ := hB.at_ (by rw [bc_len]; exact List.length_pos_iff.2 hne)
              rw [ha] at hA'; cases hA'; exact ho _ hb')
            have HT := Lib.hid T
            have HP := Lib.hid hp1
            have HS := Lib.hid hst
            clear hp1 hst T hB a0 a1 a2 hxe ho hW
            refine wp_region_noPanic ?_
            refine wp_region_held_drew (S := fun w' => w'.cell? ⟨b, f + t * 3, none⟩ = some (.int .i64 x.kind) ∧ w'.cell? ⟨b, f + t * 3 + 1, none⟩ = some (.int .i64 x.n) ∧ w'.cell? ⟨b, f + t * 3 + 2, none⟩ = some (.slice x.B x.mm.length x.d)) (by kernel_rfl) (by apply hks.out; (repeat (first | exact Stp.rfl' | assumption | apply Stp.dr | apply Stp.drN | apply Stp.al))) (fun hHeld => ?_)
            refine wpAnyH_take (i := 0) (oi := ?_) (v := ?_) ?_ (by kernel_rfl) (by kernel_rfl) (by kernel_rfl) (fun _ _ _ h => h) (Or.inl ⟨?_, ?_⟩) (by assumption) ?_
            rotate_left 2
            · (simp only [List.getElem?_toArray, List.getElem?_cons_succ, List.getElem?_cons_zero]; first | done | rfl)
            · rfl
            · intro w hSw
              try dsimp only at hSw
              go_simp <;> with_reducible rfl
            try simp only [Act.put, List.setIfInBounds_toArray, List.set_cons_zero, List.set_cons_succ]
            refine wpAnyH_take (i := 1) (oi := ?_) (v := ?_) ?_ (by kernel_rfl) (by kernel_rfl) (by kernel_rfl) (fun _ _ _ h => h) (Or.inl ⟨?_, ?_⟩) (by assumption) ?_
            rotate_left 2
            · (simp only [List.getElem?_toArray, List.getElem?_cons_succ, List.getElem?_cons_zero]; first | done | rfl)
            · rfl
            · intro w hSw
              try dsimp only at hSw
              go_simp <;> with_reducible rfl
            try simp only [Act.put, List.setIfInBounds_toArray, List.set_cons_zero, List.set_cons_succ]
            refine wpAnyH_take (i := 2) (oi := ?_) (v := ?_) ?_ (by kernel_rfl) (by kernel_rfl) (by kernel_rfl) (fun _ _ _ h => h) (Or.inl ⟨?_, ?_⟩) (by assumption) ?_
            rotate_left 2
            · (simp only [List.getElem?_toArray, List.getElem?_cons_succ, List.getElem?_cons_zero]; first | done | rfl)
            · rfl
            · intro w hSw
              try dsimp only at hSw
              go_simp <;> with_reducible rfl
            try simp only [Act.put, List.setIfInBounds_toArray, List.set_cons_zero, List.set_cons_succ]
            refine wpAnyH_take (i := 3) (oi := ?_) (v := ?_) ?_ (by kernel_rfl) (by kernel_rfl) (by kernel_rfl) (fun _ _ _ h => h) (Or.inl ⟨?_, ?_⟩) (by assumption) ?_
            rotate_left 2
            · (simp only [List.getElem?_toArray, List.getElem?_cons_succ, List.getElem?_cons_zero]; first | done | rfl)
            · rfl
            · intro w hSw
              try dsimp only at hSw
              go_simp <;> with_reducible rfl
            try simp only [Act.put, List.setIfInBounds_toArray, List.set_cons_zero, List.set_cons_succ]
            refine wpAnyH_take (i := 4) (oi := ?_) (v := ?_) ?_ (by kernel_rfl) (by kernel_rfl) (by kernel_rfl) (fun _ _ _ h => h) (Or.inl ⟨?_, ?_⟩) (by assumption) ?_
            rotate_left 2
            · (simp only [List.getElem?_toArray, List.getElem?_cons_succ, List.getElem?_cons_zero]; first | done | rfl)
            · rfl
            · intro w hSw
              try dsimp only at hSw
              go_simp <;> with_reducible rfl
            try simp only [Act.put, List.setIfInBounds_toArray, List.set_cons_zero, List.set_cons_succ]
            refine wpAnyH_take (i := 5) (oi := ?_) (v := ?_) ?_ (by kernel_rfl) (by kernel_rfl) (by kernel_rfl) (fun _ _ _ h => h) (Or.inl ⟨?_, ?_⟩) (by assumption) ?_
            rotate_left 2
            · (simp only [List.getElem?_toArray, List.getElem?_cons_succ, List.getElem?_cons_zero]; first | done | rfl)
            · rfl
            · intro w hSw
              try dsimp only at hSw
              go_simp <;> with_reducible rfl
            try simp only [Act.put, List.setIfInBounds_toArray, List.set_cons_zero, List.set_cons_succ]
            refine wpAnyH_take (i := 6) (oi := ?_) (v := ?_) ?_ (by kernel_rfl) (by kernel_rfl) (by kernel_rfl) (fun _ _ _ h => h) (Or.inl ⟨?_, ?_⟩) (by assumption) ?_
            rotate_left 2
            · (simp only [List.getElem?_toArray, List.getElem?_cons_succ, List.getElem?_cons_zero]; first | done | rfl)
            · rfl
            · intro w hSw
              try dsimp only at hSw
              go_simp <;> with_reducible rfl
            try simp only [Act.put, List.setIfInBounds_toArray, List.set_cons_zero, List.set_cons_succ]
            refine wpAnyH_take (i := 7) (oi := ?_) (v := ?_) ?_ (by kernel_rfl) (by kernel_rfl) (by kernel_rfl) (fun _ _ _ h => h) (Or.inl ⟨?_, ?_⟩) (by assumption) ?_
            rotate_left 2
            · (simp only [List.getElem?_toArray, List.getElem?_cons_succ, List.getElem?_cons_zero]; first | done | rfl)
            · rfl
            · intro w hSw
              try dsimp only at hSw
              go_simp <;> with_reducible rfl
            try simp only [Act.put, List.setIfInBounds_toArray, List.set_cons_zero, List.set_cons_succ]
            refine wpAnyH_take (i := 8) (oi := ?_) (v := ?_) ?_ (by kernel_rfl) (by kernel_rfl) (by kernel_rfl) (fun _ _ _ h => h) (Or.inl ⟨?_, ?_⟩) (by assumption) ?_
            rotate_left 2
            · (simp only [List.getElem?_toArray, List.getElem?_cons_succ, List.getElem?_cons_zero]; first | done | rfl)
            · rfl
            · intro w hSw
              try dsimp only at hSw
              go_simp <;> with_reducible rfl
            try simp only [Act.put, List.setIfInBounds_toArray, List.set_cons_zero, List.set_cons_succ]
            refine wpAnyH_take (i := 9) (oi := ?_) (v := ?_) ?_ (by kernel_rfl) (by kernel_rfl) (by kernel_rfl) (fun _ _ _ h => h) (Or.inl ⟨?_, ?_⟩) (by assumption) ?_
            rotate_left 2
            · (simp only [List.getElem?_toArray, List.getElem?_cons_succ, List.getElem?_cons_zero]; first | done | rfl)
            · rfl
            · intro w hSw
              try dsimp only at hSw
              go_simp <;> with_reducible rfl
            try simp only [Act.put, List.setIfInBounds_toArray, List.set_cons_zero, List.set_cons_succ]
            refine wpAnyH_take (i := 10) (oi := ?_) (v := ?_) ?_ (by kernel_rfl) (by kernel_rfl) (by kernel_rfl) (fun _ _ _ h => h) (Or.inl ⟨?_, ?_⟩) (by assumption) ?_
            rotate_left 2
            · (simp only [List.getElem?_toArray, List.getElem?_cons_succ, List.getElem?_cons_zero]; first | done | rfl)
            · rfl
            · intro w hSw
              try dsimp only at hSw
              go_simp <;> with_reducible rfl
            try simp only [Act.put, List.setIfInBounds_toArray, List.set_cons_zero, List.set_cons_succ]
            refine wpAnyH_take (i := 11) (oi := ?_) (v := ?_) ?_ (by kernel_rfl) (by kernel_rfl) (by kernel_rfl) (fun _ _ _ h => h) (Or.inl ⟨?_, ?_⟩) (by assumption) ?_
            rotate_left 2
            · (simp only [List.getElem?_toArray, List.getElem?_cons_succ, List.getElem?_cons_zero]; first | done | rfl)
            · rfl
            · intro w hSw
              try dsimp only at hSw
              go_simp <;> with_reducible rfl
            try simp only [Act.put, List.setIfInBounds_toArray, List.set_cons_zero, List.set_cons_succ]
            refine wpAnyH_take (i := 12) (oi := ?_) (v := ?_) ?_ (by kernel_rfl) (by kernel_rfl) (by kernel_rfl) (fun _ _ _ h => h) (Or.inl ⟨?_, ?_⟩) (by assumption) ?_
            rotate_left 2
            · (simp only [List.getElem?_toArray, List.getElem?_cons_succ, List.getElem?_cons_zero]; first | done | rfl)
            · rfl
            · intro w hSw
              try dsimp only at hSw
              go_simp <;> with_reducible rfl
            try simp only [Act.put, List.setIfInBounds_toArray, List.set_cons_zero, List.set_cons_succ]
            refine wpAnyH_take (i := 13) (oi := ?_) (v := ?_) ?_ (by kernel_rfl) (by kernel_rfl) (by kernel_rfl) (fun _ _ _ h => h) (Or.inl ⟨?_, ?_⟩) (by assumption) ?_
            rotate_left 2
            · (simp only [List.getElem?_toArray, List.getElem?_cons_succ, List.getElem?_cons_zero]; first | done | rfl)
            · rfl
            · intro w hSw
              try dsimp only at hSw
              go_simp <;> with_reducible rfl
            try simp only [Act.put, List.setIfInBounds_toArray, List.set_cons_zero, List.set_cons_succ]
            refine wpAnyH_take (i := 14) (oi := ?_) (v := ?_) ?_ (by kernel_rfl) (by kernel_rfl) (by kernel_rfl) (fun _ _ _ h => h) (Or.inl ⟨?_, ?_⟩) (by assumption) ?_
            rotate_left 2
            · (simp only [List.getElem?_toArray, List.getElem?_cons_succ, List.getElem?_cons_zero]; first | done | rfl)
            · rfl
            · intro w hSw
              try dsimp only at hSw
              go_simp <;> with_reducible rfl
            try simp only [Act.put, List.setIfInBounds_toArray, List.set_cons_zero, List.set_cons_succ]
            refine wpAnyH_ready (rs := [15]) (by kernel_rfl) (by simp) ?_
            refine AllReadyH.cons rfl (fun K hK => ?_) AllReadyH.nil
            go_simp
            go_at_call 15
            refine (step_c 5 p2 7 r2 lb (by omega) (by omega) (by omega) l x hn0 hn1 hlen _ o (HT.out.ext (by (repeat (first | exact Ext.rfl' _ | assumption | refine Ext.dr ?_ | refine Ext.drN ?_ _ | refine Ext.al ?_ _ | refine Ext.st ?_ (by simp) _ | refine Ext.tr ?_ (by assumption))))) (HBW.out.ext (by (repeat (first | exact Ext.rfl' _ | assumption | refine Ext.dr ?_ | refine Ext.drN ?_ _ | refine Ext.al ?_ _ | refine Ext.st ?_ (by simp) _ | refine Ext.tr ?_ (by assumption))))) (fun hne a ha _ => HBo.out hne a ha)).mono ?_
            rintro e w6 ⟨v, o6, rfl, ⟨rfl, l6, T6⟩, hst6⟩
            have st6 : Stp (KS 5 7) wc o w6 o6 := (Stp.ext (by (repeat (first | exact Ext.rfl' _ | assumption | refine Ext.dr ?_ | refine Ext.drN ?_ _ | refine Ext.al ?_ _ | refine Ext.st ?_ (by simp) _ | refine Ext.tr ?_ (by assumption))))).tr hst6
            obtain ⟨A6, c6, hh6, _, _⟩ := T6.2.at_
            have c60 := (q_facts hh6).1
            have T6 := Lib.hid T6
            refine hK.out _ _ (hks.out _ _ st6) (fun hHeld2 => ?_)
            clear hK K hHeld
            try simp only [Act.put, List.setIfInBounds_toArray, List.set_cons_zero, List.set_cons_succ]
            refine wpAnyH_mono (S' := fun w' => w'.cell? ⟨r2, 0, none⟩ = some (.slice A6 l6.length c6) ∧ w'.cell? ⟨b, f + t * 3, none⟩ = some (.int .i64 x.kind) ∧ w'.cell? ⟨b, f + t * 3 + 1, none⟩ = some (.int .i64 x.n) ∧ w'.cell? ⟨b, f + t * 3 + 2, none⟩ = some (.slice x.B x.mm.length x.d)) (fun w h => h.2) ?_
            have hHeld := And.intro c60 hHeld2
            refine wpAnyH_take (i := 16) (oi := ?_) (v := ?_) ?_ (by kernel_rfl) (by kernel_rfl) (by kernel_rfl) (fun _ _ _ h => h) (Or.inl ⟨?_, ?_⟩) (by assumption) ?_
            rotate_left 2
            · (simp only [List.getElem?_toArray, List.getElem?_cons_succ, List.getElem?_cons_zero]; first | done | rfl)
            · rfl
            · intro w hSw
              try dsimp only at hSw
              go_simp <;> with_reducible rfl
            try simp only [Act.put, List.setIfInBounds_toArray, List.set_cons_zero, List.set_cons_succ]
            refine wpAnyH_take (i := 17) (oi := ?_) (v := ?_) ?_ (by kernel_rfl) (by kernel_rfl) (by kernel_rfl) (fun _ _ _ h => h) (Or.inl ⟨?_, ?_⟩) (by assumption) ?_
            rotate_left 2
            · (simp only [List.getElem?_toArray, List.getElem?_cons_succ, List.getElem?_cons_zero]; first | done | rfl)
            · rfl
            · intro w hSw
              try dsimp only at hSw
              go_simp <;> with_reducible rfl
            try simp only [Act.put, List.setIfInBounds_toArray, List.set_cons_zero, List.set_cons_succ]
            refine wpAnyH_take (i := 18) (oi := ?_) (v := ?_) ?_ (by kernel_rfl) (by kernel_rfl) (by kernel_rfl) (fun _ _ _ h => h) (Or.inl ⟨?_, ?_⟩) (by assumption) ?_
            rotate_left 2
            · (simp only [List.getElem?_toArray, List.getElem?_cons_succ, List.getElem?_cons_zero]; first | done | rfl)
            · rfl
            · intro w hSw
              try dsimp only at hSw
              go_simp <;> with_reducible rfl
            try simp only [Act.put, List.setIfInBounds_toArray, List.set_cons_zero, List.set_cons_succ]
            refine wpAnyH_take (i := 20) (oi := ?_) (v := ?_) ?_ (by kernel_rfl) (by kernel_rfl) (by kernel_rfl) (fun _ _ _ h => h) (Or.inl ⟨?_, ?_⟩) (by assumption) ?_
            rotate_left 2
            · (simp only [List.getElem?_toArray, List.getElem?_cons_succ, List.getElem?_cons_zero]; first | done | rfl)
            · rfl
            · intro w hSw
              try dsimp only at hSw
              go_simp <;> with_reducible rfl
            try simp only [Act.put, List.setIfInBounds_toArray, List.set_cons_zero, List.set_cons_succ]
            refine wpAnyH_take (i := 21) (oi := ?_) (v := ?_) ?_ (by kernel_rfl) (by kernel_rfl) (by kernel_rfl) (fun _ _ _ h => h) (Or.inl ⟨?_, ?_⟩) (by assumption) ?_
            rotate_left 2
            · (simp only [List.getElem?_toArray, List.getElem?_cons_succ, List.getElem?_cons_zero]; first | done | rfl)
            · rfl
            · intro w hSw
              try dsimp only at hSw
              go_simp <;> with_reducible rfl
            try simp only [Act.put, List.setIfInBounds_toArray, List.set_cons_zero, List.set_cons_succ]
            refine wpAnyH_take (i := 22) (oi := ?_) (v := ?_) ?_ (by kernel_rfl) (by kernel_rfl) (by kernel_rfl) (fun _ _ _ h => h) (Or.inl ⟨?_, ?_⟩) (by assumption) ?_
            rotate_left 2
            · (simp only [List.getElem?_toArray, List.getElem?_cons_succ, List.getElem?_cons_zero]; first | done | rfl)
            · rfl
            · intro w hSw
              try dsimp only at hSw
              go_simp <;> with_reducible rfl
            try simp only [Act.put, List.setIfInBounds_toArray, List.set_cons_zero, List.set_cons_succ]
            refine wpAnyH_take (i := 23) (oi := ?_) (v := ?_) ?_ (by kernel_rfl) (by kernel_rfl) (by kernel_rfl) (fun _ _ _ h => h) (Or.inl ⟨?_, ?_⟩) (by assumption) ?_
            rotate_left 2
            · (simp only [List.getElem?_toArray, List.getElem?_cons_succ, List.getElem?_cons_zero]; first | done | rfl)
            · rfl
            · intro w hSw
              try dsimp only at hSw
              go_simp <;> with_reducible rfl
            try simp only [Act.put, List.setIfInBounds_toArray, List.set_cons_zero, List.set_cons_succ]
            refine wpAnyH_take (i := 24) (oi := ?_) (v := ?_) ?_ (by kernel_rfl) (by kernel_rfl) (by kernel_rfl) (fun _ _ _ h => h) (Or.inl ⟨?_, ?_⟩) (by assumption) ?_
            rotate_left 2
            · (simp only [List.getElem?_toArray, List.getElem?_cons_succ, List.getElem?_cons_zero]; first | done | rfl)
            · rfl
            · intro w hSw
              try dsimp only at hSw
              go_simp <;> with_reducible rfl
            try simp only [Act.put, List.setIfInBounds_toArray, List.set_cons_zero, List.set_cons_succ]
            refine wpAnyH_ready (rs := [19]) (by kernel_rfl) (by simp) ?_
            refine AllReadyH.cons rfl (fun K hK => ?_) AllReadyH.nil
            go_simp
            go_at_call 11
            refine (qLen_c _ o6 5 p2 lb l6 (T6.out.1.ext (by (repeat (first | exact Ext.rfl' _ | assumption | refine Ext.dr ?_ | refine Ext.drN ?_ _ | refine Ext.al ?_ _ | refine Ext.st ?_ (by simp) _ | refine Ext.tr ?_ (by assumption)))))).mono ?_
            rintro e w7 ⟨rfl, rfl⟩
            refine hK.out _ _ hHeld (fun hHeld3 => ?_)
            clear hK K
            try simp only [Act.put, List.setIfInBounds_toArray, List.set_cons_zero, List.set_cons_succ]
            refine wpAnyH_take (i := 25) (oi := ?_) (v := ?_) ?_ (by kernel_rfl) (by kernel_rfl) (by kernel_rfl) (fun _ _ _ h => h) (Or.inl ⟨?_, ?_⟩) (by assumption) ?_
            rotate_left 2
            · (simp only [List.getElem?_toArray, List.getElem?_cons_succ, List.getElem?_cons_zero]; first | done | rfl)
            · rfl
            · intro w hSw
              try dsimp only at hSw
              go_simp <;> with_reducible rfl
            try simp only [Act.put, List.setIfInBounds_toArray, List.set_cons_zero, List.set_cons_succ]
            refine wpAnyH_take (i := 26) (oi := ?_) (v := ?_) ?_ (by kernel_rfl) (by kernel_rfl) (by kernel_rfl) (fun _ _ _ h => h) (Or.inl ⟨?_, ?_⟩) (by assumption) ?_
            rotate_left 2
            · (simp only [List.getElem?_toArray, List.getElem?_cons_succ, List.getElem?_cons_zero]; first | done | rfl)
            · rfl
            · intro w hSw
              try dsimp only at hSw
              go_simp <;> with_reducible rfl
            try simp only [Act.put, List.setIfInBounds_toArray, List.set_cons_zero, List.set_cons_succ]
            refine wpAnyH_take (i := 27) (oi := ?_) (v := ?_) ?_ (by kernel_rfl) (by kernel_rfl) (by kernel_rfl) (fun _ _ _ h => h) (Or.inl ⟨?_, ?_⟩) (by assumption) ?_
            rotate_left 2
            · (simp only [List.getElem?_toArray, List.getElem?_cons_succ, List.getElem?_cons_zero]; first | done | rfl)
            · rfl
            · intro w hSw
              try dsimp only at hSw
              go_simp <;> with_reducible rfl
            try simp only [Act.put, List.setIfInBounds_toArray, List.set_cons_zero, List.set_cons_succ]
            refine wpAnyH_done (by kernel_rfl) ?_ _
            refine NoPanic.normal ?_
            all_goals (go_wp2_with fail; go_meet)
            all_goals exact ⟨rfl, QAtL.ext ⟨o6, HS.out.tr (st6.mono (fun x hx => by unfold KS at hx; omega)), ⟨HP.out.stp st6 (by unfold KS; omega) (by unfold KS; omega) (by unfold KS; omega) (by unfold KS; omega), ⟨l6, T6.out⟩⟩⟩ (by (repeat (first | exact Ext.rfl' _ | assumption | refine Ext.dr ?_ | refine Ext.drN ?_ _ | refine Ext.al ?_ _ | refine Ext.st ?_ (by simp) _ | refine Ext.tr ?_ (by assumption))))⟩
          case rest =>
            obtain ⟨rfl, hat⟩ := hcut
            go_wp2
            go_roundw
            case rel => exact ⟨t + 1, by go_num, by omega, hat⟩
            case measure => simp [intOf]; omega
    · have hlx' : ¬ (t : Int) < (xs.length : Int) := by omega
      have hly' : ¬ (t : Int) < (ys.length : Int) := by omega
      go_wp2
      go_ret
      exact ⟨rfl, hat.toExt⟩
set_option maxRecDepth 100000 in
set_option maxHeartbeats 8000000 in
theorem AsciiQueues_gb (W : World) (hE : ErrR W) (a b : Int) (A1 A2 : Option Addr) (c1 c2 : Nat) (xs ys : List OpV) (h1 : RdOps W A1 xs) (h2 : RdOps W A2 ys) (hx : xs.length ≤ 140737488355328) (hy : ys.length ≤ 140737488355328) (ha : 1 ≤ a ∧ a ≤ 1048576) (hb : b < 1 ∨ 1048576 < b) :
    Calls Tryd.prog 4 #[.int .i64 a, .int .i64 b, .slice A1 xs.length c1, .slice A2 ys.length c2] W (Gives (.bool true) W) := by
  have HE := Lib.hid hE
  clear hE
  obtain ⟨la, rfl⟩ : ∃ n : Nat, a = (n : Int) := ⟨a.toNat, by omega⟩
  have NA := Lib.hid (NewQueue_c 1 la (by omega) (by omega))
  have RA := Lib.hid (rNewQueue_c 3 la (by omega) (by omega))
  clear ha
  have HBB := Lib.hid hb
  clear hb
  go_enter Tryd.func4, Tryd.ntmps4
  go_upto_region 2 with (go_at_call 13; refine (NA.out W (fun _ => 0)).mono ?_; rintro e w1 ⟨v, o1, rfl, ⟨p1, rfl, hq1, _⟩, hst1⟩)
  go_upto_region 3 with (go_at_call 13; refine (newNo_c b HBB.out w1).mono ?_; rintro e w2 ⟨rfl, rfl⟩)
  go_upto_region 4 with (go_at_call 14; refine (RA.out w1 o1).mono ?_; rintro e w3 ⟨v, o3, rfl, ⟨r1, rfl, hr1, _⟩, hst3⟩)
  go_upto_region 5 with (go_at_call 14; refine (rnewNo_c b HBB.out w3).mono ?_; rintro e w4 ⟨rfl, rfl⟩)
  have e4 : Ext W w3 := (hst1.tr hst3).noExt
  go_wp2_with (first
    | (go_at_call 7; refine (num01_c _ _).mono ?_; rintro e w9 ⟨rfl, rfl⟩)
    | (go_at_call 12; refine (knows01_c _ (HE.out.ext e4)).mono ?_; rintro e w5 ⟨rfl, hx5⟩))
  have hat0 : QAtL W (some (p1, r1, la)) none w5 := ⟨o3, (((hst1.tr hst3).mono (fun _ x => x.elim)).tr (Stp.ext hx5)),
    ⟨[], (hq1.stp hst3 (fun x => x) (fun x => x)).ext hx5, hr1.ext hx5⟩, trivial⟩
  clear hst1 hst3 hq1 hr1 NA RA HBB hx5 e4
  go_loopw [15] (fun i wr => ∃ t : Nat, i = .int .i64 (t : Int) ∧ t ≤ max xs.length ys.length ∧ QAtL W (some (p1, r1, la)) none wr) (fun i _ => max xs.length ys.length - (intOf i).toNat)
  case atStart => exact ⟨0, rfl, Nat.zero_le _, hat0⟩
  case round =>
    obtain ⟨t, rfl, ht, hat⟩ := hrel
    have t0 : (0 : Int) ≤ (t : Int) := by omega
    have ti : (t : Int) + 1 ≤ 9223372036854775807 := by omega
    by_cases hend : t < xs.length ∨ t < ys.length
    · by_cases hlx : t < xs.length
      · have hlx' : (t : Int) < (xs.length : Int) := by omega
        obtain ⟨b, f, rfl, hb, a0, a1, a2⟩ := h1.row hlx
        go_upto_region 10 with fail
        go_cut [101] (fun v wx => v = .bool false ∧ QAtL W (some (p1, r1, la)) none wx)
        case first =>
          obtain ⟨o, hst, hp1, hp2⟩ := hat
          obtain ⟨l, T⟩ := hp1
          obtain ⟨hB, hlen, hn0, hn1⟩ := h1.each _ (List.getElem_mem hlx)
          obtain ⟨x, hxe⟩ : ∃ x, x = xs[t] := ⟨_, rfl⟩
          rw [← hxe] at hB hlen hn0 hn1 a0 a1 a2
          have ho : ∀ q, q < W.heap.size → o q = 0 := fun q hq => hst.own q hq
          have hW := hst.toExt (fun _ _ hn => hn rfl)
          have hks := Lib.hid (fun w' o' (e : Stp (KS 1 3) wr o w' o') => (show w'.cell? ⟨b, f + t * 3, none⟩ = some (.int .i64 x.kind) ∧ w'.cell? ⟨b, f + t * 3 + 1, none⟩ = some (.int .i64 x.n) ∧ w'.cell? ⟨b, f + t * 3 + 2, none⟩ = some (.slice x.B x.mm.length x.d) from
            ⟨e.cell (by rw [ho _ hb]; unfold KS; omega) ((hW.cell hb).trans a0), e.cell (by rw [ho _ hb]; unfold KS; omega) ((hW.cell hb).trans a1), e.cell (by rw [ho _ hb]; unfold KS; omega) ((hW.cell hb).trans a2)⟩))
          have HBW := Lib.hid (hB.ext hW)
          have HBo := Lib.hid (show x.mm ≠ [] → ∀ a, x.B = some a → o a.block = 0 from fun hne a ha => by
            obtain ⟨b', f', hA', hb', _⟩ := hB.at_ (by rw [bc_len]; exact List.length_pos_iff.2 hne)
            rw [ha] at hA'; cases hA'; exact ho _ hb')
          have HT := Lib.hid T
          have HP := Lib.hid hp2
          have HS := Lib.hid hst
          clear hp2 hst T hB a0 a1 a2 hxe ho hW
          refine wp_region_noPanic ?_
          refine wp_region_held_drew (S := fun w' => w'.cell? ⟨b, f + t * 3, none⟩ = some (.int .i64 x.kind) ∧ w'.cell? ⟨b, f + t * 3 + 1, none⟩ = some (.int .i64 x.n) ∧ w'.cell? ⟨b, f + t * 3 + 2, none⟩ = some (.slice x.B x.mm.length x.d)) (by kernel_rfl) (by apply hks.out; (repeat (first | exact Stp.rfl' | assumption | apply Stp.dr | apply Stp.drN | apply Stp.al))) (fun hHeld => ?_)
          refine wpAnyH_take (i := 0) (oi := ?_) (v := ?_) ?_ (by kernel_rfl) (by kernel_rfl) (by kernel_rfl) (fun _ _ _ h => h) (Or.inl ⟨?_, ?_⟩) (by assumption) ?_
          rotate_left 2
          · (simp only [List.getElem?_toArray, List.getElem?_cons_succ, List.getElem?_cons_zero]; first | done | rfl)
          · rfl
          · intro w hSw
            try dsimp only at hSw
            go_simp <;> with_reducible rfl
          try simp only [Act.put, List.setIfInBounds_toArray, List.set_cons_zero, List.set_cons_succ]
          refine wpAnyH_take (i := 1) (oi := ?_) (v := ?_) ?_ (by kernel_rfl) (by kernel_rfl) (by kernel_rfl) (fun _ _ _ h => h) (Or.inl ⟨?_, ?_⟩) (by assumption) ?_
          rotate_left 2
          · (simp only [List.getElem?_toArray, List.getElem?_cons_succ, List.getElem?_cons_zero]; first | done | rfl)
          · rfl
          · intro w hSw
            try dsimp only at hSw
            go_simp <;> with_reducible rfl
          try simp only [Act.put, List.setIfInBounds_toArray, List.set_cons_zero, List.set_cons_succ]
          refine wpAnyH_take (i := 2) (oi := ?_) (v := ?_) ?_ (by kernel_rfl) (by kernel_rfl) (by kernel_rfl) (fun _ _ _ h => h) (Or.inl ⟨?_, ?_⟩) (by assumption) ?_
          rotate_left 2
          · (simp only [List.getElem?_toArray, List.getElem?_cons_succ, List.getElem?_cons_zero]; first | done | rfl)
          · rfl
          · intro w hSw
            try dsimp only at hSw
            go_simp <;> with_reducible rfl
          try simp only [Act.put, List.setIfInBounds_toArray, List.set_cons_zero, List.set_cons_succ]
          refine wpAnyH_take (i := 3) (oi := ?_) (v := ?_) ?_ (by kernel_rfl) (by kernel_rfl) (by kernel_rfl) (fun _ _ _ h => h) (Or.inl ⟨?_, ?_⟩) (by assumption) ?_
          rotate_left 2
          · (simp only [List.getElem?_toArray, List.getElem?_cons_succ, List.getElem?_cons_zero]; first | done | rfl)
          · rfl
          · intro w hSw
            try dsimp only at hSw
            go_simp <;> with_reducible rfl
          try simp only [Act.put, List.setIfInBounds_toArray, List.set_cons_zero, List.set_cons_succ]
          refine wpAnyH_take (i := 4) (oi := ?_) (v := ?_) ?_ (by kernel_rfl) (by kernel_rfl) (by kernel_rfl) (fun _ _ _ h => h) (Or.inl ⟨?_, ?_⟩) (by assumption) ?_
          rotate_left 2
          · (simp only [List.getElem?_toArray, List.getElem?_cons_succ, List.getElem?_cons_zero]; first | done | rfl)
          · rfl
          · intro w hSw
            try dsimp only at hSw
            go_simp <;> with_reducible rfl
          try simp only [Act.put, List.setIfInBounds_toArray, List.set_cons_zero, List.set_cons_succ]
          refine wpAnyH_take (i := 5) (oi := ?_) (v := ?_) ?_ (by kernel_rfl) (by kernel_rfl) (by kernel_rfl) (fun _ _ _ h => h) (Or.inl ⟨?_, ?_⟩) (by assumption) ?_
          rotate_left 2
          · (simp only [List.getElem?_toArray, List.getElem?_cons_succ, List.getElem?_cons_zero]; first | done | rfl)
          · rfl
          · intro w hSw
            try dsimp only at hSw
            go_simp <;> with_reducible rfl
          try simp only [Act.put, List.setIfInBounds_toArray, List.set_cons_zero, List.set_cons_succ]
          refine wpAnyH_take (i := 6) (oi := ?_) (v := ?_) ?_ (by kernel_rfl) (by kernel_rfl) (by kernel_rfl) (fun _ _ _ h => h) (Or.inl ⟨?_, ?_⟩) (by assumption) ?_
          rotate_left 2
          · (simp only [List.getElem?_toArray, List.getElem?_cons_succ, List.getElem?_cons_zero]; first | done | rfl)
          · rfl
          · intro w hSw
            try dsimp only at hSw
            go_simp <;> with_reducible rfl
          try simp only [Act.put, List.setIfInBounds_toArray, List.set_cons_zero, List.set_cons_succ]
          refine wpAnyH_take (i := 7) (oi := ?_) (v := ?_) ?_ (by kernel_rfl) (by kernel_rfl) (by kernel_rfl) (fun _ _ _ h => h) (Or.inl ⟨?_, ?_⟩) (by assumption) ?_
          rotate_left 2
          · (simp only [List.getElem?_toArray, List.getElem?_cons_succ, List.getElem?_cons_zero]; first | done | rfl)
          · rfl
          · intro w hSw
            try dsimp only at hSw
            go_simp <;> with_reducible rfl
          try simp only [Act.put, List.setIfInBounds_toArray, List.set_cons_zero, List.set_cons_succ]
          refine wpAnyH_take (i := 8) (oi := ?_) (v := ?_) ?_ (by kernel_rfl) (by kernel_rfl) (by kernel_rfl) (fun _ _ _ h => h) (Or.inl ⟨?_, ?_⟩) (by assumption) ?_
          rotate_left 2
          · (simp only [List.getElem?_toArray, List.getElem?_cons_succ, List.getElem?_cons_zero]; first | done | rfl)
          · rfl
          · intro w hSw
            try dsimp only at hSw
            go_simp <;> with_reducible rfl
          try simp only [Act.put, List.setIfInBounds_toArray, List.set_cons_zero, List.set_cons_succ]
          refine wpAnyH_take (i := 9) (oi := ?_) (v := ?_) ?_ (by kernel_rfl) (by kernel_rfl) (by kernel_rfl) (fun _ _ _ h => h) (Or.inl ⟨?_, ?_⟩) (by assumption) ?_
          rotate_left 2
          · (simp only [List.getElem?_toArray, List.getElem?_cons_succ, List.getElem?_cons_zero]; first | done | rfl)
          · rfl
          · intro w hSw
            try dsimp only at hSw
            go_simp <;> with_reducible rfl
          try simp only [Act.put, List.setIfInBounds_toArray, List.set_cons_zero, List.set_cons_succ]
          refine wpAnyH_take (i := 10) (oi := ?_) (v := ?_) ?_ (by kernel_rfl) (by kernel_rfl) (by kernel_rfl) (fun _ _ _ h => h) (Or.inl ⟨?_, ?_⟩) (by assumption) ?_
          rotate_left 2
          · (simp only [List.getElem?_toArray, List.getElem?_cons_succ, List.getElem?_cons_zero]; first | done | rfl)
          · rfl
          · intro w hSw
            try dsimp only at hSw
            go_simp <;> with_reducible rfl
          try simp only [Act.put, List.setIfInBounds_toArray, List.set_cons_zero, List.set_cons_succ]
          refine wpAnyH_take (i := 11) (oi := ?_) (v := ?_) ?_ (by kernel_rfl) (by kernel_rfl) (by kernel_rfl) (fun _ _ _ h => h) (Or.inl ⟨?_, ?_⟩) (by assumption) ?_
          rotate_left 2
          · (simp only [List.getElem?_toArray, List.getElem?_cons_succ, List.getElem?_cons_zero]; first | done | rfl)
          · rfl
          · intro w hSw
            try dsimp only at hSw
            go_simp <;> with_reducible rfl
          try simp only [Act.put, List.setIfInBounds_toArray, List.set_cons_zero, List.set_cons_succ]
          refine wpAnyH_take (i := 12) (oi := ?_) (v := ?_) ?_ (by kernel_rfl) (by kernel_rfl) (by kernel_rfl) (fun _ _ _ h => h) (Or.inl ⟨?_, ?_⟩) (by assumption) ?_
          rotate_left 2
          · (simp only [List.getElem?_toArray, List.getElem?_cons_succ, List.getElem?_cons_zero]; first | done | rfl)
          · rfl
          · intro w hSw
            try dsimp only at hSw
            go_simp <;> with_reducible rfl
          try simp only [Act.put, List.setIfInBounds_toArray, List.set_cons_zero, List.set_cons_succ]
          refine wpAnyH_take (i := 13) (oi := ?_) (v := ?_) ?_ (by kernel_rfl) (by kernel_rfl) (by kernel_rfl) (fun _ _ _ h => h) (Or.inl ⟨?_, ?_⟩) (by assumption) ?_
          rotate_left 2
          · (simp only [List.getElem?_toArray, List.getElem?_cons_succ, List.getElem?_cons_zero]; first | done | rfl)
          · rfl
          · intro w hSw
            try dsimp only at hSw
            go_simp <;> with_reducible rfl
          try simp only [Act.put, List.setIfInBounds_toArray, List.set_cons_zero, List.set_cons_succ]
          refine wpAnyH_take (i := 14) (oi := ?_) (v := ?_) ?_ (by kernel_rfl) (by kernel_rfl) (by kernel_rfl) (fun _ _ _ h => h) (Or.inl ⟨?_, ?_⟩) (by assumption) ?_
          rotate_left 2
          · (simp only [List.getElem?_toArray, List.getElem?_cons_succ, List.getElem?_cons_zero]; first | done | rfl)
          · rfl
          · intro w hSw
            try dsimp only at hSw
            go_simp <;> with_reducible rfl
          try simp only [Act.put, List.setIfInBounds_toArray, List.set_cons_zero, List.set_cons_succ]
          refine wpAnyH_ready (rs := [15]) (by kernel_rfl) (by simp) ?_
          refine AllReadyH.cons rfl (fun K hK => ?_) AllReadyH.nil
          go_simp
          go_at_call 15
          refine (step_c 1 p1 3 r1 la (by omega) (by omega) (by omega) l x hn0 hn1 hlen _ o (HT.out.ext (by (repeat (first | exact Ext.rfl' _ | assumption | refine Ext.dr ?_ | refine Ext.drN ?_ _ | refine Ext.al ?_ _ | refine Ext.st ?_ (by simp) _ | refine Ext.tr ?_ (by assumption))))) (HBW.out.ext (by (repeat (first | exact Ext.rfl' _ | assumption | refine Ext.dr ?_ | refine Ext.drN ?_ _ | refine Ext.al ?_ _ | refine Ext.st ?_ (by simp) _ | refine Ext.tr ?_ (by assumption))))) (fun hne a ha _ => HBo.out hne a ha)).mono ?_
          rintro e w6 ⟨v, o6, rfl, ⟨rfl, l6, T6⟩, hst6⟩
          have st6 : Stp (KS 1 3) wr o w6 o6 := (Stp.ext (by (repeat (first | exact Ext.rfl' _ | assumption | refine Ext.dr ?_ | refine Ext.drN ?_ _ | refine Ext.al ?_ _ | refine Ext.st ?_ (by simp) _ | refine Ext.tr ?_ (by assumption))))).tr hst6
          obtain ⟨A6, c6, hh6, _, _⟩ := T6.2.at_
          have c60 := (q_facts hh6).1
          have T6 := Lib.hid T6
          refine hK.out _ _ (hks.out _ _ st6) (fun hHeld2 => ?_)
          clear hK K hHeld
          try simp only [Act.put, List.setIfInBounds_toArray, List.set_cons_zero, List.set_cons_succ]
          refine wpAnyH_mono (S' := fun w' => w'.cell? ⟨r1, 0, none⟩ = some (.slice A6 l6.length c6) ∧ w'.cell? ⟨b, f + t * 3, none⟩ = some (.int .i64 x.kind) ∧ w'.cell? ⟨b, f + t * 3 + 1, none⟩ = some (.int .i64 x.n) ∧ w'.cell? ⟨b, f + t * 3 + 2, none⟩ = some (.slice x.B x.mm.length x.d)) (fun w h => h.2) ?_
          have hHeld := And.intro c60 hHeld2
          refine wpAnyH_take (i := 16) (oi := ?_) (v := ?_) ?_ (by kernel_rfl) (by kernel_rfl) (by kernel_rfl) (fun _ _ _ h => h) (Or.inl ⟨?_, ?_⟩) (by assumption) ?_
          rotate_left 2
          · (simp only [List.getElem?_toArray, List.getElem?_cons_succ, List.getElem?_cons_zero]; first | done | rfl)
          · rfl
          · intro w hSw
            try dsimp only at hSw
            go_simp <;> with_reducible rfl
          try simp only [Act.put, List.setIfInBounds_toArray, List.set_cons_zero, List.set_cons_succ]
          refine wpAnyH_take (i := 17) (oi := ?_) (v := ?_) ?_ (by kernel_rfl) (by kernel_rfl) (by kernel_rfl) (fun _ _ _ h => h) (Or.inl ⟨?_, ?_⟩) (by assumption) ?_
          rotate_left 2
          · (simp only [List.getElem?_toArray, List.getElem?_cons_succ, List.getElem?_cons_zero]; first | done | rfl)
          · rfl
          · intro w hSw
            try dsimp only at hSw
            go_simp <;> with_reducible rfl
          try simp only [Act.put, List.setIfInBounds_toArray, List.set_cons_zero, List.set_cons_succ]
          refine wpAnyH_take (i := 18) (oi := ?_) (v := ?_) ?_ (by kernel_rfl) (by kernel_rfl) (by kernel_rfl) (fun _ _ _ h => h) (Or.inl ⟨?_, ?_⟩) (by assumption) ?_
          rotate_left 2
          · (simp only [List.getElem?_toArray, List.getElem?_cons_succ, List.getElem?_cons_zero]; first | done | rfl)
          · rfl
          · intro w hSw
            try dsimp only at hSw
            go_simp <;> with_reducible rfl
          try simp only [Act.put, List.setIfInBounds_toArray, List.set_cons_zero, List.set_cons_succ]
          refine wpAnyH_take (i := 20) (oi := ?_) (v := ?_) ?_ (by kernel_rfl) (by kernel_rfl) (by kernel_rfl) (fun _ _ _ h => h) (Or.inl ⟨?_, ?_⟩) (by assumption) ?_
          rotate_left 2
          · (simp only [List.getElem?_toArray, List.getElem?_cons_succ, List.getElem?_cons_zero]; first | done | rfl)
          · rfl
          · intro w hSw
            try dsimp only at hSw
            go_simp <;> with_reducible rfl
          try simp only [Act.put, List.setIfInBounds_toArray, List.set_cons_zero, List.set_cons_succ]
          refine wpAnyH_take (i := 21) (oi := ?_) (v := ?_) ?_ (by kernel_rfl) (by kernel_rfl) (by kernel_rfl) (fun _ _ _ h => h) (Or.inl ⟨?_, ?_⟩) (by assumption) ?_
          rotate_left 2
          · (simp only [List.getElem?_toArray, List.getElem?_cons_succ, List.getElem?_cons_zero]; first | done | rfl)
          · rfl
          · intro w hSw
            try dsimp only at hSw
            go_simp <;> with_reducible rfl
          try simp only [Act.put, List.setIfInBounds_toArray, List.set_cons_zero, List.set_cons_succ]
          refine wpAnyH_take (i := 22) (oi := ?_) (v := ?_) ?_ (by kernel_rfl) (by kernel_rfl) (by kernel_rfl) (fun _ _ _ h => h) (Or.inl ⟨?_, ?_⟩) (by assumption) ?_
          rotate_left 2
          · (simp only [List.getElem?_toArray, List.getElem?_cons_succ, List.getElem?_cons_zero]; first | done | rfl)
          · rfl
          · intro w hSw
            try dsimp only at hSw
            go_simp <;> with_reducible rfl
          try simp only [Act.put, List.setIfInBounds_toArray, List.set_cons_zero, List.set_cons_succ]
          refine wpAnyH_take (i := 23) (oi := ?_) (v := ?_) ?_ (by kernel_rfl) (by kernel_rfl) (by kernel_rfl) (fun _ _ _ h => h) (Or.inl ⟨?_, ?_⟩) (by assumption) ?_
          rotate_left 2
          · (simp only [List.getElem?_toArray, List.getElem?_cons_succ, List.getElem?_cons_zero]; first | done | rfl)
          · rfl
          · intro w hSw
            try dsimp only at hSw
            go_simp <;> with_reducible rfl
          try simp only [Act.put, List.setIfInBounds_toArray, List.set_cons_zero, List.set_cons_succ]
          refine wpAnyH_take (i := 24) (oi := ?_) (v := ?_) ?_ (by kernel_rfl) (by kernel_rfl) (by kernel_rfl) (fun _ _ _ h => h) (Or.inl ⟨?_, ?_⟩) (by assumption) ?_
          rotate_left 2
          · (simp only [List.getElem?_toArray, List.getElem?_cons_succ, List.getElem?_cons_zero]; first | done | rfl)
          · rfl
          · intro w hSw
            try dsimp only at hSw
            go_simp <;> with_reducible rfl
          try simp only [Act.put, List.setIfInBounds_toArray, List.set_cons_zero, List.set_cons_succ]
          refine wpAnyH_ready (rs := [19]) (by kernel_rfl) (by simp) ?_
          refine AllReadyH.cons rfl (fun K hK => ?_) AllReadyH.nil
          go_simp
          go_at_call 11
          refine (qLen_c _ o6 1 p1 la l6 (T6.out.1.ext (by (repeat (first | exact Ext.rfl' _ | assumption | refine Ext.dr ?_ | refine Ext.drN ?_ _ | refine Ext.al ?_ _ | refine Ext.st ?_ (by simp) _ | refine Ext.tr ?_ (by assumption)))))).mono ?_
          rintro e w7 ⟨rfl, rfl⟩
          refine hK.out _ _ hHeld (fun hHeld3 => ?_)
          clear hK K
          try simp only [Act.put, List.setIfInBounds_toArray, List.set_cons_zero, List.set_cons_succ]
          refine wpAnyH_take (i := 25) (oi := ?_) (v := ?_) ?_ (by kernel_rfl) (by kernel_rfl) (by kernel_rfl) (fun _ _ _ h => h) (Or.inl ⟨?_, ?_⟩) (by assumption) ?_
          rotate_left 2
          · (simp only [List.getElem?_toArray, List.getElem?_cons_succ, List.getElem?_cons_zero]; first | done | rfl)
          · rfl
          · intro w hSw
            try dsimp only at hSw
            go_simp <;> with_reducible rfl
          try simp only [Act.put, List.setIfInBounds_toArray, List.set_cons_zero, List.set_cons_succ]
          refine wpAnyH_take (i := 26) (oi := ?_) (v := ?_) ?_ (by kernel_rfl) (by kernel_rfl) (by kernel_rfl) (fun _ _ _ h => h) (Or.inl ⟨?_, ?_⟩) (by assumption) ?_
          rotate_left 2
          · (simp only [List.getElem?_toArray, List.getElem?_cons_succ, List.getElem?_cons_zero]; first | done | rfl)
          · rfl
          · intro w hSw
            try dsimp only at hSw
            go_simp <;> with_reducible rfl
          try simp only [Act.put, List.setIfInBounds_toArray, List.set_cons_zero, List.set_cons_succ]
          refine wpAnyH_take (i := 27) (oi := ?_) (v := ?_) ?_ (by kernel_rfl) (by kernel_rfl) (by kernel_rfl) (fun _ _ _ h => h) (Or.inl ⟨?_, ?_⟩) (by assumption) ?_
          rotate_left 2
          · (simp only [List.getElem?_toArray, List.getElem?_cons_succ, List.getElem?_cons_zero]; first | done | rfl)
          · rfl
          · intro w hSw
            try dsimp only at hSw
            go_simp <;> with_reducible rfl
          try simp only [Act.put, List.setIfInBounds_toArray, List.set_cons_zero, List.set_cons_succ]
          refine wpAnyH_done (by kernel_rfl) ?_ _
          refine NoPanic.normal ?_
          all_goals (go_wp2_with fail; go_meet)
          all_goals exact ⟨rfl, QAtL.ext ⟨o6, HS.out.tr (st6.mono (fun x hx => by unfold KS at hx; omega)), ⟨l6, T6.out⟩, HP.out.stp st6 (by unfold KS; omega) (by unfold KS; omega) (by unfold KS; omega) (by unfold KS; omega)⟩ (by (repeat (first | exact Ext.rfl' _ | assumption | refine Ext.dr ?_ | refine Ext.drN ?_ _ | refine Ext.al ?_ _ | refine Ext.st ?_ (by simp) _ | refine Ext.tr ?_ (by assumption))))⟩
        case rest =>
          obtain ⟨rfl, hat⟩ := hcut
          by_cases hly : t < ys.length
          · have hly' : (t : Int) < (ys.length : Int) := by omega
            go_upto_region 12 with fail
            go_cut [129] (fun v wx => v = .bool false ∧ QAtL W (some (p1, r1, la)) none wx)
            case first =>
              have HQ := Lib.hid hat
              go_quiet (fail)
              go_wp2_with fail
              go_meet
              exact ⟨rfl, HQ.out.ext (by (repeat (first | exact Ext.rfl' _ | assumption | refine Ext.dr ?_ | refine Ext.drN ?_ _ | refine Ext.al ?_ _ | refine Ext.st ?_ (by simp) _ | refine Ext.tr ?_ (by assumption))))⟩
            case rest =>
              obtain ⟨rfl, hat⟩ := hcut
              go_wp2
              go_roundw
              case rel => exact ⟨t + 1, by go_num, by omega, hat⟩
              case measure => simp [intOf]; omega
          · have hly' : ¬ (t : Int) < (ys.length : Int) := by omega
            go_upto_region 12 with fail
            go_cut [129] (fun v wx => v = .bool false ∧ QAtL W (some (p1, r1, la)) none wx)
            case first =>
              have HQ := Lib.hid hat
              go_quiet (fail)
              go_wp2_with fail
              go_meet
              exact ⟨rfl, HQ.out.ext (by (repeat (first | exact Ext.rfl' _ | assumption | refine Ext.dr ?_ | refine Ext.drN ?_ _ | refine Ext.al ?_ _ | refine Ext.st ?_ (by simp) _ | refine Ext.tr ?_ (by assumption))))⟩
            case rest =>
              obtain ⟨rfl, hat⟩ := hcut
              go_wp2
              go_roundw
              case rel => exact ⟨t + 1, by go_num, by omega, hat⟩
              case measure => simp [intOf]; omega
      · have hlx' : ¬ (t : Int) < (xs.length : Int) := by omega
        have hly : t < ys.length := by omega
        have hly' : (t : Int) < (ys.length : Int) := by omega
        go_upto_region 10 with fail
        go_cut [101] (fun v wx => v = .bool false ∧ QAtL W (some (p1, r1, la)) none wx)
        case first =>
          have HQ := Lib.hid hat
          go_quiet (fail)
          go_wp2_with fail
          go_meet
          exact ⟨rfl, HQ.out.ext (by (repeat (first | exact Ext.rfl' _ | assumption | refine Ext.dr ?_ | refine Ext.drN ?_ _ | refine Ext.al ?_ _ | refine Ext.st ?_ (by simp) _ | refine Ext.tr ?_ (by assumption))))⟩
        case rest =>
          obtain ⟨rfl, hat⟩ := hcut
          go_upto_region 12 with fail
          go_cut [129] (fun v wx => v = .bool false ∧ QAtL W (some (p1, r1, la)) none wx)
          case first =>
            have HQ := Lib.hid hat
            go_quiet (fail)
            go_wp2_with fail
            go_meet
            exact ⟨rfl, HQ.out.ext (by (repeat (first | exact Ext.rfl' _ | assumption | refine Ext.dr ?_ | refine Ext.drN ?_ _ | refine Ext.al ?_ _ | refine Ext.st ?_ (by simp) _ | refine Ext.tr ?_ (by assumption))))⟩
          case rest =>
            obtain ⟨rfl, hat⟩ := hcut
            go_wp2
            go_roundw
            case rel => exact ⟨t + 1, by go_num, by omega, hat⟩
            case measure => simp [intOf]; omega
    · have hlx' : ¬ (t : Int) < (xs.length : Int) := by omega
      have hly' : ¬ (t : Int) < (ys.length : Int) := by omega
      go_wp2
      go_ret
      exact ⟨rfl, hat.toExt⟩
set_option maxRecDepth 100000 in
set_option maxHeartbeats 8000000 in
theorem AsciiQueues_bg (W : World) (hE : ErrR W) (a b : Int) (A1 A2 : Option Addr) (c1 c2 : Nat) (xs ys : List OpV) (h1 : RdOps W A1 xs) (h2 : RdOps W A2 ys) (hx : xs.length ≤ 140737488355328) (hy : ys.length ≤ 140737488355328) (ha : a < 1 ∨ 1048576 < a) (hb : 1 ≤ b ∧ b ≤ 1048576) :
    Calls Tryd.prog 4 #[.int .i64 a, .int .i64 b, .slice A1 xs.length c1, .slice A2 ys.length c2] W (Gives (.bool true) W) := by
  have HE := Lib.hid hE
  clear hE
  obtain ⟨lb, rfl⟩ : ∃ n : Nat, b = (n : Int) := ⟨b.toNat, by omega⟩
  have NB := Lib.hid (NewQueue_c 5 lb (by omega) (by omega))
  have RB := Lib.hid (rNewQueue_c 7 lb (by omega) (by omega))
  clear hb
  have HA := Lib.hid ha
  clear ha
  go_enter Tryd.func4, Tryd.ntmps4
  go_upto_region 2 with (go_at_call 13; refine (newNo_c a HA.out W).mono ?_; rintro e w1 ⟨rfl, rfl⟩)
  go_upto_region 3 with (go_at_call 13; refine (NB.out W (fun _ => 0)).mono ?_; rintro e w2 ⟨v, o2, rfl, ⟨p2, rfl, hq2, _⟩, hst2⟩)
  go_upto_region 4 with (go_at_call 14; refine (rnewNo_c a HA.out w2).mono ?_; rintro e w3 ⟨rfl, rfl⟩)
  go_upto_region 5 with (go_at_call 14; refine (RB.out w2 o2).mono ?_; rintro e w4 ⟨v, o4, rfl, ⟨r2, rfl, hr2, _⟩, hst4⟩)
  have e4 : Ext W w4 := (hst2.tr hst4).noExt
  go_wp2_with (first
    | (go_at_call 7; refine (num01_c _ _).mono ?_; rintro e w9 ⟨rfl, rfl⟩)
    | (go_at_call 12; refine (knows01_c _ (HE.out.ext e4)).mono ?_; rintro e w5 ⟨rfl, hx5⟩))
  have hat0 : QAtL W none (some (p2, r2, lb)) w5 := ⟨o4, (((hst2.tr hst4).mono (fun _ x => x.elim)).tr (Stp.ext hx5)),
    trivial, ⟨[], (hq2.stp hst4 (fun x => x) (fun x => x)).ext hx5, hr2.ext hx5⟩⟩
  clear hst2 hst4 hq2 hr2 NB RB HA hx5 e4
  go_loopw [15] (fun i wr => ∃ t : Nat, i = .int .i64 (t : Int) ∧ t ≤ max xs.length ys.length ∧ QAtL W none (some (p2, r2, lb)) wr) (fun i _ => max xs.length ys.length - (intOf i).toNat)
  case atStart => exact ⟨0, rfl, Nat.zero_le _, hat0⟩
  case round =>
    obtain ⟨t, rfl, ht, hat⟩ := hrel
    have t0 : (0 : Int) ≤ (t : Int) := by omega
    have ti : (t : Int) + 1 ≤ 9223372036854775807 := by omega
    by_cases hend : t < xs.length ∨ t < ys.length
    · by_cases hlx : t < xs.length
      · have hlx' : (t : Int) < (xs.length : Int) := by omega
        go_upto_region 10 with fail
        go_cut [101] (fun v wx => v = .bool false ∧ QAtL W none (some (p2, r2, lb)) wx)
        case first =>
          have HQ := Lib.hid hat
          go_quiet (fail)
          go_wp2_with fail
          go_meet
          exact ⟨rfl, HQ.out.ext (by (repeat (first | exact Ext.rfl' _ | assumption | refine Ext.dr ?_ | refine Ext.drN ?_ _ | refine Ext.al ?_ _ | refine Ext.st ?_ (by simp) _ | refine Ext.tr ?_ (by assumption))))⟩
        case rest =>
          obtain ⟨rfl, hat⟩ := hcut
          by_cases hly : t < ys.length
          · have hly' : (t : Int) < (ys.length : Int) := by omega
            obtain ⟨b, f, rfl, hb, a0, a1, a2⟩ := h2.row hly
            go_upto_region 12 with fail
            go_cut [129] (fun v wx => v = .bool false ∧ QAtL W none (some (p2, r2, lb)) wx)
            case first =>
              obtain ⟨o, hst, hp1, hp2⟩ := hat
              obtain ⟨l, T⟩ := hp2
              obtain ⟨hB, hlen, hn0, hn1⟩ := h2.each _ (List.getElem_mem hly)
              obtain ⟨x, hxe⟩ : ∃ x, x = ys[t] := ⟨_, rfl⟩
              rw [← hxe] at hB hlen hn0 hn1 a0 a1 a2
              have ho : ∀ q, q < W.heap.size → o q = 0 := fun q hq => hst.own q hq
              have hW := hst.toExt (fun _ _ hn => hn rfl)
              have hks := Lib.hid (fun w' o' (e : Stp (KS 5 7) wc o w' o') => (show w'.cell? ⟨b, f + t * 3, none⟩ = some (.int .i64 x.kind) ∧ w'.cell? ⟨b, f + t * 3 + 1, none⟩ = some (.int .i64 x.n) ∧ w'.cell? ⟨b, f + t * 3 + 2, none⟩ = some (.slice x.B x.mm.length x.d) from
                ⟨e.cell (by rw [ho _ hb]; unfold KS; omega) ((hW.cell hb).trans a0), e.cell (by rw [ho _ hb]; unfold KS; omega) ((hW.cell hb).trans a1), e.cell (by rw [ho _ hb]; unfold KS; omega) ((hW.cell hb).trans a2)⟩))
              have HBW := Lib.hid (hB.ext hW)
              have HBo := Lib.hid (show x.mm ≠ [] → ∀ a, x.B = some a → o a.block = 0 from fun hne a ha => by
                obtain ⟨b', f', hA', hb', _⟩ := hB.at_ (by rw [bc_len]; exact List.length_pos_iff.2 hne)
                rw [ha] at hA'; cases hA'; exact ho _ hb')
              have HT := Lib.hid T
              have HP := Lib.hid hp1
              have HS := Lib.hid hst
              clear hp1 hst T hB a0 a1 a2 hxe ho hW
              refine wp_region_noPanic ?_
              refine wp_region_held_drew (S := fun w' => w'.cell? ⟨b, f + t * 3, none⟩ = some (.int .i64 x.kind) ∧ w'.cell? ⟨b, f + t * 3 + 1, none⟩ = some (.int .i64 x.n) ∧ w'.cell? ⟨b, f + t * 3 + 2, none⟩ = some (.slice x.B x.mm.length x.d)) (by kernel_rfl) (by apply hks.out; (repeat (first | exact Stp.rfl' | assumption | apply Stp.dr | apply Stp.drN | apply Stp.al))) (fun hHeld => ?_)
              refine wpAnyH_take (i := 0) (oi := ?_) (v := ?_) ?_ (by kernel_rfl) (by kernel_rfl) (by kernel_rfl) (fun _ _ _ h => h) (Or.inl ⟨?_, ?_⟩) (by assumption) ?_
              rotate_left 2
              · (simp only [List.getElem?_toArray, List.getElem?_cons_succ, List.getElem?_cons_zero]; first | done | rfl)
              · rfl
              · intro w hSw
                try dsimp only at hSw
                go_simp <;> with_reducible rfl
              try simp only [Act.put, List.setIfInBounds_toArray, List.set_cons_zero, List.set_cons_succ]
              refine wpAnyH_take (i := 1) (oi := ?_) (v := ?_) ?_ (by kernel_rfl) (by kernel_rfl) (by kernel_rfl) (fun _ _ _ h => h) (Or.inl ⟨?_, ?_⟩) (by assumption) ?_
              rotate_left 2
              · (simp only [List.getElem?_toArray, List.getElem?_cons_succ, List.getElem?_cons_zero]; first | done | rfl)
              · rfl
              · intro w hSw
                try dsimp only at hSw
                go_simp <;> with_reducible rfl
              try simp only [Act.put, List.setIfInBounds_toArray, List.set_cons_zero, List.set_cons_succ]
              refine wpAnyH_take (i := 2) (oi := ?_) (v := ?_) ?_ (by kernel_rfl) (by kernel_rfl) (by kernel_rfl) (fun _ _ _ h => h) (Or.inl ⟨?_, ?_⟩) (by assumption) ?_
              rotate_left 2
              · (simp only [List.getElem?_toArray, List.getElem?_cons_succ, List.getElem?_cons_zero]; first | done | rfl)
              · rfl
              · intro w hSw
                try dsimp only at hSw
                go_simp <;> with_reducible rfl
              try simp only [Act.put, List.setIfInBounds_toArray, List.set_cons_zero, List.set_cons_succ]
              refine wpAnyH_take (i := 3) (oi := ?_) (v := ?_) ?_ (by kernel_rfl) (by kernel_rfl) (by kernel_rfl) (fun _ _ _ h => h) (Or.inl ⟨?_, ?_⟩) (by assumption) ?_
              rotate_left 2
              · (simp only [List.getElem?_toArray, List.getElem?_cons_succ, List.getElem?_cons_zero]; first | done | rfl)
              · rfl
              · intro w hSw
                try dsimp only at hSw
                go_simp <;> with_reducible rfl
              try simp only [Act.put, List.setIfInBounds_toArray, List.set_cons_zero, List.set_cons_succ]
              refine wpAnyH_take (i := 4) (oi := ?_) (v := ?_) ?_ (by kernel_rfl) (by kernel_rfl) (by kernel_rfl) (fun _ _ _ h => h) (Or.inl ⟨?_, ?_⟩) (by assumption) ?_
              rotate_left 2
              · (simp only [List.getElem?_toArray, List.getElem?_cons_succ, List.getElem?_cons_zero]; first | done | rfl)
              · rfl
              · intro w hSw
                try dsimp only at hSw
                go_simp <;> with_reducible rfl
              try simp only [Act.put, List.setIfInBounds_toArray, List.set_cons_zero, List.set_cons_succ]
              refine wpAnyH_take (i := 5) (oi := ?_) (v := ?_) ?_ (by kernel_rfl) (by kernel_rfl) (by kernel_rfl) (fun _ _ _ h => h) (Or.inl ⟨?_, ?_⟩) (by assumption) ?_
              rotate_left 2
              · (simp only [List.getElem?_toArray, List.getElem?_cons_succ, List.getElem?_cons_zero]; first | done | rfl)
              · rfl
              · intro w hSw
                try dsimp only at hSw
                go_simp <;> with_reducible rfl
              try simp only [Act.put, List.setIfInBounds_toArray, List.set_cons_zero, List.set_cons_succ]
              refine wpAnyH_take (i := 6) (oi := ?_) (v := ?_) ?_ (by kernel_rfl) (by kernel_rfl) (by kernel_rfl) (fun _ _ _ h => h) (Or.inl ⟨?_, ?_⟩) (by assumption) ?_
              rotate_left 2
              · (simp only [List.getElem?_toArray, List.getElem?_cons_succ, List.getElem?_cons_zero]; first | done | rfl)
              · rfl
              · intro w hSw
                try dsimp only at hSw
                go_simp <;> with_reducible rfl
              try simp only [Act.put, List.setIfInBounds_toArray, List.set_cons_zero, List.set_cons_succ]
              refine wpAnyH_take (i := 7) (oi := ?_) (v := ?_) ?_ (by kernel_rfl) (by kernel_rfl) (by kernel_rfl) (fun _ _ _ h => h) (Or.inl ⟨?_, ?_⟩) (by assumption) ?_
              rotate_left 2
              · (simp only [List.getElem?_toArray, List.getElem?_cons_succ, List.getElem?_cons_zero]; first | done | rfl)
              · rfl
              · intro w hSw
                try dsimp only at hSw
                go_simp <;> with_reducible rfl
              try simp only [Act.put, List.setIfInBounds_toArray, List.set_cons_zero, List.set_cons_succ]
              refine wpAnyH_take (i := 8) (oi := ?_) (v := ?_) ?_ (by kernel_rfl) (by kernel_rfl) (by kernel_rfl) (fun _ _ _ h => h) (Or.inl ⟨?_, ?_⟩) (by assumption) ?_
              rotate_left 2
              · (simp only [List.getElem?_toArray, List.getElem?_cons_succ, List.getElem?_cons_zero]; first | done | rfl)
              · rfl
              · intro w hSw
                try dsimp only at hSw
                go_simp <;> with_reducible rfl
              try simp only [Act.put, List.setIfInBounds_toArray, List.set_cons_zero, List.set_cons_succ]
              refine wpAnyH_take (i := 9) (oi := ?_) (v := ?_) ?_ (by kernel_rfl) (by kernel_rfl) (by kernel_rfl) (fun _ _ _ h => h) (Or.inl ⟨?_, ?_⟩) (by assumption) ?_
              rotate_left 2
              · (simp only [List.getElem?_toArray, List.getElem?_cons_succ, List.getElem?_cons_zero]; first | done | rfl)
              · rfl
              · intro w hSw
                try dsimp only at hSw
                go_simp <;> with_reducible rfl
              try simp only [Act.put, List.setIfInBounds_toArray, List.set_cons_zero, List.set_cons_succ]
              refine wpAnyH_take (i := 10) (oi := ?_) (v := ?_) ?_ (by kernel_rfl) (by kernel_rfl) (by kernel_rfl) (fun _ _ _ h => h) (Or.inl ⟨?_, ?_⟩) (by assumption) ?_
              rotate_left 2
              · (simp only [List.getElem?_toArray, List.getElem?_cons_succ, List.getElem?_cons_zero]; first | done | rfl)
              · rfl
              · intro w hSw
                try dsimp only at hSw
                go_simp <;> with_reducible rfl
              try simp only [Act.put, List.setIfInBounds_toArray, List.set_cons_zero, List.set_cons_succ]
              refine wpAnyH_take (i := 11) (oi := ?_) (v := ?_) ?_ (by kernel_rfl) (by kernel_rfl) (by kernel_rfl) (fun _ _ _ h => h) (Or.inl ⟨?_, ?_⟩) (by assumption) ?_
              rotate_left 2
              · (simp only [List.getElem?_toArray, List.getElem?_cons_succ, List.getElem?_cons_zero]; first | done | rfl)
              · rfl
              · intro w hSw
                try dsimp only at hSw
                go_simp <;> with_reducible rfl
              try simp only [Act.put, List.setIfInBounds_toArray, List.set_cons_zero, List.set_cons_succ]
              refine wpAnyH_take (i := 12) (oi := ?_) (v := ?_) ?_ (by kernel_rfl) (by kernel_rfl) (by kernel_rfl) (fun _ _ _ h => h) (Or.inl ⟨?_, ?_⟩) (by assumption) ?_
              rotate_left 2
              · (simp only [List.getElem?_toArray, List.getElem?_cons_succ, List.getElem?_cons_zero]; first | done | rfl)
              · rfl
              · intro w hSw
                try dsimp only at hSw
                go_simp <;> with_reducible rfl
              try simp only [Act.put, List.setIfInBounds_toArray, List.set_cons_zero, List.set_cons_succ]
              refine wpAnyH_take (i := 13) (oi := ?_) (v := ?_) ?_ (by kernel_rfl) (by kernel_rfl) (by kernel_rfl) (fun _ _ _ h => h) (Or.inl ⟨?_, ?_⟩) (by assumption) ?_
              rotate_left 2
              · (simp only [List.getElem?_toArray, List.getElem?_cons_succ, List.getElem?_cons_zero]; first | done | rfl)
              · rfl
              · intro w hSw
                try dsimp only at hSw
                go_simp <;> with_reducible rfl
              try simp only [Act.put, List.setIfInBounds_toArray, List.set_cons_zero, List.set_cons_succ]
              refine wpAnyH_take (i := 14) (oi := ?_) (v := ?_) ?_ (by kernel_rfl) (by kernel_rfl) (by kernel_rfl) (fun _ _ _ h => h) (Or.inl ⟨?_, ?_⟩) (by assumption) ?_
              rotate_left 2
              · (simp only [List.getElem?_toArray, List.getElem?_cons_succ, List.getElem?_cons_zero]; first | done | rfl)
              · rfl
              · intro w hSw
                try dsimp only at hSw
                go_simp <;> with_reducible rfl
              try simp only [Act.put, List.setIfInBounds_toArray, List.set_cons_zero, List.set_cons_succ]
              refine wpAnyH_ready (rs := [15]) (by kernel_rfl) (by simp) ?_
              refine AllReadyH.cons rfl (fun K hK => ?_) AllReadyH.nil
              go_simp
              go_at_call 15
              refine (step_c 5 p2 7 r2 lb (by omega) (by omega) (by omega) l x hn0 hn1 hlen _ o (HT.out.ext (by (repeat (first | exact Ext.rfl' _ | assumption | refine Ext.dr ?_ | refine Ext.drN ?_ _ | refine Ext.al ?_ _ | refine Ext.st ?_ (by simp) _ | refine Ext.tr ?_ (by assumption))))) (HBW.out.ext (by (repeat (first | exact Ext.rfl' _ | assumption | refine Ext.dr ?_ | refine Ext.drN ?_ _ | refine Ext.al ?_ _ | refine Ext.st ?_ (by simp) _ | refine Ext.tr ?_ (by assumption))))) (fun hne a ha _ => HBo.out hne a ha)).mono ?_
              rintro e w6 ⟨v, o6, rfl, ⟨rfl, l6, T6⟩, hst6⟩
              have st6 : Stp (KS 5 7) wc o w6 o6 := (Stp.ext (by (repeat (first | exact Ext.rfl' _ | assumption | refine Ext.dr ?_ | refine Ext.drN ?_ _ | refine Ext.al ?_ _ | refine Ext.st ?_ (by simp) _ | refine Ext.tr ?_ (by assumption))))).tr hst6
              obtain ⟨A6, c6, hh6, _, _⟩ := T6.2.at_
              have c60 := (q_facts hh6).1
              have T6 := Lib.hid T6
              refine hK.out _ _ (hks.out _ _ st6) (fun hHeld2 => ?_)
              clear hK K hHeld
              try simp only [Act.put, List.setIfInBounds_toArray, List.set_cons_zero, List.set_cons_succ]
              refine wpAnyH_mono (S' := fun w' => w'.cell? ⟨r2, 0, none⟩ = some (.slice A6 l6.length c6) ∧ w'.cell? ⟨b, f + t * 3, none⟩ = some (.int .i64 x.kind) ∧ w'.cell? ⟨b, f + t * 3 + 1, none⟩ = some (.int .i64 x.n) ∧ w'.cell? ⟨b, f + t * 3 + 2, none⟩ = some (.slice x.B x.mm.length x.d)) (fun w h => h.2) ?_
              have hHeld := And.intro c60 hHeld2
              refine wpAnyH_take (i := 16) (oi := ?_) (v := ?_) ?_ (by kernel_rfl) (by kernel_rfl) (by kernel_rfl) (fun _ _ _ h => h) (Or.inl ⟨?_, ?_⟩) (by assumption) ?_
              rotate_left 2
              · (simp only [List.getElem?_toArray, List.getElem?_cons_succ, List.getElem?_cons_zero]; first | done | rfl)
              · rfl
              · intro w hSw
                try dsimp only at hSw
                go_simp <;> with_reducible rfl
              try simp only [Act.put, List.setIfInBounds_toArray, List.set_cons_zero, List.set_cons_succ]
              refine wpAnyH_take (i := 17) (oi := ?_) (v := ?_) ?_ (by kernel_rfl) (by kernel_rfl) (by kernel_rfl) (fun _ _ _ h => h) (Or.inl ⟨?_, ?_⟩) (by assumption) ?_
              rotate_left 2
              · (simp only [List.getElem?_toArray, List.getElem?_cons_succ, List.getElem?_cons_zero]; first | done | rfl)
              · rfl
              · intro w hSw
                try dsimp only at hSw
                go_simp <;> with_reducible rfl
              try simp only [Act.put, List.setIfInBounds_toArray, List.set_cons_zero, List.set_cons_succ]
              refine wpAnyH_take (i := 18) (oi := ?_) (v := ?_) ?_ (by kernel_rfl) (by kernel_rfl) (by kernel_rfl) (fun _ _ _ h => h) (Or.inl ⟨?_, ?_⟩) (by assumption) ?_
              rotate_left 2
              · (simp only [List.getElem?_toArray, List.getElem?_cons_succ, List.getElem?_cons_zero]; first | done | rfl)
              · rfl
              · intro w hSw
                try dsimp only at hSw
                go_simp <;> with_reducible rfl
              try simp only [Act.put, List.setIfInBounds_toArray, List.set_cons_zero, List.set_cons_succ]
              refine wpAnyH_take (i := 20) (oi := ?_) (v := ?_) ?_ (by kernel_rfl) (by kernel_rfl) (by kernel_rfl) (fun _ _ _ h => h) (Or.inl ⟨?_, ?_⟩) (by assumption) ?_
              rotate_left 2
              · (simp only [List.getElem?_toArray, List.getElem?_cons_succ, List.getElem?_cons_zero]; first | done | rfl)
              · rfl
              · intro w hSw
                try dsimp only at hSw
                go_simp <;> with_reducible rfl
              try simp only [Act.put, List.setIfInBounds_toArray, List.set_cons_zero, List.set_cons_succ]
              refine wpAnyH_take (i := 21) (oi := ?_) (v := ?_) ?_ (by kernel_rfl) (by kernel_rfl) (by kernel_rfl) (fun _ _ _ h => h) (Or.inl ⟨?_, ?_⟩) (by assumption) ?_
              rotate_left 2
              · (simp only [List.getElem?_toArray, List.getElem?_cons_succ, List.getElem?_cons_zero]; first | done | rfl)
              · rfl
              · intro w hSw
                try dsimp only at hSw
                go_simp <;> with_reducible rfl
              try simp only [Act.put, List.setIfInBounds_toArray, List.set_cons_zero, List.set_cons_succ]
              refine wpAnyH_take (i := 22) (oi := ?_) (v := ?_) ?_ (by kernel_rfl) (by kernel_rfl) (by kernel_rfl) (fun _ _ _ h => h) (Or.inl ⟨?_, ?_⟩) (by assumption) ?_
              rotate_left 2
              · (simp only [List.getElem?_toArray, List.getElem?_cons_succ, List.getElem?_cons_zero]; first | done | rfl)
              · rfl
              · intro w hSw
                try dsimp only at hSw
                go_simp <;> with_reducible rfl
              try simp only [Act.put, List.setIfInBounds_toArray, List.set_cons_zero, List.set_cons_succ]
              refine wpAnyH_take (i := 23) (oi := ?_) (v := ?_) ?_ (by kernel_rfl) (by kernel_rfl) (by kernel_rfl) (fun _ _ _ h => h) (Or.inl ⟨?_, ?_⟩) (by assumption) ?_
              rotate_left 2
              · (simp only [List.getElem?_toArray, List.getElem?_cons_succ, List.getElem?_cons_zero]; first | done | rfl)
              · rfl
              · intro w hSw
                try dsimp only at hSw
                go_simp <;> with_reducible rfl
              try simp only [Act.put, List.setIfInBounds_toArray, List.set_cons_zero, List.set_cons_succ]
              refine wpAnyH_take (i := 24) (oi := ?_) (v := ?_) ?_ (by kernel_rfl) (by kernel_rfl) (by kernel_rfl) (fun _ _ _ h => h) (Or.inl ⟨?_, ?_⟩) (by assumption) ?_
              rotate_left 2
              · (simp only [List.getElem?_toArray, List.getElem?_cons_succ, List.getElem?_cons_zero]; first | done | rfl)
              · rfl
              · intro w hSw
                try dsimp only at hSw
                go_simp <;> with_reducible rfl
              try simp only [Act.put, List.setIfInBounds_toArray, List.set_cons_zero, List.set_cons_succ]
              refine wpAnyH_ready (rs := [19]) (by kernel_rfl) (by simp) ?_
              refine AllReadyH.cons rfl (fun K hK => ?_) AllReadyH.nil
              go_simp
              go_at_call 11
              refine (qLen_c _ o6 5 p2 lb l6 (T6.out.1.ext (by (repeat (first | exact Ext.rfl' _ | assumption | refine Ext.dr ?_ | refine Ext.drN ?_ _ | refine Ext.al ?_ _ | refine Ext.st ?_ (by simp) _ | refine Ext.tr ?_ (by assumption)))))).mono ?_
              rintro e w7 ⟨rfl, rfl⟩
              refine hK.out _ _ hHeld (fun hHeld3 => ?_)
              clear hK K
              try simp only [Act.put, List.setIfInBounds_toArray, List.set_cons_zero, List.set_cons_succ]
              refine wpAnyH_take (i := 25) (oi := ?_) (v := ?_) ?_ (by kernel_rfl) (by kernel_rfl) (by kernel_rfl) (fun _ _ _ h => h) (Or.inl ⟨?_, ?_⟩) (by assumption) ?_
              rotate_left 2
              · (simp only [List.getElem?_toArray, List.getElem?_cons_succ, List.getElem?_cons_zero]; first | done | rfl)
              · rfl
              · intro w hSw
                try dsimp only at hSw
                go_simp <;> with_reducible rfl
              try simp only [Act.put, List.setIfInBounds_toArray, List.set_cons_zero, List.set_cons_succ]
              refine wpAnyH_take (i := 26) (oi := ?_) (v := ?_) ?_ (by kernel_rfl) (by kernel_rfl) (by kernel_rfl) (fun _ _ _ h => h) (Or.inl ⟨?_, ?_⟩) (by assumption) ?_
              rotate_left 2
              · (simp only [List.getElem?_toArray, List.getElem?_cons_succ, List.getElem?_cons_zero]; first | done | rfl)
              · rfl
              · intro w hSw
                try dsimp only at hSw
                go_simp <;> with_reducible rfl
              try simp only [Act.put, List.setIfInBounds_toArray, List.set_cons_zero, List.set_cons_succ]
              refine wpAnyH_take (i := 27) (oi := ?_) (v := ?_) ?_ (by kernel_rfl) (by kernel_rfl) (by kernel_rfl) (fun _ _ _ h => h) (Or.inl ⟨?_, ?_⟩) (by assumption) ?_
              rotate_left 2
              · (simp only [List.getElem?_toArray, List.getElem?_cons_succ, List.getElem?_cons_zero]; first | done | rfl)
              · rfl
              · intro w hSw
                try dsimp only at hSw
                go_simp <;> with_reducible rfl
              try simp only [Act.put, List.setIfInBounds_toArray, List.set_cons_zero, List.set_cons_succ]
              refine wpAnyH_done (by kernel_rfl) ?_ _
              refine NoPanic.normal ?_
              all_goals (go_wp2_with fail; go_meet)
              all_goals exact ⟨rfl, QAtL.ext ⟨o6, HS.out.tr (st6.mono (fun x hx => by unfold KS at hx; omega)), ⟨HP.out.stp st6 (by unfold KS; omega) (by unfold KS; omega) (by unfold KS; omega) (by unfold KS; omega), ⟨l6, T6.out⟩⟩⟩ (by (repeat (first | exact Ext.rfl' _ | assumption | refine Ext.dr ?_ | refine Ext.drN ?_ _ | refine Ext.al ?_ _ | refine Ext.st ?_ (by simp) _ | refine Ext.tr ?_ (by assumption))))⟩
            case rest =>
              obtain ⟨rfl, hat⟩ := hcut
              go_wp2
              go_roundw
              case rel => exact ⟨t + 1, by go_num, by omega, hat⟩
              case measure => simp [intOf]; omega
          · have hly' : ¬ (t : Int) < (ys.length : Int) := by omega
            go_upto_region 12 with fail
            go_cut [129] (fun v wx => v = .bool false ∧ QAtL W none (some (p2, r2, lb)) wx)
            case first =>
              have HQ := Lib.hid hat
              go_quiet (fail)
              go_wp2_with fail
              go_meet
              exact ⟨rfl, HQ.out.ext (by (repeat (first | exact Ext.rfl' _ | assumption | refine Ext.dr ?_ | refine Ext.drN ?_ _ | refine Ext.al ?_ _ | refine Ext.st ?_ (by simp) _ | refine Ext.tr ?_ (by assumption))))⟩
            case rest =>
              obtain ⟨rfl, hat⟩ := hcut
              go_wp2
              go_roundw
              case rel => exact ⟨t + 1, by go_num, by omega, hat⟩
              case measure => simp [intOf]; omega
      · have hlx' : ¬ (t : Int) < (xs.length : Int) := by omega
        have hly : t < ys.length := by omega
        have hly' : (t : Int) < (ys.length : Int) := by omega
        go_upto_region 10 with fail
        go_cut [101] (fun v wx => v = .bool false ∧ QAtL W none (some (p2, r2, lb)) wx)
        case first =>
          have HQ := Lib.hid hat
          go_quiet (fail)
          go_wp2_with fail
          go_meet
          exact ⟨rfl, HQ.out.ext (by (repeat (first | exact Ext.rfl' _ | assumption | refine Ext.dr ?_ | refine Ext.drN ?_ _ | refine Ext.al ?_ _ | refine Ext.st ?_ (by simp) _ | refine Ext.tr ?_ (by assumption))))⟩
        case rest =>
          obtain ⟨rfl, hat⟩ := hcut
          obtain ⟨b, f, rfl, hb, a0, a1, a2⟩ := h2.row hly
          go_upto_region 12 with fail
          go_cut [129] (fun v wx => v = .bool false ∧ QAtL W none (some (p2, r2, lb)) wx)
          case first =>
            obtain ⟨o, hst, hp1, hp2⟩ := hat
            obtain ⟨l, T⟩ := hp2
            obtain ⟨hB, hlen, hn0, hn1⟩ := h2.each _ (List.getElem_mem hly)
            obtain ⟨x, hxe⟩ : ∃ x, x = ys[t] := ⟨_, rfl⟩
            rw [← hxe] at hB hlen hn0 hn1 a0 a1 a2
            have ho : ∀ q, q < W.heap.size → o q = 0 := fun q hq => hst.own q hq
            have hW := hst.toExt (fun _ _ hn => hn rfl)
            have hks := Lib.hid (fun w' o' (e : Stp (KS 5 7) wc o w' o') => (show w'.cell? ⟨b, f + t * 3, none⟩ = some (.int .i64 x.kind) ∧ w'.cell? ⟨b, f + t * 3 + 1, none⟩ = some (.int .i64 x.n) ∧ w'.cell? ⟨b, f + t * 3 + 2, none⟩ = some (.slice x.B x.mm.length x.d) from
              ⟨e.cell (by rw [ho _ hb]; unfold KS; omega) ((hW.cell hb).trans a0), e.cell (by rw [ho _ hb]; unfold KS; omega) ((hW.cell hb).trans a1), e.cell (by rw [ho _ hb]; unfold KS; omega) ((hW.cell hb).trans a2)⟩))
            have HBW := Lib.hid (hB.ext hW)
            have HBo := Lib.hid (show x.mm ≠ [] → ∀ a, x.B = some a → o a.block = 0 from fun hne a ha => by
              obtain ⟨b', f', hA', hb', _⟩ := hB.at_ (by rw [bc_len]; exact List.length_pos_iff.2 hne)
              rw [ha] at hA'; cases hA'; exact ho _ hb')
            have HT := Lib.hid T
            have HP := Lib.hid hp1
            have HS := Lib.hid hst
            clear hp1 hst T hB a0 a1 a2 hxe ho hW
            refine wp_region_noPanic ?_
            refine wp_region_held_drew (S := fun w' => w'.cell? ⟨b, f + t * 3, none⟩ = some (.int .i64 x.kind) ∧ w'.cell? ⟨b, f + t * 3 + 1, none⟩ = some (.int .i64 x.n) ∧ w'.cell? ⟨b, f + t * 3 + 2, none⟩ = some (.slice x.B x.mm.length x.d)) (by kernel_rfl) (by apply hks.out; (repeat (first | exact Stp.rfl' | assumption | apply Stp.dr | apply Stp.drN | apply Stp.al))) (fun hHeld => ?_)
            refine wpAnyH_take (i := 0) (oi := ?_) (v := ?_) ?_ (by kernel_rfl) (by kernel_rfl) (by kernel_rfl) (fun _ _ _ h => h) (Or.inl ⟨?_, ?_⟩) (by assumption) ?_
            rotate_left 2
            · (simp only [List.getElem?_toArray, List.getElem?_cons_succ, List.getElem?_cons_zero]; first | done | rfl)
            · rfl
            · intro w hSw
              try dsimp only at hSw
              go_simp <;> with_reducible rfl
            try simp only [Act.put, List.setIfInBounds_toArray, List.set_cons_zero, List.set_cons_succ]
            refine wpAnyH_take (i := 1) (oi := ?_) (v := ?_) ?_ (by kernel_rfl) (by kernel_rfl) (by kernel_rfl) (fun _ _ _ h => h) (Or.inl ⟨?_, ?_⟩) (by assumption) ?_
            rotate_left 2
            · (simp only [List.getElem?_toArray, List.getElem?_cons_succ, List.getElem?_cons_zero]; first | done | rfl)
            · rfl
            · intro w hSw
              try dsimp only at hSw
              go_simp <;> with_reducible rfl
            try simp only [Act.put, List.setIfInBounds_toArray, List.set_cons_zero, List.set_cons_succ]
            refine wpAnyH_take (i := 2) (oi := ?_) (v := ?_) ?_ (by kernel_rfl) (by kernel_rfl) (by kernel_rfl) (fun _ _ _ h => h) (Or.inl ⟨?_, ?_⟩) (by assumption) ?_
            rotate_left 2
            · (simp only [List.getElem?_toArray, List.getElem?_cons_succ, List.getElem?_cons_zero]; first | done | rfl)
            · rfl
            · intro w hSw
              try dsimp only at hSw
              go_simp <;> with_reducible rfl
            try simp only [Act.put, List.setIfInBounds_toArray, List.set_cons_zero, List.set_cons_succ]
            refine wpAnyH_take (i := 3) (oi := ?_) (v := ?_) ?_ (by kernel_rfl) (by kernel_rfl) (by kernel_rfl) (fun _ _ _ h => h) (Or.inl ⟨?_, ?_⟩) (by assumption) ?_
            rotate_left 2
            · (simp only [List.getElem?_toArray, List.getElem?_cons_succ, List.getElem?_cons_zero]; first | done | rfl)
            · rfl
            · intro w hSw
              try dsimp only at hSw
              go_simp <;> with_reducible rfl
            try simp only [Act.put, List.setIfInBounds_toArray, List.set_cons_zero, List.set_cons_succ]
            refine wpAnyH_take (i := 4) (oi := ?_) (v := ?_) ?_ (by kernel_rfl) (by kernel_rfl) (by kernel_rfl) (fun _ _ _ h => h) (Or.inl ⟨?_, ?_⟩) (by assumption) ?_
            rotate_left 2
            · (simp only [List.getElem?_toArray, List.getElem?_cons_succ, List.getElem?_cons_zero]; first | done | rfl)
            · rfl
            · intro w hSw
              try dsimp only at hSw
              go_simp <;> with_reducible rfl
            try simp only [Act.put, List.setIfInBounds_toArray, List.set_cons_zero, List.set_cons_succ]
            refine wpAnyH_take (i := 5) (oi := ?_) (v := ?_) ?_ (by kernel_rfl) (by kernel_rfl) (by kernel_rfl) (fun _ _ _ h => h) (Or.inl ⟨?_, ?_⟩) (by assumption) ?_
            rotate_left 2
            · (simp only [List.getElem?_toArray, List.getElem?_cons_succ, List.getElem?_cons_zero]; first | done | rfl)
            · rfl
            · intro w hSw
              try dsimp only at hSw
              go_simp <;> with_reducible rfl
            try simp only [Act.put, List.setIfInBounds_toArray, List.set_cons_zero, List.set_cons_succ]
            refine wpAnyH_take (i := 6) (oi := ?_) (v := ?_) ?_ (by kernel_rfl) (by kernel_rfl) (by kernel_rfl) (fun _ _ _ h => h) (Or.inl ⟨?_, ?_⟩) (by assumption) ?_
            rotate_left 2
            · (simp only [List.getElem?_toArray, List.getElem?_cons_succ, List.getElem?_cons_zero]; first | done | rfl)
            · rfl
            · intro w hSw
              try dsimp only at hSw
              go_simp <;> with_reducible rfl
            try simp only [Act.put, List.setIfInBounds_toArray, List.set_cons_zero, List.set_cons_succ]
            refine wpAnyH_take (i := 7) (oi := ?_) (v := ?_) ?_ (by kernel_rfl) (by kernel_rfl) (by kernel_rfl) (fun _ _ _ h => h) (Or.inl ⟨?_, ?_⟩) (by assumption) ?_
            rotate_left 2
            · (simp only [List.getElem?_toArray, List.getElem?_cons_succ, List.getElem?_cons_zero]; first | done | rfl)
            · rfl
            · intro w hSw
              try dsimp only at hSw
              go_simp <;> with_reducible rfl
            try simp only [Act.put, List.setIfInBounds_toArray, List.set_cons_zero, List.set_cons_succ]
            refine wpAnyH_take (i := 8) (oi := ?_) (v := ?_) ?_ (by kernel_rfl) (by kernel_rfl) (by kernel_rfl) (fun _ _ _ h => h) (Or.inl ⟨?_, ?_⟩) (by assumption) ?_
            rotate_left 2
            · (simp only [List.getElem?_toArray, List.getElem?_cons_succ, List.getElem?_cons_zero]; first | done | rfl)
            · rfl
            · intro w hSw
              try dsimp only at hSw
              go_simp <;> with_reducible rfl
            try simp only [Act.put, List.setIfInBounds_toArray, List.set_cons_zero, List.set_cons_succ]
            refine wpAnyH_take (i := 9) (oi := ?_) (v := ?_) ?_ (by kernel_rfl) (by kernel_rfl) (by kernel_rfl) (fun _ _ _ h => h) (Or.inl ⟨?_, ?_⟩) (by assumption) ?_
            rotate_left 2
            · (simp only [List.getElem?_toArray, List.getElem?_cons_succ, List.getElem?_cons_zero]; first | done | rfl)
            · rfl
            · intro w hSw
              try dsimp only at hSw
              go_simp <;> with_reducible rfl
            try simp only [Act.put, List.setIfInBounds_toArray, List.set_cons_zero, List.set_cons_succ]
            refine wpAnyH_take (i := 10) (oi := ?_) (v := ?_) ?_ (by kernel_rfl) (by kernel_rfl) (by kernel_rfl) (fun _ _ _ h => h) (Or.inl ⟨?_, ?_⟩) (by assumption) ?_
            rotate_left 2
            · (simp only [List.getElem?_toArray, List.getElem?_cons_succ, List.getElem?_cons_zero]; first | done | rfl)
            · rfl
            · intro w hSw
              try dsimp only at hSw
              go_simp <;> with_reducible rfl
            try simp only [Act.put, List.setIfInBounds_toArray, List.set_cons_zero, List.set_cons_succ]
            refine wpAnyH_take (i := 11) (oi := ?_) (v := ?_) ?_ (by kernel_rfl) (by kernel_rfl) (by kernel_rfl) (fun _ _ _ h => h) (Or.inl ⟨?_, ?_⟩) (by assumption) ?_
            rotate_left 2
            · (simp only [List.getElem?_toArray, List.getElem?_cons_succ, List.getElem?_cons_zero]; first | done | rfl)
            · rfl
            · intro w hSw
              try dsimp only at hSw
              go_simp <;> with_reducible rfl
            try simp only [Act.put, List.setIfInBounds_toArray, List.set_cons_zero, List.set_cons_succ]
            refine wpAnyH_take (i := 12) (oi := ?_) (v := ?_) ?_ (by kernel_rfl) (by kernel_rfl) (by kernel_rfl) (fun _ _ _ h => h) (Or.inl ⟨?_, ?_⟩) (by assumption) ?_
            rotate_left 2
            · (simp only [List.getElem?_toArray, List.getElem?_cons_succ, List.getElem?_cons_zero]; first | done | rfl)
            · rfl
            · intro w hSw
              try dsimp only at hSw
              go_simp <;> with_reducible rfl
            try simp only [Act.put, List.setIfInBounds_toArray, List.set_cons_zero, List.set_cons_succ]
            refine wpAnyH_take (i := 13) (oi := ?_) (v := ?_) ?_ (by kernel_rfl) (by kernel_rfl) (by kernel_rfl) (fun _ _ _ h => h) (Or.inl ⟨?_, ?_⟩) (by assumption) ?_
            rotate_left 2
            · (simp only [List.getElem?_toArray, List.getElem?_cons_succ, List.getElem?_cons_zero]; first | done | rfl)
            · rfl
            · intro w hSw
              try dsimp only at hSw
              go_simp <;> with_reducible rfl
            try simp only [Act.put, List.setIfInBounds_toArray, List.set_cons_zero, List.set_cons_succ]
            refine wpAnyH_take (i := 14) (oi := ?_) (v := ?_) ?_ (by kernel_rfl) (by kernel_rfl) (by kernel_rfl) (fun _ _ _ h => h) (Or.inl ⟨?_, ?_⟩) (by assumption) ?_
            rotate_left 2
            · (simp only [List.getElem?_toArray, List.getElem?_cons_succ, List.getElem?_cons_zero]; first | done | rfl)
            · rfl
            · intro w hSw
              try dsimp only at hSw
              go_simp <;> with_reducible rfl
            try simp only [Act.put, List.setIfInBounds_toArray, List.set_cons_zero, List.set_cons_succ]
            refine wpAnyH_ready (rs := [15]) (by kernel_rfl) (by simp) ?_
            refine AllReadyH.cons rfl (fun K hK => ?_) AllReadyH.nil
            go_simp
            go_at_call 15
            refine (step_c 5 p2 7 r2 lb (by omega) (by omega) (by omega) l x hn0 hn1 hlen _ o (HT.out.ext (by (repeat (first | exact Ext.rfl' _ | assumption | refine Ext.dr ?_ | refine Ext.drN ?_ _ | refine Ext.al ?_ _ | refine Ext.st ?_ (by simp) _ | refine Ext.tr ?_ (by assumption))))) (HBW.out.ext (by (repeat (first | exact Ext.rfl' _ | assumption | refine Ext.dr ?_ | refine Ext.drN ?_ _ | refine Ext.al ?_ _ | refine Ext.st ?_ (by simp) _ | refine Ext.tr ?_ (by assumption))))) (fun hne a ha _ => HBo.out hne a ha)).mono ?_
            rintro e w6 ⟨v, o6, rfl, ⟨rfl, l6, T6⟩, hst6⟩
            have st6 : Stp (KS 5 7) wc o w6 o6 := (Stp.ext (by (repeat (first | exact Ext.rfl' _ | assumption | refine Ext.dr ?_ | refine Ext.drN ?_ _ | refine Ext.al ?_ _ | refine Ext.st ?_ (by simp) _ | refine Ext.tr ?_ (by assumption))))).tr hst6
            obtain ⟨A6, c6, hh6, _, _⟩ := T6.2.at_
            have c60 := (q_facts hh6).1
            have T6 := Lib.hid T6
            refine hK.out _ _ (hks.out _ _ st6) (fun hHeld2 => ?_)
            clear hK K hHeld
            try simp only [Act.put, List.setIfInBounds_toArray, List.set_cons_zero, List.set_cons_succ]
            refine wpAnyH_mono (S' := fun w' => w'.cell? ⟨r2, 0, none⟩ = some (.slice A6 l6.length c6) ∧ w'.cell? ⟨b, f + t * 3, none⟩ = some (.int .i64 x.kind) ∧ w'.cell? ⟨b, f + t * 3 + 1, none⟩ = some (.int .i64 x.n) ∧ w'.cell? ⟨b, f + t * 3 + 2, none⟩ = some (.slice x.B x.mm.length x.d)) (fun w h => h.2) ?_
            have hHeld := And.intro c60 hHeld2
            refine wpAnyH_take (i := 16) (oi := ?_) (v := ?_) ?_ (by kernel_rfl) (by kernel_rfl) (by kernel_rfl) (fun _ _ _ h => h) (Or.inl ⟨?_, ?_⟩) (by assumption) ?_
            rotate_left 2
            · (simp only [List.getElem?_toArray, List.getElem?_cons_succ, List.getElem?_cons_zero]; first | done | rfl)
            · rfl
            · intro w hSw
              try dsimp only at hSw
              go_simp <;> with_reducible rfl
            try simp only [Act.put, List.setIfInBounds_toArray, List.set_cons_zero, List.set_cons_succ]
            refine wpAnyH_take (i := 17) (oi := ?_) (v := ?_) ?_ (by kernel_rfl) (by kernel_rfl) (by kernel_rfl) (fun _ _ _ h => h) (Or.inl ⟨?_, ?_⟩) (by assumption) ?_
            rotate_left 2
            · (simp only [List.getElem?_toArray, List.getElem?_cons_succ, List.getElem?_cons_zero]; first | done | rfl)
            · rfl
            · intro w hSw
              try dsimp only at hSw
              go_simp <;> with_reducible rfl
            try simp only [Act.put, List.setIfInBounds_toArray, List.set_cons_zero, List.set_cons_succ]
            refine wpAnyH_take (i := 18) (oi := ?_) (v := ?_) ?_ (by kernel_rfl) (by kernel_rfl) (by kernel_rfl) (fun _ _ _ h => h) (Or.inl ⟨?_, ?_⟩) (by assumption) ?_
            rotate_left 2
            · (simp only [List.getElem?_toArray, List.getElem?_cons_succ, List.getElem?_cons_zero]; first | done | rfl)
            · rfl
            · intro w hSw
              try dsimp only at hSw
              go_simp <;> with_reducible rfl
            try simp only [Act.put, List.setIfInBounds_toArray, List.set_cons_zero, List.set_cons_succ]
            refine wpAnyH_take (i := 20) (oi := ?_) (v := ?_) ?_ (by kernel_rfl) (by kernel_rfl) (by kernel_rfl) (fun _ _ _ h => h) (Or.inl ⟨?_, ?_⟩) (by assumption) ?_
            rotate_left 2
            · (simp only [List.getElem?_toArray, List.getElem?_cons_succ, List.getElem?_cons_zero]; first | done | rfl)
            · rfl
            · intro w hSw
              try dsimp only at hSw
              go_simp <;> with_reducible rfl
            try simp only [Act.put, List.setIfInBounds_toArray, List.set_cons_zero, List.set_cons_succ]
            refine wpAnyH_take (i := 21) (oi := ?_) (v := ?_) ?_ (by kernel_rfl) (by kernel_rfl) (by kernel_rfl) (fun _ _ _ h => h) (Or.inl ⟨?_, ?_⟩) (by assumption) ?_
            rotate_left 2
            · (simp only [List.getElem?_toArray, List.getElem?_cons_succ, List.getElem?_cons_zero]; first | done | rfl)
            · rfl
            · intro w hSw
              try dsimp only at hSw
              go_simp <;> with_reducible rfl
            try simp only [Act.put, List.setIfInBounds_toArray, List.set_cons_zero, List.set_cons_succ]
            refine wpAnyH_take (i := 22) (oi := ?_) (v := ?_) ?_ (by kernel_rfl) (by kernel_rfl) (by kernel_rfl) (fun _ _ _ h => h) (Or.inl ⟨?_, ?_⟩) (by assumption) ?_
            rotate_left 2
            · (simp only [List.getElem?_toArray, List.getElem?_cons_succ, List.getElem?_cons_zero]; first | done | rfl)
            · rfl
            · intro w hSw
              try dsimp only at hSw
              go_simp <;> with_reducible rfl
            try simp only [Act.put, List.setIfInBounds_toArray, List.set_cons_zero, List.set_cons_succ]
            refine wpAnyH_take (i := 23) (oi := ?_) (v := ?_) ?_ (by kernel_rfl) (by kernel_rfl) (by kernel_rfl) (fun _ _ _ h => h) (Or.inl ⟨?_, ?_⟩) (by assumption) ?_
            rotate_left 2
            · (simp only [List.getElem?_toArray, List.getElem?_cons_succ, List.getElem?_cons_zero]; first | done | rfl)
            · rfl
            · intro w hSw
              try dsimp only at hSw
              go_simp <;> with_reducible rfl
            try simp only [Act.put, List.setIfInBounds_toArray, List.set_cons_zero, List.set_cons_succ]
            refine wpAnyH_take (i := 24) (oi := ?_) (v := ?_) ?_ (by kernel_rfl) (by kernel_rfl) (by kernel_rfl) (fun _ _ _ h => h) (Or.inl ⟨?_, ?_⟩) (by assumption) ?_
            rotate_left 2
            · (simp only [List.getElem?_toArray, List.getElem?_cons_succ, List.getElem?_cons_zero]; first | done | rfl)
            · rfl
            · intro w hSw
              try dsimp only at hSw
              go_simp <;> with_reducible rfl
            try simp only [Act.put, List.setIfInBounds_toArray, List.set_cons_zero, List.set_cons_succ]
            refine wpAnyH_ready (rs := [19]) (by kernel_rfl) (by simp) ?_
            refine AllReadyH.cons rfl (fun K hK => ?_) AllReadyH.nil
            go_simp
            go_at_call 11
            refine (qLen_c _ o6 5 p2 lb l6 (T6.out.1.ext (by (repeat (first | exact Ext.rfl' _ | assumption | refine Ext.dr ?_ | refine Ext.drN ?_ _ | refine Ext.al ?_ _ | refine Ext.st ?_ (by simp) _ | refine Ext.tr ?_ (by assumption)))))).mono ?_
            rintro e w7 ⟨rfl, rfl⟩
            refine hK.out _ _ hHeld (fun hHeld3 => ?_)
            clear hK K
            try simp only [Act.put, List.setIfInBounds_toArray, List.set_cons_zero, List.set_cons_succ]
            refine wpAnyH_take (i := 25) (oi := ?_) (v := ?_) ?_ (by kernel_rfl) (by kernel_rfl) (by kernel_rfl) (fun _ _ _ h => h) (Or.inl ⟨?_, ?_⟩) (by assumption) ?_
            rotate_left 2
            · (simp only [List.getElem?_toArray, List.getElem?_cons_succ, List.getElem?_cons_zero]; first | done | rfl)
            · rfl
            · intro w hSw
              try dsimp only at hSw
              go_simp <;> with_reducible rfl
            try simp only [Act.put, List.setIfInBounds_toArray, List.set_cons_zero, List.set_cons_succ]
            refine wpAnyH_take (i := 26) (oi := ?_) (v := ?_) ?_ (by kernel_rfl) (by kernel_rfl) (by kernel_rfl) (fun _ _ _ h => h) (Or.inl ⟨?_, ?_⟩) (by assumption) ?_
            rotate_left 2
            · (simp only [List.getElem?_toArray, List.getElem?_cons_succ, List.getElem?_cons_zero]; first | done | rfl)
            · rfl
            · intro w hSw
              try dsimp only at hSw
              go_simp <;> with_reducible rfl
            try simp only [Act.put, List.setIfInBounds_toArray, List.set_cons_zero, List.set_cons_succ]
            refine wpAnyH_take (i := 27) (oi := ?_) (v := ?_) ?_ (by kernel_rfl) (by kernel_rfl) (by kernel_rfl) (fun _ _ _ h => h) (Or.inl ⟨?_, ?_⟩) (by assumption) ?_
            rotate_left 2
            · (simp only [List.getElem?_toArray, List.getElem?_cons_succ, List.getElem?_cons_zero]; first | done | rfl)
            · rfl
            · intro w hSw
              try dsimp only at hSw
              go_simp <;> with_reducible rfl
            try simp only [Act.put, List.setIfInBounds_toArray, List.set_cons_zero, List.set_cons_succ]
            refine wpAnyH_done (by kernel_rfl) ?_ _
            refine NoPanic.normal ?_
            all_goals (go_wp2_with fail; go_meet)
            all_goals exact ⟨rfl, QAtL.ext ⟨o6, HS.out.tr (st6.mono (fun x hx => by unfold KS at hx; omega)), ⟨HP.out.stp st6 (by unfold KS; omega) (by unfold KS; omega) (by unfold KS; omega) (by unfold KS; omega), ⟨l6, T6.out⟩⟩⟩ (by (repeat (first | exact Ext.rfl' _ | assumption | refine Ext.dr ?_ | refine Ext.drN ?_ _ | refine Ext.al ?_ _ | refine Ext.st ?_ (by simp) _ | refine Ext.tr ?_ (by assumption))))⟩
          case rest =>
            obtain ⟨rfl, hat⟩ := hcut
            go_wp2
            go_roundw
            case rel => exact ⟨t + 1, by go_num, by omega, hat⟩
            case measure => simp [intOf]; omega
    · have hlx' : ¬ (t : Int) < (xs.length : Int) := by omega
      have hly' : ¬ (t : Int) < (ys.length : Int) := by omega
      go_wp2
      go_ret
      exact ⟨rfl, hat.toExt⟩
set_option maxRecDepth 100000 in
set_option maxHeartbeats 8000000 in
theorem AsciiQueues_bb (W : World) (hE : ErrR W) (a b : Int) (A1 A2 : Option Addr) (c1 c2 : Nat) (xs ys : List OpV) (h1 : RdOps W A1 xs) (h2 : RdOps W A2 ys) (hx : xs.length ≤ 140737488355328) (hy : ys.length ≤ 140737488355328) (ha : a < 1 ∨ 1048576 < a) (hb : b < 1 ∨ 1048576 < b) :
    Calls Tryd.prog 4 #[.int .i64 a, .int .i64 b, .slice A1 xs.length c1, .slice A2 ys.length c2] W (Gives (.bool true) W) := by
  have HE := Lib.hid hE
  clear hE
  have HA := Lib.hid ha
  clear ha
  have HBB := Lib.hid hb
  clear hb
  go_enter Tryd.func4, Tryd.ntmps4
  go_upto_region 2 with (go_at_call 13; refine (newNo_c a HA.out W).mono ?_; rintro e w1 ⟨rfl, rfl⟩)
  go_upto_region 3 with (go_at_call 13; refine (newNo_c b HBB.out W).mono ?_; rintro e w2 ⟨rfl, rfl⟩)
  go_upto_region 4 with (go_at_call 14; refine (rnewNo_c a HA.out W).mono ?_; rintro e w3 ⟨rfl, rfl⟩)
  go_upto_region 5 with (go_at_call 14; refine (rnewNo_c b HBB.out W).mono ?_; rintro e w4 ⟨rfl, rfl⟩)
  go_wp2_with (first
    | (go_at_call 7; refine (num01_c _ _).mono ?_; rintro e w9 ⟨rfl, rfl⟩)
    | (go_at_call 12; refine (knows01_c _ (HE.out.ext (Ext.rfl' W))).mono ?_; rintro e w5 ⟨rfl, hx5⟩))
  have hat0 : QAtL W none none w5 := ⟨fun _ => 0, Stp.ext hx5, trivial, trivial⟩
  clear HA HBB hx5
  go_loopw [15] (fun i wr => ∃ t : Nat, i = .int .i64 (t : Int) ∧ t ≤ max xs.length ys.length ∧ QAtL W none none wr) (fun i _ => max xs.length ys.length - (intOf i).toNat)
  case atStart => exact ⟨0, rfl, Nat.zero_le _, hat0⟩
  case round =>
    obtain ⟨t, rfl, ht, hat⟩ := hrel
    have t0 : (0 : Int) ≤ (t : Int) := by omega
    have ti : (t : Int) + 1 ≤ 9223372036854775807 := by omega
    by_cases hend : t < xs.length ∨ t < ys.length
    · by_cases hlx : t < xs.length
      · have hlx' : (t : Int) < (xs.length : Int) := by omega
        go_upto_region 10 with fail
        go_cut [101] (fun v wx => v = .bool false ∧ QAtL W none none wx)
        case first =>
          have HQ := Lib.hid hat
          go_quiet (fail)
          go_wp2_with fail
          go_meet
          exact ⟨rfl, HQ.out.ext (by (repeat (first | exact Ext.rfl' _ | assumption | refine Ext.dr ?_ | refine Ext.drN ?_ _ | refine Ext.al ?_ _ | refine Ext.st ?_ (by simp) _ | refine Ext.tr ?_ (by assumption))))⟩
        case rest =>
          obtain ⟨rfl, hat⟩ := hcut
          by_cases hly : t < ys.length
          · have hly' : (t : Int) < (ys.length : Int) := by omega
            go_upto_region 12 with fail
            go_cut [129] (fun v wx => v = .bool false ∧ QAtL W none none wx)
            case first =>
              have HQ := Lib.hid hat
              go_quiet (fail)
              go_wp2_with fail
              go_meet
              exact ⟨rfl, HQ.out.ext (by (repeat (first | exact Ext.rfl' _ | assumption | refine Ext.dr ?_ | refine Ext.drN ?_ _ | refine Ext.al ?_ _ | refine Ext.st ?_ (by simp) _ | refine Ext.tr ?_ (by assumption))))⟩
            case rest =>
              obtain ⟨rfl, hat⟩ := hcut
              go_wp2
              go_roundw
              case rel => exact ⟨t + 1, by go_num, by omega, hat⟩
              case measure => simp [intOf]; omega
          · have hly' : ¬ (t : Int) < (ys.length : Int) := by omega
            go_upto_region 12 with fail
            go_cut [129] (fun v wx => v = .bool false ∧ QAtL W none none wx)
            case first =>
              have HQ := Lib.hid hat
              go_quiet (fail)
              go_wp2_with fail
              go_meet
              exact ⟨rfl, HQ.out.ext (by (repeat (first | exact Ext.rfl' _ | assumption | refine Ext.dr ?_ | refine Ext.drN ?_ _ | refine Ext.al ?_ _ | refine Ext.st ?_ (by simp) _ | refine Ext.tr ?_ (by assumption))))⟩
            case rest =>
              obtain ⟨rfl, hat⟩ := hcut
              go_wp2
              go_roundw
              case rel => exact ⟨t + 1, by go_num, by omega, hat⟩
              case measure => simp [intOf]; omega
      · have hlx' : ¬ (t : Int) < (xs.length : Int) := by omega
        have hly : t < ys.length := by omega
        have hly' : (t : Int) < (ys.length : Int) := by omega
        go_upto_region 10 with fail
        go_cut [101] (fun v wx => v = .bool false ∧ QAtL W none none wx)
        case first =>
          have HQ := Lib.hid hat
          go_quiet (fail)
          go_wp2_with fail
          go_meet
          exact ⟨rfl, HQ.out.ext (by (repeat (first | exact Ext.rfl' _ | assumption | refine Ext.dr ?_ | refine Ext.drN ?_ _ | refine Ext.al ?_ _ | refine Ext.st ?_ (by simp) _ | refine Ext.tr ?_ (by assumption))))⟩
        case rest =>
          obtain ⟨rfl, hat⟩ := hcut
          go_upto_region 12 with fail
          go_cut [129] (fun v wx => v = .bool false ∧ QAtL W none none wx)
          case first =>
            have HQ := Lib.hid hat
            go_quiet (fail)
            go_wp2_with fail
            go_meet
            exact ⟨rfl, HQ.out.ext (by (repeat (first | exact Ext.rfl' _ | assumption | refine Ext.dr ?_ | refine Ext.drN ?_ _ | refine Ext.al ?_ _ | refine Ext.st ?_ (by simp) _ | refine Ext.tr ?_ (by assumption))))⟩
          case rest =>
            obtain ⟨rfl, hat⟩ := hcut
            go_wp2
            go_roundw
            case rel => exact ⟨t + 1, by go_num, by omega, hat⟩
            case measure => simp [intOf]; omega
    · have hlx' : ¬ (t : Int) < (xs.length : Int) := by omega
      have hly' : ¬ (t : Int) < (ys.length : Int) := by omega
      go_wp2
      go_ret
      exact ⟨rfl, hat.toExt⟩
theorem AsciiQueues_w (W : World) (hE : ErrR W) (a b : Int) (A1 A2 : Option Addr) (c1 c2 : Nat) (xs ys : List OpV) (h1 : RdOps W A1 xs) (h2 : RdOps W A2 ys) (hx : xs.length ≤ 140737488355328) (hy : ys.length ≤ 140737488355328) :
    Calls Tryd.prog 4 #[.int .i64 a, .int .i64 b, .slice A1 xs.length c1, .slice A2 ys.length c2] W (Gives (.bool true) W) := by
  by_cases ha : 1 ≤ a ∧ a ≤ 1048576
  · by_cases hb : 1 ≤ b ∧ b ≤ 1048576
    · exact AsciiQueues_gg W hE a b A1 A2 c1 c2 xs ys h1 h2 hx hy ha hb
    · exact AsciiQueues_gb W hE a b A1 A2 c1 c2 xs ys h1 h2 hx hy ha (by omega)
  · by_cases hb : 1 ≤ b ∧ b ≤ 1048576
    · exact AsciiQueues_bg W hE a b A1 A2 c1 c2 xs ys h1 h2 hx hy (by omega) hb
    · exact AsciiQueues_bb W hE a b A1 A2 c1 c2 xs ys h1 h2 hx hy (by omega) (by omega)
end Go.Proofs.YteklakibcboepabDoor
