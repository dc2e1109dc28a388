/-
Two worlds, by turns, and the document's: WorldPlays as a walk.
-/
import Derived.Test.YtllpffdjlhamkaaRwA
import Derived.Test.YtllpffdjlhamkaaWdB
set_option linter.unusedVariables false
set_option linter.unusedSimpArgs false
namespace Go.Proofs.Ytllpffdjlhamkaa
open Go.RowKit

def inW (a : Int) : Bool := decide (0 ≤ a) && decide (a ≤ 253402300799)
theorem inW_t {a : Int} (h : inW a = true) : 0 ≤ a ∧ a ≤ 253402300799 := by simpa [inW] using h
theorem inW_f {a : Int} (h : inW a = false) : a < 0 ∨ 253402300799 < a := by
  by_cases h1 : 0 ≤ a
  · by_cases h2 : a ≤ 253402300799
    · simp [inW, h1, h2] at h
    · omega
  · omega
/-- A pair of worlds, or none. -/
def Pr (w : World) (o : Ow) (k : Nat) (n : Nat) : Option (Nat × Nat) → Prop
  | none => True
  | some (p, r) => ∃ s, WdAt w o k p s ∧ RwAt w o (k + 3) r s ∧ Wok s ∧ s.ver ≤ n
theorem Pr.stp {w w' : World} {o o' : Ow} {k n : Nat} {pr : Option (Nat × Nat)} {K : Nat → Prop} (h : Pr w o k n pr) (st : Stp K w o w' o') (hk : ∀ i, k ≤ i → i < k + 7 → ¬ K i) : Pr w' o' k n pr := by
  match pr, h with
  | none, _ => trivial
  | some (p, r), ⟨s, h1, h2, h3⟩ => exact ⟨s, h1.stp st (hk _ (by omega) (by omega)) (hk _ (by omega) (by omega)) (hk _ (by omega) (by omega)), h2.stp st (hk _ (by omega) (by omega)) (hk _ (by omega) (by omega)) (hk _ (by omega) (by omega)) (hk _ (by omega) (by omega)), h3⟩
theorem Pr.mono {w : World} {o : Ow} {k n m : Nat} {pr : Option (Nat × Nat)} (h : Pr w o k n pr) (hm : n ≤ m) : Pr w o k m pr := by
  match pr, h with
  | none, _ => trivial
  | some (p, r), ⟨s, h1, h2, h3, h4⟩ => exact ⟨s, h1, h2, h3, Nat.le_trans h4 hm⟩
theorem pr_step (k p r n : Nat) (hk1 : 1 ≤ k) (hk2 : k ≤ 80) (hn : n < 4611686018427387904) (x : OpW) (W w : World) (o : Ow) (hst : Stp (fun i => i ≠ 0) W (fun _ => 0) w o) (h : Pr w o k n (some (p, r))) (hx : OpOk W x) :
    Calls Try.prog 8 #[.pointer (some ⟨p, 0, none⟩), .pointer (some ⟨r, 0, none⟩), .agg #[.int .i64 x.kind, .int .i64 x.n, .string (str x.path), .slice x.B x.mm.length x.d]] w
      (Turns (KS k) w o fun v w' o' => v = .bool true ∧ Pr w' o' k (n + 1) (some (p, r))) := by
  obtain ⟨s, h1, h2, h3, h4⟩ := h
  refine (step13_c k p r hk1 hk2 s x W w o hst h1 h2 h3 (by omega) hx).mono ?_
  rintro e w' ⟨v, o', rfl, ⟨rfl, h5, h6⟩, st⟩
  have := stepW_ok h3 x
  exact Turns.mk o' rfl ⟨rfl, _, h5, h6, this.1, by omega⟩ st
def NewV (k : Nat) (a : Int) : Bool → Value → World → Ow → Prop
  | true, v, w', o' => ∃ p, v = .tuple #[.pointer (some ⟨p, 0, none⟩), .int .i64 0] ∧ WdAt w' o' k p ⟨[], a, 0⟩
  | false, v, _, _ => v = .tuple #[.pointer none, .int .i64 1]
def RNewV (k : Nat) (a : Int) : Bool → Value → World → Ow → Prop
  | true, v, w', o' => ∃ p, v = .pointer (some ⟨p, 0, none⟩) ∧ RwAt w' o' k p ⟨[], a, 0⟩
  | false, v, _, _ => v = .pointer none
theorem wNew_p (k : Nat) (a : Int) (t : Bool) (ht : inW a = t) (w : World) (o : Ow) : Calls Try.prog 4 #[.int .i64 a] w (Turns (fun _ => False) w o (NewV k a t)) := by
  cases t with
  | true =>
    have h := inW_t ht
    refine (wNew_yes k a h.1 h.2 w o).mono ?_
    rintro e w' ⟨v, o', rfl, ⟨p, rfl, h1, _⟩, st⟩
    exact Turns.mk o' rfl ⟨p, rfl, h1⟩ st
  | false =>
    refine (wNew_no a (inW_f ht) w).mono ?_
    rintro e w' ⟨rfl, hx⟩
    exact Turns.mk o rfl rfl (Stp.ext hx)
theorem rwNew_p (k : Nat) (a : Int) (t : Bool) (ht : inW a = t) (w : World) (o : Ow) : Calls Try.prog 5 #[.int .i64 a] w (Turns (fun _ => False) w o (RNewV k a t)) := by
  cases t with
  | true => have h := inW_t ht; exact rwNew_yes k a h.1 h.2 w o
  | false =>
    refine (rwNew_no a (inW_f ht) w).mono ?_
    rintro e w' ⟨rfl, hx⟩
    exact Turns.mk o rfl rfl (Stp.ext hx)
theorem new_ok {a : Int} (h : inW a = true) : Wok ⟨[], a, 0⟩ := by
  have h1 := inW_t h
  exact (newW_ok (s := ⟨[], a, 0⟩) (now := a) (by unfold newW wlast; rw [if_neg (by omega)])).1
/-- Both pairs, between calls. -/
def TwoAt (W : World) (pa pb : Option (Nat × Nat)) (m : Nat) (w : World) : Prop := ∃ o, Pr w o 1 m pa ∧ Pr w o 8 m pb ∧ Stp (fun i => i ≠ 0) W (fun _ => 0) w o
set_option maxRecDepth 100000 in
set_option maxHeartbeats 16000000 in
theorem WorldPlays_c (w : World) (a b : Int) (A1 A2 : Option Addr) (c1 c2 : Nat) (xs ys : List OpW) (hA : RdOpW w A1 xs) (hB : RdOpW w A2 ys) (hxs : xs.length ≤ 140737488351232) (hys : ys.length ≤ 140737488351232) :
    Calls Try.prog 3 #[.int .i64 a, .int .i64 b, .slice A1 xs.length c1, .slice A2 ys.length c2] w (Gives (.bool true) w) := by
  have HA := Lib.hid hA
  have HB := Lib.hid hB
  obtain ⟨N1, hN1⟩ : ∃ N, N = xs.length := ⟨_, rfl⟩
  obtain ⟨N2, hN2⟩ : ∃ N, N = ys.length := ⟨_, rfl⟩
  rw [← hN1, ← hN2]
  have HN1 := Lib.hid hN1
  have HN2 := Lib.hid hN2
  rw [← hN1] at hxs
  rw [← hN2] at hys
  clear hA hB hN1 hN2
  cases ha : inW a
  · cases hb : inW b
    · have CA := Lib.hid (wNew_p 1 a _ ha w (fun _ => 0))
      go_enter Try.func3, Try.ntmps3
      go_wp2_with (first
        | (go_at_call 4; refine CA.out.mono ?_; rintro e w1 ⟨v, o1, rfl, hv, st1⟩; ((first | (obtain ⟨p1, rfl, hp1⟩ := hv) | (obtain rfl := hv))); clear CA; have CB := Lib.hid (wNew_p 8 b _ hb w1 o1))
        | (go_at_call 4; refine CB.out.mono ?_; rintro e w2 ⟨v, o2, rfl, hv, st2⟩; ((first | (obtain ⟨p2, rfl, hp2⟩ := hv) | (obtain rfl := hv))); clear CB; have CC := Lib.hid (rwNew_p 4 a _ ha w2 o2))
        | (go_at_call 5; refine CC.out.mono ?_; rintro e w3 ⟨v, o3, rfl, hv, st3⟩; ((first | (obtain ⟨r1, rfl, hr1⟩ := hv) | (obtain rfl := hv))); clear CC; have CD := Lib.hid (rwNew_p 11 b _ hb w3 o3))
        | (go_at_call 5; refine CD.out.mono ?_; rintro e w4 ⟨v, o4, rfl, hv, st4⟩; ((first | (obtain ⟨r2, rfl, hr2⟩ := hv) | (obtain rfl := hv))); clear CD)
        | (go_at_call 6; refine (num13_c _ _).mono ?_; rintro e w8 ⟨rfl, rfl⟩)
        | (go_at_call 7; refine (knows13_c _).mono ?_; rintro e w5 ⟨rfl, hx5⟩))
      have s5 : Stp (fun _ => False) w4 o4 w5 o4 := Stp.ext hx5
      have T0 : TwoAt w (none) (none) 0 w5 := ⟨o4, by first | trivial | exact ⟨_, hp1.stp (((st2.tr st3).tr st4).tr s5) (fun x => x) (fun x => x) (fun x => x), hr1.stp (st4.tr s5) (fun x => x) (fun x => x) (fun x => x) (fun x => x), new_ok ha, Nat.le_refl _⟩, by first | trivial | exact ⟨_, hp2.stp ((st3.tr st4).tr s5) (fun x => x) (fun x => x) (fun x => x), hr2.stp s5 (fun x => x) (fun x => x) (fun x => x) (fun x => x), new_ok hb, Nat.le_refl _⟩, (((((st1.tr st2).tr st3).tr st4).tr s5)).mono fun _ h => h.elim⟩
      have HT0 := Lib.hid T0
      clear T0 s5 hx5 st1 st2 st3 st4
      try clear hp1
      try clear hp2
      try clear hr1
      try clear hr2
      go_loopw [15] (fun v15 wr => ∃ (m : Nat), m ≤ max N1 N2 ∧ v15 = .int .i64 (m : Int) ∧ TwoAt w (none) (none) m wr) (fun i _ => max N1 N2 - (intOf i).toNat)
      case atStart => exact ⟨0, Nat.zero_le _, rfl, HT0.out⟩
      case round =>
        obtain ⟨m, hm, rfl, ⟨o, hpa, hpb, hst⟩⟩ := hrel
        have hx : Ext w wr := hst.toExt (fun _ _ => by simp)
        have HPA := Lib.hid hpa
        have HPB := Lib.hid hpb
        have HST := Lib.hid hst
        clear hpa hpb hst
        have hk0 : (0 : Int) ≤ (m : Int) := by omega
        by_cases h1 : m < N1
        · have i1 : (m : Int) < (N1 : Int) := by omega
          obtain ⟨b1, f1, he1, hbl1, g01, g11, g21, g31⟩ := HA.out.row (k := m) (by rw [← HN1.out]; exact h1)
          subst he1
          have hok1 := Lib.hid (HA.out.each _ (List.getElem_mem (show m < List.length xs by rw [← HN1.out]; exact h1)))
          obtain ⟨x1, hxe1⟩ : ∃ q, q = xs[m]'(by rw [← HN1.out]; exact h1) := ⟨_, rfl⟩
          rw [← hxe1] at g01 g11 g21 g31 hok1
          have U1 := Lib.hid (fun w' (e : Ext w w') => And.intro ((e.cell (p := ⟨b1, f1 + m * 4, none⟩) hbl1).trans g01) (And.intro ((e.cell (p := ⟨b1, f1 + m * 4 + 1, none⟩) hbl1).trans g11) (And.intro ((e.cell (p := ⟨b1, f1 + m * 4 + 2, none⟩) hbl1).trans g21) ((e.cell (p := ⟨b1, f1 + m * 4 + 3, none⟩) hbl1).trans g31))))
          clear hxe1 g01 g11 g21 g31
          obtain ⟨g01, g11, g21, g31⟩ := U1.out wr hx
          by_cases h2 : m < N2
          · have i2 : (m : Int) < (N2 : Int) := by omega
            obtain ⟨b2, f2, he2, hbl2, g02, g12, g22, g32⟩ := HB.out.row (k := m) (by rw [← HN2.out]; exact h2)
            subst he2
            have hok2 := Lib.hid (HB.out.each _ (List.getElem_mem (show m < List.length ys by rw [← HN2.out]; exact h2)))
            obtain ⟨x2, hxe2⟩ : ∃ q, q = ys[m]'(by rw [← HN2.out]; exact h2) := ⟨_, rfl⟩
            rw [← hxe2] at g02 g12 g22 g32 hok2
            have U2 := Lib.hid (fun w' (e : Ext w w') => And.intro ((e.cell (p := ⟨b2, f2 + m * 4, none⟩) hbl2).trans g02) (And.intro ((e.cell (p := ⟨b2, f2 + m * 4 + 1, none⟩) hbl2).trans g12) (And.intro ((e.cell (p := ⟨b2, f2 + m * 4 + 2, none⟩) hbl2).trans g22) ((e.cell (p := ⟨b2, f2 + m * 4 + 3, none⟩) hbl2).trans g32))))
            clear hxe2 g02 g12 g22 g32
            obtain ⟨g02, g12, g22, g32⟩ := U2.out wr hx
            have CU := Lib.hid (And.intro HPB.out HST.out)
            try have C1 := Lib.hid (pr_step 1 p1 r1 m (by omega) (by omega) (by omega) x1 w wr o HST.out HPA.out hok1.out)
            go_wp2_with (first
              | (go_at_call 8; refine C1.out.mono ?_; rintro e w6 ⟨v, o6, rfl, ⟨rfl, hp6⟩, st6⟩; clear C1; have HPA := Lib.hid hp6; have HPB := Lib.hid (HPB.out.stp st6 (fun i h1 h2 => by unfold KS; omega)); have CU := Lib.hid (And.intro HPB.out (CU.out.2.tr (st6.mono (L := fun i => i ≠ 0) fun i hi => by unfold KS at hi; omega))); have x6 : Ext w w6 := CU.out.2.toExt (fun _ _ => by simp); try (obtain ⟨z0, z1, z2, z3⟩ := U2.out w6 x6))
              | (go_at_call 8; refine (pr_step 8 p2 r2 m (by omega) (by omega) (by omega) x2 w _ _ CU.out.2 CU.out.1 hok2.out).mono ?_; rintro e w7 ⟨v, o7, rfl, ⟨rfl, hp7⟩, st7⟩; have HPA := Lib.hid (HPA.out.stp st7 (fun i h1 h2 => by unfold KS; omega)); have HPB := Lib.hid hp7; have CU := Lib.hid (And.intro hp7 (CU.out.2.tr (st7.mono (L := fun i => i ≠ 0) fun i hi => by unfold KS at hi; omega)))))
            go_roundw
            case rel => exact ⟨m + 1, by omega, by go_num, _, by first | exact HPA.out | exact HPA.out.mono (by omega), by first | exact HPB.out | exact HPB.out.mono (by omega), CU.out.2⟩
            case measure => simp [intOf]; omega
          · have i2 : ¬ (m : Int) < (N2 : Int) := by omega
            have CU := Lib.hid (And.intro HPB.out HST.out)
            try have C1 := Lib.hid (pr_step 1 p1 r1 m (by omega) (by omega) (by omega) x1 w wr o HST.out HPA.out hok1.out)
            go_wp2_with (first
              | (go_at_call 8; refine C1.out.mono ?_; rintro e w6 ⟨v, o6, rfl, ⟨rfl, hp6⟩, st6⟩; clear C1; have HPA := Lib.hid hp6; have HPB := Lib.hid (HPB.out.stp st6 (fun i h1 h2 => by unfold KS; omega)); have CU := Lib.hid (And.intro HPB.out (CU.out.2.tr (st6.mono (L := fun i => i ≠ 0) fun i hi => by unfold KS at hi; omega))); have x6 : Ext w w6 := CU.out.2.toExt (fun _ _ => by simp); try (obtain ⟨z0, z1, z2, z3⟩ := U2.out w6 x6))
              | (go_at_call 8; refine (pr_step 8 p2 r2 m (by omega) (by omega) (by omega) x2 w _ _ CU.out.2 CU.out.1 hok2.out).mono ?_; rintro e w7 ⟨v, o7, rfl, ⟨rfl, hp7⟩, st7⟩; have HPA := Lib.hid (HPA.out.stp st7 (fun i h1 h2 => by unfold KS; omega)); have HPB := Lib.hid hp7; have CU := Lib.hid (And.intro hp7 (CU.out.2.tr (st7.mono (L := fun i => i ≠ 0) fun i hi => by unfold KS at hi; omega)))))
            go_roundw
            case rel => exact ⟨m + 1, by omega, by go_num, _, by first | exact HPA.out | exact HPA.out.mono (by omega), by first | exact HPB.out | exact HPB.out.mono (by omega), CU.out.2⟩
            case measure => simp [intOf]; omega
        · have i1 : ¬ (m : Int) < (N1 : Int) := by omega
          by_cases h2 : m < N2
          · have i2 : (m : Int) < (N2 : Int) := by omega
            obtain ⟨b2, f2, he2, hbl2, g02, g12, g22, g32⟩ := HB.out.row (k := m) (by rw [← HN2.out]; exact h2)
            subst he2
            have hok2 := Lib.hid (HB.out.each _ (List.getElem_mem (show m < List.length ys by rw [← HN2.out]; exact h2)))
            obtain ⟨x2, hxe2⟩ : ∃ q, q = ys[m]'(by rw [← HN2.out]; exact h2) := ⟨_, rfl⟩
            rw [← hxe2] at g02 g12 g22 g32 hok2
            have U2 := Lib.hid (fun w' (e : Ext w w') => And.intro ((e.cell (p := ⟨b2, f2 + m * 4, none⟩) hbl2).trans g02) (And.intro ((e.cell (p := ⟨b2, f2 + m * 4 + 1, none⟩) hbl2).trans g12) (And.intro ((e.cell (p := ⟨b2, f2 + m * 4 + 2, none⟩) hbl2).trans g22) ((e.cell (p := ⟨b2, f2 + m * 4 + 3, none⟩) hbl2).trans g32))))
            clear hxe2 g02 g12 g22 g32
            obtain ⟨g02, g12, g22, g32⟩ := U2.out wr hx
            have CU := Lib.hid (And.intro HPB.out HST.out)
            try have C1 := Lib.hid (pr_step 1 p1 r1 m (by omega) (by omega) (by omega) x1 w wr o HST.out HPA.out hok1.out)
            go_wp2_with (first
              | (go_at_call 8; refine C1.out.mono ?_; rintro e w6 ⟨v, o6, rfl, ⟨rfl, hp6⟩, st6⟩; clear C1; have HPA := Lib.hid hp6; have HPB := Lib.hid (HPB.out.stp st6 (fun i h1 h2 => by unfold KS; omega)); have CU := Lib.hid (And.intro HPB.out (CU.out.2.tr (st6.mono (L := fun i => i ≠ 0) fun i hi => by unfold KS at hi; omega))); have x6 : Ext w w6 := CU.out.2.toExt (fun _ _ => by simp); try (obtain ⟨z0, z1, z2, z3⟩ := U2.out w6 x6))
              | (go_at_call 8; refine (pr_step 8 p2 r2 m (by omega) (by omega) (by omega) x2 w _ _ CU.out.2 CU.out.1 hok2.out).mono ?_; rintro e w7 ⟨v, o7, rfl, ⟨rfl, hp7⟩, st7⟩; have HPA := Lib.hid (HPA.out.stp st7 (fun i h1 h2 => by unfold KS; omega)); have HPB := Lib.hid hp7; have CU := Lib.hid (And.intro hp7 (CU.out.2.tr (st7.mono (L := fun i => i ≠ 0) fun i hi => by unfold KS at hi; omega)))))
            go_roundw
            case rel => exact ⟨m + 1, by omega, by go_num, _, by first | exact HPA.out | exact HPA.out.mono (by omega), by first | exact HPB.out | exact HPB.out.mono (by omega), CU.out.2⟩
            case measure => simp [intOf]; omega
          · have i2 : ¬ (m : Int) < (N2 : Int) := by omega
            go_wp2
            go_ret
            exact ⟨rfl, hx⟩
    · have CA := Lib.hid (wNew_p 1 a _ ha w (fun _ => 0))
      go_enter Try.func3, Try.ntmps3
      go_wp2_with (first
        | (go_at_call 4; refine CA.out.mono ?_; rintro e w1 ⟨v, o1, rfl, hv, st1⟩; ((first | (obtain ⟨p1, rfl, hp1⟩ := hv) | (obtain rfl := hv))); clear CA; have CB := Lib.hid (wNew_p 8 b _ hb w1 o1))
        | (go_at_call 4; refine CB.out.mono ?_; rintro e w2 ⟨v, o2, rfl, hv, st2⟩; ((first | (obtain ⟨p2, rfl, hp2⟩ := hv) | (obtain rfl := hv))); clear CB; have CC := Lib.hid (rwNew_p 4 a _ ha w2 o2))
        | (go_at_call 5; refine CC.out.mono ?_; rintro e w3 ⟨v, o3, rfl, hv, st3⟩; ((first | (obtain ⟨r1, rfl, hr1⟩ := hv) | (obtain rfl := hv))); clear CC; have CD := Lib.hid (rwNew_p 11 b _ hb w3 o3))
        | (go_at_call 5; refine CD.out.mono ?_; rintro e w4 ⟨v, o4, rfl, hv, st4⟩; ((first | (obtain ⟨r2, rfl, hr2⟩ := hv) | (obtain rfl := hv))); clear CD)
        | (go_at_call 6; refine (num13_c _ _).mono ?_; rintro e w8 ⟨rfl, rfl⟩)
        | (go_at_call 7; refine (knows13_c _).mono ?_; rintro e w5 ⟨rfl, hx5⟩))
      have s5 : Stp (fun _ => False) w4 o4 w5 o4 := Stp.ext hx5
      have T0 : TwoAt w (none) (some (p2, r2)) 0 w5 := ⟨o4, by first | trivial | exact ⟨_, hp1.stp (((st2.tr st3).tr st4).tr s5) (fun x => x) (fun x => x) (fun x => x), hr1.stp (st4.tr s5) (fun x => x) (fun x => x) (fun x => x) (fun x => x), new_ok ha, Nat.le_refl _⟩, by first | trivial | exact ⟨_, hp2.stp ((st3.tr st4).tr s5) (fun x => x) (fun x => x) (fun x => x), hr2.stp s5 (fun x => x) (fun x => x) (fun x => x) (fun x => x), new_ok hb, Nat.le_refl _⟩, (((((st1.tr st2).tr st3).tr st4).tr s5)).mono fun _ h => h.elim⟩
      have HT0 := Lib.hid T0
      clear T0 s5 hx5 st1 st2 st3 st4
      try clear hp1
      try clear hp2
      try clear hr1
      try clear hr2
      go_loopw [15] (fun v15 wr => ∃ (m : Nat), m ≤ max N1 N2 ∧ v15 = .int .i64 (m : Int) ∧ TwoAt w (none) (some (p2, r2)) m wr) (fun i _ => max N1 N2 - (intOf i).toNat)
      case atStart => exact ⟨0, Nat.zero_le _, rfl, HT0.out⟩
      case round =>
        obtain ⟨m, hm, rfl, ⟨o, hpa, hpb, hst⟩⟩ := hrel
        have hx : Ext w wr := hst.toExt (fun _ _ => by simp)
        have HPA := Lib.hid hpa
        have HPB := Lib.hid hpb
        have HST := Lib.hid hst
        clear hpa hpb hst
        have hk0 : (0 : Int) ≤ (m : Int) := by omega
        by_cases h1 : m < N1
        · have i1 : (m : Int) < (N1 : Int) := by omega
          obtain ⟨b1, f1, he1, hbl1, g01, g11, g21, g31⟩ := HA.out.row (k := m) (by rw [← HN1.out]; exact h1)
          subst he1
          have hok1 := Lib.hid (HA.out.each _ (List.getElem_mem (show m < List.length xs by rw [← HN1.out]; exact h1)))
          obtain ⟨x1, hxe1⟩ : ∃ q, q = xs[m]'(by rw [← HN1.out]; exact h1) := ⟨_, rfl⟩
          rw [← hxe1] at g01 g11 g21 g31 hok1
          have U1 := Lib.hid (fun w' (e : Ext w w') => And.intro ((e.cell (p := ⟨b1, f1 + m * 4, none⟩) hbl1).trans g01) (And.intro ((e.cell (p := ⟨b1, f1 + m * 4 + 1, none⟩) hbl1).trans g11) (And.intro ((e.cell (p := ⟨b1, f1 + m * 4 + 2, none⟩) hbl1).trans g21) ((e.cell (p := ⟨b1, f1 + m * 4 + 3, none⟩) hbl1).trans g31))))
          clear hxe1 g01 g11 g21 g31
          obtain ⟨g01, g11, g21, g31⟩ := U1.out wr hx
          by_cases h2 : m < N2
          · have i2 : (m : Int) < (N2 : Int) := by omega
            obtain ⟨b2, f2, he2, hbl2, g02, g12, g22, g32⟩ := HB.out.row (k := m) (by rw [← HN2.out]; exact h2)
            subst he2
            have hok2 := Lib.hid (HB.out.each _ (List.getElem_mem (show m < List.length ys by rw [← HN2.out]; exact h2)))
            obtain ⟨x2, hxe2⟩ : ∃ q, q = ys[m]'(by rw [← HN2.out]; exact h2) := ⟨_, rfl⟩
            rw [← hxe2] at g02 g12 g22 g32 hok2
            have U2 := Lib.hid (fun w' (e : Ext w w') => And.intro ((e.cell (p := ⟨b2, f2 + m * 4, none⟩) hbl2).trans g02) (And.intro ((e.cell (p := ⟨b2, f2 + m * 4 + 1, none⟩) hbl2).trans g12) (And.intro ((e.cell (p := ⟨b2, f2 + m * 4 + 2, none⟩) hbl2).trans g22) ((e.cell (p := ⟨b2, f2 + m * 4 + 3, none⟩) hbl2).trans g32))))
            clear hxe2 g02 g12 g22 g32
            obtain ⟨g02, g12, g22, g32⟩ := U2.out wr hx
            have CU := Lib.hid (And.intro HPB.out HST.out)
            try have C1 := Lib.hid (pr_step 1 p1 r1 m (by omega) (by omega) (by omega) x1 w wr o HST.out HPA.out hok1.out)
            go_wp2_with (first
              | (go_at_call 8; refine C1.out.mono ?_; rintro e w6 ⟨v, o6, rfl, ⟨rfl, hp6⟩, st6⟩; clear C1; have HPA := Lib.hid hp6; have HPB := Lib.hid (HPB.out.stp st6 (fun i h1 h2 => by unfold KS; omega)); have CU := Lib.hid (And.intro HPB.out (CU.out.2.tr (st6.mono (L := fun i => i ≠ 0) fun i hi => by unfold KS at hi; omega))); have x6 : Ext w w6 := CU.out.2.toExt (fun _ _ => by simp); try (obtain ⟨z0, z1, z2, z3⟩ := U2.out w6 x6))
              | (go_at_call 8; refine (pr_step 8 p2 r2 m (by omega) (by omega) (by omega) x2 w _ _ CU.out.2 CU.out.1 hok2.out).mono ?_; rintro e w7 ⟨v, o7, rfl, ⟨rfl, hp7⟩, st7⟩; have HPA := Lib.hid (HPA.out.stp st7 (fun i h1 h2 => by unfold KS; omega)); have HPB := Lib.hid hp7; have CU := Lib.hid (And.intro hp7 (CU.out.2.tr (st7.mono (L := fun i => i ≠ 0) fun i hi => by unfold KS at hi; omega)))))
            go_roundw
            case rel => exact ⟨m + 1, by omega, by go_num, _, by first | exact HPA.out | exact HPA.out.mono (by omega), by first | exact HPB.out | exact HPB.out.mono (by omega), CU.out.2⟩
            case measure => simp [intOf]; omega
          · have i2 : ¬ (m : Int) < (N2 : Int) := by omega
            have CU := Lib.hid (And.intro HPB.out HST.out)
            try have C1 := Lib.hid (pr_step 1 p1 r1 m (by omega) (by omega) (by omega) x1 w wr o HST.out HPA.out hok1.out)
            go_wp2_with (first
              | (go_at_call 8; refine C1.out.mono ?_; rintro e w6 ⟨v, o6, rfl, ⟨rfl, hp6⟩, st6⟩; clear C1; have HPA := Lib.hid hp6; have HPB := Lib.hid (HPB.out.stp st6 (fun i h1 h2 => by unfold KS; omega)); have CU := Lib.hid (And.intro HPB.out (CU.out.2.tr (st6.mono (L := fun i => i ≠ 0) fun i hi => by unfold KS at hi; omega))); have x6 : Ext w w6 := CU.out.2.toExt (fun _ _ => by simp); try (obtain ⟨z0, z1, z2, z3⟩ := U2.out w6 x6))
              | (go_at_call 8; refine (pr_step 8 p2 r2 m (by omega) (by omega) (by omega) x2 w _ _ CU.out.2 CU.out.1 hok2.out).mono ?_; rintro e w7 ⟨v, o7, rfl, ⟨rfl, hp7⟩, st7⟩; have HPA := Lib.hid (HPA.out.stp st7 (fun i h1 h2 => by unfold KS; omega)); have HPB := Lib.hid hp7; have CU := Lib.hid (And.intro hp7 (CU.out.2.tr (st7.mono (L := fun i => i ≠ 0) fun i hi => by unfold KS at hi; omega)))))
            go_roundw
            case rel => exact ⟨m + 1, by omega, by go_num, _, by first | exact HPA.out | exact HPA.out.mono (by omega), by first | exact HPB.out | exact HPB.out.mono (by omega), CU.out.2⟩
            case measure => simp [intOf]; omega
        · have i1 : ¬ (m : Int) < (N1 : Int) := by omega
          by_cases h2 : m < N2
          · have i2 : (m : Int) < (N2 : Int) := by omega
            obtain ⟨b2, f2, he2, hbl2, g02, g12, g22, g32⟩ := HB.out.row (k := m) (by rw [← HN2.out]; exact h2)
            subst he2
            have hok2 := Lib.hid (HB.out.each _ (List.getElem_mem (show m < List.length ys by rw [← HN2.out]; exact h2)))
            obtain ⟨x2, hxe2⟩ : ∃ q, q = ys[m]'(by rw [← HN2.out]; exact h2) := ⟨_, rfl⟩
            rw [← hxe2] at g02 g12 g22 g32 hok2
            have U2 := Lib.hid (fun w' (e : Ext w w') => And.intro ((e.cell (p := ⟨b2, f2 + m * 4, none⟩) hbl2).trans g02) (And.intro ((e.cell (p := ⟨b2, f2 + m * 4 + 1, none⟩) hbl2).trans g12) (And.intro ((e.cell (p := ⟨b2, f2 + m * 4 + 2, none⟩) hbl2).trans g22) ((e.cell (p := ⟨b2, f2 + m * 4 + 3, none⟩) hbl2).trans g32))))
            clear hxe2 g02 g12 g22 g32
            obtain ⟨g02, g12, g22, g32⟩ := U2.out wr hx
            have CU := Lib.hid (And.intro HPB.out HST.out)
            try have C1 := Lib.hid (pr_step 1 p1 r1 m (by omega) (by omega) (by omega) x1 w wr o HST.out HPA.out hok1.out)
            go_wp2_with (first
              | (go_at_call 8; refine C1.out.mono ?_; rintro e w6 ⟨v, o6, rfl, ⟨rfl, hp6⟩, st6⟩; clear C1; have HPA := Lib.hid hp6; have HPB := Lib.hid (HPB.out.stp st6 (fun i h1 h2 => by unfold KS; omega)); have CU := Lib.hid (And.intro HPB.out (CU.out.2.tr (st6.mono (L := fun i => i ≠ 0) fun i hi => by unfold KS at hi; omega))); have x6 : Ext w w6 := CU.out.2.toExt (fun _ _ => by simp); try (obtain ⟨z0, z1, z2, z3⟩ := U2.out w6 x6))
              | (go_at_call 8; refine (pr_step 8 p2 r2 m (by omega) (by omega) (by omega) x2 w _ _ CU.out.2 CU.out.1 hok2.out).mono ?_; rintro e w7 ⟨v, o7, rfl, ⟨rfl, hp7⟩, st7⟩; have HPA := Lib.hid (HPA.out.stp st7 (fun i h1 h2 => by unfold KS; omega)); have HPB := Lib.hid hp7; have CU := Lib.hid (And.intro hp7 (CU.out.2.tr (st7.mono (L := fun i => i ≠ 0) fun i hi => by unfold KS at hi; omega)))))
            go_roundw
            case rel => exact ⟨m + 1, by omega, by go_num, _, by first | exact HPA.out | exact HPA.out.mono (by omega), by first | exact HPB.out | exact HPB.out.mono (by omega), CU.out.2⟩
            case measure => simp [intOf]; omega
          · have i2 : ¬ (m : Int) < (N2 : Int) := by omega
            go_wp2
            go_ret
            exact ⟨rfl, hx⟩
  · cases hb : inW b
    · have CA := Lib.hid (wNew_p 1 a _ ha w (fun _ => 0))
      go_enter Try.func3, Try.ntmps3
      go_wp2_with (first
        | (go_at_call 4; refine CA.out.mono ?_; rintro e w1 ⟨v, o1, rfl, hv, st1⟩; ((first | (obtain ⟨p1, rfl, hp1⟩ := hv) | (obtain rfl := hv))); clear CA; have CB := Lib.hid (wNew_p 8 b _ hb w1 o1))
        | (go_at_call 4; refine CB.out.mono ?_; rintro e w2 ⟨v, o2, rfl, hv, st2⟩; ((first | (obtain ⟨p2, rfl, hp2⟩ := hv) | (obtain rfl := hv))); clear CB; have CC := Lib.hid (rwNew_p 4 a _ ha w2 o2))
        | (go_at_call 5; refine CC.out.mono ?_; rintro e w3 ⟨v, o3, rfl, hv, st3⟩; ((first | (obtain ⟨r1, rfl, hr1⟩ := hv) | (obtain rfl := hv))); clear CC; have CD := Lib.hid (rwNew_p 11 b _ hb w3 o3))
        | (go_at_call 5; refine CD.out.mono ?_; rintro e w4 ⟨v, o4, rfl, hv, st4⟩; ((first | (obtain ⟨r2, rfl, hr2⟩ := hv) | (obtain rfl := hv))); clear CD)
        | (go_at_call 6; refine (num13_c _ _).mono ?_; rintro e w8 ⟨rfl, rfl⟩)
        | (go_at_call 7; refine (knows13_c _).mono ?_; rintro e w5 ⟨rfl, hx5⟩))
      have s5 : Stp (fun _ => False) w4 o4 w5 o4 := Stp.ext hx5
      have T0 : TwoAt w (some (p1, r1)) (none) 0 w5 := ⟨o4, by first | trivial | exact ⟨_, hp1.stp (((st2.tr st3).tr st4).tr s5) (fun x => x) (fun x => x) (fun x => x), hr1.stp (st4.tr s5) (fun x => x) (fun x => x) (fun x => x) (fun x => x), new_ok ha, Nat.le_refl _⟩, by first | trivial | exact ⟨_, hp2.stp ((st3.tr st4).tr s5) (fun x => x) (fun x => x) (fun x => x), hr2.stp s5 (fun x => x) (fun x => x) (fun x => x) (fun x => x), new_ok hb, Nat.le_refl _⟩, (((((st1.tr st2).tr st3).tr st4).tr s5)).mono fun _ h => h.elim⟩
      have HT0 := Lib.hid T0
      clear T0 s5 hx5 st1 st2 st3 st4
      try clear hp1
      try clear hp2
      try clear hr1
      try clear hr2
      go_loopw [15] (fun v15 wr => ∃ (m : Nat), m ≤ max N1 N2 ∧ v15 = .int .i64 (m : Int) ∧ TwoAt w (some (p1, r1)) (none) m wr) (fun i _ => max N1 N2 - (intOf i).toNat)
      case atStart => exact ⟨0, Nat.zero_le _, rfl, HT0.out⟩
      case round =>
        obtain ⟨m, hm, rfl, ⟨o, hpa, hpb, hst⟩⟩ := hrel
        have hx : Ext w wr := hst.toExt (fun _ _ => by simp)
        have HPA := Lib.hid hpa
        have HPB := Lib.hid hpb
        have HST := Lib.hid hst
        clear hpa hpb hst
        have hk0 : (0 : Int) ≤ (m : Int) := by omega
        by_cases h1 : m < N1
        · have i1 : (m : Int) < (N1 : Int) := by omega
          obtain ⟨b1, f1, he1, hbl1, g01, g11, g21, g31⟩ := HA.out.row (k := m) (by rw [← HN1.out]; exact h1)
          subst he1
          have hok1 := Lib.hid (HA.out.each _ (List.getElem_mem (show m < List.length xs by rw [← HN1.out]; exact h1)))
          obtain ⟨x1, hxe1⟩ : ∃ q, q = xs[m]'(by rw [← HN1.out]; exact h1) := ⟨_, rfl⟩
          rw [← hxe1] at g01 g11 g21 g31 hok1
          have U1 := Lib.hid (fun w' (e : Ext w w') => And.intro ((e.cell (p := ⟨b1, f1 + m * 4, none⟩) hbl1).trans g01) (And.intro ((e.cell (p := ⟨b1, f1 + m * 4 + 1, none⟩) hbl1).trans g11) (And.intro ((e.cell (p := ⟨b1, f1 + m * 4 + 2, none⟩) hbl1).trans g21) ((e.cell (p := ⟨b1, f1 + m * 4 + 3, none⟩) hbl1).trans g31))))
          clear hxe1 g01 g11 g21 g31
          obtain ⟨g01, g11, g21, g31⟩ := U1.out wr hx
          by_cases h2 : m < N2
          · have i2 : (m : Int) < (N2 : Int) := by omega
            obtain ⟨b2, f2, he2, hbl2, g02, g12, g22, g32⟩ := HB.out.row (k := m) (by rw [← HN2.out]; exact h2)
            subst he2
            have hok2 := Lib.hid (HB.out.each _ (List.getElem_mem (show m < List.length ys by rw [← HN2.out]; exact h2)))
            obtain ⟨x2, hxe2⟩ : ∃ q, q = ys[m]'(by rw [← HN2.out]; exact h2) := ⟨_, rfl⟩
            rw [← hxe2] at g02 g12 g22 g32 hok2
            have U2 := Lib.hid (fun w' (e : Ext w w') => And.intro ((e.cell (p := ⟨b2, f2 + m * 4, none⟩) hbl2).trans g02) (And.intro ((e.cell (p := ⟨b2, f2 + m * 4 + 1, none⟩) hbl2).trans g12) (And.intro ((e.cell (p := ⟨b2, f2 + m * 4 + 2, none⟩) hbl2).trans g22) ((e.cell (p := ⟨b2, f2 + m * 4 + 3, none⟩) hbl2).trans g32))))
            clear hxe2 g02 g12 g22 g32
            obtain ⟨g02, g12, g22, g32⟩ := U2.out wr hx
            have CU := Lib.hid (And.intro HPB.out HST.out)
            try have C1 := Lib.hid (pr_step 1 p1 r1 m (by omega) (by omega) (by omega) x1 w wr o HST.out HPA.out hok1.out)
            go_wp2_with (first
              | (go_at_call 8; refine C1.out.mono ?_; rintro e w6 ⟨v, o6, rfl, ⟨rfl, hp6⟩, st6⟩; clear C1; have HPA := Lib.hid hp6; have HPB := Lib.hid (HPB.out.stp st6 (fun i h1 h2 => by unfold KS; omega)); have CU := Lib.hid (And.intro HPB.out (CU.out.2.tr (st6.mono (L := fun i => i ≠ 0) fun i hi => by unfold KS at hi; omega))); have x6 : Ext w w6 := CU.out.2.toExt (fun _ _ => by simp); try (obtain ⟨z0, z1, z2, z3⟩ := U2.out w6 x6))
              | (go_at_call 8; refine (pr_step 8 p2 r2 m (by omega) (by omega) (by omega) x2 w _ _ CU.out.2 CU.out.1 hok2.out).mono ?_; rintro e w7 ⟨v, o7, rfl, ⟨rfl, hp7⟩, st7⟩; have HPA := Lib.hid (HPA.out.stp st7 (fun i h1 h2 => by unfold KS; omega)); have HPB := Lib.hid hp7; have CU := Lib.hid (And.intro hp7 (CU.out.2.tr (st7.mono (L := fun i => i ≠ 0) fun i hi => by unfold KS at hi; omega)))))
            go_roundw
            case rel => exact ⟨m + 1, by omega, by go_num, _, by first | exact HPA.out | exact HPA.out.mono (by omega), by first | exact HPB.out | exact HPB.out.mono (by omega), CU.out.2⟩
            case measure => simp [intOf]; omega
          · have i2 : ¬ (m : Int) < (N2 : Int) := by omega
            have CU := Lib.hid (And.intro HPB.out HST.out)
            try have C1 := Lib.hid (pr_step 1 p1 r1 m (by omega) (by omega) (by omega) x1 w wr o HST.out HPA.out hok1.out)
            go_wp2_with (first
              | (go_at_call 8; refine C1.out.mono ?_; rintro e w6 ⟨v, o6, rfl, ⟨rfl, hp6⟩, st6⟩; clear C1; have HPA := Lib.hid hp6; have HPB := Lib.hid (HPB.out.stp st6 (fun i h1 h2 => by unfold KS; omega)); have CU := Lib.hid (And.intro HPB.out (CU.out.2.tr (st6.mono (L := fun i => i ≠ 0) fun i hi => by unfold KS at hi; omega))); have x6 : Ext w w6 := CU.out.2.toExt (fun _ _ => by simp); try (obtain ⟨z0, z1, z2, z3⟩ := U2.out w6 x6))
              | (go_at_call 8; refine (pr_step 8 p2 r2 m (by omega) (by omega) (by omega) x2 w _ _ CU.out.2 CU.out.1 hok2.out).mono ?_; rintro e w7 ⟨v, o7, rfl, ⟨rfl, hp7⟩, st7⟩; have HPA := Lib.hid (HPA.out.stp st7 (fun i h1 h2 => by unfold KS; omega)); have HPB := Lib.hid hp7; have CU := Lib.hid (And.intro hp7 (CU.out.2.tr (st7.mono (L := fun i => i ≠ 0) fun i hi => by unfold KS at hi; omega)))))
            go_roundw
            case rel => exact ⟨m + 1, by omega, by go_num, _, by first | exact HPA.out | exact HPA.out.mono (by omega), by first | exact HPB.out | exact HPB.out.mono (by omega), CU.out.2⟩
            case measure => simp [intOf]; omega
        · have i1 : ¬ (m : Int) < (N1 : Int) := by omega
          by_cases h2 : m < N2
          · have i2 : (m : Int) < (N2 : Int) := by omega
            obtain ⟨b2, f2, he2, hbl2, g02, g12, g22, g32⟩ := HB.out.row (k := m) (by rw [← HN2.out]; exact h2)
            subst he2
            have hok2 := Lib.hid (HB.out.each _ (List.getElem_mem (show m < List.length ys by rw [← HN2.out]; exact h2)))
            obtain ⟨x2, hxe2⟩ : ∃ q, q = ys[m]'(by rw [← HN2.out]; exact h2) := ⟨_, rfl⟩
            rw [← hxe2] at g02 g12 g22 g32 hok2
            have U2 := Lib.hid (fun w' (e : Ext w w') => And.intro ((e.cell (p := ⟨b2, f2 + m * 4, none⟩) hbl2).trans g02) (And.intro ((e.cell (p := ⟨b2, f2 + m * 4 + 1, none⟩) hbl2).trans g12) (And.intro ((e.cell (p := ⟨b2, f2 + m * 4 + 2, none⟩) hbl2).trans g22) ((e.cell (p := ⟨b2, f2 + m * 4 + 3, none⟩) hbl2).trans g32))))
            clear hxe2 g02 g12 g22 g32
            obtain ⟨g02, g12, g22, g32⟩ := U2.out wr hx
            have CU := Lib.hid (And.intro HPB.out HST.out)
            try have C1 := Lib.hid (pr_step 1 p1 r1 m (by omega) (by omega) (by omega) x1 w wr o HST.out HPA.out hok1.out)
            go_wp2_with (first
              | (go_at_call 8; refine C1.out.mono ?_; rintro e w6 ⟨v, o6, rfl, ⟨rfl, hp6⟩, st6⟩; clear C1; have HPA := Lib.hid hp6; have HPB := Lib.hid (HPB.out.stp st6 (fun i h1 h2 => by unfold KS; omega)); have CU := Lib.hid (And.intro HPB.out (CU.out.2.tr (st6.mono (L := fun i => i ≠ 0) fun i hi => by unfold KS at hi; omega))); have x6 : Ext w w6 := CU.out.2.toExt (fun _ _ => by simp); try (obtain ⟨z0, z1, z2, z3⟩ := U2.out w6 x6))
              | (go_at_call 8; refine (pr_step 8 p2 r2 m (by omega) (by omega) (by omega) x2 w _ _ CU.out.2 CU.out.1 hok2.out).mono ?_; rintro e w7 ⟨v, o7, rfl, ⟨rfl, hp7⟩, st7⟩; have HPA := Lib.hid (HPA.out.stp st7 (fun i h1 h2 => by unfold KS; omega)); have HPB := Lib.hid hp7; have CU := Lib.hid (And.intro hp7 (CU.out.2.tr (st7.mono (L := fun i => i ≠ 0) fun i hi => by unfold KS at hi; omega)))))
            go_roundw
            case rel => exact ⟨m + 1, by omega, by go_num, _, by first | exact HPA.out | exact HPA.out.mono (by omega), by first | exact HPB.out | exact HPB.out.mono (by omega), CU.out.2⟩
            case measure => simp [intOf]; omega
          · have i2 : ¬ (m : Int) < (N2 : Int) := by omega
            go_wp2
            go_ret
            exact ⟨rfl, hx⟩
    · have CA := Lib.hid (wNew_p 1 a _ ha w (fun _ => 0))
      go_enter Try.func3, Try.ntmps3
      go_wp2_with (first
        | (go_at_call 4; refine CA.out.mono ?_; rintro e w1 ⟨v, o1, rfl, hv, st1⟩; ((first | (obtain ⟨p1, rfl, hp1⟩ := hv) | (obtain rfl := hv))); clear CA; have CB := Lib.hid (wNew_p 8 b _ hb w1 o1))
        | (go_at_call 4; refine CB.out.mono ?_; rintro e w2 ⟨v, o2, rfl, hv, st2⟩; ((first | (obtain ⟨p2, rfl, hp2⟩ := hv) | (obtain rfl := hv))); clear CB; have CC := Lib.hid (rwNew_p 4 a _ ha w2 o2))
        | (go_at_call 5; refine CC.out.mono ?_; rintro e w3 ⟨v, o3, rfl, hv, st3⟩; ((first | (obtain ⟨r1, rfl, hr1⟩ := hv) | (obtain rfl := hv))); clear CC; have CD := Lib.hid (rwNew_p 11 b _ hb w3 o3))
        | (go_at_call 5; refine CD.out.mono ?_; rintro e w4 ⟨v, o4, rfl, hv, st4⟩; ((first | (obtain ⟨r2, rfl, hr2⟩ := hv) | (obtain rfl := hv))); clear CD)
        | (go_at_call 6; refine (num13_c _ _).mono ?_; rintro e w8 ⟨rfl, rfl⟩)
        | (go_at_call 7; refine (knows13_c _).mono ?_; rintro e w5 ⟨rfl, hx5⟩))
      have s5 : Stp (fun _ => False) w4 o4 w5 o4 := Stp.ext hx5
      have T0 : TwoAt w (some (p1, r1)) (some (p2, r2)) 0 w5 := ⟨o4, by first | trivial | exact ⟨_, hp1.stp (((st2.tr st3).tr st4).tr s5) (fun x => x) (fun x => x) (fun x => x), hr1.stp (st4.tr s5) (fun x => x) (fun x => x) (fun x => x) (fun x => x), new_ok ha, Nat.le_refl _⟩, by first | trivial | exact ⟨_, hp2.stp ((st3.tr st4).tr s5) (fun x => x) (fun x => x) (fun x => x), hr2.stp s5 (fun x => x) (fun x => x) (fun x => x) (fun x => x), new_ok hb, Nat.le_refl _⟩, (((((st1.tr st2).tr st3).tr st4).tr s5)).mono fun _ h => h.elim⟩
      have HT0 := Lib.hid T0
      clear T0 s5 hx5 st1 st2 st3 st4
      try clear hp1
      try clear hp2
      try clear hr1
      try clear hr2
      go_loopw [15] (fun v15 wr => ∃ (m : Nat), m ≤ max N1 N2 ∧ v15 = .int .i64 (m : Int) ∧ TwoAt w (some (p1, r1)) (some (p2, r2)) m wr) (fun i _ => max N1 N2 - (intOf i).toNat)
      case atStart => exact ⟨0, Nat.zero_le _, rfl, HT0.out⟩
      case round =>
        obtain ⟨m, hm, rfl, ⟨o, hpa, hpb, hst⟩⟩ := hrel
        have hx : Ext w wr := hst.toExt (fun _ _ => by simp)
        have HPA := Lib.hid hpa
        have HPB := Lib.hid hpb
        have HST := Lib.hid hst
        clear hpa hpb hst
        have hk0 : (0 : Int) ≤ (m : Int) := by omega
        by_cases h1 : m < N1
        · have i1 : (m : Int) < (N1 : Int) := by omega
          obtain ⟨b1, f1, he1, hbl1, g01, g11, g21, g31⟩ := HA.out.row (k := m) (by rw [← HN1.out]; exact h1)
          subst he1
          have hok1 := Lib.hid (HA.out.each _ (List.getElem_mem (show m < List.length xs by rw [← HN1.out]; exact h1)))
          obtain ⟨x1, hxe1⟩ : ∃ q, q = xs[m]'(by rw [← HN1.out]; exact h1) := ⟨_, rfl⟩
          rw [← hxe1] at g01 g11 g21 g31 hok1
          have U1 := Lib.hid (fun w' (e : Ext w w') => And.intro ((e.cell (p := ⟨b1, f1 + m * 4, none⟩) hbl1).trans g01) (And.intro ((e.cell (p := ⟨b1, f1 + m * 4 + 1, none⟩) hbl1).trans g11) (And.intro ((e.cell (p := ⟨b1, f1 + m * 4 + 2, none⟩) hbl1).trans g21) ((e.cell (p := ⟨b1, f1 + m * 4 + 3, none⟩) hbl1).trans g31))))
          clear hxe1 g01 g11 g21 g31
          obtain ⟨g01, g11, g21, g31⟩ := U1.out wr hx
          by_cases h2 : m < N2
          · have i2 : (m : Int) < (N2 : Int) := by omega
            obtain ⟨b2, f2, he2, hbl2, g02, g12, g22, g32⟩ := HB.out.row (k := m) (by rw [← HN2.out]; exact h2)
            subst he2
            have hok2 := Lib.hid (HB.out.each _ (List.getElem_mem (show m < List.length ys by rw [← HN2.out]; exact h2)))
            obtain ⟨x2, hxe2⟩ : ∃ q, q = ys[m]'(by rw [← HN2.out]; exact h2) := ⟨_, rfl⟩
            rw [← hxe2] at g02 g12 g22 g32 hok2
            have U2 := Lib.hid (fun w' (e : Ext w w') => And.intro ((e.cell (p := ⟨b2, f2 + m * 4, none⟩) hbl2).trans g02) (And.intro ((e.cell (p := ⟨b2, f2 + m * 4 + 1, none⟩) hbl2).trans g12) (And.intro ((e.cell (p := ⟨b2, f2 + m * 4 + 2, none⟩) hbl2).trans g22) ((e.cell (p := ⟨b2, f2 + m * 4 + 3, none⟩) hbl2).trans g32))))
            clear hxe2 g02 g12 g22 g32
            obtain ⟨g02, g12, g22, g32⟩ := U2.out wr hx
            have CU := Lib.hid (And.intro HPB.out HST.out)
            try have C1 := Lib.hid (pr_step 1 p1 r1 m (by omega) (by omega) (by omega) x1 w wr o HST.out HPA.out hok1.out)
            go_wp2_with (first
              | (go_at_call 8; refine C1.out.mono ?_; rintro e w6 ⟨v, o6, rfl, ⟨rfl, hp6⟩, st6⟩; clear C1; have HPA := Lib.hid hp6; have HPB := Lib.hid (HPB.out.stp st6 (fun i h1 h2 => by unfold KS; omega)); have CU := Lib.hid (And.intro HPB.out (CU.out.2.tr (st6.mono (L := fun i => i ≠ 0) fun i hi => by unfold KS at hi; omega))); have x6 : Ext w w6 := CU.out.2.toExt (fun _ _ => by simp); try (obtain ⟨z0, z1, z2, z3⟩ := U2.out w6 x6))
              | (go_at_call 8; refine (pr_step 8 p2 r2 m (by omega) (by omega) (by omega) x2 w _ _ CU.out.2 CU.out.1 hok2.out).mono ?_; rintro e w7 ⟨v, o7, rfl, ⟨rfl, hp7⟩, st7⟩; have HPA := Lib.hid (HPA.out.stp st7 (fun i h1 h2 => by unfold KS; omega)); have HPB := Lib.hid hp7; have CU := Lib.hid (And.intro hp7 (CU.out.2.tr (st7.mono (L := fun i => i ≠ 0) fun i hi => by unfold KS at hi; omega)))))
            go_roundw
            case rel => exact ⟨m + 1, by omega, by go_num, _, by first | exact HPA.out | exact HPA.out.mono (by omega), by first | exact HPB.out | exact HPB.out.mono (by omega), CU.out.2⟩
            case measure => simp [intOf]; omega
          · have i2 : ¬ (m : Int) < (N2 : Int) := by omega
            have CU := Lib.hid (And.intro HPB.out HST.out)
            try have C1 := Lib.hid (pr_step 1 p1 r1 m (by omega) (by omega) (by omega) x1 w wr o HST.out HPA.out hok1.out)
            go_wp2_with (first
              | (go_at_call 8; refine C1.out.mono ?_; rintro e w6 ⟨v, o6, rfl, ⟨rfl, hp6⟩, st6⟩; clear C1; have HPA := Lib.hid hp6; have HPB := Lib.hid (HPB.out.stp st6 (fun i h1 h2 => by unfold KS; omega)); have CU := Lib.hid (And.intro HPB.out (CU.out.2.tr (st6.mono (L := fun i => i ≠ 0) fun i hi => by unfold KS at hi; omega))); have x6 : Ext w w6 := CU.out.2.toExt (fun _ _ => by simp); try (obtain ⟨z0, z1, z2, z3⟩ := U2.out w6 x6))
              | (go_at_call 8; refine (pr_step 8 p2 r2 m (by omega) (by omega) (by omega) x2 w _ _ CU.out.2 CU.out.1 hok2.out).mono ?_; rintro e w7 ⟨v, o7, rfl, ⟨rfl, hp7⟩, st7⟩; have HPA := Lib.hid (HPA.out.stp st7 (fun i h1 h2 => by unfold KS; omega)); have HPB := Lib.hid hp7; have CU := Lib.hid (And.intro hp7 (CU.out.2.tr (st7.mono (L := fun i => i ≠ 0) fun i hi => by unfold KS at hi; omega)))))
            go_roundw
            case rel => exact ⟨m + 1, by omega, by go_num, _, by first | exact HPA.out | exact HPA.out.mono (by omega), by first | exact HPB.out | exact HPB.out.mono (by omega), CU.out.2⟩
            case measure => simp [intOf]; omega
        · have i1 : ¬ (m : Int) < (N1 : Int) := by omega
          by_cases h2 : m < N2
          · have i2 : (m : Int) < (N2 : Int) := by omega
            obtain ⟨b2, f2, he2, hbl2, g02, g12, g22, g32⟩ := HB.out.row (k := m) (by rw [← HN2.out]; exact h2)
            subst he2
            have hok2 := Lib.hid (HB.out.each _ (List.getElem_mem (show m < List.length ys by rw [← HN2.out]; exact h2)))
            obtain ⟨x2, hxe2⟩ : ∃ q, q = ys[m]'(by rw [← HN2.out]; exact h2) := ⟨_, rfl⟩
            rw [← hxe2] at g02 g12 g22 g32 hok2
            have U2 := Lib.hid (fun w' (e : Ext w w') => And.intro ((e.cell (p := ⟨b2, f2 + m * 4, none⟩) hbl2).trans g02) (And.intro ((e.cell (p := ⟨b2, f2 + m * 4 + 1, none⟩) hbl2).trans g12) (And.intro ((e.cell (p := ⟨b2, f2 + m * 4 + 2, none⟩) hbl2).trans g22) ((e.cell (p := ⟨b2, f2 + m * 4 + 3, none⟩) hbl2).trans g32))))
            clear hxe2 g02 g12 g22 g32
            obtain ⟨g02, g12, g22, g32⟩ := U2.out wr hx
            have CU := Lib.hid (And.intro HPB.out HST.out)
            try have C1 := Lib.hid (pr_step 1 p1 r1 m (by omega) (by omega) (by omega) x1 w wr o HST.out HPA.out hok1.out)
            go_wp2_with (first
              | (go_at_call 8; refine C1.out.mono ?_; rintro e w6 ⟨v, o6, rfl, ⟨rfl, hp6⟩, st6⟩; clear C1; have HPA := Lib.hid hp6; have HPB := Lib.hid (HPB.out.stp st6 (fun i h1 h2 => by unfold KS; omega)); have CU := Lib.hid (And.intro HPB.out (CU.out.2.tr (st6.mono (L := fun i => i ≠ 0) fun i hi => by unfold KS at hi; omega))); have x6 : Ext w w6 := CU.out.2.toExt (fun _ _ => by simp); try (obtain ⟨z0, z1, z2, z3⟩ := U2.out w6 x6))
              | (go_at_call 8; refine (pr_step 8 p2 r2 m (by omega) (by omega) (by omega) x2 w _ _ CU.out.2 CU.out.1 hok2.out).mono ?_; rintro e w7 ⟨v, o7, rfl, ⟨rfl, hp7⟩, st7⟩; have HPA := Lib.hid (HPA.out.stp st7 (fun i h1 h2 => by unfold KS; omega)); have HPB := Lib.hid hp7; have CU := Lib.hid (And.intro hp7 (CU.out.2.tr (st7.mono (L := fun i => i ≠ 0) fun i hi => by unfold KS at hi; omega)))))
            go_roundw
            case rel => exact ⟨m + 1, by omega, by go_num, _, by first | exact HPA.out | exact HPA.out.mono (by omega), by first | exact HPB.out | exact HPB.out.mono (by omega), CU.out.2⟩
            case measure => simp [intOf]; omega
          · have i2 : ¬ (m : Int) < (N2 : Int) := by omega
            go_wp2
            go_ret
            exact ⟨rfl, hx⟩
end Go.Proofs.Ytllpffdjlhamkaa
