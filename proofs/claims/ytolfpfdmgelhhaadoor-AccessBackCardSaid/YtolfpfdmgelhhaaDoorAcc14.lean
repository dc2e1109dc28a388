/-
The program's Parse of a line.
-/
import Derived.Test.YtolfpfdmgelhhaaDoorAPl
import Derived.Test.YtolfpfdmgelhhaaDoorAcc13
set_option linter.unusedVariables false
set_option linter.unusedSimpArgs false
namespace Go.Proofs.YtolfpfdmgelhhaaDoor
open Go.RowKit

/-- All below N is as it was in W2, but for block X, which holds cs. -/
def PEnd (B X N : Nat) (W2 : World) (cs : Array Value) (t : TypeId) (w' : World) : Prop := FrJ B X N W2 w' ∧ N ≤ w'.heap.size ∧ w'.heap[X]? = some (.cells cs t (0, 0))
theorem PEnd.after {B X N : Nat} {W2 wr w' : World} {cs : Array Value} {t : TypeId} (h : PEnd B X N W2 cs t wr) (hBN : B ≤ N) (x : Ext wr w') : PEnd B X N W2 cs t w' :=
  ⟨h.1.tr (FrJ.ext h.2.1 (Nat.le_trans hBN h.2.1) x), Nat.le_trans h.2.1 x.size, hp_ext x h.2.2⟩
theorem PEnd.put {B X N : Nat} {W2 wr wa w' : World} {cs : Array Value} {t : TypeId} (h : PEnd B X N W2 cs t wr) (hBX : B ≤ X) (hBN : B ≤ N) (k : Nat) (v : Value) (x : Ext wr wa) (y : Ext (wa.setCell ⟨X, k, none⟩ v) w') :
    PEnd B X N W2 (cs.setIfInBounds k v) t w' := by
  have h1 := h.after hBN x
  have h2 : PEnd B X N W2 (cs.setIfInBounds k v) t (wa.setCell ⟨X, k, none⟩ v) := ⟨h1.1.set hBX k v, by simpa using h1.2.1, by simp [World.setCell, Array.getElem?_modify, h1.2.2]⟩
  exact h2.after hBN y
theorem PEnd.all {X N : Nat} {w W2 wr : World} {cs : Array Value} {t : TypeId} (hx : Ext w W2) (h : PEnd w.heap.size X N W2 cs t wr) : Ext w wr := Below.trans hx h.1.1
theorem PEnd.cell {B X N : Nat} {W2 wr : World} {cs : Array Value} {t : TypeId} (h : PEnd B X N W2 cs t wr) {b j : Nat} {u : Value} (hb : b < N) (hne : b ≠ X) (hc : W2.cell? ⟨b, j, none⟩ = some u) : wr.cell? ⟨b, j, none⟩ = some u := by
  rw [← hc]; exact World.cell?_of_block (a := ⟨b, j, none⟩) (h.1.2 b hb hne)
theorem partN_ok (Bn X a N : Nat) (p : List UInt8) (v n0 : Int) (w W2 wr : World) {cs : Array Value} {t : TypeId} (hX : w.heap.size ≤ X) (hN : w.heap.size ≤ N) (hne : Bn ≠ X) (hp : p.length ≤ 140737488355328) (hv : numL 10 1000000000000000000 p = (v, 0)) (h0 : 0 ≤ v) (h1 : v ≤ 1000000000000000000)
    (hE : ErrR w) (hP : Pow w) (hx : Ext w W2) (h : PEnd w.heap.size X N W2 cs t wr) (hBn : wr.cell? ⟨Bn, 0, none⟩ = some (.pointer (some ⟨X, a, none⟩))) (hc : cs[a]? = some (.int .i64 n0)) :
    Calls Tryd.prog 106 #[.string (str p), .pointer (some ⟨Bn, 0, none⟩)] wr fun e w' => e = .returned (.tuple #[.string (str (digL v)), .bool true]) ∧ PEnd w.heap.size X N W2 (cs.setIfInBounds a (.int .i64 v)) t w' := by
  have hxr := PEnd.all hx h
  refine (aPartsNF_ok Bn X a p v wr hp hv (hE.ext hxr) h0 h1 hne hBn h.2.2 hc (fun wa e => hP.ext ((hxr.tr e).st hX _))).mono ?_
  rintro e w' ⟨rfl, wa, x, y⟩
  exact ⟨by rw [digL_str], h.put hX hN a _ x y⟩
theorem partN_no (Bn X a N : Nat) (p : List UInt8) (v ee : Int) (w W2 wr : World) {cs : Array Value} {t : TypeId} (hN : w.heap.size ≤ N) (hp : p.length ≤ 140737488355328) (hv : numL 10 1000000000000000000 p = (v, ee)) (hee : ee ≠ 0)
    (hE : ErrR w) (hP : Pow w) (hx : Ext w W2) (h : PEnd w.heap.size X N W2 cs t wr) (hBn : wr.cell? ⟨Bn, 0, none⟩ = some (.pointer (some ⟨X, a, none⟩))) (hc : cs[a]? = some (.int .i64 0)) :
    Calls Tryd.prog 106 #[.string (str p), .pointer (some ⟨Bn, 0, none⟩)] wr fun e w' => e = .returned (.tuple #[.string (decB 0), .bool false]) ∧ PEnd w.heap.size X N W2 cs t w' := by
  have hxr := PEnd.all hx h
  refine (aPartsNF_no Bn X a p v ee 0 wr hp hv hee (hE.ext hxr) (hP.ext hxr) (by decide) (by decide) hBn (cell_hp h.2.2 hc)).mono ?_
  rintro e w' ⟨rfl, x⟩
  exact ⟨rfl, h.after hN x⟩
theorem partT_ok (Bn X a N : Nat) (p t0 : List UInt8) (w W2 wr : World) {cs : Array Value} {t : TypeId} (hX : w.heap.size ≤ X) (hN : w.heap.size ≤ N) (hne : Bn ≠ X) (hp : p.length ≤ 35184372088832) (hp0 : p ≠ [])
    (hE : ErrR w) (hx : Ext w W2) (h : PEnd w.heap.size X N W2 cs t wr) (hBn : wr.cell? ⟨Bn, 0, none⟩ = some (.pointer (some ⟨X, a, none⟩))) (hc : cs[a]? = some (.string (str t0))) :
    Calls Tryd.prog 109 #[.string (str p), .pointer (some ⟨Bn, 0, none⟩)] wr fun e w' => e = .returned (.tuple #[.string (str (escL (unL p))), .bool true]) ∧ PEnd w.heap.size X N W2 (cs.setIfInBounds a (.string (str (unL p)))) t w' := by
  have hxr := PEnd.all hx h
  refine (aPartsTF_ok Bn X a p t0 wr hp hp0 (hE.ext hxr) hne hBn h.2.2 hc).mono ?_
  rintro e w' ⟨rfl, wa, x, y⟩
  exact ⟨rfl, h.put hX hN a _ x y⟩
theorem partT_no (Bn X a N : Nat) (w W2 wr : World) {cs : Array Value} {t : TypeId} (hN : w.heap.size ≤ N) (h : PEnd w.heap.size X N W2 cs t wr) (hBn : wr.cell? ⟨Bn, 0, none⟩ = some (.pointer (some ⟨X, a, none⟩))) (hc : cs[a]? = some (.string (str []))) :
    Calls Tryd.prog 109 #[.string (str []), .pointer (some ⟨Bn, 0, none⟩)] wr fun e w' => e = .returned (.tuple #[.string (str (escL [])), .bool false]) ∧ PEnd w.heap.size X N W2 cs t w' := by
  refine (aPartsTF_no Bn X a [] wr (by simp) hBn (cell_hp h.2.2 hc)).mono ?_
  rintro e w' ⟨rfl, x⟩
  exact ⟨rfl, h.after hN x⟩
def numOk (p : List UInt8) : Prop := (numW p).2 = 0 ∧ digL (numW p).1 = p
def txtOk (p : List UInt8) : Prop := escL (unL p) = p
def okN (p0 p1 p2 p3 p4 p5 p6 p7 : List UInt8) : Nat → Prop
  | 0 => numOk p0
  | 1 => txtOk p1
  | 2 => txtOk p2
  | 3 => txtOk p3
  | 4 => txtOk p4
  | 5 => numOk p5
  | 6 => numOk p6
  | _ => txtOk p7
theorem okP_iff (p0 p1 p2 p3 p4 p5 p6 p7 : List UInt8) : OkP p0 p1 p2 p3 p4 p5 p6 p7 ↔ ∀ j, j < 8 → okN p0 p1 p2 p3 p4 p5 p6 p7 j := by
  constructor
  · rintro ⟨h0, h1, h2, h3, h4, h5, h6, h7⟩ j hj
    have hj8 : j = 0 ∨ j = 1 ∨ j = 2 ∨ j = 3 ∨ j = 4 ∨ j = 5 ∨ j = 6 ∨ j = 7 := by omega
    rcases hj8 with rfl | rfl | rfl | rfl | rfl | rfl | rfl | rfl
    · exact h0
    · exact h1
    · exact h2
    · exact h3
    · exact h4
    · exact h5
    · exact h6
    · exact h7
  · intro h
    exact ⟨h 0 (by omega), h 1 (by omega), h 2 (by omega), h 3 (by omega), h 4 (by omega), h 5 (by omega), h 6 (by omega), h 7 (by omega)⟩
theorem okN_succ {f : Nat → Prop} {k : Nat} (h : ∀ j, j < k → f j) (hk : f k) : ∀ j, j < k + 1 → f j := by
  intro j hj
  rcases Nat.lt_or_ge j k with h1 | h1
  · exact h j h1
  · obtain rfl : j = k := by omega
    exact hk
/-- The entry's cells when its first parts are taken in. -/
def mixA (n0 : Int) (u1 u2 u3 u4 : List UInt8) (n5 n6 : Int) (u7 : List UInt8) : Nat → Array Value
  | 0 => #[.int .i64 0, .string (str []), .string (str []), .string (str []), .string (str []), .int .i64 0, .int .i64 0, .string (str [])]
  | 1 => #[.int .i64 n0, .string (str []), .string (str []), .string (str []), .string (str []), .int .i64 0, .int .i64 0, .string (str [])]
  | 2 => #[.int .i64 n0, .string (str u1), .string (str []), .string (str []), .string (str []), .int .i64 0, .int .i64 0, .string (str [])]
  | 3 => #[.int .i64 n0, .string (str u1), .string (str u2), .string (str []), .string (str []), .int .i64 0, .int .i64 0, .string (str [])]
  | 4 => #[.int .i64 n0, .string (str u1), .string (str u2), .string (str u3), .string (str []), .int .i64 0, .int .i64 0, .string (str [])]
  | 5 => #[.int .i64 n0, .string (str u1), .string (str u2), .string (str u3), .string (str u4), .int .i64 0, .int .i64 0, .string (str [])]
  | 6 => #[.int .i64 n0, .string (str u1), .string (str u2), .string (str u3), .string (str u4), .int .i64 n5, .int .i64 0, .string (str [])]
  | 7 => #[.int .i64 n0, .string (str u1), .string (str u2), .string (str u3), .string (str u4), .int .i64 n5, .int .i64 n6, .string (str [])]
  | _ => #[.int .i64 n0, .string (str u1), .string (str u2), .string (str u3), .string (str u4), .int .i64 n5, .int .i64 n6, .string (str u7)]
theorem parsL_good {l p0 p1 p2 p3 p4 p5 p6 p7 : List UInt8} (h : wdsL l = [p0, p1, p2, p3, p4, p5, p6, p7]) (hok : ∀ j, j < 8 → okN p0 p1 p2 p3 p4 p5 p6 p7 j) (hle : (lineL (entW p0 p1 p2 p3 p4 p5 p6 p7)).2 = 0) : parsL l = (entW p0 p1 p2 p3 p4 p5 p6 p7, 0) := by
  have h2 := (pars_eight h).2 ⟨(okP_iff p0 p1 p2 p3 p4 p5 p6 p7).2 hok, hle⟩
  unfold parsL
  rw [h]
  dsimp only
  rw [if_pos h2]
theorem parsL_bad {l p0 p1 p2 p3 p4 p5 p6 p7 : List UInt8} (h : wdsL l = [p0, p1, p2, p3, p4, p5, p6, p7]) (hok : ¬ ∀ j, j < 8 → okN p0 p1 p2 p3 p4 p5 p6 p7 j) : parsL l = (zeroEnt, 42) := by
  unfold parsL
  rw [h]
  dsimp only
  rw [if_neg (fun h2 => hok ((okP_iff p0 p1 p2 p3 p4 p5 p6 p7).1 ((pars_eight h).1 h2).1))]
theorem parsL_line {l p0 p1 p2 p3 p4 p5 p6 p7 : List UInt8} (h : wdsL l = [p0, p1, p2, p3, p4, p5, p6, p7]) (hle : ¬ (lineL (entW p0 p1 p2 p3 p4 p5 p6 p7)).2 = 0) : parsL l = (zeroEnt, 42) := by
  unfold parsL
  rw [h]
  dsimp only
  rw [if_neg (fun h2 => hle h2.2.2.2.1)]
set_option maxRecDepth 100000 in
set_option maxHeartbeats 8000000 in
theorem aParse_c (l : List UInt8) (hs : l.length ≤ 4000000000) (w : World) (hE : ErrR w) (hP : Pow w) (hM : Mx w) :
    Calls Tryd.prog 22 #[.string (str l)] w (Gives (parsV (parsL l)) w) := by
  obtain ⟨RR, hRR⟩ : ∃ R, R = parsL l := ⟨_, rfl⟩
  rw [← hRR]
  have HRR := Lib.hid hRR
  have HE := Lib.hid hE
  have HP := Lib.hid hP
  have HM := Lib.hid hM
  clear hRR hE hP hM
  obtain ⟨n, hn⟩ : ∃ n, n = (wdsL l).length := ⟨_, rfl⟩
  have C : ∀ w1, Mx w1 → Calls Tryd.prog 68 #[.string (str l), .string ⟨#[32]⟩] w1 fun e w' => ∃ sb, e = .returned (.slice (some ⟨sb, 0, none⟩) n n) ∧ w1.heap.size ≤ sb ∧ (∀ j u, (sc (wdsL l))[j]? = some u → w'.cell? ⟨sb, j, none⟩ = some u) ∧ Ext w1 w' := fun w1 hm => by
    rw [hn]
    refine (Split_wds l hs w1 hm).mono ?_
    rintro e w' ⟨rfl, rfl⟩
    exact ⟨_, rfl, Nat.le_refl _, fun j u hu => new_at _ _ _ j u (by simpa using hu), by (repeat (first | exact Ext.rfl' _ | assumption | refine Ext.dr ?_ | refine Ext.drN ?_ _ | refine Ext.al ?_ _ | refine Ext.st ?_ (by simp) _ | refine Ext.tr ?_ (by assumption)))⟩
  have C := Lib.hid C
  have HN := Lib.hid hn
  clear hn
  by_cases h8 : n = 8
  · subst h8
    go_enter Tryd.func22, Tryd.ntmps22
    go_wp2_with (go_at_call 68; refine (C.out _ (HM.out.ext (by (repeat (first | exact Ext.rfl' _ | assumption | refine Ext.dr ?_ | refine Ext.drN ?_ _ | refine Ext.al ?_ _ | refine Ext.st ?_ (by simp) _ | refine Ext.tr ?_ (by assumption)))))).mono ?_; rintro e w1 ⟨sb, rfl, hsb, hcc, hx1⟩; have hrb := hp_ext hx1 (hp_al (heap_alloc_new w _)); have HB := Lib.hid hrb; have k0 := frozen_hp (j := 0) HB.out; have k1 := frozen_hp (j := 1) HB.out; have k2 := frozen_hp (j := 2) HB.out; have k3 := frozen_hp (j := 3) HB.out; have k4 := frozen_hp (j := 4) HB.out; have k5 := frozen_hp (j := 5) HB.out; have k6 := frozen_hp (j := 6) HB.out; have k7 := frozen_hp (j := 7) HB.out; obtain ⟨q0, q1, q2, q3, q4, q5, q6, q7⟩ := eight HB.out (Ext.rfl' _))
    have hxw1 : Ext w w1 := by (repeat (first | exact Ext.rfl' _ | assumption | refine Ext.dr ?_ | refine Ext.drN ?_ _ | refine Ext.al ?_ _ | refine Ext.st ?_ (by simp) _ | refine Ext.tr ?_ (by assumption)))
    have HR1 := Lib.hid (show w1.heap[w.heap.size]? = some (.cells #[.int .i64 0, .string ⟨#[]⟩, .string ⟨#[]⟩, .string ⟨#[]⟩, .string ⟨#[]⟩, .int .i64 0, .int .i64 0, .string ⟨#[]⟩] 38 (0, 0)) from hp_ext hx1 (hp_al (heap_alloc_new w _)))
    have HX1 := Lib.hid (show w1.heap[w.heap.size + 1]? = some (.cells #[.int .i64 0, .string ⟨#[]⟩, .string ⟨#[]⟩, .string ⟨#[]⟩, .string ⟨#[]⟩, .int .i64 0, .int .i64 0, .string ⟨#[]⟩] 38 (0, 0)) from hp_ext hx1 (hp_new (by simp) _))
    have hsb2 : w.heap.size + 2 ≤ sb := by simpa using hsb
    have hs1 : w.heap.size + 2 ≤ w1.heap.size := by have := hx1.size; simpa using this
    clear hx1 hsb
    clear hrb HB k0 k1 k2 k3 k4 k5 k6 k7 q0 q1 q2 q3 q4 q5 q6 q7
    obtain ⟨p0, p1, p2, p3, p4, p5, p6, p7, hps⟩ := list8 HN.out.symm
    have hm := fun s (h : s ∈ [p0, p1, p2, p3, p4, p5, p6, p7]) => wds_mem l s (by rw [hps]; exact h)
    have m0 : p0.length ≤ 4000000000 := by have := hm p0 (by simp); omega
    have m1 : p1.length ≤ 4000000000 := by have := hm p1 (by simp); omega
    have m2 : p2.length ≤ 4000000000 := by have := hm p2 (by simp); omega
    have m3 : p3.length ≤ 4000000000 := by have := hm p3 (by simp); omega
    have m4 : p4.length ≤ 4000000000 := by have := hm p4 (by simp); omega
    have m5 : p5.length ≤ 4000000000 := by have := hm p5 (by simp); omega
    have m6 : p6.length ≤ 4000000000 := by have := hm p6 (by simp); omega
    have m7 : p7.length ≤ 4000000000 := by have := hm p7 (by simp); omega
    clear hm
    rw [hps] at hcc
    have HBAD := Lib.hid (fun h => HRR.out.trans (parsL_bad hps h))
    have CL := fun w' hE hP => aLine_c (entW p0 p1 p2 p3 p4 p5 p6 p7) (entW_wf p0 p1 p2 p3 p4 p5 p6 p7) w' hE hP
    have HG1 := fun h h2 => HRR.out.trans (parsL_good hps h h2)
    have HG2 := fun h2 => HRR.out.trans (parsL_line hps h2)
    obtain ⟨⟨ln, le⟩, hll⟩ : ∃ r, r = lineL (entW p0 p1 p2 p3 p4 p5 p6 p7) := ⟨_, rfl⟩
    rw [← hll] at CL HG1 HG2
    dsimp only at HG1 HG2
    clear hll hps
    unfold Ent.val Ent.cells entW at CL
    dsimp only at CL
    obtain ⟨⟨n0, e0⟩, h0⟩ : ∃ r, r = numW p0 := ⟨_, rfl⟩
    obtain ⟨⟨n5, e5⟩, h5⟩ : ∃ r, r = numW p5 := ⟨_, rfl⟩
    obtain ⟨⟨n6, e6⟩, h6⟩ : ∃ r, r = numW p6 := ⟨_, rfl⟩
    have hent : (entW p0 p1 p2 p3 p4 p5 p6 p7).val = .agg #[.int .i64 n0, .string (str (unL p1)), .string (str (unL p2)), .string (str (unL p3)), .string (str (unL p4)), .int .i64 n5, .int .i64 n6, .string (str (unL p7))] := by
      unfold Ent.val Ent.cells entW; rw [← h0, ← h5, ← h6]
    rw [← h0, ← h5, ← h6] at CL
    dsimp only at CL
    have H0 := Lib.hid (show numL 10 1000000000000000000 p0 = (n0, e0) from h0.symm)
    have H5 := Lib.hid (show numL 10 1000000000000000000 p5 = (n5, e5) from h5.symm)
    have H6 := Lib.hid (show numL 10 1000000000000000000 p6 = (n6, e6) from h6.symm)
    clear h0 h5 h6
    obtain ⟨y1, hu1⟩ : ∃ u, unL p1 = u := ⟨_, rfl⟩
    obtain ⟨y2, hu2⟩ : ∃ u, unL p2 = u := ⟨_, rfl⟩
    obtain ⟨y3, hu3⟩ : ∃ u, unL p3 = u := ⟨_, rfl⟩
    obtain ⟨y4, hu4⟩ : ∃ u, unL p4 = u := ⟨_, rfl⟩
    obtain ⟨y7, hu7⟩ : ∃ u, unL p7 = u := ⟨_, rfl⟩
    rw [hu1, hu2, hu3, hu4, hu7] at CL hent
    have U1 := Lib.hid hu1
    have U2 := Lib.hid hu2
    have U3 := Lib.hid hu3
    have U4 := Lib.hid hu4
    have U7 := Lib.hid hu7
    have CL := Lib.hid CL
    have HENT := Lib.hid hent
    have HG1 := Lib.hid HG1
    have HG2 := Lib.hid HG2
    clear hu1 hu2 hu3 hu4 hu7 hent
    go_wp2_with (go_at_call 69; refine (aParts_c _ _).mono ?_; rintro e W2 ⟨rfl, hk8, hxp⟩)
    obtain ⟨g, hg⟩ : ∃ g, g = w1.heap.size + 1 := ⟨_, rfl⟩
    rw [← hg] at hk8 ⊢
    obtain ⟨PV, hPV⟩ : ∃ PV, PV = partsV g := ⟨_, rfl⟩
    rw [← hPV]
    have HPV := Lib.hid hPV
    have HK := Lib.hid hk8
    have hgs : w.heap.size + 3 ≤ g := by omega
    have hNs : w.heap.size + 2 ≤ W2.heap.size := by have := hxp.size; omega
    have hx2 := Lib.hid (hxw1.tr hxp)
    have HS := Lib.hid (fun j u h => (hxp.cell (lt_of_cell (hcc j u h))).trans (hcc j u h))
    have HR2 := Lib.hid (hp_ext hxp HR1.out)
    have HX2 := Lib.hid (hp_ext hxp HX1.out)
    clear hPV hk8 hg hcc hxw1 hxp
    go_wp2
    go_loopw [19] (fun sv wr => ∃ (k : Nat) (z : Int), sv = .int .i64 z ∧ z = (k : Int) ∧ k ≤ 8 ∧ (∀ j, j < k → okN p0 p1 p2 p3 p4 p5 p6 p7 j) ∧ PEnd w.heap.size (w.heap.size + 1) W2.heap.size W2 (mixA n0 y1 y2 y3 y4 n5 n6 y7 k) 38 wr) (fun sv _ => 8 - (intOf sv).toNat)
    case atStart => exact ⟨0, 0, rfl, rfl, by omega, fun j h => by omega, FrJ.rfl' _ _ _ _, Nat.le_refl _, HX2.out⟩
    case round =>
      obtain ⟨k, z, rfl, hz, hk, hok, hI⟩ := hrel
      have hk9 : k = 0 ∨ k = 1 ∨ k = 2 ∨ k = 3 ∨ k = 4 ∨ k = 5 ∨ k = 6 ∨ k = 7 ∨ k = 8 := by omega
      clear hk
      rcases hk9 with rfl | rfl | rfl | rfl | rfl | rfl | rfl | rfl | rfl
      · obtain rfl : z = 0 := hz
        have ix : ∀ w', (Instr.index 114 PV (.int .i64 0)).run Tryd.prog w' = .ok (.func (.func 106) #[] #[.pointer (some ⟨g, 0, none⟩)]) w' := fun w' => by rw [HPV.out]; exact run_idx_arr (e := 113) (n := 8) (by kernel_rfl) (fun _ => rfl) (fun _ => rfl) (by decide) (by decide) rfl w'
        have hkk := HK.out 0 (by omega)
        have hbn : wr.cell? ⟨g, 0, none⟩ = some (.pointer (some ⟨w.heap.size + 1, 0, none⟩)) := hI.cell (lt_of_cell hkk) (by omega) hkk
        have hjs := HS.out 0 _ rfl
        have hj : wr.cell? ⟨sb, 0, none⟩ = some (.string (str p0)) := hI.cell (lt_of_cell hjs) (by omega) hjs
        have HJ := Lib.hid hjs
        clear hkk hjs
        by_cases ce : e0 = 0
        · have hv : numL 10 1000000000000000000 p0 = (n0, 0) := by rw [H0.out, ce]
          have hbd : 0 ≤ n0 ∧ n0 ≤ 1000000000000000000 := by have := num_bd p0; unfold numW at this; rw [hv] at this; exact this
          have C := partN_ok (g) (w.heap.size + 1) 0 W2.heap.size p0 n0 0 w W2 wr (by omega) (by omega) (by omega) (by omega) hv hbd.1 hbd.2 HE.out HP.out hx2.out hI hbn rfl
          by_cases cd : digL n0 = p0
          · rw [cd] at C
            have C := Lib.hid C
            go_wp2_with (go_at_call 106; refine C.out.mono ?_; rintro e w4 ⟨rfl, hI4⟩; have hj4 : w4.cell? ⟨sb, 0, none⟩ = some (.string (str p0)) := hI4.cell (lt_of_cell HJ.out) (by omega) HJ.out)
            go_roundw
            case rel => exact ⟨0 + 1, 0 + 1, rfl, by omega, by omega, okN_succ hok ⟨by unfold numW; rw [hv], by unfold numW; rw [hv]; exact cd⟩, hI4⟩
            case measure => simp [intOf]
          · have HV := Lib.hid (HBAD.out (fun h => cd (by have h1 : numOk p0 := h 0 (by omega); have h2 := h1.2; unfold numW at h2; rw [hv] at h2; exact h2)))
            obtain ⟨q, hq⟩ : ∃ q, q = digL n0 := ⟨_, rfl⟩
            rw [← hq] at C cd
            clear hq
            have d1 := strNA cd
            have d2 : (q == p0) = false := by rw [beq_eq_false_iff_ne]; exact cd
            have C := Lib.hid C
            go_wp2_with (go_at_call 106; refine C.out.mono ?_; rintro e w4 ⟨rfl, hI4⟩; have hj4 : w4.cell? ⟨sb, 0, none⟩ = some (.string (str p0)) := hI4.cell (lt_of_cell HJ.out) (by omega) HJ.out; have hxw4 := PEnd.all hx2.out hI4; have hrb := (hI4.1.2 w.heap.size (by omega) (by omega)).trans HR2.out; have HB := Lib.hid hrb; have k0 := frozen_hp (j := 0) HB.out; have k1 := frozen_hp (j := 1) HB.out; have k2 := frozen_hp (j := 2) HB.out; have k3 := frozen_hp (j := 3) HB.out; have k4 := frozen_hp (j := 4) HB.out; have k5 := frozen_hp (j := 5) HB.out; have k6 := frozen_hp (j := 6) HB.out; have k7 := frozen_hp (j := 7) HB.out; obtain ⟨q0, q1, q2, q3, q4, q5, q6, q7⟩ := eight HB.out (Ext.rfl' _))
            have hp := put8 HB.out (.int .i64 0) (.string ⟨#[]⟩) (.string ⟨#[]⟩) (.string ⟨#[]⟩) (.string ⟨#[]⟩) (.int .i64 0) (.int .i64 0) (.string ⟨#[]⟩)
            have hx := ext8 (b := w.heap.size) (Nat.le_refl _) hxw4 (.int .i64 0) (.string ⟨#[]⟩) (.string ⟨#[]⟩) (.string ⟨#[]⟩) (.string ⟨#[]⟩) (.int .i64 0) (.int .i64 0) (.string ⟨#[]⟩)
            obtain ⟨W9, hW9⟩ : ∃ W9, W9 = ((((((((w4.setCell ⟨w.heap.size, 0, none⟩ (.int .i64 0)).setCell ⟨w.heap.size, 1, none⟩ (.string ⟨#[]⟩)).setCell ⟨w.heap.size, 2, none⟩ (.string ⟨#[]⟩)).setCell ⟨w.heap.size, 3, none⟩ (.string ⟨#[]⟩)).setCell ⟨w.heap.size, 4, none⟩ (.string ⟨#[]⟩)).setCell ⟨w.heap.size, 5, none⟩ (.int .i64 0)).setCell ⟨w.heap.size, 6, none⟩ (.int .i64 0)).setCell ⟨w.heap.size, 7, none⟩ (.string ⟨#[]⟩)) := ⟨_, rfl⟩
            rw [← hW9] at hp hx ⊢
            clear hW9 q0 q1 q2 q3 q4 q5 q6 q7 k0 k1 k2 k3 k4 k5 k6 k7
            obtain ⟨q0, q1, q2, q3, q4, q5, q6, q7⟩ := eight hp (Ext.rfl' _)
            exact bodyPost_ret (v := .tuple #[.agg #[.int .i64 0, .string ⟨#[]⟩, .string ⟨#[]⟩, .string ⟨#[]⟩, .string ⟨#[]⟩, .int .i64 0, .int .i64 0, .string ⟨#[]⟩], .int .i64 42]) (by simp [results, Tryd.results22, go_sem, q0, q1, q2, q3, q4, q5, q6, q7]) rfl ⟨ret_val (by rw [HV.out]; rfl), hx⟩
        · have C := Lib.hid (partN_no (g) (w.heap.size + 1) 0 W2.heap.size p0 n0 e0 w W2 wr (by omega) (by omega) H0.out ce HE.out HP.out hx2.out hI hbn rfl)
          have HV := Lib.hid (HBAD.out (fun h => ce (by have h1 : numOk p0 := h 0 (by omega); have h2 := h1.1; unfold numW at h2; rw [H0.out] at h2; exact h2)))
          go_wp2_with (go_at_call 106; refine C.out.mono ?_; rintro e w4 ⟨rfl, hI4⟩; have hj4 : w4.cell? ⟨sb, 0, none⟩ = some (.string (str p0)) := hI4.cell (lt_of_cell HJ.out) (by omega) HJ.out; have hxw4 := PEnd.all hx2.out hI4; have hrb := (hI4.1.2 w.heap.size (by omega) (by omega)).trans HR2.out; have HB := Lib.hid hrb; have k0 := frozen_hp (j := 0) HB.out; have k1 := frozen_hp (j := 1) HB.out; have k2 := frozen_hp (j := 2) HB.out; have k3 := frozen_hp (j := 3) HB.out; have k4 := frozen_hp (j := 4) HB.out; have k5 := frozen_hp (j := 5) HB.out; have k6 := frozen_hp (j := 6) HB.out; have k7 := frozen_hp (j := 7) HB.out; obtain ⟨q0, q1, q2, q3, q4, q5, q6, q7⟩ := eight HB.out (Ext.rfl' _))
          have hp := put8 HB.out (.int .i64 0) (.string ⟨#[]⟩) (.string ⟨#[]⟩) (.string ⟨#[]⟩) (.string ⟨#[]⟩) (.int .i64 0) (.int .i64 0) (.string ⟨#[]⟩)
          have hx := ext8 (b := w.heap.size) (Nat.le_refl _) hxw4 (.int .i64 0) (.string ⟨#[]⟩) (.string ⟨#[]⟩) (.string ⟨#[]⟩) (.string ⟨#[]⟩) (.int .i64 0) (.int .i64 0) (.string ⟨#[]⟩)
          obtain ⟨W9, hW9⟩ : ∃ W9, W9 = ((((((((w4.setCell ⟨w.heap.size, 0, none⟩ (.int .i64 0)).setCell ⟨w.heap.size, 1, none⟩ (.string ⟨#[]⟩)).setCell ⟨w.heap.size, 2, none⟩ (.string ⟨#[]⟩)).setCell ⟨w.heap.size, 3, none⟩ (.string ⟨#[]⟩)).setCell ⟨w.heap.size, 4, none⟩ (.string ⟨#[]⟩)).setCell ⟨w.heap.size, 5, none⟩ (.int .i64 0)).setCell ⟨w.heap.size, 6, none⟩ (.int .i64 0)).setCell ⟨w.heap.size, 7, none⟩ (.string ⟨#[]⟩)) := ⟨_, rfl⟩
          rw [← hW9] at hp hx ⊢
          clear hW9 q0 q1 q2 q3 q4 q5 q6 q7 k0 k1 k2 k3 k4 k5 k6 k7
          obtain ⟨q0, q1, q2, q3, q4, q5, q6, q7⟩ := eight hp (Ext.rfl' _)
          exact bodyPost_ret (v := .tuple #[.agg #[.int .i64 0, .string ⟨#[]⟩, .string ⟨#[]⟩, .string ⟨#[]⟩, .string ⟨#[]⟩, .int .i64 0, .int .i64 0, .string ⟨#[]⟩], .int .i64 42]) (by simp [results, Tryd.results22, go_sem, q0, q1, q2, q3, q4, q5, q6, q7]) rfl ⟨ret_val (by rw [HV.out]; rfl), hx⟩
      · obtain rfl : z = 1 := hz
        have ix : ∀ w', (Instr.index 114 PV (.int .i64 1)).run Tryd.prog w' = .ok (.func (.func 109) #[] #[.pointer (some ⟨g + 1, 0, none⟩)]) w' := fun w' => by rw [HPV.out]; exact run_idx_arr (e := 113) (n := 8) (by kernel_rfl) (fun _ => rfl) (fun _ => rfl) (by decide) (by decide) rfl w'
        have hkk := HK.out 1 (by omega)
        have hbn : wr.cell? ⟨g + 1, 0, none⟩ = some (.pointer (some ⟨w.heap.size + 1, 1, none⟩)) := hI.cell (lt_of_cell hkk) (by omega) hkk
        have hjs := HS.out 1 _ rfl
        have hj : wr.cell? ⟨sb, 1, none⟩ = some (.string (str p1)) := hI.cell (lt_of_cell hjs) (by omega) hjs
        have HJ := Lib.hid hjs
        clear hkk hjs
        by_cases c0 : p1 = []
        · have HV := Lib.hid (HBAD.out (fun h => esc_ne (unL p1) (by have h1 : txtOk p1 := h 1 (by omega); unfold txtOk at h1; rw [h1]; exact c0)))
          rw [c0] at hj
          have C := Lib.hid (partT_no (g + 1) (w.heap.size + 1) 1 W2.heap.size w W2 wr (by omega) hI hbn rfl)
          go_wp2_with (go_at_call 109; refine C.out.mono ?_; rintro e w4 ⟨rfl, hI4⟩; have hj4 : w4.cell? ⟨sb, 1, none⟩ = some (.string (str p1)) := hI4.cell (lt_of_cell HJ.out) (by omega) HJ.out; have hxw4 := PEnd.all hx2.out hI4; have hrb := (hI4.1.2 w.heap.size (by omega) (by omega)).trans HR2.out; have HB := Lib.hid hrb; have k0 := frozen_hp (j := 0) HB.out; have k1 := frozen_hp (j := 1) HB.out; have k2 := frozen_hp (j := 2) HB.out; have k3 := frozen_hp (j := 3) HB.out; have k4 := frozen_hp (j := 4) HB.out; have k5 := frozen_hp (j := 5) HB.out; have k6 := frozen_hp (j := 6) HB.out; have k7 := frozen_hp (j := 7) HB.out; obtain ⟨q0, q1, q2, q3, q4, q5, q6, q7⟩ := eight HB.out (Ext.rfl' _))
          have hp := put8 HB.out (.int .i64 0) (.string ⟨#[]⟩) (.string ⟨#[]⟩) (.string ⟨#[]⟩) (.string ⟨#[]⟩) (.int .i64 0) (.int .i64 0) (.string ⟨#[]⟩)
          have hx := ext8 (b := w.heap.size) (Nat.le_refl _) hxw4 (.int .i64 0) (.string ⟨#[]⟩) (.string ⟨#[]⟩) (.string ⟨#[]⟩) (.string ⟨#[]⟩) (.int .i64 0) (.int .i64 0) (.string ⟨#[]⟩)
          obtain ⟨W9, hW9⟩ : ∃ W9, W9 = ((((((((w4.setCell ⟨w.heap.size, 0, none⟩ (.int .i64 0)).setCell ⟨w.heap.size, 1, none⟩ (.string ⟨#[]⟩)).setCell ⟨w.heap.size, 2, none⟩ (.string ⟨#[]⟩)).setCell ⟨w.heap.size, 3, none⟩ (.string ⟨#[]⟩)).setCell ⟨w.heap.size, 4, none⟩ (.string ⟨#[]⟩)).setCell ⟨w.heap.size, 5, none⟩ (.int .i64 0)).setCell ⟨w.heap.size, 6, none⟩ (.int .i64 0)).setCell ⟨w.heap.size, 7, none⟩ (.string ⟨#[]⟩)) := ⟨_, rfl⟩
          rw [← hW9] at hp hx ⊢
          clear hW9 q0 q1 q2 q3 q4 q5 q6 q7 k0 k1 k2 k3 k4 k5 k6 k7
          obtain ⟨q0, q1, q2, q3, q4, q5, q6, q7⟩ := eight hp (Ext.rfl' _)
          exact bodyPost_ret (v := .tuple #[.agg #[.int .i64 0, .string ⟨#[]⟩, .string ⟨#[]⟩, .string ⟨#[]⟩, .string ⟨#[]⟩, .int .i64 0, .int .i64 0, .string ⟨#[]⟩], .int .i64 42]) (by simp [results, Tryd.results22, go_sem, q0, q1, q2, q3, q4, q5, q6, q7]) rfl ⟨ret_val (by rw [HV.out]; rfl), hx⟩
        · have C := partT_ok (g + 1) (w.heap.size + 1) 1 W2.heap.size p1 [] w W2 wr (by omega) (by omega) (by omega) (by omega) c0 HE.out hx2.out hI hbn rfl
          by_cases cd : escL (unL p1) = p1
          · rw [cd, U1.out] at C
            have C := Lib.hid C
            go_wp2_with (go_at_call 109; refine C.out.mono ?_; rintro e w4 ⟨rfl, hI4⟩; have hj4 : w4.cell? ⟨sb, 1, none⟩ = some (.string (str p1)) := hI4.cell (lt_of_cell HJ.out) (by omega) HJ.out)
            go_roundw
            case rel => exact ⟨1 + 1, 1 + 1, rfl, by omega, by omega, okN_succ hok cd, hI4⟩
            case measure => simp [intOf]
          · have HV := Lib.hid (HBAD.out (fun h => cd (h 1 (by omega))))
            obtain ⟨q, hq⟩ : ∃ q, q = escL (unL p1) := ⟨_, rfl⟩
            rw [← hq] at C cd
            clear hq
            have d1 := strNA cd
            have d2 : (q == p1) = false := by rw [beq_eq_false_iff_ne]; exact cd
            have C := Lib.hid C
            go_wp2_with (go_at_call 109; refine C.out.mono ?_; rintro e w4 ⟨rfl, hI4⟩; have hj4 : w4.cell? ⟨sb, 1, none⟩ = some (.string (str p1)) := hI4.cell (lt_of_cell HJ.out) (by omega) HJ.out; have hxw4 := PEnd.all hx2.out hI4; have hrb := (hI4.1.2 w.heap.size (by omega) (by omega)).trans HR2.out; have HB := Lib.hid hrb; have k0 := frozen_hp (j := 0) HB.out; have k1 := frozen_hp (j := 1) HB.out; have k2 := frozen_hp (j := 2) HB.out; have k3 := frozen_hp (j := 3) HB.out; have k4 := frozen_hp (j := 4) HB.out; have k5 := frozen_hp (j := 5) HB.out; have k6 := frozen_hp (j := 6) HB.out; have k7 := frozen_hp (j := 7) HB.out; obtain ⟨q0, q1, q2, q3, q4, q5, q6, q7⟩ := eight HB.out (Ext.rfl' _))
            have hp := put8 HB.out (.int .i64 0) (.string ⟨#[]⟩) (.string ⟨#[]⟩) (.string ⟨#[]⟩) (.string ⟨#[]⟩) (.int .i64 0) (.int .i64 0) (.string ⟨#[]⟩)
            have hx := ext8 (b := w.heap.size) (Nat.le_refl _) hxw4 (.int .i64 0) (.string ⟨#[]⟩) (.string ⟨#[]⟩) (.string ⟨#[]⟩) (.string ⟨#[]⟩) (.int .i64 0) (.int .i64 0) (.string ⟨#[]⟩)
            obtain ⟨W9, hW9⟩ : ∃ W9, W9 = ((((((((w4.setCell ⟨w.heap.size, 0, none⟩ (.int .i64 0)).setCell ⟨w.heap.size, 1, none⟩ (.string ⟨#[]⟩)).setCell ⟨w.heap.size, 2, none⟩ (.string ⟨#[]⟩)).setCell ⟨w.heap.size, 3, none⟩ (.string ⟨#[]⟩)).setCell ⟨w.heap.size, 4, none⟩ (.string ⟨#[]⟩)).setCell ⟨w.heap.size, 5, none⟩ (.int .i64 0)).setCell ⟨w.heap.size, 6, none⟩ (.int .i64 0)).setCell ⟨w.heap.size, 7, none⟩ (.string ⟨#[]⟩)) := ⟨_, rfl⟩
            rw [← hW9] at hp hx ⊢
            clear hW9 q0 q1 q2 q3 q4 q5 q6 q7 k0 k1 k2 k3 k4 k5 k6 k7
            obtain ⟨q0, q1, q2, q3, q4, q5, q6, q7⟩ := eight hp (Ext.rfl' _)
            exact bodyPost_ret (v := .tuple #[.agg #[.int .i64 0, .string ⟨#[]⟩, .string ⟨#[]⟩, .string ⟨#[]⟩, .string ⟨#[]⟩, .int .i64 0, .int .i64 0, .string ⟨#[]⟩], .int .i64 42]) (by simp [results, Tryd.results22, go_sem, q0, q1, q2, q3, q4, q5, q6, q7]) rfl ⟨ret_val (by rw [HV.out]; rfl), hx⟩
      · obtain rfl : z = 2 := hz
        have ix : ∀ w', (Instr.index 114 PV (.int .i64 2)).run Tryd.prog w' = .ok (.func (.func 109) #[] #[.pointer (some ⟨g + 2, 0, none⟩)]) w' := fun w' => by rw [HPV.out]; exact run_idx_arr (e := 113) (n := 8) (by kernel_rfl) (fun _ => rfl) (fun _ => rfl) (by decide) (by decide) rfl w'
        have hkk := HK.out 2 (by omega)
        have hbn : wr.cell? ⟨g + 2, 0, none⟩ = some (.pointer (some ⟨w.heap.size + 1, 2, none⟩)) := hI.cell (lt_of_cell hkk) (by omega) hkk
        have hjs := HS.out 2 _ rfl
        have hj : wr.cell? ⟨sb, 2, none⟩ = some (.string (str p2)) := hI.cell (lt_of_cell hjs) (by omega) hjs
        have HJ := Lib.hid hjs
        clear hkk hjs
        by_cases c0 : p2 = []
        · have HV := Lib.hid (HBAD.out (fun h => esc_ne (unL p2) (by have h1 : txtOk p2 := h 2 (by omega); unfold txtOk at h1; rw [h1]; exact c0)))
          rw [c0] at hj
          have C := Lib.hid (partT_no (g + 2) (w.heap.size + 1) 2 W2.heap.size w W2 wr (by omega) hI hbn rfl)
          go_wp2_with (go_at_call 109; refine C.out.mono ?_; rintro e w4 ⟨rfl, hI4⟩; have hj4 : w4.cell? ⟨sb, 2, none⟩ = some (.string (str p2)) := hI4.cell (lt_of_cell HJ.out) (by omega) HJ.out; have hxw4 := PEnd.all hx2.out hI4; have hrb := (hI4.1.2 w.heap.size (by omega) (by omega)).trans HR2.out; have HB := Lib.hid hrb; have k0 := frozen_hp (j := 0) HB.out; have k1 := frozen_hp (j := 1) HB.out; have k2 := frozen_hp (j := 2) HB.out; have k3 := frozen_hp (j := 3) HB.out; have k4 := frozen_hp (j := 4) HB.out; have k5 := frozen_hp (j := 5) HB.out; have k6 := frozen_hp (j := 6) HB.out; have k7 := frozen_hp (j := 7) HB.out; obtain ⟨q0, q1, q2, q3, q4, q5, q6, q7⟩ := eight HB.out (Ext.rfl' _))
          have hp := put8 HB.out (.int .i64 0) (.string ⟨#[]⟩) (.string ⟨#[]⟩) (.string ⟨#[]⟩) (.string ⟨#[]⟩) (.int .i64 0) (.int .i64 0) (.string ⟨#[]⟩)
          have hx := ext8 (b := w.heap.size) (Nat.le_refl _) hxw4 (.int .i64 0) (.string ⟨#[]⟩) (.string ⟨#[]⟩) (.string ⟨#[]⟩) (.string ⟨#[]⟩) (.int .i64 0) (.int .i64 0) (.string ⟨#[]⟩)
          obtain ⟨W9, hW9⟩ : ∃ W9, W9 = ((((((((w4.setCell ⟨w.heap.size, 0, none⟩ (.int .i64 0)).setCell ⟨w.heap.size, 1, none⟩ (.string ⟨#[]⟩)).setCell ⟨w.heap.size, 2, none⟩ (.string ⟨#[]⟩)).setCell ⟨w.heap.size, 3, none⟩ (.string ⟨#[]⟩)).setCell ⟨w.heap.size, 4, none⟩ (.string ⟨#[]⟩)).setCell ⟨w.heap.size, 5, none⟩ (.int .i64 0)).setCell ⟨w.heap.size, 6, none⟩ (.int .i64 0)).setCell ⟨w.heap.size, 7, none⟩ (.string ⟨#[]⟩)) := ⟨_, rfl⟩
          rw [← hW9] at hp hx ⊢
          clear hW9 q0 q1 q2 q3 q4 q5 q6 q7 k0 k1 k2 k3 k4 k5 k6 k7
          obtain ⟨q0, q1, q2, q3, q4, q5, q6, q7⟩ := eight hp (Ext.rfl' _)
          exact bodyPost_ret (v := .tuple #[.agg #[.int .i64 0, .string ⟨#[]⟩, .string ⟨#[]⟩, .string ⟨#[]⟩, .string ⟨#[]⟩, .int .i64 0, .int .i64 0, .string ⟨#[]⟩], .int .i64 42]) (by simp [results, Tryd.results22, go_sem, q0, q1, q2, q3, q4, q5, q6, q7]) rfl ⟨ret_val (by rw [HV.out]; rfl), hx⟩
        · have C := partT_ok (g + 2) (w.heap.size + 1) 2 W2.heap.size p2 [] w W2 wr (by omega) (by omega) (by omega) (by omega) c0 HE.out hx2.out hI hbn rfl
          by_cases cd : escL (unL p2) = p2
          · rw [cd, U2.out] at C
            have C := Lib.hid C
            go_wp2_with (go_at_call 109; refine C.out.mono ?_; rintro e w4 ⟨rfl, hI4⟩; have hj4 : w4.cell? ⟨sb, 2, none⟩ = some (.string (str p2)) := hI4.cell (lt_of_cell HJ.out) (by omega) HJ.out)
            go_roundw
            case rel => exact ⟨2 + 1, 2 + 1, rfl, by omega, by omega, okN_succ hok cd, hI4⟩
            case measure => simp [intOf]
          · have HV := Lib.hid (HBAD.out (fun h => cd (h 2 (by omega))))
            obtain ⟨q, hq⟩ : ∃ q, q = escL (unL p2) := ⟨_, rfl⟩
            rw [← hq] at C cd
            clear hq
            have d1 := strNA cd
            have d2 : (q == p2) = false := by rw [beq_eq_false_iff_ne]; exact cd
            have C := Lib.hid C
            go_wp2_with (go_at_call 109; refine C.out.mono ?_; rintro e w4 ⟨rfl, hI4⟩; have hj4 : w4.cell? ⟨sb, 2, none⟩ = some (.string (str p2)) := hI4.cell (lt_of_cell HJ.out) (by omega) HJ.out; have hxw4 := PEnd.all hx2.out hI4; have hrb := (hI4.1.2 w.heap.size (by omega) (by omega)).trans HR2.out; have HB := Lib.hid hrb; have k0 := frozen_hp (j := 0) HB.out; have k1 := frozen_hp (j := 1) HB.out; have k2 := frozen_hp (j := 2) HB.out; have k3 := frozen_hp (j := 3) HB.out; have k4 := frozen_hp (j := 4) HB.out; have k5 := frozen_hp (j := 5) HB.out; have k6 := frozen_hp (j := 6) HB.out; have k7 := frozen_hp (j := 7) HB.out; obtain ⟨q0, q1, q2, q3, q4, q5, q6, q7⟩ := eight HB.out (Ext.rfl' _))
            have hp := put8 HB.out (.int .i64 0) (.string ⟨#[]⟩) (.string ⟨#[]⟩) (.string ⟨#[]⟩) (.string ⟨#[]⟩) (.int .i64 0) (.int .i64 0) (.string ⟨#[]⟩)
            have hx := ext8 (b := w.heap.size) (Nat.le_refl _) hxw4 (.int .i64 0) (.string ⟨#[]⟩) (.string ⟨#[]⟩) (.string ⟨#[]⟩) (.string ⟨#[]⟩) (.int .i64 0) (.int .i64 0) (.string ⟨#[]⟩)
            obtain ⟨W9, hW9⟩ : ∃ W9, W9 = ((((((((w4.setCell ⟨w.heap.size, 0, none⟩ (.int .i64 0)).setCell ⟨w.heap.size, 1, none⟩ (.string ⟨#[]⟩)).setCell ⟨w.heap.size, 2, none⟩ (.string ⟨#[]⟩)).setCell ⟨w.heap.size, 3, none⟩ (.string ⟨#[]⟩)).setCell ⟨w.heap.size, 4, none⟩ (.string ⟨#[]⟩)).setCell ⟨w.heap.size, 5, none⟩ (.int .i64 0)).setCell ⟨w.heap.size, 6, none⟩ (.int .i64 0)).setCell ⟨w.heap.size, 7, none⟩ (.string ⟨#[]⟩)) := ⟨_, rfl⟩
            rw [← hW9] at hp hx ⊢
            clear hW9 q0 q1 q2 q3 q4 q5 q6 q7 k0 k1 k2 k3 k4 k5 k6 k7
            obtain ⟨q0, q1, q2, q3, q4, q5, q6, q7⟩ := eight hp (Ext.rfl' _)
            exact bodyPost_ret (v := .tuple #[.agg #[.int .i64 0, .string ⟨#[]⟩, .string ⟨#[]⟩, .string ⟨#[]⟩, .string ⟨#[]⟩, .int .i64 0, .int .i64 0, .string ⟨#[]⟩], .int .i64 42]) (by simp [results, Tryd.results22, go_sem, q0, q1, q2, q3, q4, q5, q6, q7]) rfl ⟨ret_val (by rw [HV.out]; rfl), hx⟩
      · obtain rfl : z = 3 := hz
        have ix : ∀ w', (Instr.index 114 PV (.int .i64 3)).run Tryd.prog w' = .ok (.func (.func 109) #[] #[.pointer (some ⟨g + 3, 0, none⟩)]) w' := fun w' => by rw [HPV.out]; exact run_idx_arr (e := 113) (n := 8) (by kernel_rfl) (fun _ => rfl) (fun _ => rfl) (by decide) (by decide) rfl w'
        have hkk := HK.out 3 (by omega)
        have hbn : wr.cell? ⟨g + 3, 0, none⟩ = some (.pointer (some ⟨w.heap.size + 1, 3, none⟩)) := hI.cell (lt_of_cell hkk) (by omega) hkk
        have hjs := HS.out 3 _ rfl
        have hj : wr.cell? ⟨sb, 3, none⟩ = some (.string (str p3)) := hI.cell (lt_of_cell hjs) (by omega) hjs
        have HJ := Lib.hid hjs
        clear hkk hjs
        by_cases c0 : p3 = []
        · have HV := Lib.hid (HBAD.out (fun h => esc_ne (unL p3) (by have h1 : txtOk p3 := h 3 (by omega); unfold txtOk at h1; rw [h1]; exact c0)))
          rw [c0] at hj
          have C := Lib.hid (partT_no (g + 3) (w.heap.size + 1) 3 W2.heap.size w W2 wr (by omega) hI hbn rfl)
          go_wp2_with (go_at_call 109; refine C.out.mono ?_; rintro e w4 ⟨rfl, hI4⟩; have hj4 : w4.cell? ⟨sb, 3, none⟩ = some (.string (str p3)) := hI4.cell (lt_of_cell HJ.out) (by omega) HJ.out; have hxw4 := PEnd.all hx2.out hI4; have hrb := (hI4.1.2 w.heap.size (by omega) (by omega)).trans HR2.out; have HB := Lib.hid hrb; have k0 := frozen_hp (j := 0) HB.out; have k1 := frozen_hp (j := 1) HB.out; have k2 := frozen_hp (j := 2) HB.out; have k3 := frozen_hp (j := 3) HB.out; have k4 := frozen_hp (j := 4) HB.out; have k5 := frozen_hp (j := 5) HB.out; have k6 := frozen_hp (j := 6) HB.out; have k7 := frozen_hp (j := 7) HB.out; obtain ⟨q0, q1, q2, q3, q4, q5, q6, q7⟩ := eight HB.out (Ext.rfl' _))
          have hp := put8 HB.out (.int .i64 0) (.string ⟨#[]⟩) (.string ⟨#[]⟩) (.string ⟨#[]⟩) (.string ⟨#[]⟩) (.int .i64 0) (.int .i64 0) (.string ⟨#[]⟩)
          have hx := ext8 (b := w.heap.size) (Nat.le_refl _) hxw4 (.int .i64 0) (.string ⟨#[]⟩) (.string ⟨#[]⟩) (.string ⟨#[]⟩) (.string ⟨#[]⟩) (.int .i64 0) (.int .i64 0) (.string ⟨#[]⟩)
          obtain ⟨W9, hW9⟩ : ∃ W9, W9 = ((((((((w4.setCell ⟨w.heap.size, 0, none⟩ (.int .i64 0)).setCell ⟨w.heap.size, 1, none⟩ (.string ⟨#[]⟩)).setCell ⟨w.heap.size, 2, none⟩ (.string ⟨#[]⟩)).setCell ⟨w.heap.size, 3, none⟩ (.string ⟨#[]⟩)).setCell ⟨w.heap.size, 4, none⟩ (.string ⟨#[]⟩)).setCell ⟨w.heap.size, 5, none⟩ (.int .i64 0)).setCell ⟨w.heap.size, 6, none⟩ (.int .i64 0)).setCell ⟨w.heap.size, 7, none⟩ (.string ⟨#[]⟩)) := ⟨_, rfl⟩
          rw [← hW9] at hp hx ⊢
          clear hW9 q0 q1 q2 q3 q4 q5 q6 q7 k0 k1 k2 k3 k4 k5 k6 k7
          obtain ⟨q0, q1, q2, q3, q4, q5, q6, q7⟩ := eight hp (Ext.rfl' _)
          exact bodyPost_ret (v := .tuple #[.agg #[.int .i64 0, .string ⟨#[]⟩, .string ⟨#[]⟩, .string ⟨#[]⟩, .string ⟨#[]⟩, .int .i64 0, .int .i64 0, .string ⟨#[]⟩], .int .i64 42]) (by simp [results, Tryd.results22, go_sem, q0, q1, q2, q3, q4, q5, q6, q7]) rfl ⟨ret_val (by rw [HV.out]; rfl), hx⟩
        · have C := partT_ok (g + 3) (w.heap.size + 1) 3 W2.heap.size p3 [] w W2 wr (by omega) (by omega) (by omega) (by omega) c0 HE.out hx2.out hI hbn rfl
          by_cases cd : escL (unL p3) = p3
          · rw [cd, U3.out] at C
            have C := Lib.hid C
            go_wp2_with (go_at_call 109; refine C.out.mono ?_; rintro e w4 ⟨rfl, hI4⟩; have hj4 : w4.cell? ⟨sb, 3, none⟩ = some (.string (str p3)) := hI4.cell (lt_of_cell HJ.out) (by omega) HJ.out)
            go_roundw
            case rel => exact ⟨3 + 1, 3 + 1, rfl, by omega, by omega, okN_succ hok cd, hI4⟩
            case measure => simp [intOf]
          · have HV := Lib.hid (HBAD.out (fun h => cd (h 3 (by omega))))
            obtain ⟨q, hq⟩ : ∃ q, q = escL (unL p3) := ⟨_, rfl⟩
            rw [← hq] at C cd
            clear hq
            have d1 := strNA cd
            have d2 : (q == p3) = false := by rw [beq_eq_false_iff_ne]; exact cd
            have C := Lib.hid C
            go_wp2_with (go_at_call 109; refine C.out.mono ?_; rintro e w4 ⟨rfl, hI4⟩; have hj4 : w4.cell? ⟨sb, 3, none⟩ = some (.string (str p3)) := hI4.cell (lt_of_cell HJ.out) (by omega) HJ.out; have hxw4 := PEnd.all hx2.out hI4; have hrb := (hI4.1.2 w.heap.size (by omega) (by omega)).trans HR2.out; have HB := Lib.hid hrb; have k0 := frozen_hp (j := 0) HB.out; have k1 := frozen_hp (j := 1) HB.out; have k2 := frozen_hp (j := 2) HB.out; have k3 := frozen_hp (j := 3) HB.out; have k4 := frozen_hp (j := 4) HB.out; have k5 := frozen_hp (j := 5) HB.out; have k6 := frozen_hp (j := 6) HB.out; have k7 := frozen_hp (j := 7) HB.out; obtain ⟨q0, q1, q2, q3, q4, q5, q6, q7⟩ := eight HB.out (Ext.rfl' _))
            have hp := put8 HB.out (.int .i64 0) (.string ⟨#[]⟩) (.string ⟨#[]⟩) (.string ⟨#[]⟩) (.string ⟨#[]⟩) (.int .i64 0) (.int .i64 0) (.string ⟨#[]⟩)
            have hx := ext8 (b := w.heap.size) (Nat.le_refl _) hxw4 (.int .i64 0) (.string ⟨#[]⟩) (.string ⟨#[]⟩) (.string ⟨#[]⟩) (.string ⟨#[]⟩) (.int .i64 0) (.int .i64 0) (.string ⟨#[]⟩)
            obtain ⟨W9, hW9⟩ : ∃ W9, W9 = ((((((((w4.setCell ⟨w.heap.size, 0, none⟩ (.int .i64 0)).setCell ⟨w.heap.size, 1, none⟩ (.string ⟨#[]⟩)).setCell ⟨w.heap.size, 2, none⟩ (.string ⟨#[]⟩)).setCell ⟨w.heap.size, 3, none⟩ (.string ⟨#[]⟩)).setCell ⟨w.heap.size, 4, none⟩ (.string ⟨#[]⟩)).setCell ⟨w.heap.size, 5, none⟩ (.int .i64 0)).setCell ⟨w.heap.size, 6, none⟩ (.int .i64 0)).setCell ⟨w.heap.size, 7, none⟩ (.string ⟨#[]⟩)) := ⟨_, rfl⟩
            rw [← hW9] at hp hx ⊢
            clear hW9 q0 q1 q2 q3 q4 q5 q6 q7 k0 k1 k2 k3 k4 k5 k6 k7
            obtain ⟨q0, q1, q2, q3, q4, q5, q6, q7⟩ := eight hp (Ext.rfl' _)
            exact bodyPost_ret (v := .tuple #[.agg #[.int .i64 0, .string ⟨#[]⟩, .string ⟨#[]⟩, .string ⟨#[]⟩, .string ⟨#[]⟩, .int .i64 0, .int .i64 0, .string ⟨#[]⟩], .int .i64 42]) (by simp [results, Tryd.results22, go_sem, q0, q1, q2, q3, q4, q5, q6, q7]) rfl ⟨ret_val (by rw [HV.out]; rfl), hx⟩
      · obtain rfl : z = 4 := hz
        have ix : ∀ w', (Instr.index 114 PV (.int .i64 4)).run Tryd.prog w' = .ok (.func (.func 109) #[] #[.pointer (some ⟨g + 4, 0, none⟩)]) w' := fun w' => by rw [HPV.out]; exact run_idx_arr (e := 113) (n := 8) (by kernel_rfl) (fun _ => rfl) (fun _ => rfl) (by decide) (by decide) rfl w'
        have hkk := HK.out 4 (by omega)
        have hbn : wr.cell? ⟨g + 4, 0, none⟩ = some (.pointer (some ⟨w.heap.size + 1, 4, none⟩)) := hI.cell (lt_of_cell hkk) (by omega) hkk
        have hjs := HS.out 4 _ rfl
        have hj : wr.cell? ⟨sb, 4, none⟩ = some (.string (str p4)) := hI.cell (lt_of_cell hjs) (by omega) hjs
        have HJ := Lib.hid hjs
        clear hkk hjs
        by_cases c0 : p4 = []
        · have HV := Lib.hid (HBAD.out (fun h => esc_ne (unL p4) (by have h1 : txtOk p4 := h 4 (by omega); unfold txtOk at h1; rw [h1]; exact c0)))
          rw [c0] at hj
          have C := Lib.hid (partT_no (g + 4) (w.heap.size + 1) 4 W2.heap.size w W2 wr (by omega) hI hbn rfl)
          go_wp2_with (go_at_call 109; refine C.out.mono ?_; rintro e w4 ⟨rfl, hI4⟩; have hj4 : w4.cell? ⟨sb, 4, none⟩ = some (.string (str p4)) := hI4.cell (lt_of_cell HJ.out) (by omega) HJ.out; have hxw4 := PEnd.all hx2.out hI4; have hrb := (hI4.1.2 w.heap.size (by omega) (by omega)).trans HR2.out; have HB := Lib.hid hrb; have k0 := frozen_hp (j := 0) HB.out; have k1 := frozen_hp (j := 1) HB.out; have k2 := frozen_hp (j := 2) HB.out; have k3 := frozen_hp (j := 3) HB.out; have k4 := frozen_hp (j := 4) HB.out; have k5 := frozen_hp (j := 5) HB.out; have k6 := frozen_hp (j := 6) HB.out; have k7 := frozen_hp (j := 7) HB.out; obtain ⟨q0, q1, q2, q3, q4, q5, q6, q7⟩ := eight HB.out (Ext.rfl' _))
          have hp := put8 HB.out (.int .i64 0) (.string ⟨#[]⟩) (.string ⟨#[]⟩) (.string ⟨#[]⟩) (.string ⟨#[]⟩) (.int .i64 0) (.int .i64 0) (.string ⟨#[]⟩)
          have hx := ext8 (b := w.heap.size) (Nat.le_refl _) hxw4 (.int .i64 0) (.string ⟨#[]⟩) (.string ⟨#[]⟩) (.string ⟨#[]⟩) (.string ⟨#[]⟩) (.int .i64 0) (.int .i64 0) (.string ⟨#[]⟩)
          obtain ⟨W9, hW9⟩ : ∃ W9, W9 = ((((((((w4.setCell ⟨w.heap.size, 0, none⟩ (.int .i64 0)).setCell ⟨w.heap.size, 1, none⟩ (.string ⟨#[]⟩)).setCell ⟨w.heap.size, 2, none⟩ (.string ⟨#[]⟩)).setCell ⟨w.heap.size, 3, none⟩ (.string ⟨#[]⟩)).setCell ⟨w.heap.size, 4, none⟩ (.string ⟨#[]⟩)).setCell ⟨w.heap.size, 5, none⟩ (.int .i64 0)).setCell ⟨w.heap.size, 6, none⟩ (.int .i64 0)).setCell ⟨w.heap.size, 7, none⟩ (.string ⟨#[]⟩)) := ⟨_, rfl⟩
          rw [← hW9] at hp hx ⊢
          clear hW9 q0 q1 q2 q3 q4 q5 q6 q7 k0 k1 k2 k3 k4 k5 k6 k7
          obtain ⟨q0, q1, q2, q3, q4, q5, q6, q7⟩ := eight hp (Ext.rfl' _)
          exact bodyPost_ret (v := .tuple #[.agg #[.int .i64 0, .string ⟨#[]⟩, .string ⟨#[]⟩, .string ⟨#[]⟩, .string ⟨#[]⟩, .int .i64 0, .int .i64 0, .string ⟨#[]⟩], .int .i64 42]) (by simp [results, Tryd.results22, go_sem, q0, q1, q2, q3, q4, q5, q6, q7]) rfl ⟨ret_val (by rw [HV.out]; rfl), hx⟩
        · have C := partT_ok (g + 4) (w.heap.size + 1) 4 W2.heap.size p4 [] w W2 wr (by omega) (by omega) (by omega) (by omega) c0 HE.out hx2.out hI hbn rfl
          by_cases cd : escL (unL p4) = p4
          · rw [cd, U4.out] at C
            have C := Lib.hid C
            go_wp2_with (go_at_call 109; refine C.out.mono ?_; rintro e w4 ⟨rfl, hI4⟩; have hj4 : w4.cell? ⟨sb, 4, none⟩ = some (.string (str p4)) := hI4.cell (lt_of_cell HJ.out) (by omega) HJ.out)
            go_roundw
            case rel => exact ⟨4 + 1, 4 + 1, rfl, by omega, by omega, okN_succ hok cd, hI4⟩
            case measure => simp [intOf]
          · have HV := Lib.hid (HBAD.out (fun h => cd (h 4 (by omega))))
            obtain ⟨q, hq⟩ : ∃ q, q = escL (unL p4) := ⟨_, rfl⟩
            rw [← hq] at C cd
            clear hq
            have d1 := strNA cd
            have d2 : (q == p4) = false := by rw [beq_eq_false_iff_ne]; exact cd
            have C := Lib.hid C
            go_wp2_with (go_at_call 109; refine C.out.mono ?_; rintro e w4 ⟨rfl, hI4⟩; have hj4 : w4.cell? ⟨sb, 4, none⟩ = some (.string (str p4)) := hI4.cell (lt_of_cell HJ.out) (by omega) HJ.out; have hxw4 := PEnd.all hx2.out hI4; have hrb := (hI4.1.2 w.heap.size (by omega) (by omega)).trans HR2.out; have HB := Lib.hid hrb; have k0 := frozen_hp (j := 0) HB.out; have k1 := frozen_hp (j := 1) HB.out; have k2 := frozen_hp (j := 2) HB.out; have k3 := frozen_hp (j := 3) HB.out; have k4 := frozen_hp (j := 4) HB.out; have k5 := frozen_hp (j := 5) HB.out; have k6 := frozen_hp (j := 6) HB.out; have k7 := frozen_hp (j := 7) HB.out; obtain ⟨q0, q1, q2, q3, q4, q5, q6, q7⟩ := eight HB.out (Ext.rfl' _))
            have hp := put8 HB.out (.int .i64 0) (.string ⟨#[]⟩) (.string ⟨#[]⟩) (.string ⟨#[]⟩) (.string ⟨#[]⟩) (.int .i64 0) (.int .i64 0) (.string ⟨#[]⟩)
            have hx := ext8 (b := w.heap.size) (Nat.le_refl _) hxw4 (.int .i64 0) (.string ⟨#[]⟩) (.string ⟨#[]⟩) (.string ⟨#[]⟩) (.string ⟨#[]⟩) (.int .i64 0) (.int .i64 0) (.string ⟨#[]⟩)
            obtain ⟨W9, hW9⟩ : ∃ W9, W9 = ((((((((w4.setCell ⟨w.heap.size, 0, none⟩ (.int .i64 0)).setCell ⟨w.heap.size, 1, none⟩ (.string ⟨#[]⟩)).setCell ⟨w.heap.size, 2, none⟩ (.string ⟨#[]⟩)).setCell ⟨w.heap.size, 3, none⟩ (.string ⟨#[]⟩)).setCell ⟨w.heap.size, 4, none⟩ (.string ⟨#[]⟩)).setCell ⟨w.heap.size, 5, none⟩ (.int .i64 0)).setCell ⟨w.heap.size, 6, none⟩ (.int .i64 0)).setCell ⟨w.heap.size, 7, none⟩ (.string ⟨#[]⟩)) := ⟨_, rfl⟩
            rw [← hW9] at hp hx ⊢
            clear hW9 q0 q1 q2 q3 q4 q5 q6 q7 k0 k1 k2 k3 k4 k5 k6 k7
            obtain ⟨q0, q1, q2, q3, q4, q5, q6, q7⟩ := eight hp (Ext.rfl' _)
            exact bodyPost_ret (v := .tuple #[.agg #[.int .i64 0, .string ⟨#[]⟩, .string ⟨#[]⟩, .string ⟨#[]⟩, .string ⟨#[]⟩, .int .i64 0, .int .i64 0, .string ⟨#[]⟩], .int .i64 42]) (by simp [results, Tryd.results22, go_sem, q0, q1, q2, q3, q4, q5, q6, q7]) rfl ⟨ret_val (by rw [HV.out]; rfl), hx⟩
      · obtain rfl : z = 5 := hz
        have ix : ∀ w', (Instr.index 114 PV (.int .i64 5)).run Tryd.prog w' = .ok (.func (.func 106) #[] #[.pointer (some ⟨g + 5, 0, none⟩)]) w' := fun w' => by rw [HPV.out]; exact run_idx_arr (e := 113) (n := 8) (by kernel_rfl) (fun _ => rfl) (fun _ => rfl) (by decide) (by decide) rfl w'
        have hkk := HK.out 5 (by omega)
        have hbn : wr.cell? ⟨g + 5, 0, none⟩ = some (.pointer (some ⟨w.heap.size + 1, 5, none⟩)) := hI.cell (lt_of_cell hkk) (by omega) hkk
        have hjs := HS.out 5 _ rfl
        have hj : wr.cell? ⟨sb, 5, none⟩ = some (.string (str p5)) := hI.cell (lt_of_cell hjs) (by omega) hjs
        have HJ := Lib.hid hjs
        clear hkk hjs
        by_cases ce : e5 = 0
        · have hv : numL 10 1000000000000000000 p5 = (n5, 0) := by rw [H5.out, ce]
          have hbd : 0 ≤ n5 ∧ n5 ≤ 1000000000000000000 := by have := num_bd p5; unfold numW at this; rw [hv] at this; exact this
          have C := partN_ok (g + 5) (w.heap.size + 1) 5 W2.heap.size p5 n5 0 w W2 wr (by omega) (by omega) (by omega) (by omega) hv hbd.1 hbd.2 HE.out HP.out hx2.out hI hbn rfl
          by_cases cd : digL n5 = p5
          · rw [cd] at C
            have C := Lib.hid C
            go_wp2_with (go_at_call 106; refine C.out.mono ?_; rintro e w4 ⟨rfl, hI4⟩; have hj4 : w4.cell? ⟨sb, 5, none⟩ = some (.string (str p5)) := hI4.cell (lt_of_cell HJ.out) (by omega) HJ.out)
            go_roundw
            case rel => exact ⟨5 + 1, 5 + 1, rfl, by omega, by omega, okN_succ hok ⟨by unfold numW; rw [hv], by unfold numW; rw [hv]; exact cd⟩, hI4⟩
            case measure => simp [intOf]
          · have HV := Lib.hid (HBAD.out (fun h => cd (by have h1 : numOk p5 := h 5 (by omega); have h2 := h1.2; unfold numW at h2; rw [hv] at h2; exact h2)))
            obtain ⟨q, hq⟩ : ∃ q, q = digL n5 := ⟨_, rfl⟩
            rw [← hq] at C cd
            clear hq
            have d1 := strNA cd
            have d2 : (q == p5) = false := by rw [beq_eq_false_iff_ne]; exact cd
            have C := Lib.hid C
            go_wp2_with (go_at_call 106; refine C.out.mono ?_; rintro e w4 ⟨rfl, hI4⟩; have hj4 : w4.cell? ⟨sb, 5, none⟩ = some (.string (str p5)) := hI4.cell (lt_of_cell HJ.out) (by omega) HJ.out; have hxw4 := PEnd.all hx2.out hI4; have hrb := (hI4.1.2 w.heap.size (by omega) (by omega)).trans HR2.out; have HB := Lib.hid hrb; have k0 := frozen_hp (j := 0) HB.out; have k1 := frozen_hp (j := 1) HB.out; have k2 := frozen_hp (j := 2) HB.out; have k3 := frozen_hp (j := 3) HB.out; have k4 := frozen_hp (j := 4) HB.out; have k5 := frozen_hp (j := 5) HB.out; have k6 := frozen_hp (j := 6) HB.out; have k7 := frozen_hp (j := 7) HB.out; obtain ⟨q0, q1, q2, q3, q4, q5, q6, q7⟩ := eight HB.out (Ext.rfl' _))
            have hp := put8 HB.out (.int .i64 0) (.string ⟨#[]⟩) (.string ⟨#[]⟩) (.string ⟨#[]⟩) (.string ⟨#[]⟩) (.int .i64 0) (.int .i64 0) (.string ⟨#[]⟩)
            have hx := ext8 (b := w.heap.size) (Nat.le_refl _) hxw4 (.int .i64 0) (.string ⟨#[]⟩) (.string ⟨#[]⟩) (.string ⟨#[]⟩) (.string ⟨#[]⟩) (.int .i64 0) (.int .i64 0) (.string ⟨#[]⟩)
            obtain ⟨W9, hW9⟩ : ∃ W9, W9 = ((((((((w4.setCell ⟨w.heap.size, 0, none⟩ (.int .i64 0)).setCell ⟨w.heap.size, 1, none⟩ (.string ⟨#[]⟩)).setCell ⟨w.heap.size, 2, none⟩ (.string ⟨#[]⟩)).setCell ⟨w.heap.size, 3, none⟩ (.string ⟨#[]⟩)).setCell ⟨w.heap.size, 4, none⟩ (.string ⟨#[]⟩)).setCell ⟨w.heap.size, 5, none⟩ (.int .i64 0)).setCell ⟨w.heap.size, 6, none⟩ (.int .i64 0)).setCell ⟨w.heap.size, 7, none⟩ (.string ⟨#[]⟩)) := ⟨_, rfl⟩
            rw [← hW9] at hp hx ⊢
            clear hW9 q0 q1 q2 q3 q4 q5 q6 q7 k0 k1 k2 k3 k4 k5 k6 k7
            obtain ⟨q0, q1, q2, q3, q4, q5, q6, q7⟩ := eight hp (Ext.rfl' _)
            exact bodyPost_ret (v := .tuple #[.agg #[.int .i64 0, .string ⟨#[]⟩, .string ⟨#[]⟩, .string ⟨#[]⟩, .string ⟨#[]⟩, .int .i64 0, .int .i64 0, .string ⟨#[]⟩], .int .i64 42]) (by simp [results, Tryd.results22, go_sem, q0, q1, q2, q3, q4, q5, q6, q7]) rfl ⟨ret_val (by rw [HV.out]; rfl), hx⟩
        · have C := Lib.hid (partN_no (g + 5) (w.heap.size + 1) 5 W2.heap.size p5 n5 e5 w W2 wr (by omega) (by omega) H5.out ce HE.out HP.out hx2.out hI hbn rfl)
          have HV := Lib.hid (HBAD.out (fun h => ce (by have h1 : numOk p5 := h 5 (by omega); have h2 := h1.1; unfold numW at h2; rw [H5.out] at h2; exact h2)))
          go_wp2_with (go_at_call 106; refine C.out.mono ?_; rintro e w4 ⟨rfl, hI4⟩; have hj4 : w4.cell? ⟨sb, 5, none⟩ = some (.string (str p5)) := hI4.cell (lt_of_cell HJ.out) (by omega) HJ.out; have hxw4 := PEnd.all hx2.out hI4; have hrb := (hI4.1.2 w.heap.size (by omega) (by omega)).trans HR2.out; have HB := Lib.hid hrb; have k0 := frozen_hp (j := 0) HB.out; have k1 := frozen_hp (j := 1) HB.out; have k2 := frozen_hp (j := 2) HB.out; have k3 := frozen_hp (j := 3) HB.out; have k4 := frozen_hp (j := 4) HB.out; have k5 := frozen_hp (j := 5) HB.out; have k6 := frozen_hp (j := 6) HB.out; have k7 := frozen_hp (j := 7) HB.out; obtain ⟨q0, q1, q2, q3, q4, q5, q6, q7⟩ := eight HB.out (Ext.rfl' _))
          have hp := put8 HB.out (.int .i64 0) (.string ⟨#[]⟩) (.string ⟨#[]⟩) (.string ⟨#[]⟩) (.string ⟨#[]⟩) (.int .i64 0) (.int .i64 0) (.string ⟨#[]⟩)
          have hx := ext8 (b := w.heap.size) (Nat.le_refl _) hxw4 (.int .i64 0) (.string ⟨#[]⟩) (.string ⟨#[]⟩) (.string ⟨#[]⟩) (.string ⟨#[]⟩) (.int .i64 0) (.int .i64 0) (.string ⟨#[]⟩)
          obtain ⟨W9, hW9⟩ : ∃ W9, W9 = ((((((((w4.setCell ⟨w.heap.size, 0, none⟩ (.int .i64 0)).setCell ⟨w.heap.size, 1, none⟩ (.string ⟨#[]⟩)).setCell ⟨w.heap.size, 2, none⟩ (.string ⟨#[]⟩)).setCell ⟨w.heap.size, 3, none⟩ (.string ⟨#[]⟩)).setCell ⟨w.heap.size, 4, none⟩ (.string ⟨#[]⟩)).setCell ⟨w.heap.size, 5, none⟩ (.int .i64 0)).setCell ⟨w.heap.size, 6, none⟩ (.int .i64 0)).setCell ⟨w.heap.size, 7, none⟩ (.string ⟨#[]⟩)) := ⟨_, rfl⟩
          rw [← hW9] at hp hx ⊢
          clear hW9 q0 q1 q2 q3 q4 q5 q6 q7 k0 k1 k2 k3 k4 k5 k6 k7
          obtain ⟨q0, q1, q2, q3, q4, q5, q6, q7⟩ := eight hp (Ext.rfl' _)
          exact bodyPost_ret (v := .tuple #[.agg #[.int .i64 0, .string ⟨#[]⟩, .string ⟨#[]⟩, .string ⟨#[]⟩, .string ⟨#[]⟩, .int .i64 0, .int .i64 0, .string ⟨#[]⟩], .int .i64 42]) (by simp [results, Tryd.results22, go_sem, q0, q1, q2, q3, q4, q5, q6, q7]) rfl ⟨ret_val (by rw [HV.out]; rfl), hx⟩
      · obtain rfl : z = 6 := hz
        have ix : ∀ w', (Instr.index 114 PV (.int .i64 6)).run Tryd.prog w' = .ok (.func (.func 106) #[] #[.pointer (some ⟨g + 6, 0, none⟩)]) w' := fun w' => by rw [HPV.out]; exact run_idx_arr (e := 113) (n := 8) (by kernel_rfl) (fun _ => rfl) (fun _ => rfl) (by decide) (by decide) rfl w'
        have hkk := HK.out 6 (by omega)
        have hbn : wr.cell? ⟨g + 6, 0, none⟩ = some (.pointer (some ⟨w.heap.size + 1, 6, none⟩)) := hI.cell (lt_of_cell hkk) (by omega) hkk
        have hjs := HS.out 6 _ rfl
        have hj : wr.cell? ⟨sb, 6, none⟩ = some (.string (str p6)) := hI.cell (lt_of_cell hjs) (by omega) hjs
        have HJ := Lib.hid hjs
        clear hkk hjs
        by_cases ce : e6 = 0
        · have hv : numL 10 1000000000000000000 p6 = (n6, 0) := by rw [H6.out, ce]
          have hbd : 0 ≤ n6 ∧ n6 ≤ 1000000000000000000 := by have := num_bd p6; unfold numW at this; rw [hv] at this; exact this
          have C := partN_ok (g + 6) (w.heap.size + 1) 6 W2.heap.size p6 n6 0 w W2 wr (by omega) (by omega) (by omega) (by omega) hv hbd.1 hbd.2 HE.out HP.out hx2.out hI hbn rfl
          by_cases cd : digL n6 = p6
          · rw [cd] at C
            have C := Lib.hid C
            go_wp2_with (go_at_call 106; refine C.out.mono ?_; rintro e w4 ⟨rfl, hI4⟩; have hj4 : w4.cell? ⟨sb, 6, none⟩ = some (.string (str p6)) := hI4.cell (lt_of_cell HJ.out) (by omega) HJ.out)
            go_roundw
            case rel => exact ⟨6 + 1, 6 + 1, rfl, by omega, by omega, okN_succ hok ⟨by unfold numW; rw [hv], by unfold numW; rw [hv]; exact cd⟩, hI4⟩
            case measure => simp [intOf]
          · have HV := Lib.hid (HBAD.out (fun h => cd (by have h1 : numOk p6 := h 6 (by omega); have h2 := h1.2; unfold numW at h2; rw [hv] at h2; exact h2)))
            obtain ⟨q, hq⟩ : ∃ q, q = digL n6 := ⟨_, rfl⟩
            rw [← hq] at C cd
            clear hq
            have d1 := strNA cd
            have d2 : (q == p6) = false := by rw [beq_eq_false_iff_ne]; exact cd
            have C := Lib.hid C
            go_wp2_with (go_at_call 106; refine C.out.mono ?_; rintro e w4 ⟨rfl, hI4⟩; have hj4 : w4.cell? ⟨sb, 6, none⟩ = some (.string (str p6)) := hI4.cell (lt_of_cell HJ.out) (by omega) HJ.out; have hxw4 := PEnd.all hx2.out hI4; have hrb := (hI4.1.2 w.heap.size (by omega) (by omega)).trans HR2.out; have HB := Lib.hid hrb; have k0 := frozen_hp (j := 0) HB.out; have k1 := frozen_hp (j := 1) HB.out; have k2 := frozen_hp (j := 2) HB.out; have k3 := frozen_hp (j := 3) HB.out; have k4 := frozen_hp (j := 4) HB.out; have k5 := frozen_hp (j := 5) HB.out; have k6 := frozen_hp (j := 6) HB.out; have k7 := frozen_hp (j := 7) HB.out; obtain ⟨q0, q1, q2, q3, q4, q5, q6, q7⟩ := eight HB.out (Ext.rfl' _))
            have hp := put8 HB.out (.int .i64 0) (.string ⟨#[]⟩) (.string ⟨#[]⟩) (.string ⟨#[]⟩) (.string ⟨#[]⟩) (.int .i64 0) (.int .i64 0) (.string ⟨#[]⟩)
            have hx := ext8 (b := w.heap.size) (Nat.le_refl _) hxw4 (.int .i64 0) (.string ⟨#[]⟩) (.string ⟨#[]⟩) (.string ⟨#[]⟩) (.string ⟨#[]⟩) (.int .i64 0) (.int .i64 0) (.string ⟨#[]⟩)
            obtain ⟨W9, hW9⟩ : ∃ W9, W9 = ((((((((w4.setCell ⟨w.heap.size, 0, none⟩ (.int .i64 0)).setCell ⟨w.heap.size, 1, none⟩ (.string ⟨#[]⟩)).setCell ⟨w.heap.size, 2, none⟩ (.string ⟨#[]⟩)).setCell ⟨w.heap.size, 3, none⟩ (.string ⟨#[]⟩)).setCell ⟨w.heap.size, 4, none⟩ (.string ⟨#[]⟩)).setCell ⟨w.heap.size, 5, none⟩ (.int .i64 0)).setCell ⟨w.heap.size, 6, none⟩ (.int .i64 0)).setCell ⟨w.heap.size, 7, none⟩ (.string ⟨#[]⟩)) := ⟨_, rfl⟩
            rw [← hW9] at hp hx ⊢
            clear hW9 q0 q1 q2 q3 q4 q5 q6 q7 k0 k1 k2 k3 k4 k5 k6 k7
            obtain ⟨q0, q1, q2, q3, q4, q5, q6, q7⟩ := eight hp (Ext.rfl' _)
            exact bodyPost_ret (v := .tuple #[.agg #[.int .i64 0, .string ⟨#[]⟩, .string ⟨#[]⟩, .string ⟨#[]⟩, .string ⟨#[]⟩, .int .i64 0, .int .i64 0, .string ⟨#[]⟩], .int .i64 42]) (by simp [results, Tryd.results22, go_sem, q0, q1, q2, q3, q4, q5, q6, q7]) rfl ⟨ret_val (by rw [HV.out]; rfl), hx⟩
        · have C := Lib.hid (partN_no (g + 6) (w.heap.size + 1) 6 W2.heap.size p6 n6 e6 w W2 wr (by omega) (by omega) H6.out ce HE.out HP.out hx2.out hI hbn rfl)
          have HV := Lib.hid (HBAD.out (fun h => ce (by have h1 : numOk p6 := h 6 (by omega); have h2 := h1.1; unfold numW at h2; rw [H6.out] at h2; exact h2)))
          go_wp2_with (go_at_call 106; refine C.out.mono ?_; rintro e w4 ⟨rfl, hI4⟩; have hj4 : w4.cell? ⟨sb, 6, none⟩ = some (.string (str p6)) := hI4.cell (lt_of_cell HJ.out) (by omega) HJ.out; have hxw4 := PEnd.all hx2.out hI4; have hrb := (hI4.1.2 w.heap.size (by omega) (by omega)).trans HR2.out; have HB := Lib.hid hrb; have k0 := frozen_hp (j := 0) HB.out; have k1 := frozen_hp (j := 1) HB.out; have k2 := frozen_hp (j := 2) HB.out; have k3 := frozen_hp (j := 3) HB.out; have k4 := frozen_hp (j := 4) HB.out; have k5 := frozen_hp (j := 5) HB.out; have k6 := frozen_hp (j := 6) HB.out; have k7 := frozen_hp (j := 7) HB.out; obtain ⟨q0, q1, q2, q3, q4, q5, q6, q7⟩ := eight HB.out (Ext.rfl' _))
          have hp := put8 HB.out (.int .i64 0) (.string ⟨#[]⟩) (.string ⟨#[]⟩) (.string ⟨#[]⟩) (.string ⟨#[]⟩) (.int .i64 0) (.int .i64 0) (.string ⟨#[]⟩)
          have hx := ext8 (b := w.heap.size) (Nat.le_refl _) hxw4 (.int .i64 0) (.string ⟨#[]⟩) (.string ⟨#[]⟩) (.string ⟨#[]⟩) (.string ⟨#[]⟩) (.int .i64 0) (.int .i64 0) (.string ⟨#[]⟩)
          obtain ⟨W9, hW9⟩ : ∃ W9, W9 = ((((((((w4.setCell ⟨w.heap.size, 0, none⟩ (.int .i64 0)).setCell ⟨w.heap.size, 1, none⟩ (.string ⟨#[]⟩)).setCell ⟨w.heap.size, 2, none⟩ (.string ⟨#[]⟩)).setCell ⟨w.heap.size, 3, none⟩ (.string ⟨#[]⟩)).setCell ⟨w.heap.size, 4, none⟩ (.string ⟨#[]⟩)).setCell ⟨w.heap.size, 5, none⟩ (.int .i64 0)).setCell ⟨w.heap.size, 6, none⟩ (.int .i64 0)).setCell ⟨w.heap.size, 7, none⟩ (.string ⟨#[]⟩)) := ⟨_, rfl⟩
          rw [← hW9] at hp hx ⊢
          clear hW9 q0 q1 q2 q3 q4 q5 q6 q7 k0 k1 k2 k3 k4 k5 k6 k7
          obtain ⟨q0, q1, q2, q3, q4, q5, q6, q7⟩ := eight hp (Ext.rfl' _)
          exact bodyPost_ret (v := .tuple #[.agg #[.int .i64 0, .string ⟨#[]⟩, .string ⟨#[]⟩, .string ⟨#[]⟩, .string ⟨#[]⟩, .int .i64 0, .int .i64 0, .string ⟨#[]⟩], .int .i64 42]) (by simp [results, Tryd.results22, go_sem, q0, q1, q2, q3, q4, q5, q6, q7]) rfl ⟨ret_val (by rw [HV.out]; rfl), hx⟩
      · obtain rfl : z = 7 := hz
        have ix : ∀ w', (Instr.index 114 PV (.int .i64 7)).run Tryd.prog w' = .ok (.func (.func 109) #[] #[.pointer (some ⟨g + 7, 0, none⟩)]) w' := fun w' => by rw [HPV.out]; exact run_idx_arr (e := 113) (n := 8) (by kernel_rfl) (fun _ => rfl) (fun _ => rfl) (by decide) (by decide) rfl w'
        have hkk := HK.out 7 (by omega)
        have hbn : wr.cell? ⟨g + 7, 0, none⟩ = some (.pointer (some ⟨w.heap.size + 1, 7, none⟩)) := hI.cell (lt_of_cell hkk) (by omega) hkk
        have hjs := HS.out 7 _ rfl
        have hj : wr.cell? ⟨sb, 7, none⟩ = some (.string (str p7)) := hI.cell (lt_of_cell hjs) (by omega) hjs
        have HJ := Lib.hid hjs
        clear hkk hjs
        by_cases c0 : p7 = []
        · have HV := Lib.hid (HBAD.out (fun h => esc_ne (unL p7) (by have h1 : txtOk p7 := h 7 (by omega); unfold txtOk at h1; rw [h1]; exact c0)))
          rw [c0] at hj
          have C := Lib.hid (partT_no (g + 7) (w.heap.size + 1) 7 W2.heap.size w W2 wr (by omega) hI hbn rfl)
          go_wp2_with (go_at_call 109; refine C.out.mono ?_; rintro e w4 ⟨rfl, hI4⟩; have hj4 : w4.cell? ⟨sb, 7, none⟩ = some (.string (str p7)) := hI4.cell (lt_of_cell HJ.out) (by omega) HJ.out; have hxw4 := PEnd.all hx2.out hI4; have hrb := (hI4.1.2 w.heap.size (by omega) (by omega)).trans HR2.out; have HB := Lib.hid hrb; have k0 := frozen_hp (j := 0) HB.out; have k1 := frozen_hp (j := 1) HB.out; have k2 := frozen_hp (j := 2) HB.out; have k3 := frozen_hp (j := 3) HB.out; have k4 := frozen_hp (j := 4) HB.out; have k5 := frozen_hp (j := 5) HB.out; have k6 := frozen_hp (j := 6) HB.out; have k7 := frozen_hp (j := 7) HB.out; obtain ⟨q0, q1, q2, q3, q4, q5, q6, q7⟩ := eight HB.out (Ext.rfl' _))
          have hp := put8 HB.out (.int .i64 0) (.string ⟨#[]⟩) (.string ⟨#[]⟩) (.string ⟨#[]⟩) (.string ⟨#[]⟩) (.int .i64 0) (.int .i64 0) (.string ⟨#[]⟩)
          have hx := ext8 (b := w.heap.size) (Nat.le_refl _) hxw4 (.int .i64 0) (.string ⟨#[]⟩) (.string ⟨#[]⟩) (.string ⟨#[]⟩) (.string ⟨#[]⟩) (.int .i64 0) (.int .i64 0) (.string ⟨#[]⟩)
          obtain ⟨W9, hW9⟩ : ∃ W9, W9 = ((((((((w4.setCell ⟨w.heap.size, 0, none⟩ (.int .i64 0)).setCell ⟨w.heap.size, 1, none⟩ (.string ⟨#[]⟩)).setCell ⟨w.heap.size, 2, none⟩ (.string ⟨#[]⟩)).setCell ⟨w.heap.size, 3, none⟩ (.string ⟨#[]⟩)).setCell ⟨w.heap.size, 4, none⟩ (.string ⟨#[]⟩)).setCell ⟨w.heap.size, 5, none⟩ (.int .i64 0)).setCell ⟨w.heap.size, 6, none⟩ (.int .i64 0)).setCell ⟨w.heap.size, 7, none⟩ (.string ⟨#[]⟩)) := ⟨_, rfl⟩
          rw [← hW9] at hp hx ⊢
          clear hW9 q0 q1 q2 q3 q4 q5 q6 q7 k0 k1 k2 k3 k4 k5 k6 k7
          obtain ⟨q0, q1, q2, q3, q4, q5, q6, q7⟩ := eight hp (Ext.rfl' _)
          exact bodyPost_ret (v := .tuple #[.agg #[.int .i64 0, .string ⟨#[]⟩, .string ⟨#[]⟩, .string ⟨#[]⟩, .string ⟨#[]⟩, .int .i64 0, .int .i64 0, .string ⟨#[]⟩], .int .i64 42]) (by simp [results, Tryd.results22, go_sem, q0, q1, q2, q3, q4, q5, q6, q7]) rfl ⟨ret_val (by rw [HV.out]; rfl), hx⟩
        · have C := partT_ok (g + 7) (w.heap.size + 1) 7 W2.heap.size p7 [] w W2 wr (by omega) (by omega) (by omega) (by omega) c0 HE.out hx2.out hI hbn rfl
          by_cases cd : escL (unL p7) = p7
          · rw [cd, U7.out] at C
            have C := Lib.hid C
            go_wp2_with (go_at_call 109; refine C.out.mono ?_; rintro e w4 ⟨rfl, hI4⟩; have hj4 : w4.cell? ⟨sb, 7, none⟩ = some (.string (str p7)) := hI4.cell (lt_of_cell HJ.out) (by omega) HJ.out)
            go_roundw
            case rel => exact ⟨7 + 1, 7 + 1, rfl, by omega, by omega, okN_succ hok cd, hI4⟩
            case measure => simp [intOf]
          · have HV := Lib.hid (HBAD.out (fun h => cd (h 7 (by omega))))
            obtain ⟨q, hq⟩ : ∃ q, q = escL (unL p7) := ⟨_, rfl⟩
            rw [← hq] at C cd
            clear hq
            have d1 := strNA cd
            have d2 : (q == p7) = false := by rw [beq_eq_false_iff_ne]; exact cd
            have C := Lib.hid C
            go_wp2_with (go_at_call 109; refine C.out.mono ?_; rintro e w4 ⟨rfl, hI4⟩; have hj4 : w4.cell? ⟨sb, 7, none⟩ = some (.string (str p7)) := hI4.cell (lt_of_cell HJ.out) (by omega) HJ.out; have hxw4 := PEnd.all hx2.out hI4; have hrb := (hI4.1.2 w.heap.size (by omega) (by omega)).trans HR2.out; have HB := Lib.hid hrb; have k0 := frozen_hp (j := 0) HB.out; have k1 := frozen_hp (j := 1) HB.out; have k2 := frozen_hp (j := 2) HB.out; have k3 := frozen_hp (j := 3) HB.out; have k4 := frozen_hp (j := 4) HB.out; have k5 := frozen_hp (j := 5) HB.out; have k6 := frozen_hp (j := 6) HB.out; have k7 := frozen_hp (j := 7) HB.out; obtain ⟨q0, q1, q2, q3, q4, q5, q6, q7⟩ := eight HB.out (Ext.rfl' _))
            have hp := put8 HB.out (.int .i64 0) (.string ⟨#[]⟩) (.string ⟨#[]⟩) (.string ⟨#[]⟩) (.string ⟨#[]⟩) (.int .i64 0) (.int .i64 0) (.string ⟨#[]⟩)
            have hx := ext8 (b := w.heap.size) (Nat.le_refl _) hxw4 (.int .i64 0) (.string ⟨#[]⟩) (.string ⟨#[]⟩) (.string ⟨#[]⟩) (.string ⟨#[]⟩) (.int .i64 0) (.int .i64 0) (.string ⟨#[]⟩)
            obtain ⟨W9, hW9⟩ : ∃ W9, W9 = ((((((((w4.setCell ⟨w.heap.size, 0, none⟩ (.int .i64 0)).setCell ⟨w.heap.size, 1, none⟩ (.string ⟨#[]⟩)).setCell ⟨w.heap.size, 2, none⟩ (.string ⟨#[]⟩)).setCell ⟨w.heap.size, 3, none⟩ (.string ⟨#[]⟩)).setCell ⟨w.heap.size, 4, none⟩ (.string ⟨#[]⟩)).setCell ⟨w.heap.size, 5, none⟩ (.int .i64 0)).setCell ⟨w.heap.size, 6, none⟩ (.int .i64 0)).setCell ⟨w.heap.size, 7, none⟩ (.string ⟨#[]⟩)) := ⟨_, rfl⟩
            rw [← hW9] at hp hx ⊢
            clear hW9 q0 q1 q2 q3 q4 q5 q6 q7 k0 k1 k2 k3 k4 k5 k6 k7
            obtain ⟨q0, q1, q2, q3, q4, q5, q6, q7⟩ := eight hp (Ext.rfl' _)
            exact bodyPost_ret (v := .tuple #[.agg #[.int .i64 0, .string ⟨#[]⟩, .string ⟨#[]⟩, .string ⟨#[]⟩, .string ⟨#[]⟩, .int .i64 0, .int .i64 0, .string ⟨#[]⟩], .int .i64 42]) (by simp [results, Tryd.results22, go_sem, q0, q1, q2, q3, q4, q5, q6, q7]) rfl ⟨ret_val (by rw [HV.out]; rfl), hx⟩
      · obtain rfl : z = 8 := hz
        have hx8 : wr.heap[w.heap.size + 1]? = some (.cells #[.int .i64 n0, .string (str y1), .string (str y2), .string (str y3), .string (str y4), .int .i64 n5, .int .i64 n6, .string (str y7)] 38 (0, 0)) := hI.2.2
        have hxr := PEnd.all hx2.out hI
        have HOK := Lib.hid hok
        clear hok
        obtain ⟨z0, z1, z2, z3, z4, z5, z6, z7⟩ := eight hx8 (Ext.rfl' _)
        by_cases ce : le = 0
        · have HV := Lib.hid (HG1.out HOK.out ce)
          subst ce
          go_wp2_with (go_at_call 27; refine (CL.out _ (HE.out.ext hxr) (HP.out.ext hxr)).mono ?_; rintro e w4 ⟨rfl, hx4⟩; have hI4 := hI.after (by omega) hx4; have hxw4 := PEnd.all hx2.out hI4; have hrb := (hI4.1.2 w.heap.size (by omega) (by omega)).trans HR2.out; have HB := Lib.hid hrb; have k0 := frozen_hp (j := 0) HB.out; have k1 := frozen_hp (j := 1) HB.out; have k2 := frozen_hp (j := 2) HB.out; have k3 := frozen_hp (j := 3) HB.out; have k4 := frozen_hp (j := 4) HB.out; have k5 := frozen_hp (j := 5) HB.out; have k6 := frozen_hp (j := 6) HB.out; have k7 := frozen_hp (j := 7) HB.out; obtain ⟨q0, q1, q2, q3, q4, q5, q6, q7⟩ := eight HB.out (Ext.rfl' _); obtain ⟨z0, z1, z2, z3, z4, z5, z6, z7⟩ := eight hx8 hx4)
          have hp := put8 HB.out (.int .i64 n0) (.string (str y1)) (.string (str y2)) (.string (str y3)) (.string (str y4)) (.int .i64 n5) (.int .i64 n6) (.string (str y7))
          have hx := ext8 (b := w.heap.size) (Nat.le_refl _) hxw4 (.int .i64 n0) (.string (str y1)) (.string (str y2)) (.string (str y3)) (.string (str y4)) (.int .i64 n5) (.int .i64 n6) (.string (str y7))
          obtain ⟨W9, hW9⟩ : ∃ W9, W9 = ((((((((w4.setCell ⟨w.heap.size, 0, none⟩ (.int .i64 n0)).setCell ⟨w.heap.size, 1, none⟩ (.string (str y1))).setCell ⟨w.heap.size, 2, none⟩ (.string (str y2))).setCell ⟨w.heap.size, 3, none⟩ (.string (str y3))).setCell ⟨w.heap.size, 4, none⟩ (.string (str y4))).setCell ⟨w.heap.size, 5, none⟩ (.int .i64 n5)).setCell ⟨w.heap.size, 6, none⟩ (.int .i64 n6)).setCell ⟨w.heap.size, 7, none⟩ (.string (str y7))) := ⟨_, rfl⟩
          rw [← hW9] at hp hx ⊢
          clear hW9 q0 q1 q2 q3 q4 q5 q6 q7 k0 k1 k2 k3 k4 k5 k6 k7
          obtain ⟨q0, q1, q2, q3, q4, q5, q6, q7⟩ := eight hp (Ext.rfl' _)
          exact bodyPost_ret (v := .tuple #[.agg #[.int .i64 n0, .string (str y1), .string (str y2), .string (str y3), .string (str y4), .int .i64 n5, .int .i64 n6, .string (str y7)], .int .i64 0]) (by simp [results, Tryd.results22, go_sem, q0, q1, q2, q3, q4, q5, q6, q7]) rfl ⟨ret_val (by rw [HV.out]; unfold parsV; dsimp only; rw [HENT.out]), hx⟩
        · have HV := Lib.hid (HG2.out ce)
          have d1 : (le != 0) = true := by rw [bne_iff_ne]; exact ce
          go_wp2_with (go_at_call 27; refine (CL.out _ (HE.out.ext hxr) (HP.out.ext hxr)).mono ?_; rintro e w4 ⟨rfl, hx4⟩; have hI4 := hI.after (by omega) hx4; have hxw4 := PEnd.all hx2.out hI4; have hrb := (hI4.1.2 w.heap.size (by omega) (by omega)).trans HR2.out; have HB := Lib.hid hrb; have k0 := frozen_hp (j := 0) HB.out; have k1 := frozen_hp (j := 1) HB.out; have k2 := frozen_hp (j := 2) HB.out; have k3 := frozen_hp (j := 3) HB.out; have k4 := frozen_hp (j := 4) HB.out; have k5 := frozen_hp (j := 5) HB.out; have k6 := frozen_hp (j := 6) HB.out; have k7 := frozen_hp (j := 7) HB.out; obtain ⟨q0, q1, q2, q3, q4, q5, q6, q7⟩ := eight HB.out (Ext.rfl' _))
          have hp := put8 HB.out (.int .i64 0) (.string ⟨#[]⟩) (.string ⟨#[]⟩) (.string ⟨#[]⟩) (.string ⟨#[]⟩) (.int .i64 0) (.int .i64 0) (.string ⟨#[]⟩)
          have hx := ext8 (b := w.heap.size) (Nat.le_refl _) hxw4 (.int .i64 0) (.string ⟨#[]⟩) (.string ⟨#[]⟩) (.string ⟨#[]⟩) (.string ⟨#[]⟩) (.int .i64 0) (.int .i64 0) (.string ⟨#[]⟩)
          obtain ⟨W9, hW9⟩ : ∃ W9, W9 = ((((((((w4.setCell ⟨w.heap.size, 0, none⟩ (.int .i64 0)).setCell ⟨w.heap.size, 1, none⟩ (.string ⟨#[]⟩)).setCell ⟨w.heap.size, 2, none⟩ (.string ⟨#[]⟩)).setCell ⟨w.heap.size, 3, none⟩ (.string ⟨#[]⟩)).setCell ⟨w.heap.size, 4, none⟩ (.string ⟨#[]⟩)).setCell ⟨w.heap.size, 5, none⟩ (.int .i64 0)).setCell ⟨w.heap.size, 6, none⟩ (.int .i64 0)).setCell ⟨w.heap.size, 7, none⟩ (.string ⟨#[]⟩)) := ⟨_, rfl⟩
          rw [← hW9] at hp hx ⊢
          clear hW9 q0 q1 q2 q3 q4 q5 q6 q7 k0 k1 k2 k3 k4 k5 k6 k7
          obtain ⟨q0, q1, q2, q3, q4, q5, q6, q7⟩ := eight hp (Ext.rfl' _)
          exact bodyPost_ret (v := .tuple #[.agg #[.int .i64 0, .string ⟨#[]⟩, .string ⟨#[]⟩, .string ⟨#[]⟩, .string ⟨#[]⟩, .int .i64 0, .int .i64 0, .string ⟨#[]⟩], .int .i64 42]) (by simp [results, Tryd.results22, go_sem, q0, q1, q2, q3, q4, q5, q6, q7]) rfl ⟨ret_val (by rw [HV.out]; rfl), hx⟩
  · have hne : ((n : Int) != 8) = true := by rw [bne_iff_ne]; omega
    have HV := Lib.hid (show RR = (zeroEnt, 42) by rw [HRR.out]; exact pars_not8 (by rw [← HN.out]; exact h8))
    go_enter Tryd.func22, Tryd.ntmps22
    go_wp2_with (go_at_call 68; refine (C.out _ (HM.out.ext (by (repeat (first | exact Ext.rfl' _ | assumption | refine Ext.dr ?_ | refine Ext.drN ?_ _ | refine Ext.al ?_ _ | refine Ext.st ?_ (by simp) _ | refine Ext.tr ?_ (by assumption)))))).mono ?_; rintro e w1 ⟨sb, rfl, hsb, hcc, hx1⟩; have hrb := hp_ext hx1 (hp_al (heap_alloc_new w _)); have HB := Lib.hid hrb; have k0 := frozen_hp (j := 0) HB.out; have k1 := frozen_hp (j := 1) HB.out; have k2 := frozen_hp (j := 2) HB.out; have k3 := frozen_hp (j := 3) HB.out; have k4 := frozen_hp (j := 4) HB.out; have k5 := frozen_hp (j := 5) HB.out; have k6 := frozen_hp (j := 6) HB.out; have k7 := frozen_hp (j := 7) HB.out; obtain ⟨q0, q1, q2, q3, q4, q5, q6, q7⟩ := eight HB.out (Ext.rfl' _))
    have hxw1 : Ext w w1 := by (repeat (first | exact Ext.rfl' _ | assumption | refine Ext.dr ?_ | refine Ext.drN ?_ _ | refine Ext.al ?_ _ | refine Ext.st ?_ (by simp) _ | refine Ext.tr ?_ (by assumption)))
    have HR1 := Lib.hid (show w1.heap[w.heap.size]? = some (.cells #[.int .i64 0, .string ⟨#[]⟩, .string ⟨#[]⟩, .string ⟨#[]⟩, .string ⟨#[]⟩, .int .i64 0, .int .i64 0, .string ⟨#[]⟩] 38 (0, 0)) from hp_ext hx1 (hp_al (heap_alloc_new w _)))
    have HX1 := Lib.hid (show w1.heap[w.heap.size + 1]? = some (.cells #[.int .i64 0, .string ⟨#[]⟩, .string ⟨#[]⟩, .string ⟨#[]⟩, .string ⟨#[]⟩, .int .i64 0, .int .i64 0, .string ⟨#[]⟩] 38 (0, 0)) from hp_ext hx1 (hp_new (by simp) _))
    have hsb2 : w.heap.size + 2 ≤ sb := by simpa using hsb
    have hs1 : w.heap.size + 2 ≤ w1.heap.size := by have := hx1.size; simpa using this
    clear hx1 hsb
    have hp := put8 HB.out (.int .i64 0) (.string ⟨#[]⟩) (.string ⟨#[]⟩) (.string ⟨#[]⟩) (.string ⟨#[]⟩) (.int .i64 0) (.int .i64 0) (.string ⟨#[]⟩)
    have hx := ext8 (b := w.heap.size) (Nat.le_refl _) hxw1 (.int .i64 0) (.string ⟨#[]⟩) (.string ⟨#[]⟩) (.string ⟨#[]⟩) (.string ⟨#[]⟩) (.int .i64 0) (.int .i64 0) (.string ⟨#[]⟩)
    obtain ⟨W9, hW9⟩ : ∃ W9, W9 = ((((((((w1.setCell ⟨w.heap.size, 0, none⟩ (.int .i64 0)).setCell ⟨w.heap.size, 1, none⟩ (.string ⟨#[]⟩)).setCell ⟨w.heap.size, 2, none⟩ (.string ⟨#[]⟩)).setCell ⟨w.heap.size, 3, none⟩ (.string ⟨#[]⟩)).setCell ⟨w.heap.size, 4, none⟩ (.string ⟨#[]⟩)).setCell ⟨w.heap.size, 5, none⟩ (.int .i64 0)).setCell ⟨w.heap.size, 6, none⟩ (.int .i64 0)).setCell ⟨w.heap.size, 7, none⟩ (.string ⟨#[]⟩)) := ⟨_, rfl⟩
    rw [← hW9] at hp hx ⊢
    clear hW9 q0 q1 q2 q3 q4 q5 q6 q7 k0 k1 k2 k3 k4 k5 k6 k7
    obtain ⟨q0, q1, q2, q3, q4, q5, q6, q7⟩ := eight hp (Ext.rfl' _)
    exact bodyPost_ret (v := .tuple #[.agg #[.int .i64 0, .string ⟨#[]⟩, .string ⟨#[]⟩, .string ⟨#[]⟩, .string ⟨#[]⟩, .int .i64 0, .int .i64 0, .string ⟨#[]⟩], .int .i64 42]) (by simp [results, Tryd.results22, go_sem, q0, q1, q2, q3, q4, q5, q6, q7]) rfl ⟨ret_val (by rw [HV.out]; rfl), hx⟩
end Go.Proofs.YtolfpfdmgelhhaaDoor
