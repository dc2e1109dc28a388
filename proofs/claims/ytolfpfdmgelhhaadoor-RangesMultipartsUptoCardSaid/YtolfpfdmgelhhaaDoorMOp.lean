/-
The law RangesMultiparts as a walk.
-/
import Derived.Test.YtolfpfdmgelhhaaDoorMul9
import Derived.Test.YtolfpfdmgelhhaaDoorMRg
import Derived.Test.YtolfpfdmgelhhaaDoorRows
import Derived.Test.YtolfpfdmgelhhaaDoorLaw
import Derived.Deep.Matrix
set_option linter.unusedVariables false
set_option linter.unusedSimpArgs false
/-
The law RangesMultiparts as a walk.
-/
section
namespace Go.Proofs.YtolfpfdmgelhhaaDoor
open Go.RowKit

set_option maxRecDepth 100000 in
set_option maxHeartbeats 4000000 in
theorem RangesMultiparts_w (W : World) (hp : Pow W) (hM : Mx W) (b kd bd : List UInt8) (ps : List (Int × Int)) (B Al : Option Addr) (n c m d : Nat) (hn : n = b.length) (hm : ps.length = m) (hnc : n ≤ c) (hB0 : B = none → c = 0)
    (hb : b.length ≤ 1048576) (hmm : m ≤ 1048576) (hk : kd.length ≤ 1048576) (hbd : bd.length ≤ 1048576) (hB : Rd W B (bc b)) (hA : Rd W Al (pc ps)) :
    Calls Tryd.prog 3 #[.slice B n c, .slice Al m d, .string (str kd), .string (str bd)] W (Gives (.bool true) W) := by
  subst hn
  obtain ⟨N, hN, hfree, hall⟩ := free_num b (by omega)
  have HP := Lib.hid hp
  have HM := Lib.hid hM
  have HB := Lib.hid hB
  have HA := Lib.hid hA
  have CM := fun (B' : Option Addr) (c' : Nat) (Al' : Option Addr) (d' : Nat) (w : World) (h1 : b.length ≤ c') (hp : Pow w) (hB : Rd w B' (bc b)) (hA : Rd w Al' (pc ps)) => Multipart_c b ps kd bd B' Al' b.length c' m d' rfl hm h1 hb hmm hk hbd w hp hB hA
  have CR := fun (w : World) (hp : Pow w) (hB : Rd w B (bc b)) (hA : Rd w Al (pc ps)) => rMultipart_c b ps kd bd B Al b.length c m d rfl hm hnc hb hmm hk hbd w hp hB hA
  obtain ⟨⟨rl, re⟩, hr⟩ : ∃ r, r = mpL b ps kd bd := ⟨_, rfl⟩
  rw [← hr] at CM CR
  obtain ⟨s, hs⟩ : ∃ s, s = str rl := ⟨_, rfl⟩
  have HSS := Lib.hid hs
  have CM := Lib.hid CM
  have CR := Lib.hid CR
  have HF := Lib.hid hfree
  have HAll := Lib.hid hall
  clear hr hs hp hM hB hA hfree hall
  go_enter Tryd.func3, Tryd.ntmps3
  go_wp2_with (first
    | (go_at_call 13; refine (Lent_c 1 b B b.length c rfl W (fun _ => 0) HB.out (by omega)).mono ?_; rintro e w1 ⟨v, o1, rfl, ⟨A1, c1, rfl, hc1, hs1⟩, hst1⟩; have x1 : Ext W w1 := hst1.toExt (fun _ _ h => by cases h); have r1 : Rd w1 A1 (bc b) := (by have := hs1.rd.take b.length; rw [bc_take, List.take_left] at this; exact this); have ra1 : A1 = none → c1 = 0 := (fun h => by rcases hs1.at_ with h2 | ⟨g, f, h2, _⟩; exact h2; rw [h] at h2; cases h2))
    | (go_at_call 15; refine (own17_c _ Al m d ps hm (HA.out.ext (by (repeat (first | exact Ext.rfl' _ | assumption | refine Ext.dr ?_ | refine Ext.drN ?_ _ | refine Ext.al ?_ _ | refine Ext.st ?_ (by simp) _ | refine Ext.tr ?_ (by assumption))))) (by omega)).mono ?_; rintro e w2 ⟨v, rfl, ⟨A2, c2, rfl, hr2, _⟩, x2⟩)
    | (go_at_call 14; (try rw [hm]); refine (CM.out A1 c1 A2 c2 _ (by omega) (HP.out.ext (by (repeat (first | exact Ext.rfl' _ | assumption | refine Ext.dr ?_ | refine Ext.drN ?_ _ | refine Ext.al ?_ _ | refine Ext.st ?_ (by simp) _ | refine Ext.tr ?_ (by assumption))))) (r1.ext (by (repeat (first | exact Ext.rfl' _ | assumption | refine Ext.dr ?_ | refine Ext.drN ?_ _ | refine Ext.al ?_ _ | refine Ext.st ?_ (by simp) _ | refine Ext.tr ?_ (by assumption))))) (hr2.ext (by (repeat (first | exact Ext.rfl' _ | assumption | refine Ext.dr ?_ | refine Ext.drN ?_ _ | refine Ext.al ?_ _ | refine Ext.st ?_ (by simp) _ | refine Ext.tr ?_ (by assumption)))))).mono ?_; rintro e w3 ⟨v, rfl, ⟨A3, c3, rfl, hr3⟩, x3⟩)
    | (go_at_call 16; refine (CR.out _ (HP.out.ext (by (repeat (first | exact Ext.rfl' _ | assumption | refine Ext.dr ?_ | refine Ext.drN ?_ _ | refine Ext.al ?_ _ | refine Ext.st ?_ (by simp) _ | refine Ext.tr ?_ (by assumption))))) (HB.out.ext (by (repeat (first | exact Ext.rfl' _ | assumption | refine Ext.dr ?_ | refine Ext.drN ?_ _ | refine Ext.al ?_ _ | refine Ext.st ?_ (by simp) _ | refine Ext.tr ?_ (by assumption))))) (HA.out.ext (by (repeat (first | exact Ext.rfl' _ | assumption | refine Ext.dr ?_ | refine Ext.drN ?_ _ | refine Ext.al ?_ _ | refine Ext.st ?_ (by simp) _ | refine Ext.tr ?_ (by assumption)))))).mono ?_; rintro e w4 ⟨v, rfl, ⟨A4, c4, rfl, hr4⟩, x4⟩; have cv1 := conv_bs (P := Tryd.prog) 22 9 5 Tryd.underlying22 Tryd.underlying5 Tryd.underlying9 (hr3.ext x4) rl.length c3 rfl; have cv2 := conv_bs (P := Tryd.prog) 22 9 5 Tryd.underlying22 Tryd.underlying5 Tryd.underlying9 hr4 rl.length c4 rfl; dsimp only at cv1 cv2; rw [← HSS.out] at cv1 cv2)
    | (go_at_call 17; refine (num17_c _ _).mono ?_; rintro e w5 ⟨rfl, rfl⟩)
    | (go_at_call 18; refine (Boundary_c b A1 b.length c1 N rfl (by omega) ra1 (by omega) hN HF.out HAll.out _ (HM.out.ext (by (repeat (first | exact Ext.rfl' _ | assumption | refine Ext.dr ?_ | refine Ext.drN ?_ _ | refine Ext.al ?_ _ | refine Ext.st ?_ (by simp) _ | refine Ext.tr ?_ (by assumption))))) (HP.out.ext (by (repeat (first | exact Ext.rfl' _ | assumption | refine Ext.dr ?_ | refine Ext.drN ?_ _ | refine Ext.al ?_ _ | refine Ext.st ?_ (by simp) _ | refine Ext.tr ?_ (by assumption))))) (r1.ext (by (repeat (first | exact Ext.rfl' _ | assumption | refine Ext.dr ?_ | refine Ext.drN ?_ _ | refine Ext.al ?_ _ | refine Ext.st ?_ (by simp) _ | refine Ext.tr ?_ (by assumption)))))).mono ?_; rintro e w6 ⟨rfl, x6⟩)
    | (go_at_call 19; refine (rBoundary_c b B b.length c N rfl hnc (by omega) hN HF.out HAll.out _ (HB.out.ext (by (repeat (first | exact Ext.rfl' _ | assumption | refine Ext.dr ?_ | refine Ext.drN ?_ _ | refine Ext.al ?_ _ | refine Ext.st ?_ (by simp) _ | refine Ext.tr ?_ (by assumption)))))).mono ?_; rintro e w7 ⟨rfl, x7⟩)
    | (go_at_call 20; refine (Stays_c b A1 B b.length c1 b.length c rfl rfl _ hc1 (hs1.rd.ext (by (repeat (first | exact Ext.rfl' _ | assumption | refine Ext.dr ?_ | refine Ext.drN ?_ _ | refine Ext.al ?_ _ | refine Ext.st ?_ (by simp) _ | refine Ext.tr ?_ (by assumption))))) (HB.out.ext (by (repeat (first | exact Ext.rfl' _ | assumption | refine Ext.dr ?_ | refine Ext.drN ?_ _ | refine Ext.al ?_ _ | refine Ext.st ?_ (by simp) _ | refine Ext.tr ?_ (by assumption))))) (by omega)).mono ?_; rintro e w8 ⟨rfl, x8⟩)
    | (go_at_call 21; refine (knows17_c _ (HP.out.ext (by (repeat (first | exact Ext.rfl' _ | assumption | refine Ext.dr ?_ | refine Ext.drN ?_ _ | refine Ext.al ?_ _ | refine Ext.st ?_ (by simp) _ | refine Ext.tr ?_ (by assumption)))))).mono ?_; rintro e w9 ⟨rfl, x9⟩))
  go_ret
  exact ⟨rfl, by (repeat (first | exact Ext.rfl' _ | assumption | refine Ext.dr ?_ | refine Ext.drN ?_ _ | refine Ext.al ?_ _ | refine Ext.st ?_ (by simp) _ | refine Ext.tr ?_ (by assumption)))⟩
end Go.Proofs.YtolfpfdmgelhhaaDoor
end

/-
Arguments of a row that are a slice of bytes, a slice of pairs: read as lists; and how much they weigh.
-/
section
namespace Go.Proofs.YtolfpfdmgelhhaaDoor
open Go.RowKit Go.ChangeShapes Go.WideShapes Go.Deep

theorem spot_none5 {W : World} {a : Addr} {u : Value} (h : W.cell? a = some u) : a.spot = none := by
  unfold World.cell? at h
  cases hsp : a.spot with
  | none => rfl
  | some z => simp only [hsp, Option.isSome_some, if_true] at h; split at h <;> cases h
theorem rd_of5 {W : World} {a : Addr} {xs : List Value} (h : ∀ i u, xs[i]? = some u → W.cell? (a.add i) = some u) : Rd W (some a) xs := by
  by_cases h0 : xs = []
  · exact .inl h0
  · have hp := List.length_pos_iff.2 h0
    have h1 := h 0 xs[0] (List.getElem?_eq_getElem hp)
    have hs := spot_none5 h1
    obtain ⟨b, o, sp⟩ := a
    have hs : sp = none := by simpa [Addr.add] using hs
    subst hs
    exact .inr ⟨b, o, rfl, fun j u hj => by have := h j u hj; rw [add_mk] at this; exact this⟩
theorem u8_nat5 {n : Int} (h : (Lit.int .u8 n).wf = true) : ((UInt8.ofNat n.toNat).toNat : Int) = n := by
  simp only [Lit.wf, IntKind.min, IntKind.max, IntKind.signed, IntKind.bits, Bool.and_eq_true, decide_eq_true_eq] at h
  rw [UInt8.toNat_ofNat']
  simp at h
  omega
def u8L5 (zs : List Int) : List UInt8 := zs.map fun z => UInt8.ofNat z.toNat
theorem bc_u8L5 {zs : List Int} (h : ∀ n ∈ zs, (Lit.int .u8 n).wf = true) : bc (u8L5 zs) = zs.map (.int .u8) := by
  unfold bc u8L5
  rw [List.map_map]
  exact List.map_congr_left fun n hn => by simp only [Function.comp]; rw [u8_nat5 (h n hn)]
section
variable {H : Type}
theorem bulk_lits5 (k : IntKind) : ∀ zs : List Int, Rows.uptoBulkAll (lits (H := H) k zs) = zs.length
  | [] => by simp [lits, Rows.uptoBulkAll]
  | z :: zs => by
    have := bulk_lits5 k zs
    simp only [lits, List.map_cons, Rows.uptoBulkAll, Rows.uptoBulk, List.length_cons] at *
    omega
theorem bulk_one5 (d : DataW H) : 1 ≤ Rows.uptoBulk d := by
  cases d with
  | lit l => cases l <;> simp [Rows.uptoBulk]
  | _ => simp [Rows.uptoBulk]
theorem bulk_all5 : ∀ l : List (DataW H), l.length ≤ Rows.uptoBulkAll l
  | [] => by simp
  | d :: l => by
    have h1 := bulk_one5 d
    have h2 := bulk_all5 l
    simp only [Rows.uptoBulkAll, List.length_cons]; omega
theorem bulk_pairs5 {d : DataW H} {n : Nat} (h : n = 0 ∨ ∃ es sp, d = .slice es sp ∧ es.length = n) : n ≤ Rows.uptoBulk d := by
  rcases h with h | ⟨es, sp, rfl, h⟩
  · omega
  · have := bulk_all5 es
    simp only [Rows.uptoBulk]; omega
variable {enc : TypeId × Value → H} {P : Program} {W : World} {base : Nat}
/-- An argument that is a slice of bytes. -/
theorem open_bytes5 {t e : TypeId} {v : Value} {d : DataW H} {p : List MemPlace} (ht : P.underlying t = some (.slice e)) (he : P.underlying e = some (.int .u8)) (hc : P.cellsOf e = 1)
    (hval : Value.okWide P W .any base t v) (h : DataW.Trod enc P W 0 (fun _ => true) true t v d p) :
    ∃ A c l, v = .slice A (List.length l) c ∧ Rd W A (bc l) ∧ l.length ≤ c ∧ (A = none → c = 0) ∧ l.length ≤ Rows.uptoBulk d := by
  obtain ⟨a0, len, cap, rfl⟩ := okWide_slice ht hval
  obtain ⟨fuel, hf⟩ := h
  rcases open_ints ht he hc hf with ⟨hcs, hx⟩ | ⟨a, len', cap', zs, hcs, _, hlc, hcm, hz, hx, hi, hw⟩
  · simp only [Value.cells, List.cons.injEq, and_true] at hcs
    injection hcs with h1 h2 h3
    subst h1; subst h2; subst h3
    exact ⟨none, 0, [], rfl, .inl rfl, by simp, fun _ => rfl, by simp⟩
  · simp only [Value.cells, List.cons.injEq, and_true] at hcs
    injection hcs with h1 h2 h3
    subst h1; subst h2; subst h3
    simp only [if_true] at hz
    have hl : (zs.take len).length = len := by rw [List.length_take]; omega
    have hl2 : (u8L5 (zs.take len)).length = len := by unfold u8L5; rw [List.length_map, hl]
    refine ⟨some a, cap, u8L5 (zs.take len), by rw [hl2], ?_, by rw [hl2]; exact hlc, fun h => (by cases h), ?_⟩
    · rw [bc_u8L5 (fun z hz => hw z (List.mem_of_mem_take hz))]
      refine rd_of5 fun j u hu => ?_
      have hjl : j < len := by have := (List.getElem?_eq_some_iff.1 hu).1; rw [List.length_map, hl] at this; exact this
      rw [hi j (by omega)]
      rw [List.getElem?_map, List.getElem?_take_of_lt hjl, List.getElem?_eq_getElem (by omega)] at hu
      rw [← hu]
      simp [List.getD, List.getElem?_eq_getElem (show j < zs.length by omega)]
    · have hd := (Prod.mk.inj hx).1
      subst hd
      rw [hl2]
      simp only [Rows.uptoBulk, bulk_lits5]
      omega
end
end Go.Proofs.YtolfpfdmgelhhaaDoor
end
