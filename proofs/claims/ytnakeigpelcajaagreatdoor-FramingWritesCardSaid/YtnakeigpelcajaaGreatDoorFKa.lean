/-
Framing's Chunk: a piece as a chunk.
-/
import Derived.Test.YtnakeigpelcajaaGreatDoorFRa
import Derived.Test.YtnakeigpelcajaaGreatDoorFGa
import Derived.Test.YtnakeigpelcajaaGreatDoorHXa
import Derived.Test.YtnakeigpelcajaaGreatDoorOwnW
set_option linter.unusedVariables false
set_option linter.unusedSimpArgs false
/-
Framing's Chunk: a piece as a chunk.
-/
section
namespace Go.Proofs.YtnakeigpelcajaaGreatDoor
open Go.RowKit

/-- Bytes that are read as a list. -/
def IsY (l : List UInt8) (v : Value) (w : World) : Prop := ∃ A c, v = .slice A l.length c ∧ Rd w A (bc l)
theorem src_strK (l : List UInt8) (w : World) : Src Tryz.prog 1 9 (.string (str l)) l.length (bc l) w := by
  have h := Src.ofString (w := w) Tryz.underlying9 (str l)
  rw [str_size] at h
  exact h
theorem cv_sl (w : World) (o : Ow) (k : Nat) (e : TypeId) (l : List UInt8) (h : l.length ≤ maxLen) : Sl (cvW w e (str l)) (fun b => if b < w.heap.size then o b else k) k 1 (some ⟨w.heap.size, 0, none⟩) l.length (cvC w e l.length) (bc l) := by
  have hc := cv_cap w e l.length h
  have hr := (cv_own w e l).rd
  have hh : (cvW w e (str l)).heap[w.heap.size]? = _ := heap_alloc_new w.drew _
  refine ⟨by rw [bc_len, Nat.mul_one], hc.1, hc.2, .inr ⟨w.heap.size, 0, rfl, by simp, cv_size w e (str l), fun j u hu => ?_, fun j hj => ?_⟩⟩
  · rcases hr with h0 | ⟨b, f, hA, hcc⟩
    · rw [h0] at hu; simp at hu
    · cases hA
      exact hcc j u hu
  · have hsz : j < (bytesRow (str l) (grownCap w (str l).size 0 e)).size := by
      rw [Nat.mul_one] at hj
      unfold cvC at hj
      rw [str_size]
      simp [bytesRow]
      omega
    rw [Nat.zero_add]
    constructor
    · unfold World.cell?
      simp only [hh]
      rw [Array.getElem?_eq_getElem hsz]; rfl
    · unfold World.frozen?
      simp only [hh, Bool.and_eq_false_iff, decide_eq_false_iff_not]
      exact .inl (by omega)
theorem own_oldK {K : Nat → Prop} {w0 w w' : World} {o o' : Ow} (h : ∀ x, x < w0.heap.size → o x = 0) (s : Stp K w o w' o') (hz : w0.heap.size ≤ w.heap.size) : ∀ x, x < w0.heap.size → o' x = 0 := fun x hx => (s.own x (by omega)).trans (h x hx)
theorem ext_oldK {K : Nat → Prop} {w0 w w' : World} {o o' : Ow} (x : Ext w0 w) (h : ∀ x, x < w0.heap.size → o x = 0) (s : Stp K w o w' o') (hk : ¬ K 0) : Ext w0 w' :=
  ⟨s.os.trans x.os, s.tape.trans x.tape, s.output.trans x.output, Nat.le_trans x.size s.size, fun b hb => (s.keep b (by have := x.size; omega) (by rw [h b hb]; exact hk)).trans (x.block b hb)⟩
theorem u64_small {n : Nat} (h : n < 18446744073709551616) : u64N (n : Int) = n := by unfold u64N; omega
theorem chunk_some {x : List UInt8} (h : x ≠ []) : chunkL x = ((hxL x.length ++ [13, 10]) ++ x) ++ [13, 10] := by unfold chunkL; rw [if_neg h]; simp
set_option maxRecDepth 100000 in
set_option maxHeartbeats 4000000 in
theorem fChunk_c (x : List UInt8) (A : Option Addr) (n c : Nat) (hn : n = x.length) (hb : n ≤ 140737488351232) (w : World) (hP : Bru w) (h : Rd w A (bc x)) :
    Calls Tryz.prog 7 #[.slice A n c] w (Ret (IsY (chunkL x)) w) := by
  by_cases h0 : x = []
  · subst h0
    obtain rfl : n = 0 := hn
    go_enter Tryz.func7, Tryz.ntmps7
    go_wp2
    go_ret
    exact Ret.mk ⟨none, 0, rfl, .inl rfl⟩ (by (repeat (first | exact Ext.rfl' _ | assumption | refine Ext.dr ?_ | refine Ext.drN ?_ _ | refine Ext.al ?_ _ | refine Ext.st ?_ (by simp) _ | refine Ext.tr ?_ (by assumption))))
  · have hpos := List.length_pos_iff.2 h0
    have d0 : ((n : Int) == 0) = false := by rw [beq_eq_false_iff_ne]; omega
    have HCH := Lib.hid (chunk_some h0)
    have CH := fun w hP => HexDigits_c (n : Int) w hP
    obtain ⟨hl, hhl⟩ : ∃ l, l = hxL n := ⟨_, rfl⟩
    have hxl : hl.length ≤ 16 := by rw [hhl]; exact hx_len 15 n (by omega)
    have hxb : hexB (n : Int) = str hl := by unfold hexB; rw [u64_small (by omega), hhl]
    rw [hxb] at CH
    have kc := fun W => cv_run (P := Tryz.prog) (src := 9) (dst := 22) (e := 5) (str hl) Tryz.underlying9 Tryz.underlying22 Tryz.underlying5 W
    have hsz : (str hl).size = hl.length := str_size hl
    rw [hsz] at kc
    have KS := Lib.hid (fun (w : World) => cv_sl w (fun _ => 0) 9 5 hl (by unfold maxLen; omega))
    have KX := Lib.hid (fun (w : World) => cv_ext w 5 (str hl))
    obtain ⟨sh, hsh⟩ : ∃ s, s = str hl := ⟨_, rfl⟩
    rw [← hsh] at CH kc KS KX
    rw [hn] at hhl
    have HHL := Lib.hid hhl
    have HX := Lib.hid h
    have HP := Lib.hid hP
    have HN := Lib.hid hn
    have CH := Lib.hid CH
    clear hxb hsz hsh hhl h hP h0 hpos hn
    go_enter Tryz.func7, Tryz.ntmps7
    go_wp2_with (first
      | (go_at_call 16; refine (CH.out _ (HP.out)).mono ?_; rintro e w1 ⟨rfl, x1⟩; have hs1 := KS.out w1; have hx1 : Ext w (cvW w1 5 sh) := x1.tr (KX.out w1); have own1 : ∀ x, x < w.heap.size → (fun b => if b < w1.heap.size then (fun _ => 0 : Ow) b else 9) x = 0 := fun x hx => if_pos (Nat.lt_of_lt_of_le hx x1.size))
      | (at_builtin; refine wpL_put slt_u8 (.tmp 10) (.const (.string ⟨#[13, 10]⟩)) rfl rfl rfl rfl hs1 (fun h => by cases h) (show Src Tryz.prog 1 9 (.string ⟨#[13, 10]⟩) 2 (bc [13, 10]) _ from src_strK [13, 10] _) (by omega) (by unfold maxLen; omega) ?_; intro A2 c2 w2 o2 hs2 st2 hn2; have x2 := ext_oldK hx1 own1 st2 (by omega); have own2 := own_oldK own1 st2 hx1.size; clear hs1 own1)
      | (at_builtin; refine wpL_putF slt_u8 (.tmp 12) (.tmp 13) rfl rfl rfl rfl hs2 hn2 (Sl.src Tryz.underlying22 (HX.out.ext x2) (by rw [bc_len, HN.out]; omega) (by omega) (bc_one x) c) (fun hroom => growslice_fits_wide (by omega) (by omega)) (by unfold maxLen; omega) ?_; intro A3 c3 w3 o3 hs3 st3 hn3; have x3 := ext_oldK x2 own2 st3 (by omega); have own3 := own_oldK own2 st3 x2.size; clear own2)
      | (at_builtin; refine wpL_putF slt_u8 (.tmp 14) (.const (.string ⟨#[13, 10]⟩)) rfl rfl rfl rfl hs3 hn3 (show Src Tryz.prog 1 9 (.string ⟨#[13, 10]⟩) 2 (bc [13, 10]) _ from src_strK [13, 10] _) (fun hroom => growslice_fits_wide (by omega) (by omega)) (by unfold maxLen; omega) ?_; intro A4 c4 w4 o4 hs4 st4 hn4; have x4 := ext_oldK x3 own3 st4 (by omega)))
    go_ret
    rw [HCH.out, ← HHL.out]
    refine Ret.mk ⟨A4, c4, ?_, ?_⟩ x4
    · have e : ((hl ++ [13, 10] ++ x) ++ [13, 10]).length = hl.length + 2 + n + 2 := by simp only [List.length_append, List.length_cons, List.length_nil, ← HN.out]
      rw [e]; rfl
    · rw [bc_app, bc_app, bc_app]; exact hs4.rd
end Go.Proofs.YtnakeigpelcajaaGreatDoor
end

/-
Framing's Last: the end of a body in chunks.
-/
section
namespace Go.Proofs.YtnakeigpelcajaaGreatDoor
open Go.RowKit

/-- Bytes, and a number. -/
def IsYe (r : List UInt8 × Int) (v : Value) (w : World) : Prop := ∃ A c, v = .tuple #[.slice A r.1.length c, .int .i64 r.2] ∧ Rd w A (bc r.1)
def anyF (fs : List Fld) (k : Nat) : Bool := (fs.take k).any fun f => decide (8192 < lenF f)
theorem anyF_succ (fs : List Fld) (k : Nat) (h : k < fs.length) : anyF fs (k + 1) = (anyF fs k || decide (8192 < lenF fs[k])) := by
  unfold anyF
  rw [List.take_succ_eq_append_getElem h, List.any_append]
  simp
theorem wrS_takeF (fs : List Fld) (k : Nat) (h : k < fs.length) : wrS (fs.take (k + 1)) = wrS (fs.take k) ++ wrF fs[k] := by
  unfold wrS
  rw [List.take_succ_eq_append_getElem h, List.flatMap_append]
  simp
theorem wrF_lenF (f : Fld) : (wrF f).length = lenF f + 2 := by unfold wrF lenF; simp; omega
theorem wrS_le : ∀ fs : List Fld, (fs.any fun f => decide (8192 < lenF f)) = false → (wrS fs).length ≤ fs.length * 8194
  | [], _ => by simp [wrS]
  | f :: fs, h => by
    rw [List.any_cons, Bool.or_eq_false_iff] at h
    have ih := wrS_le fs h.2
    have h1 : ¬ 8192 < lenF f := by simpa using h.1
    have e : wrS (f :: fs) = wrF f ++ wrS fs := by unfold wrS; rw [List.flatMap_cons]
    rw [e, List.length_append, wrF_lenF, List.length_cons]
    omega
theorem last_bad {fs : List Fld} {k : Nat} (h : k < fs.length) (hb : okF fs[k] = false) : lastL fs = ([], 42) := by
  unfold lastL
  rw [if_pos]
  rw [List.all_eq_false]
  exact ⟨fs[k], List.getElem_mem h, by rw [hb]; decide⟩
theorem last_ok {fs : List Fld} (h : ∀ j (hj : j < fs.length), okF fs[j] = true) : lastL fs = if longF fs = true then ([], 44) else ([48, 13, 10] ++ (wrS fs ++ [13, 10]), 0) := by
  unfold lastL
  rw [if_neg]
  have : fs.all okF = true := by
    rw [List.all_eq_true]
    intro f hf
    obtain ⟨j, hj, rfl⟩ := List.getElem_of_mem hf
    exact h j hj
  rw [this]; decide
theorem sl_const (w : World) (o : Ow) (k : Nat) (t : TypeId) (xs : List Value) (n : Nat) (hn : n = xs.length) (hm : n ≤ maxLen) : Sl (w.alloc (.cells xs.toArray t (n, n + 1))) (fun b => if b < w.heap.size then o b else k) k 1 (some ⟨w.heap.size, 0, none⟩) n n xs := by
  have hh : (w.alloc (.cells xs.toArray t (n, n + 1))).heap[w.heap.size]? = some (.cells xs.toArray t (n, n + 1)) := heap_alloc_new w _
  refine ⟨by omega, Nat.le_refl _, hm, .inr ⟨w.heap.size, 0, rfl, by simp, by simp, fun j u hu => ?_, fun j hj => ?_⟩⟩
  · rw [Nat.zero_add]
    simp only [World.cell?, hh]
    simpa using hu
  · rw [Nat.zero_add]
    constructor
    · simp only [World.cell?, hh]
      simp; omega
    · simp only [World.frozen?, hh, Bool.and_eq_false_iff, decide_eq_false_iff_not]
      exact .inl (by omega)
set_option maxRecDepth 100000 in
set_option maxHeartbeats 8000000 in
theorem fLast_c (fs : List Fld) (A : Option Addr) (n c : Nat) (hn : fs.length = n) (hb : n ≤ 8796093022206) (hsz : ∀ p ∈ fs, p.1.length ≤ 140737488351232 ∧ p.2.length ≤ 140737488351232) (w : World) (h : Rd w A (fc fs)) :
    Calls Tryz.prog 5 #[.slice A n c] w (Ret (IsYe (lastL fs)) w) := by
  have hms : maxLen = 9223372036854775807 := rfl
  obtain ⟨R, hR⟩ : ∃ R, R = lastL fs := ⟨_, rfl⟩
  rw [← hR]
  have HR := Lib.hid hR
  have HF := Lib.hid h
  have HNF := Lib.hid hn
  have HSZ := Lib.hid hsz
  have hcs : ∀ (w : World), (convert 22 22 (.slice (some ⟨w.heap.size, 0, none⟩) 3 3)).run Tryz.prog (w.alloc (.cells #[.int .u8 48, .int .u8 13, .int .u8 10] 5)) = .ok (.slice (some ⟨w.heap.size, 0, none⟩) 3 3) (w.alloc (.cells #[.int .u8 48, .int .u8 13, .int .u8 10] 5 (3, 4))) := fun w => Lib.run_convert_bytes_const w 22 5 #[.int .u8 48, .int .u8 13, .int .u8 10] 3 3 Tryz.underlying22 Tryz.underlying5
  obtain ⟨W0, hW0⟩ : ∃ W0, W0 = w.alloc (.cells #[.int .u8 48, .int .u8 13, .int .u8 10] 5 (3, 4)) := ⟨_, rfl⟩
  obtain ⟨o0, ho0⟩ : ∃ o0 : Ow, o0 = fun b => if b < w.heap.size then (fun _ => 0 : Ow) b else 9 := ⟨_, rfl⟩
  have hs0 : Sl W0 o0 9 1 (some ⟨w.heap.size, 0, none⟩) 3 3 (bc [48, 13, 10]) := by rw [hW0, ho0]; exact sl_const w (fun _ => 0) 9 5 (bc [48, 13, 10]) 3 rfl (by decide)
  have hx0 : Ext w W0 := by rw [hW0]; exact (Ext.rfl' w).al _
  have own0 : ∀ x, x < w.heap.size → o0 x = 0 := fun x hx => by rw [ho0]; exact if_pos hx
  have HS0 := Lib.hid hs0
  have HX0 := Lib.hid hx0
  have HO0 := Lib.hid own0
  have XT := Lib.hid (fun w' o' (t : Stp (fun i => i = 9) W0 o0 w' o') => (ext_oldK hx0 own0 t (by omega) : Ext w w'))
  clear h hsz hn hR hs0 hx0 own0
  go_enter Tryz.func5, Tryz.ntmps5
  go_wp2
  rw [← hW0]
  clear hW0 ho0 hcs
  go_loopw [4, 5, 15] (fun vo vl vi wr => ∃ (k : Nat) (lg : Bool) (ol : List UInt8) (A1 : Option Addr) (c1 : Nat) (o' : Ow), vo = .slice A1 ol.length c1 ∧ vl = .bool lg ∧ vi = .int .i64 (k : Int) ∧ k ≤ n ∧ (∀ j (hj : j < fs.length), j < k → okF fs[j] = true) ∧ lg = (decide ((100 : Int) < (n : Int)) || anyF fs k) ∧ (lg = false → ol = [48, 13, 10] ++ wrS (fs.take k)) ∧ Sl wr o' 9 1 A1 ol.length c1 (bc ol) ∧ (A1 = none → c1 = 0) ∧ Stp (fun i => i = 9) W0 o0 wr o') (fun _ _ vi _ => n - (intOf vi).toNat)
  case atStart => exact ⟨0, decide ((100 : Int) < (n : Int)), [48, 13, 10], some ⟨w.heap.size, 0, none⟩, 3, o0, rfl, by first | rfl | simp, rfl, Nat.zero_le _, fun j _ h => by omega, by simp [anyF], fun _ => by simp [wrS], HS0.out, (fun h => (nomatch h)), Stp.rfl'⟩
  case round =>
    obtain ⟨k, lg, ol, A1, c1, o', rfl, rfl, rfl, hk, hok, hlg, hol, hsl, hna, hst⟩ := hrel
    have HOK := Lib.hid hok
    have HLG := Lib.hid hlg
    have HOL := Lib.hid hol
    have HSL := Lib.hid hsl
    have HNA := Lib.hid hna
    have HST := Lib.hid hst
    have hext := XT.out wr o' hst
    clear hok hlg hol hsl hna hst
    by_cases hlt : k < n
    · obtain ⟨b, o, rfl, hbl, hS⟩ := HF.out.fld (k := k) (by have := HNF.out; omega)
      obtain ⟨a0, a1⟩ := hS.out wr hext
      have hf1 := HSZ.out _ (List.getElem_mem (show k < fs.length by have := HNF.out; omega))
      have hAN := anyF_succ fs k (by have := HNF.out; omega)
      have hBD := fun (hb : okF (fs[k]'(by have := HNF.out; omega)) = false) => last_bad (show k < fs.length by have := HNF.out; omega) hb
      obtain ⟨⟨x, y⟩, hp⟩ : ∃ p, p = fs[k]'(by have := HNF.out; omega) := ⟨_, rfl⟩
      rw [← hp] at a0 a1 hf1 hAN hBD
      dsimp only at a0 a1 hf1
      have HPK := Lib.hid hp
      have hk0 : (0 : Int) ≤ (k : Int) := by omega
      have hk1 : (k : Int) < (n : Int) := by omega
      have CT := fun w => Token_f x (by unfold maxLen; omega) w
      have CV := fun w => Value_f y (by unfold maxLen; omega) w
      have HBD := Lib.hid hBD
      have HAN := Lib.hid hAN
      clear hp hS hbl hAN hBD
      cases hvt : tokL x with
      | false =>
        rw [hvt] at CT
        have CT := Lib.hid CT
        have HV := Lib.hid (show R = ([], 42) from by rw [HR.out]; exact HBD.out (by unfold okF; rw [hvt]; rfl))
        clear hvt
        go_wp2_with (first | (go_at_call 12; refine (CT.out _).mono ?_; rintro e w2 ⟨rfl, hx2⟩; have t0 := hx2.new 0 _ rfl; have t1 := hx2.new 1 _ rfl))
        go_ret2
        rw [HV.out]
        exact Ret.mk ⟨none, 0, rfl, .inl rfl⟩ (hext.tr (by (repeat (first | exact Ext.rfl' _ | assumption | refine Ext.dr ?_ | refine Ext.drN ?_ _ | refine Ext.al ?_ _ | refine Ext.st ?_ (by simp) _ | refine Ext.tr ?_ (by assumption)))))
      | true =>
        rw [hvt] at CT
        have CT := Lib.hid CT
        cases hvv : vlL y with
        | false =>
          rw [hvv] at CV
          have CV := Lib.hid CV
          have HV := Lib.hid (show R = ([], 42) from by rw [HR.out]; exact HBD.out (by unfold okF; rw [hvt]; dsimp only; rw [hvv]; rfl))
          clear hvt hvv
          go_wp2_with (first | (go_at_call 12; refine (CT.out _).mono ?_; rintro e w2 ⟨rfl, hx2⟩; have t0 := hx2.new 0 _ rfl; have t1 := hx2.new 1 _ rfl) | (go_at_call 13; refine (CV.out _).mono ?_; rintro e w3 ⟨rfl, hx3⟩; have g0 := (hx3.cell (lt_of_cell t0)).trans t0; have g1 := (hx3.cell (lt_of_cell t1)).trans t1; clear t0 t1))
          go_ret2
          rw [HV.out]
          exact Ret.mk ⟨none, 0, rfl, .inl rfl⟩ (hext.tr (by (repeat (first | exact Ext.rfl' _ | assumption | refine Ext.dr ?_ | refine Ext.drN ?_ _ | refine Ext.al ?_ _ | refine Ext.st ?_ (by simp) _ | refine Ext.tr ?_ (by assumption)))))
        | true =>
          rw [hvv] at CV
          have CV := Lib.hid CV
          have HV := Lib.hid (show okF (x, y) = true from by unfold okF; rw [hvt]; dsimp only; rw [hvv]; rfl)
          obtain ⟨m, hm⟩ : ∃ m, m = x.length + 2 + y.length := ⟨_, rfl⟩
          have HM := Lib.hid hm
          have r1 : IntKind.i64.wrap ((x.length : Int) + 2) = (x.length : Int) + 2 := by rw [IntKind.wrap_i64]; omega
          have r2 : IntKind.i64.wrap ((x.length : Int) + 2 + (y.length : Int)) = (m : Int) := by rw [IntKind.wrap_i64]; omega
          clear hvt hvv
          have HAK := Lib.hid (fun j (hj : j < fs.length) (h2 : j < k + 1) => (show okF fs[j] = true from by
            rcases Nat.lt_or_ge j k with h3 | h3
            · exact HOK.out j hj h3
            · obtain rfl : j = k := by omega
              rw [← HPK.out]; exact HV.out))
          have HLF := Lib.hid (show lenF (x, y) = m from by rw [HM.out]; rfl)
          cases lg with
          | true =>
            have HL2 := Lib.hid (show true = (decide ((100 : Int) < (n : Int)) || anyF fs (k + 1)) from by rw [HAN.out, ← Bool.or_assoc, ← HLG.out]; rfl)
            clear hm hf1 r1 r2
            go_wp2_with (first | (go_at_call 12; refine (CT.out _).mono ?_; rintro e w2 ⟨rfl, hx2⟩; have t0 := hx2.new 0 _ rfl; have t1 := hx2.new 1 _ rfl) | (go_at_call 13; refine (CV.out _).mono ?_; rintro e w3 ⟨rfl, hx3⟩; have g0 := (hx3.cell (lt_of_cell t0)).trans t0; have g1 := (hx3.cell (lt_of_cell t1)).trans t1; clear t0 t1))
            go_roundw
            case rel => exact ⟨k + 1, true, ol, A1, c1, o', by first | rfl | trivial, by first | rfl | trivial, by go_num, by omega, fun j hj h2 => HAK.out j hj h2, HL2.out, (fun h => (nomatch h)), HSL.out.ext (by (repeat (first | exact Ext.rfl' _ | assumption | refine Ext.dr ?_ | refine Ext.drN ?_ _ | refine Ext.al ?_ _ | refine Ext.st ?_ (by simp) _ | refine Ext.tr ?_ (by assumption)))), HNA.out, HST.out.tr (Stp.ext (by (repeat (first | exact Ext.rfl' _ | assumption | refine Ext.dr ?_ | refine Ext.drN ?_ _ | refine Ext.al ?_ _ | refine Ext.st ?_ (by simp) _ | refine Ext.tr ?_ (by assumption)))))⟩
            case measure => simp [intOf]; omega
          | false =>
            by_cases hbig : 8192 < m
            · have HL2 := Lib.hid (show true = (decide ((100 : Int) < (n : Int)) || anyF fs (k + 1)) from by rw [HAN.out, ← Bool.or_assoc, ← HLG.out, HLF.out, decide_eq_true hbig]; rfl)
              have d1 : (8192 : Int) < (m : Int) := by omega
              have d2 : decide ((8192 : Int) < (m : Int)) = true := decide_eq_true d1
              clear hm hf1 hbig
              go_wp2_with (first | (go_at_call 12; refine (CT.out _).mono ?_; rintro e w2 ⟨rfl, hx2⟩; have t0 := hx2.new 0 _ rfl; have t1 := hx2.new 1 _ rfl) | (go_at_call 13; refine (CV.out _).mono ?_; rintro e w3 ⟨rfl, hx3⟩; have g0 := (hx3.cell (lt_of_cell t0)).trans t0; have g1 := (hx3.cell (lt_of_cell t1)).trans t1; clear t0 t1))
              go_roundw
              case rel => exact ⟨k + 1, true, ol, A1, c1, o', by first | rfl | trivial, by first | rfl | trivial, by go_num, by omega, fun j hj h2 => HAK.out j hj h2, HL2.out, (fun h => (nomatch h)), HSL.out.ext (by (repeat (first | exact Ext.rfl' _ | assumption | refine Ext.dr ?_ | refine Ext.drN ?_ _ | refine Ext.al ?_ _ | refine Ext.st ?_ (by simp) _ | refine Ext.tr ?_ (by assumption)))), HNA.out, HST.out.tr (Stp.ext (by (repeat (first | exact Ext.rfl' _ | assumption | refine Ext.dr ?_ | refine Ext.drN ?_ _ | refine Ext.al ?_ _ | refine Ext.st ?_ (by simp) _ | refine Ext.tr ?_ (by assumption)))))⟩
              case measure => simp [intOf]; omega
            · have HL2 := Lib.hid (show false = (decide ((100 : Int) < (n : Int)) || anyF fs (k + 1)) from by rw [HAN.out, ← Bool.or_assoc, ← HLG.out, HLF.out, decide_eq_false hbig]; rfl)
              have d1 : ¬ (8192 : Int) < (m : Int) := by omega
              have d2 : decide ((8192 : Int) < (m : Int)) = false := decide_eq_false d1
              have hol := HOL.out rfl
              have hOL2 := Lib.hid (show ol ++ wrF (x, y) = [48, 13, 10] ++ wrS (fs.take (k + 1)) from by rw [hol, wrS_takeF fs k (by have := HNF.out; omega), HPK.out]; simp)
              have hlg := HLG.out
              rw [eq_comm, Bool.or_eq_false_iff] at hlg
              have hob : ol.length ≤ 1000000 := by
                have h1 := wrS_le (fs.take k) hlg.2
                have h2 : ¬ (100 : Int) < (n : Int) := by simpa using hlg.1
                rw [hol, List.length_append]
                have h3 : (fs.take k).length ≤ 100 := by rw [List.length_take]; have := HNF.out; omega
                simp only [List.length_cons, List.length_nil]
                omega
              have cc1 : ∀ w, (Op.stringOp .add (str x) ⟨#[58, 32]⟩).run Tryz.prog w = .ok (.string (str (x ++ [58, 32]))) w := fun w => by rw [cat_ok _ _ (by rw [str_size]; show x.length + 2 ≤ _; omega)]; simp
              have cc2 : ∀ w, (Op.stringOp .add (str (x ++ [58, 32])) (str y)).run Tryz.prog w = .ok (.string (str (x ++ [58, 32] ++ y))) w := fun w => by rw [cat_ok _ _ (by rw [str_size, str_size]; simp; omega)]; simp
              have cc3 : ∀ w, (Op.stringOp .add (str (x ++ [58, 32] ++ y)) ⟨#[13, 10]⟩).run Tryz.prog w = .ok (.string (str (wrF (x, y)))) w := fun w => by rw [cat_ok _ _ (by rw [str_size]; show (x ++ [58, 32] ++ y).length + 2 ≤ _; simp; omega)]; simp [wrF]
              obtain ⟨lw, hlw⟩ : ∃ l, l = wrF (x, y) := ⟨_, rfl⟩
              have hwl : lw.length ≤ 10000 := by rw [hlw, wrF_lenF, HLF.out]; omega
              rw [← hlw] at cc3 hOL2
              have SRC := Lib.hid (fun w => src_strK lw w)
              obtain ⟨u1, hu1⟩ : ∃ u, u = str (x ++ [58, 32]) := ⟨_, rfl⟩
              obtain ⟨u2, hu2⟩ : ∃ u, u = str (x ++ [58, 32] ++ y) := ⟨_, rfl⟩
              obtain ⟨u3, hu3⟩ : ∃ u, u = str lw := ⟨_, rfl⟩
              obtain ⟨sx, hsx⟩ : ∃ u, u = str x := ⟨_, rfl⟩
              obtain ⟨sy, hsy⟩ : ∃ u, u = str y := ⟨_, rfl⟩
              have hxs : sx.size = x.length := by rw [hsx]; exact str_size x
              have hys : sy.size = y.length := by rw [hsy]; exact str_size y
              rw [← hu1] at cc1 cc2
              rw [← hu2] at cc2 cc3
              rw [← hu3] at cc3 SRC
              rw [← hsx] at cc1 a0 CT
              rw [← hsy] at cc2 a1 CV
              clear hm hf1 hbig hol hlg hlw hu1 hu2 hu3 hsx hsy
              go_wp2_with (first
                | (go_at_call 12; refine (CT.out _).mono ?_; rintro e w2 ⟨rfl, hx2⟩; have t0 := hx2.new 0 _ rfl; have t1 := hx2.new 1 _ rfl)
                | (go_at_call 13; refine (CV.out _).mono ?_; rintro e w3 ⟨rfl, hx3⟩; have g0 := (hx3.cell (lt_of_cell t0)).trans t0; have g1 := (hx3.cell (lt_of_cell t1)).trans t1; clear t0 t1)
                | (at_builtin; refine wpL_put slt_u8 (.tmp 43) (.tmp 50) rfl rfl rfl rfl (HSL.out.ext (by (repeat (first | exact Ext.rfl' _ | assumption | refine Ext.dr ?_ | refine Ext.drN ?_ _ | refine Ext.al ?_ _ | refine Ext.st ?_ (by simp) _ | refine Ext.tr ?_ (by assumption))))) HNA.out (SRC.out _) (by omega) (by omega) ?_; intro A7 c7 w7 o7 hs7 st7 hn7))
              go_roundw
              case rel => exact ⟨k + 1, false, ol ++ lw, A7, c7, o7, by rw [List.length_append], by first | rfl | trivial, by go_num, by omega, fun j hj h2 => HAK.out j hj h2, HL2.out, (fun _ => hOL2.out), by rw [List.length_append, bc_app]; exact hs7, hn7, (HST.out.tr (Stp.ext (by (repeat (first | exact Ext.rfl' _ | assumption | refine Ext.dr ?_ | refine Ext.drN ?_ _ | refine Ext.al ?_ _ | refine Ext.st ?_ (by simp) _ | refine Ext.tr ?_ (by assumption)))))).tr st7⟩
              case measure => simp [intOf]; omega
    · have hkn : k = n := by omega
      have k1 : ¬ (k : Int) < (n : Int) := by omega
      have HLO := Lib.hid (show R = if longF fs = true then ([], 44) else ([48, 13, 10] ++ (wrS fs ++ [13, 10]), 0) from by
        rw [HR.out]; exact last_ok (fun j hj => HOK.out j hj (by have := HNF.out; omega)))
      have HLL := Lib.hid (show longF fs = lg from by
        rw [HLG.out]; unfold longF anyF; rw [List.take_of_length_le (by have := HNF.out; omega), HNF.out]; congr 1; rw [decide_eq_decide]; omega)
      have HTK := Lib.hid (show fs.take k = fs from List.take_of_length_le (by have := HNF.out; omega))
      cases lg with
      | true =>
        have HV := Lib.hid (show R = ([], 44) from by rw [HLO.out, if_pos HLL.out])
        go_wp2
        go_ret2
        rw [HV.out]
        exact Ret.mk ⟨none, 0, rfl, .inl rfl⟩ (hext.tr (by (repeat (first | exact Ext.rfl' _ | assumption | refine Ext.dr ?_ | refine Ext.drN ?_ _ | refine Ext.al ?_ _ | refine Ext.st ?_ (by simp) _ | refine Ext.tr ?_ (by assumption)))))
      | false =>
        have hol := HOL.out rfl
        rw [HTK.out] at hol
        have HV := Lib.hid (show R = (ol ++ [13, 10], 0) from by rw [HLO.out, if_neg (by rw [HLL.out]; decide), hol]; simp)
        have hlg := HLG.out
        rw [eq_comm, Bool.or_eq_false_iff] at hlg
        have hob : ol.length ≤ 1000000 := by
          have h1 := wrS_le (fs.take k) hlg.2
          have h2 : ¬ (100 : Int) < (n : Int) := by simpa using hlg.1
          rw [HTK.out] at h1
          rw [hol, List.length_append]
          have := HNF.out
          simp only [List.length_cons, List.length_nil]
          omega
        clear hol hlg
        go_wp2_with (first
          | (at_builtin; refine wpL_put slt_u8 (.tmp 54) (.const (.string ⟨#[13, 10]⟩)) rfl rfl rfl rfl HSL.out HNA.out (show Src Tryz.prog 1 9 (.string ⟨#[13, 10]⟩) 2 (bc [13, 10]) _ from src_strK [13, 10] _) (by omega) (by omega) ?_; intro A7 c7 w7 o7 hs7 st7 hn7))
        go_ret2
        rw [HV.out]
        exact Ret.mk ⟨A7, c7, by rw [List.length_append]; rfl, by rw [bc_app]; exact hs7.rd⟩ (XT.out w7 o7 (HST.out.tr st7))
end Go.Proofs.YtnakeigpelcajaaGreatDoor
end

/-
The reference's Chunk and Last.
-/
section
namespace Go.Proofs.YtnakeigpelcajaaGreatDoor
open Go.RowKit

theorem rToken_k (l : List UInt8) (hs : l.length ≤ maxLen) (w : World) : Calls Tryz.prog 14 #[.string (str l)] w (Gives (.bool (tokL l)) w) := by
  have h := rToken_c (str l) (by rw [str_size]; exact hs) w
  rw [str_data, str_size] at h
  exact h
theorem rValue_k (l : List UInt8) (hs : l.length ≤ maxLen) (w : World) : Calls Tryz.prog 15 #[.string (str l)] w (Gives (.bool (vlL l)) w) := rValue_c l hs w
theorem src_crlf (w0 w : World) (e : Ext (w0.alloc (.cells #[.int .u8 13, .int .u8 10] 5)) w) : Src Tryz.prog 1 22 (.slice (some ⟨w0.heap.size, 0, none⟩) 2 2) 2 (bc [13, 10]) w :=
  Sl.src Tryz.underlying22 ((rd_newF w0 [.int .u8 13, .int .u8 10] 5).ext e) rfl (by omega) (bc_one [13, 10]) 2
set_option maxRecDepth 100000 in
set_option maxHeartbeats 4000000 in
theorem rfChunk_c (x : List UInt8) (A : Option Addr) (n c : Nat) (hn : n = x.length) (hb : n ≤ 140737488351232) (w : World) (h : Rd w A (bc x)) :
    Calls Tryz.prog 8 #[.slice A n c] w (Ret (IsY (chunkL x)) w) := by
  by_cases h0 : x = []
  · subst h0
    obtain rfl : n = 0 := hn
    go_enter Tryz.func8, Tryz.ntmps8
    go_wp2
    go_ret
    exact Ret.mk ⟨none, 0, rfl, .inl rfl⟩ (by (repeat (first | exact Ext.rfl' _ | assumption | refine Ext.dr ?_ | refine Ext.drN ?_ _ | refine Ext.al ?_ _ | refine Ext.st ?_ (by simp) _ | refine Ext.tr ?_ (by assumption))))
  · have hpos := List.length_pos_iff.2 h0
    have d0 : ((n : Int) == 0) = false := by rw [beq_eq_false_iff_ne]; omega
    have HCH := Lib.hid (chunk_some h0)
    have CH := fun w => rHexDigits_c (n : Int) w
    obtain ⟨hl, hhl⟩ : ∃ l, l = hxL n := ⟨_, rfl⟩
    have hxl : hl.length ≤ 16 := by rw [hhl]; exact hx_len 15 n (by omega)
    have hxb : hexB (n : Int) = str hl := by unfold hexB; rw [u64_small (by omega), hhl]
    rw [hxb] at CH
    have kc := fun W => cv_run (P := Tryz.prog) (src := 9) (dst := 22) (e := 5) (str hl) Tryz.underlying9 Tryz.underlying22 Tryz.underlying5 W
    have hsz : (str hl).size = hl.length := str_size hl
    rw [hsz] at kc
    have KS := Lib.hid (fun (w : World) => cv_sl w (fun _ => 0) 9 5 hl (by unfold maxLen; omega))
    have KX := Lib.hid (fun (w : World) => cv_ext w 5 (str hl))
    obtain ⟨sh, hsh⟩ : ∃ s, s = str hl := ⟨_, rfl⟩
    rw [← hsh] at CH kc KS KX
    rw [hn] at hhl
    have HHL := Lib.hid hhl
    have HX := Lib.hid h
    have HN := Lib.hid hn
    have CH := Lib.hid CH
    clear hxb hsz hsh hhl h h0 hpos hn
    go_enter Tryz.func8, Tryz.ntmps8
    go_wp2_with (first
      | (go_at_call 17; refine (CH.out _).mono ?_; rintro e w1 ⟨rfl, x1⟩; have hs1 := KS.out w1; have hx1 : Ext w (cvW w1 5 sh) := x1.tr (KX.out w1); have own1 : ∀ x, x < w.heap.size → (fun b => if b < w1.heap.size then (fun _ => 0 : Ow) b else 9) x = 0 := fun x hx => if_pos (Nat.lt_of_lt_of_le hx x1.size))
      | (at_builtin; refine wpL_put slt_u8 (.tmp 10) (.tmp 11) rfl rfl rfl rfl (hs1.ext ((Ext.rfl' _).al _)) (fun h => by cases h) (src_crlf _ _ (Ext.rfl' _)) (by omega) (by unfold maxLen; omega) ?_; intro A2 c2 w2 o2 hs2 st2 hn2; have x2 := ext_oldK (hx1.al _) own1 st2 (by omega); have own2 := own_oldK own1 st2 (by have := hx1.size; simp; omega); clear hs1 own1)
      | (at_builtin; refine wpL_putF slt_u8 (.tmp 13) (.tmp 14) rfl rfl rfl rfl hs2 hn2 (Sl.src Tryz.underlying22 (HX.out.ext x2) (by rw [bc_len, HN.out]; omega) (by omega) (bc_one x) c) (fun hroom => growslice_fits_wide (by omega) (by omega)) (by unfold maxLen; omega) ?_; intro A3 c3 w3 o3 hs3 st3 hn3; have x3 := ext_oldK x2 own2 st3 (by omega); have own3 := own_oldK own2 st3 x2.size; clear own2)
      | (at_builtin; refine wpL_putF slt_u8 (.tmp 15) (.tmp 16) rfl rfl rfl rfl (hs3.ext ((Ext.rfl' _).al _)) hn3 (src_crlf _ _ (Ext.rfl' _)) (fun hroom => growslice_fits_wide (by omega) (by omega)) (by unfold maxLen; omega) ?_; intro A4 c4 w4 o4 hs4 st4 hn4; have x4 := ext_oldK (x3.al _) own3 st4 (by omega)))
    go_ret
    rw [HCH.out, ← HHL.out]
    refine Ret.mk ⟨A4, c4, ?_, ?_⟩ x4
    · have e : ((hl ++ [13, 10] ++ x) ++ [13, 10]).length = hl.length + 2 + n + 2 := by simp only [List.length_append, List.length_cons, List.length_nil, ← HN.out]
      rw [e]; rfl
    · rw [bc_app, bc_app, bc_app]; exact hs4.rd
theorem wp_putK {P : Program} {t e : TypeId} {z : Value} {size bytes : Nat} (hT : SlT P t e z size bytes) {op : Oper} {a : Act} {K : Act → World → Prop} {Q : Exit → Act → World → Prop} (s x : Operand) {tx : TypeId}
    (ho : op.op = .call { callee := .builtin .append, args := #[s, x], argTypes := #[t, tx] })
    {w : World} {o : Ow} {k n c m : Nat} {A : Option Addr} {xs news : List Value} {xv : Value} (hs : a.eval s = .slice A n c) (hx : a.eval x = xv)
    (hsl : Sl w o k size A n c xs) (hna : A = none → c = 0) (src : Src P size tx xv m news w) (hbytes : (n + m) * bytes ≤ 140737488355328) (h63 : n + m ≤ maxLen)
    (h : ∀ A' c' w' o', Sl w' o' k size A' (n + m) c' (xs ++ news) → Stp (fun i => i = k) w o w' o' → (A' = none → c' = 0) → K (a.put op.dst (.slice A' (n + m) c')) w') : Oper.wp P op a w K Q := by
  obtain ⟨A', c', w', o', hr, h1, h2, h3⟩ := run_put hT op.type hsl hna src hbytes h63
  unfold Oper.wp execOp
  simp only [ho, resolve, invoke, builtin, Sem.run_bind, Sem.run_pure, Result.andThen_ok, List.map_toArray, List.map_cons, List.map_nil, hs, hx, hr]
  exact h A' c' w' o' h1 (h2.mono fun _ hi => hi.2) h3
theorem sl_newK (w : World) (o : Ow) (k : Nat) (t : TypeId) (xs : List Value) (n : Nat) (hn : n = xs.length) (hm : n ≤ maxLen) : Sl (w.alloc (.cells xs.toArray t)) (fun b => if b < w.heap.size then o b else k) k 1 (some ⟨w.heap.size, 0, none⟩) n n xs := by
  have hh : (w.alloc (.cells xs.toArray t)).heap[w.heap.size]? = some (.cells xs.toArray t (0, 0)) := heap_alloc_new w _
  refine ⟨by omega, Nat.le_refl _, hm, .inr ⟨w.heap.size, 0, rfl, by simp, by simp, fun j u hu => ?_, fun j hj => ?_⟩⟩
  · rw [Nat.zero_add]
    simp only [World.cell?, hh]
    simpa using hu
  · rw [Nat.zero_add]
    constructor
    · simp only [World.cell?, hh]
      simp; omega
    · simp only [World.frozen?, hh, Bool.and_eq_false_iff, decide_eq_false_iff_not]
      exact .inr (by omega)
set_option maxRecDepth 100000 in
set_option maxHeartbeats 8000000 in
theorem rfLast_c (fs : List Fld) (A : Option Addr) (n c : Nat) (hn : fs.length = n) (hb : n ≤ 8796093022206) (hsz : ∀ p ∈ fs, p.1.length ≤ 140737488351232 ∧ p.2.length ≤ 140737488351232) (w : World) (h : Rd w A (fc fs)) :
    Calls Tryz.prog 6 #[.slice A n c] w (Ret (IsYe (lastL fs)) w) := by
  have hms : maxLen = 9223372036854775807 := rfl
  obtain ⟨R, hR⟩ : ∃ R, R = lastL fs := ⟨_, rfl⟩
  rw [← hR]
  have HR := Lib.hid hR
  have HF := Lib.hid h
  have HNF := Lib.hid hn
  have HSZ := Lib.hid hsz
  clear h hsz hn hR
  go_enter Tryz.func6, Tryz.ntmps6
  go_wp2
  go_loopw [4] (fun i wr => ∃ k : Nat, i = .int .i64 (k : Int) ∧ k ≤ n ∧ (∀ j (hj : j < fs.length), j < k → okF fs[j] = true) ∧ Ext w wr) (fun i _ => n - (intOf i).toNat)
  case atStart => exact ⟨0, rfl, Nat.zero_le _, fun j _ h => by omega, Ext.rfl' _⟩
  case round =>
    obtain ⟨k, rfl, hk, hok, hext⟩ := hrel
    have HOK := Lib.hid hok
    clear hok
    by_cases hlt : k < n
    · obtain ⟨b, o, rfl, hbl, hS⟩ := HF.out.fld (k := k) (by have := HNF.out; omega)
      obtain ⟨a0, a1⟩ := hS.out wr hext
      have hf1 := HSZ.out _ (List.getElem_mem (show k < fs.length by have := HNF.out; omega))
      have hBD := fun (hb : okF (fs[k]'(by have := HNF.out; omega)) = false) => last_bad (show k < fs.length by have := HNF.out; omega) hb
      have hks := hS
      obtain ⟨⟨x, y⟩, hp⟩ : ∃ p, p = fs[k]'(by have := HNF.out; omega) := ⟨_, rfl⟩
      rw [← hp] at a0 a1 hf1 hBD hks
      dsimp only at a0 a1 hf1
      have HPK := Lib.hid hp
      have HBD := Lib.hid hBD
      have hk0 : (0 : Int) ≤ (k : Int) := by omega
      have hk1 : (k : Int) < (n : Int) := by omega
      have CT := fun w => rToken_k x (by unfold maxLen; omega) w
      have CV := fun w => rValue_k y (by unfold maxLen; omega) w
      clear hp hS hbl hBD hf1
      cases hvt : tokL x with
      | false =>
        rw [hvt] at CT
        have CT := Lib.hid CT
        have HV := Lib.hid (show R = ([], 42) from by rw [HR.out]; exact HBD.out (by unfold okF; rw [hvt]; rfl))
        clear hvt
        go_wp2_with (first
          | (go_at_call 14; refine (CT.out _).mono ?_; rintro e w2 ⟨rfl, hx2⟩))
        go_ret2
        rw [HV.out]
        exact Ret.mk ⟨none, 0, rfl, .inl rfl⟩ (hext.tr (by (repeat (first | exact Ext.rfl' _ | assumption | refine Ext.dr ?_ | refine Ext.drN ?_ _ | refine Ext.al ?_ _ | refine Ext.st ?_ (by simp) _ | refine Ext.tr ?_ (by assumption)))))
      | true =>
        rw [hvt] at CT
        have CT := Lib.hid CT
        cases hvv : vlL y with
        | false =>
          rw [hvv] at CV
          have CV := Lib.hid CV
          have HV := Lib.hid (show R = ([], 42) from by rw [HR.out]; exact HBD.out (by unfold okF; rw [hvt]; dsimp only; rw [hvv]; rfl))
          clear hvt hvv
          go_wp2_with (first
            | (go_at_call 14; refine (CT.out _).mono ?_; rintro e w2 ⟨rfl, hx2⟩; have g1 := (hks.out w2 (hext.tr hx2)).2; dsimp only at g1; clear a1)
            | (go_at_call 15; refine (CV.out _).mono ?_; rintro e w3 ⟨rfl, hx3⟩))
          go_ret2
          rw [HV.out]
          exact Ret.mk ⟨none, 0, rfl, .inl rfl⟩ (hext.tr (by (repeat (first | exact Ext.rfl' _ | assumption | refine Ext.dr ?_ | refine Ext.drN ?_ _ | refine Ext.al ?_ _ | refine Ext.st ?_ (by simp) _ | refine Ext.tr ?_ (by assumption)))))
        | true =>
          rw [hvv] at CV
          have CV := Lib.hid CV
          have HV := Lib.hid (show okF (x, y) = true from by unfold okF; rw [hvt]; dsimp only; rw [hvv]; rfl)
          clear hvt hvv
          go_wp2_with (first
            | (go_at_call 14; refine (CT.out _).mono ?_; rintro e w2 ⟨rfl, hx2⟩; have g1 := (hks.out w2 (hext.tr hx2)).2; dsimp only at g1; clear a1)
            | (go_at_call 15; refine (CV.out _).mono ?_; rintro e w3 ⟨rfl, hx3⟩))
          go_roundw
          case rel => exact ⟨k + 1, by go_num, by omega, fun j hj h2 => (by
            rcases Nat.lt_or_ge j k with h3 | h3
            · exact HOK.out j hj h3
            · obtain rfl : j = k := by omega
              rw [← HPK.out]; exact HV.out), hext.tr (by (repeat (first | exact Ext.rfl' _ | assumption | refine Ext.dr ?_ | refine Ext.drN ?_ _ | refine Ext.al ?_ _ | refine Ext.st ?_ (by simp) _ | refine Ext.tr ?_ (by assumption))))⟩
          case measure => simp [intOf]; omega
    · have hkn : k = n := by omega
      have k1 : ¬ (k : Int) < (n : Int) := by omega
      have HLO := Lib.hid (show R = if longF fs = true then ([], 44) else ([48, 13, 10] ++ (wrS fs ++ [13, 10]), 0) from by
        rw [HR.out]; exact last_ok (fun j hj => HOK.out j hj (by have := HNF.out; omega)))
      by_cases h100 : 100 < n
      · have d1 : (100 : Int) < (n : Int) := by omega
        have HV := Lib.hid (show R = ([], 44) from by rw [HLO.out, if_pos (by unfold longF; rw [HNF.out, decide_eq_true h100]; rfl)])
        go_wp2
        go_ret2
        rw [HV.out]
        exact Ret.mk ⟨none, 0, rfl, .inl rfl⟩ (hext.tr (by (repeat (first | exact Ext.rfl' _ | assumption | refine Ext.dr ?_ | refine Ext.drN ?_ _ | refine Ext.al ?_ _ | refine Ext.st ?_ (by simp) _ | refine Ext.tr ?_ (by assumption)))))
      · have d1 : ¬ (100 : Int) < (n : Int) := by omega
        have HXW := Lib.hid hext
        obtain ⟨W0, hW0⟩ : ∃ W0, W0 = wr.alloc (.cells #[.int .u8 48, .int .u8 13, .int .u8 10] 5) := ⟨_, rfl⟩
        obtain ⟨o0, ho0⟩ : ∃ o0 : Ow, o0 = fun b => if b < wr.heap.size then (fun _ => 0 : Ow) b else 9 := ⟨_, rfl⟩
        have hs0 : Sl W0 o0 9 1 (some ⟨wr.heap.size, 0, none⟩) 3 3 (bc [48, 13, 10]) := by rw [hW0, ho0]; exact sl_newK wr (fun _ => 0) 9 5 (bc [48, 13, 10]) 3 rfl (by decide)
        have hx0 : Ext w W0 := by rw [hW0]; exact hext.al _
        have own0 : ∀ x, x < w.heap.size → o0 x = 0 := fun x hx => by rw [ho0]; exact if_pos (Nat.lt_of_lt_of_le hx hext.size)
        have HS0 := Lib.hid hs0
        have XT := Lib.hid (fun w' o' (t : Stp (fun i => i = 9) W0 o0 w' o') => (ext_oldK hx0 own0 t (by omega) : Ext w w'))
        clear hs0 hx0 own0 hext
        go_wp2
        rw [← hW0]
        clear hW0 ho0
        go_loopw [5, 6] (fun vo vi wx => ∃ (k : Nat) (ol : List UInt8) (A1 : Option Addr) (c1 : Nat) (o' : Ow), vo = .slice A1 ol.length c1 ∧ vi = .int .i64 (k : Int) ∧ k ≤ n ∧ (∀ j (hj : j < fs.length), j < k → lenF fs[j] ≤ 8192) ∧ ol = [48, 13, 10] ++ wrS (fs.take k) ∧ Sl wx o' 9 1 A1 ol.length c1 (bc ol) ∧ (A1 = none → c1 = 0) ∧ Stp (fun i => i = 9) W0 o0 wx o') (fun _ vi _ => n - (intOf vi).toNat)
        case atStart => exact ⟨0, [48, 13, 10], some ⟨wr.heap.size, 0, none⟩, 3, o0, rfl, rfl, Nat.zero_le _, fun j _ h => by omega, by simp [wrS], HS0.out, (fun h => (nomatch h)), Stp.rfl'⟩
        case round =>
          obtain ⟨t, ol, A1, c1, o', rfl, rfl, ht, hle, hol, hsl, hna, hst⟩ := hrel
          have HLE := Lib.hid hle
          have HOL := Lib.hid hol
          have HSL := Lib.hid hsl
          have HNA := Lib.hid hna
          have HST := Lib.hid hst
          have hext := XT.out _ o' hst
          have hany : (fs.take t).any (fun f => decide (8192 < lenF f)) = false := by
            rw [List.any_eq_false]
            intro f hf
            obtain ⟨j, hj, rfl⟩ := List.getElem_of_mem hf
            rw [List.length_take] at hj
            have := hle j (by omega) (by omega)
            rw [List.getElem_take]
            simp; omega
          have hob : ol.length ≤ 1000000 := by
            have h1 := wrS_le (fs.take t) hany
            rw [hol, List.length_append]
            have h3 : (fs.take t).length ≤ 100 := by rw [List.length_take]; have := HNF.out; omega
            simp only [List.length_cons, List.length_nil]
            omega
          clear hle hol hsl hna hst hany
          by_cases hlt2 : t < n
          · obtain ⟨b, o, rfl, hbl, hS⟩ := HF.out.fld (k := t) (by have := HNF.out; omega)
            obtain ⟨a0, a1⟩ := hS.out _ hext
            have hf1 := HSZ.out _ (List.getElem_mem (show t < fs.length by have := HNF.out; omega))
            have hks := hS
            have hTK := wrS_takeF fs t (by have := HNF.out; omega)
            have hLA := fun (hm : 8192 < lenF (fs[t]'(by have := HNF.out; omega))) => (show longF fs = true from by
              unfold longF
              rw [Bool.or_eq_true]
              exact .inr (List.any_eq_true.2 ⟨_, List.getElem_mem (show t < fs.length by have := HNF.out; omega), by simpa using hm⟩))
            have hSU := fun (hm : lenF (fs[t]'(by have := HNF.out; omega)) ≤ 8192) => (show ∀ j (hj : j < fs.length), j < t + 1 → lenF fs[j] ≤ 8192 from fun j hj h2 => by
              rcases Nat.lt_or_ge j t with h3 | h3
              · exact HLE.out j hj h3
              · obtain rfl : j = t := by omega
                exact hm)
            obtain ⟨⟨x, y⟩, hp⟩ : ∃ p, p = fs[t]'(by have := HNF.out; omega) := ⟨_, rfl⟩
            rw [← hp] at a0 a1 hf1 hks hTK hLA hSU
            dsimp only at a0 a1 hf1
            have hk0 : (0 : Int) ≤ (t : Int) := by omega
            have hk1 : (t : Int) < (n : Int) := by omega
            obtain ⟨m, hm⟩ : ∃ m, m = x.length + 2 + y.length := ⟨_, rfl⟩
            have hmF : lenF (x, y) = m := hm.symm
            rw [hmF] at hLA hSU
            have r1 : IntKind.i64.wrap ((x.length : Int) + 2) = (x.length : Int) + 2 := by rw [IntKind.wrap_i64]; omega
            have r2 : IntKind.i64.wrap ((x.length : Int) + 2 + (y.length : Int)) = (m : Int) := by rw [IntKind.wrap_i64]; omega
            have HTK := Lib.hid hTK
            have HLA := Lib.hid hLA
            have HSU := Lib.hid hSU
            have HMF := Lib.hid hmF
            clear hp hbl hTK hLA hSU hS hf1 hmF
            by_cases hbig : 8192 < m
            · have d2 : (8192 : Int) < (m : Int) := by omega
              have HV := Lib.hid (show R = ([], 44) from by rw [HLO.out, if_pos (HLA.out hbig)])
              clear hm hbig
              go_wp2
              go_quiet (fail)
              go_wp2
              go_ret2
              rw [HV.out]
              exact Ret.mk ⟨none, 0, rfl, .inl rfl⟩ (hext.tr (by (repeat (first | exact Ext.rfl' _ | assumption | refine Ext.dr ?_ | refine Ext.drN ?_ _ | refine Ext.al ?_ _ | refine Ext.st ?_ (by simp) _ | refine Ext.tr ?_ (by assumption)))))
            · have d2 : ¬ (8192 : Int) < (m : Int) := by omega
              have HS2 := Lib.hid (HSU.out (by omega))
              have cc1 : ∀ w, (Op.stringOp .add (str x) ⟨#[58, 32]⟩).run Tryz.prog w = .ok (.string (str (x ++ [58, 32]))) w := fun w => by rw [cat_ok _ _ (by rw [str_size]; show x.length + 2 ≤ _; omega)]; simp
              have cc2 : ∀ w, (Op.stringOp .add (str (x ++ [58, 32])) (str y)).run Tryz.prog w = .ok (.string (str (x ++ [58, 32] ++ y))) w := fun w => by rw [cat_ok _ _ (by rw [str_size, str_size]; simp; omega)]; simp
              obtain ⟨lw, hlw⟩ : ∃ l, l = x ++ [58, 32] ++ y := ⟨_, rfl⟩
              have hwl : lw.length = m := by rw [hlw, hm]; simp; omega
              have HW2 := Lib.hid (show wrF (x, y) = lw ++ [13, 10] from by rw [hlw]; simp [wrF])
              rw [← hlw] at cc2
              have SRC := Lib.hid (fun w => src_strK lw w)
              obtain ⟨u1, hu1⟩ : ∃ u, u = str (x ++ [58, 32]) := ⟨_, rfl⟩
              obtain ⟨u2, hu2⟩ : ∃ u, u = str lw := ⟨_, rfl⟩
              obtain ⟨sx, hsx⟩ : ∃ u, u = str x := ⟨_, rfl⟩
              obtain ⟨sy, hsy⟩ : ∃ u, u = str y := ⟨_, rfl⟩
              have hxs : sx.size = x.length := by rw [hsx]; exact str_size x
              have hys : sy.size = y.length := by rw [hsy]; exact str_size y
              have hks : Hid (∀ w', Ext w w' → (w'.cell? ⟨b, o + t * 2, none⟩ = some (.string sx) ∧ w'.cell? ⟨b, o + t * 2 + 1, none⟩ = some (.string sy))) := by rw [hsx, hsy]; exact hks
              rw [← hu1] at cc1 cc2
              rw [← hu2] at cc2 SRC
              rw [← hsx] at cc1 a0
              rw [← hsy] at cc2 a1
              have HWL := Lib.hid hwl
              clear hm hbig hlw hu1 hu2 hsx hsy hwl
              go_wp2
              go_quiet (fail)
              go_wp2
              refine wp_region_noPanic ?_
              refine wp_region_held_drew (S := fun w' => w'.cell? ⟨b, o + t * 2, none⟩ = some (.string sx) ∧ w'.cell? ⟨b, o + t * 2 + 1, none⟩ = some (.string sy)) (by kernel_rfl) (hks.out _ (hext.tr (by (repeat (first | exact Ext.rfl' _ | assumption | refine Ext.dr ?_ | refine Ext.drN ?_ _ | refine Ext.al ?_ _ | refine Ext.st ?_ (by simp) _ | refine Ext.tr ?_ (by assumption)))))) (fun hHeld => ?_)
              refine wpAnyH_take (i := 0) (oi := ?_) (v := ?_) ?_ (by kernel_rfl) (by kernel_rfl) (by kernel_rfl) (fun _ _ _ h => h) (Or.inl ⟨?_, ?_⟩) (by assumption) ?_
              rotate_left 2
              · (simp only [List.getElem?_toArray, List.getElem?_cons_succ, List.getElem?_cons_zero]; first | done | rfl)
              · rfl
              · intro w hSw
                try dsimp only at hSw
                go_simp <;> with_reducible rfl
              try simp only [Act.put, List.setIfInBounds_toArray, List.set_cons_zero, List.set_cons_succ]
              refine wpAnyH_take (i := 1) (oi := ?_) (v := ?_) ?_ (by kernel_rfl) (by kernel_rfl) (by kernel_rfl) (fun _ _ _ h => h) (Or.inl ⟨?_, ?_⟩) (by assumption) ?_
              rotate_left 2
              · (simp only [List.getElem?_toArray, List.getElem?_cons_succ, List.getElem?_cons_zero]; first | done | rfl)
              · rfl
              · intro w hSw
                try dsimp only at hSw
                go_simp <;> with_reducible rfl
              try simp only [Act.put, List.setIfInBounds_toArray, List.set_cons_zero, List.set_cons_succ]
              refine wpAnyH_take (i := 2) (oi := ?_) (v := ?_) ?_ (by kernel_rfl) (by kernel_rfl) (by kernel_rfl) (fun _ _ _ h => h) (Or.inl ⟨?_, ?_⟩) (by assumption) ?_
              rotate_left 2
              · (simp only [List.getElem?_toArray, List.getElem?_cons_succ, List.getElem?_cons_zero]; first | done | rfl)
              · rfl
              · intro w hSw
                try dsimp only at hSw
                go_simp <;> with_reducible rfl
              try simp only [Act.put, List.setIfInBounds_toArray, List.set_cons_zero, List.set_cons_succ]
              refine wpAnyH_take (i := 3) (oi := ?_) (v := ?_) ?_ (by kernel_rfl) (by kernel_rfl) (by kernel_rfl) (fun _ _ _ h => h) (Or.inl ⟨?_, ?_⟩) (by assumption) ?_
              rotate_left 2
              · (simp only [List.getElem?_toArray, List.getElem?_cons_succ, List.getElem?_cons_zero]; first | done | rfl)
              · rfl
              · intro w hSw
                try dsimp only at hSw
                go_simp <;> with_reducible rfl
              try simp only [Act.put, List.setIfInBounds_toArray, List.set_cons_zero, List.set_cons_succ]
              refine wpAnyH_take (i := 4) (oi := ?_) (v := ?_) ?_ (by kernel_rfl) (by kernel_rfl) (by kernel_rfl) (fun _ _ _ h => h) (Or.inl ⟨?_, ?_⟩) (by assumption) ?_
              rotate_left 2
              · (simp only [List.getElem?_toArray, List.getElem?_cons_succ, List.getElem?_cons_zero]; first | done | rfl)
              · rfl
              · intro w hSw
                try dsimp only at hSw
                go_simp <;> with_reducible rfl
              try simp only [Act.put, List.setIfInBounds_toArray, List.set_cons_zero, List.set_cons_succ]
              refine wpAnyH_take (i := 5) (oi := ?_) (v := ?_) ?_ (by kernel_rfl) (by kernel_rfl) (by kernel_rfl) (fun _ _ _ h => h) (Or.inl ⟨?_, ?_⟩) (by assumption) ?_
              rotate_left 2
              · (simp only [List.getElem?_toArray, List.getElem?_cons_succ, List.getElem?_cons_zero]; first | done | rfl)
              · rfl
              · intro w hSw
                try dsimp only at hSw
                go_simp <;> with_reducible rfl
              try simp only [Act.put, List.setIfInBounds_toArray, List.set_cons_zero, List.set_cons_succ]
              refine wpAnyH_take (i := 6) (oi := ?_) (v := ?_) ?_ (by kernel_rfl) (by kernel_rfl) (by kernel_rfl) (fun _ _ _ h => h) (Or.inl ⟨?_, ?_⟩) (by assumption) ?_
              rotate_left 2
              · (simp only [List.getElem?_toArray, List.getElem?_cons_succ, List.getElem?_cons_zero]; first | done | rfl)
              · rfl
              · intro w hSw
                try dsimp only at hSw
                go_simp <;> with_reducible rfl
              try simp only [Act.put, List.setIfInBounds_toArray, List.set_cons_zero, List.set_cons_succ]
              refine wpAnyH_take (i := 7) (oi := ?_) (v := ?_) ?_ (by kernel_rfl) (by kernel_rfl) (by kernel_rfl) (fun _ _ _ h => h) (Or.inl ⟨?_, ?_⟩) (by assumption) ?_
              rotate_left 2
              · (simp only [List.getElem?_toArray, List.getElem?_cons_succ, List.getElem?_cons_zero]; first | done | rfl)
              · rfl
              · intro w hSw
                try dsimp only at hSw
                go_simp <;> with_reducible rfl
              try simp only [Act.put, List.setIfInBounds_toArray, List.set_cons_zero, List.set_cons_succ]
              refine wpAnyH_take (i := 8) (oi := ?_) (v := ?_) ?_ (by kernel_rfl) (by kernel_rfl) (by kernel_rfl) (fun _ _ _ h => h) (Or.inl ⟨?_, ?_⟩) (by assumption) ?_
              rotate_left 2
              · (simp only [List.getElem?_toArray, List.getElem?_cons_succ, List.getElem?_cons_zero]; first | done | rfl)
              · rfl
              · intro w hSw
                try dsimp only at hSw
                go_simp <;> with_reducible rfl
              try simp only [Act.put, List.setIfInBounds_toArray, List.set_cons_zero, List.set_cons_succ]
              refine wpAnyH_take (i := 9) (oi := ?_) (v := ?_) ?_ (by kernel_rfl) (by kernel_rfl) (by kernel_rfl) (fun _ _ _ h => h) (Or.inl ⟨?_, ?_⟩) (by assumption) ?_
              rotate_left 2
              · (simp only [List.getElem?_toArray, List.getElem?_cons_succ, List.getElem?_cons_zero]; first | done | rfl)
              · rfl
              · intro w hSw
                try dsimp only at hSw
                go_simp <;> with_reducible rfl
              try simp only [Act.put, List.setIfInBounds_toArray, List.set_cons_zero, List.set_cons_succ]
              refine wpAnyH_take (i := 10) (oi := ?_) (v := ?_) ?_ (by kernel_rfl) (by kernel_rfl) (by kernel_rfl) (fun _ _ _ h => h) (Or.inl ⟨?_, ?_⟩) (by assumption) ?_
              rotate_left 2
              · (simp only [List.getElem?_toArray, List.getElem?_cons_succ, List.getElem?_cons_zero]; first | done | rfl)
              · rfl
              · intro w hSw
                try dsimp only at hSw
                go_simp <;> with_reducible rfl
              try simp only [Act.put, List.setIfInBounds_toArray, List.set_cons_zero, List.set_cons_succ]
              refine wpAnyH_take (i := 11) (oi := ?_) (v := ?_) ?_ (by kernel_rfl) (by kernel_rfl) (by kernel_rfl) (fun _ _ _ h => h) (Or.inl ⟨?_, ?_⟩) (by assumption) ?_
              rotate_left 2
              · (simp only [List.getElem?_toArray, List.getElem?_cons_succ, List.getElem?_cons_zero]; first | done | rfl)
              · rfl
              · intro w hSw
                try dsimp only at hSw
                go_simp <;> with_reducible rfl
              try simp only [Act.put, List.setIfInBounds_toArray, List.set_cons_zero, List.set_cons_succ]
              refine wpAnyH_take (i := 12) (oi := ?_) (v := ?_) ?_ (by kernel_rfl) (by kernel_rfl) (by kernel_rfl) (fun _ _ _ h => h) (Or.inl ⟨?_, ?_⟩) (by assumption) ?_
              rotate_left 2
              · (simp only [List.getElem?_toArray, List.getElem?_cons_succ, List.getElem?_cons_zero]; first | done | rfl)
              · rfl
              · intro w hSw
                try dsimp only at hSw
                go_simp <;> with_reducible rfl
              try simp only [Act.put, List.setIfInBounds_toArray, List.set_cons_zero, List.set_cons_succ]
              refine wpAnyH_ready (rs := [13, 14]) (by kernel_rfl) (by simp) ?_
              refine AllReadyH.cons rfl (fun K hK => ?_) (AllReadyH.cons rfl (fun K hK => ?_) AllReadyH.nil)
              · refine wp_putK slt_u8 (.tmp 54) (.tmp 66) rfl rfl rfl (HSL.out.ext (by (repeat (first | exact Ext.rfl' _ | assumption | refine Ext.dr ?_ | refine Ext.drN ?_ _ | refine Ext.al ?_ _ | refine Ext.st ?_ (by simp) _ | refine Ext.tr ?_ (by assumption))))) HNA.out (SRC.out _) (by have := HWL.out; omega) (by have := HWL.out; omega) ?_
                intro A6 c6 w6 o6 hs6 hst6 hn6
                have st6 : Stp (fun i => i = 9) wr o' w6 o6 := (Stp.ext (by (repeat (first | exact Ext.rfl' _ | assumption | refine Ext.dr ?_ | refine Ext.drN ?_ _ | refine Ext.al ?_ _ | refine Ext.st ?_ (by simp) _ | refine Ext.tr ?_ (by assumption))))).tr hst6
                have x6 : Ext w w6 := XT.out _ _ (HST.out.tr st6)
                refine hK.out _ _ (hks.out _ x6) (fun hHeld => ?_)
                clear hK K
                try simp only [List.getElem?_toArray, List.getElem?_cons_succ, List.getElem?_cons_zero, Act.put, List.setIfInBounds_toArray, List.set_cons_zero, List.set_cons_succ]
                refine wpAnyH_ready (rs := [14]) (by kernel_rfl) (by simp) ?_
                refine AllReadyH.cons rfl (fun K hK => ?_) AllReadyH.nil
                go_simp
                refine hK.out _ _ (hks.out _ (x6.al _)) (fun hHeld => ?_)
                clear hK K
                try simp only [List.getElem?_toArray, List.getElem?_cons_succ, List.getElem?_cons_zero, Act.put, List.setIfInBounds_toArray, List.set_cons_zero, List.set_cons_succ]
                refine wpAnyH_ready (rs := [15]) (by kernel_rfl) (by simp) ?_
                refine AllReadyH.cons rfl (fun K hK => ?_) AllReadyH.nil
                refine wp_putK slt_u8 (.tmp 67) (.tmp 68) rfl rfl rfl (hs6.ext ((Ext.rfl' _).al _)) hn6 (src_crlf _ _ (Ext.rfl' _)) (by have := HWL.out; omega) (by have := HWL.out; omega) ?_
                intro A7 c7 w7 o7 hs7 hst7 hn7
                have st7 : Stp (fun i => i = 9) wr o' w7 o7 := st6.tr ((Stp.ext ((Ext.rfl' _).al _)).tr hst7)
                refine hK.out _ _ (hks.out _ (XT.out _ _ (HST.out.tr st7))) (fun hHeld => ?_)
                clear hK K
                try simp only [List.getElem?_toArray, List.getElem?_cons_succ, List.getElem?_cons_zero, Act.put, List.setIfInBounds_toArray, List.set_cons_zero, List.set_cons_succ]
                refine wpAnyH_take (i := 16) (oi := ?_) (v := ?_) ?_ (by kernel_rfl) (by kernel_rfl) (by kernel_rfl) (fun _ _ _ h => h) (Or.inl ⟨?_, ?_⟩) (by assumption) ?_
                rotate_left 2
                · (simp only [List.getElem?_toArray, List.getElem?_cons_succ, List.getElem?_cons_zero]; first | done | rfl)
                · rfl
                · intro w hSw
                  try dsimp only at hSw
                  go_simp <;> with_reducible rfl
                try simp only [Act.put, List.setIfInBounds_toArray, List.set_cons_zero, List.set_cons_succ]
                refine wpAnyH_done (by kernel_rfl) ?_ _
                refine NoPanic.normal ?_
                go_wp2
                go_roundw
                case rel => exact ⟨t + 1, ol ++ lw ++ [13, 10], A7, c7, o7, by rw [List.length_append, List.length_append]; rfl, by go_num, by omega, HS2.out, by rw [HTK.out, HW2.out, HOL.out]; simp, by rw [List.length_append, List.length_append, bc_app, bc_app]; exact hs7, hn7, HST.out.tr st7⟩
                case measure => simp [intOf]; omega
              · go_simp
                have st5 : Stp (fun _ => False) wr o' ((wr.drewN (nq + 1)).alloc (.cells #[.int .u8 13, .int .u8 10] 5)) (fun z => if z < wr.heap.size then o' z else 0) := Stp.ext2 (by (repeat (first | exact Ext.rfl' _ | assumption | refine Ext.dr ?_ | refine Ext.drN ?_ _ | refine Ext.al ?_ _ | refine Ext.st ?_ (by simp) _ | refine Ext.tr ?_ (by assumption)))) (fun z hz => if_pos hz)
                have hs5 := HSL.out.stp st5 (fun x => x)
                have x5 : Ext w ((wr.drewN (nq + 1)).alloc (.cells #[.int .u8 13, .int .u8 10] 5)) := hext.tr st5.noExt
                have hrc : Rd ((wr.drewN (nq + 1)).alloc (.cells #[.int .u8 13, .int .u8 10] 5)) (some ⟨wr.heap.size, 0, none⟩) (bc [13, 10]) := rd_newF (wr.drewN (nq + 1)) [.int .u8 13, .int .u8 10] 5
                refine hK.out _ _ (hks.out _ x5) (fun hHeld => ?_)
                clear hK K
                try simp only [List.getElem?_toArray, List.getElem?_cons_succ, List.getElem?_cons_zero, Act.put, List.setIfInBounds_toArray, List.set_cons_zero, List.set_cons_succ]
                refine wpAnyH_ready (rs := [13]) (by kernel_rfl) (by simp) ?_
                refine AllReadyH.cons rfl (fun K hK => ?_) AllReadyH.nil
                refine wp_putK slt_u8 (.tmp 54) (.tmp 66) rfl rfl rfl hs5 HNA.out (SRC.out _) (by have := HWL.out; omega) (by have := HWL.out; omega) ?_
                intro A6 c6 w6 o6 hs6 hst6 hn6
                have hrc6 := hrc.stp hst6 (fun a ha _ => by cases ha; simp)
                have st6 : Stp (fun i => i = 9) wr o' w6 o6 := (st5.mono fun _ h => h.elim).tr hst6
                have x6 : Ext w w6 := XT.out _ _ (HST.out.tr st6)
                refine hK.out _ _ (hks.out _ x6) (fun hHeld => ?_)
                clear hK K
                try simp only [List.getElem?_toArray, List.getElem?_cons_succ, List.getElem?_cons_zero, Act.put, List.setIfInBounds_toArray, List.set_cons_zero, List.set_cons_succ]
                refine wpAnyH_ready (rs := [15]) (by kernel_rfl) (by simp) ?_
                refine AllReadyH.cons rfl (fun K hK => ?_) AllReadyH.nil
                refine wp_putK slt_u8 (.tmp 67) (.tmp 68) rfl rfl rfl hs6 hn6 (Sl.src (n := 2) (size := 1) Tryz.underlying22 hrc6 rfl (by omega) (bc_one [13, 10]) 2) (by have := HWL.out; omega) (by have := HWL.out; omega) ?_
                intro A7 c7 w7 o7 hs7 hst7 hn7
                have st7 : Stp (fun i => i = 9) wr o' w7 o7 := st6.tr hst7
                refine hK.out _ _ (hks.out _ (XT.out _ _ (HST.out.tr st7))) (fun hHeld => ?_)
                clear hK K
                try simp only [List.getElem?_toArray, List.getElem?_cons_succ, List.getElem?_cons_zero, Act.put, List.setIfInBounds_toArray, List.set_cons_zero, List.set_cons_succ]
                refine wpAnyH_take (i := 16) (oi := ?_) (v := ?_) ?_ (by kernel_rfl) (by kernel_rfl) (by kernel_rfl) (fun _ _ _ h => h) (Or.inl ⟨?_, ?_⟩) (by assumption) ?_
                rotate_left 2
                · (simp only [List.getElem?_toArray, List.getElem?_cons_succ, List.getElem?_cons_zero]; first | done | rfl)
                · rfl
                · intro w hSw
                  try dsimp only at hSw
                  go_simp <;> with_reducible rfl
                try simp only [Act.put, List.setIfInBounds_toArray, List.set_cons_zero, List.set_cons_succ]
                refine wpAnyH_done (by kernel_rfl) ?_ _
                refine NoPanic.normal ?_
                go_wp2
                go_roundw
                case rel => exact ⟨t + 1, ol ++ lw ++ [13, 10], A7, c7, o7, by rw [List.length_append, List.length_append]; rfl, by go_num, by omega, HS2.out, by rw [HTK.out, HW2.out, HOL.out]; simp, by rw [List.length_append, List.length_append, bc_app, bc_app]; exact hs7, hn7, HST.out.tr st7⟩
                case measure => simp [intOf]; omega
          · have htn : t = n := by omega
            have k2 : ¬ (t : Int) < (n : Int) := by omega
            have HV := Lib.hid (show R = (ol ++ [13, 10], 0) from by
              rw [HLO.out, if_neg]
              · rw [HOL.out, List.take_of_length_le (by have := HNF.out; omega)]; simp
              · unfold longF
                rw [Bool.or_eq_true]
                rintro (h | h)
                · rw [decide_eq_true_eq, HNF.out] at h; omega
                · rw [List.any_eq_true] at h
                  obtain ⟨f, hf, h2⟩ := h
                  obtain ⟨j, hj, rfl⟩ := List.getElem_of_mem hf
                  have := HLE.out j hj (by have := HNF.out; omega)
                  simp at h2; omega)
            go_wp2_with (first
              | (at_builtin; refine wpL_put slt_u8 (.tmp 70) (.tmp 71) rfl rfl rfl rfl (HSL.out.ext (by (repeat (first | exact Ext.rfl' _ | assumption | refine Ext.dr ?_ | refine Ext.drN ?_ _ | refine Ext.al ?_ _ | refine Ext.st ?_ (by simp) _ | refine Ext.tr ?_ (by assumption))))) HNA.out (src_crlf _ _ (Ext.rfl' _)) (by omega) (by omega) ?_; intro A7 c7 w7 o7 hs7 st7 hn7))
            go_ret2
            rw [HV.out]
            exact Ret.mk ⟨A7, c7, by rw [List.length_append]; rfl, by rw [bc_app]; exact hs7.rd⟩ (XT.out w7 o7 (HST.out.tr ((Stp.ext (by (repeat (first | exact Ext.rfl' _ | assumption | refine Ext.dr ?_ | refine Ext.drN ?_ _ | refine Ext.al ?_ _ | refine Ext.st ?_ (by simp) _ | refine Ext.tr ?_ (by assumption))))).tr st7)))
end Go.Proofs.YtnakeigpelcajaaGreatDoor
end
