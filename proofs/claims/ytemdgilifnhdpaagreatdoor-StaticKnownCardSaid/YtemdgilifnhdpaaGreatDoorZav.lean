/-
A world: Put; File.
-/
import Derived.Test.YtemdgilifnhdpaaGreatDoorZau
import Derived.BigRegion
import Derived.Lib.SlBytesConst
import Derived.Test.YtemdgilifnhdpaaGreatDoorShelfI
import Derived.Test.YtemdgilifnhdpaaGreatDoorZas
import Derived.Test.YtemdgilifnhdpaaGreatDoorZae
set_option linter.unusedVariables false
set_option linter.unusedSimpArgs false
section
namespace Go.Proofs.YtemdgilifnhdpaaGreatDoor
open Go.RowKit

theorem wPut_c (w : World) (o : Ow) (k p : Nat) (s : Wrl) (h : WdAt w o k p s) (hk : Wok s) (l b : List UInt8) (hl : l.length ≤ 140737488355328) (B : Option Addr) (n d : Nat) (hn : n = b.length) (hb : n < 9223372036854775808) (hB : Rd w B (bc b)) (hBn : B = none → d = 0) (hBk : b = [] ∨ ∀ a, B = some a → a.block < w.heap.size → ¬ o a.block = k) (hv : s.ver < 4611686018427387904) :
    Calls Tryz.prog 24 #[.pointer (some ⟨p, 0, none⟩), .string (str l), .slice B n d] w (Turns (KW k) w o fun v w' o' => v = .int .i64 (putW s l b).2 ∧ WdAt w' o' k p (putW s l b).1) := by
  unfold putW
  cases hp : pathF l with
  | false =>
    rw [if_pos rfl]
    obtain ⟨mb, pl, hh, _⟩ := h.row
    refine (wPut_bad p mb l hl B n d hp w hh.c0).mono ?_
    rintro e w' ⟨rfl, hx⟩
    exact Turns.mk o rfl ⟨rfl, h.ext hx⟩ (Stp.ext hx)
  | true =>
    rw [if_neg (by simp)]
    by_cases h1 : 1048576 < b.length
    · rw [if_pos (.inl h1)]
      refine (wPut_big w o k p s h l hl B n d hb hp (by omega)).mono ?_
      rintro e w' ⟨rfl, hx⟩
      exact Turns.mk o rfl ⟨rfl, h.ext hx⟩ (Stp.ext hx)
    · by_cases h2 : (lkM s.L l).isSome = false ∧ s.L.length = 1000
      · rw [if_pos (.inr h2)]
        refine (wPut_many w o k p s h l hl B n d hb hp (by omega) (by simpa using h2.1) h2.2).mono ?_
        rintro e w' ⟨rfl, hx⟩
        exact Turns.mk o rfl ⟨rfl, h.ext hx⟩ (Stp.ext hx)
      · rw [if_neg (by rintro (h | h); exact h1 h; exact h2 h)]
        refine (wPut_good w o k p s h hk l b hl B n d hn hB hBn hBk hp hv (by omega) ?_).mono ?_
        · cases hf : (lkM s.L l).isSome
          · exact .inr fun e => h2 ⟨hf, e⟩
          · exact .inl rfl
        · intro e w' h; exact h

theorem Sl.away {w : World} {o : Ow} {j n c : Nat} {A : Option Addr} {b : List UInt8} (h : Sl w o j 1 A n c (bc b)) {k : Nat} (hk : j ≠ k) : b = [] ∨ ∀ a, A = some a → a.block < w.heap.size → ¬ o a.block = k := by
  have hl := h.len
  have hc := h.le
  rcases h.at_ with h0 | ⟨g, f, rfl, ho, _⟩
  · left
    refine List.eq_nil_of_length_eq_zero ?_
    rw [bc_len] at hl
    omega
  · right
    rintro a ⟨⟩ _
    show ¬ o g = k
    rw [ho]; exact hk
set_option maxRecDepth 100000 in
set_option maxHeartbeats 4000000 in
theorem wFile_none (w : World) (o : Ow) (k p : Nat) (s : Wrl) (h : WdAt w o k p s) (l : List UInt8) (hl : l.length ≤ 4611686018427387904) (hf : lkM s.L l = none) :
    Calls Tryz.prog 20 #[.pointer (some ⟨p, 0, none⟩), .string (str l)] w (Gives (.tuple #[.agg #[.string ⟨#[]⟩, .slice none 0 0, .int .i64 0], .int .i64 0, .int .i64 3]) w) := by
  obtain ⟨mb, pl, hh, hm, hlt, hi, hs⟩ := h.row
  have c0 := hh.c0
  have hlm : l.length ≤ maxLen := by simp only [maxLen]; omega
  have HH := Lib.hid (fun w' (e : Ext w w') => hh.ext e)
  have HI := Lib.hid (fun w' (e : Ext w w') => World.isM.same hi (e.block mb hlt))
  have HK0 := lk_enc pl s.L l
  rw [hf] at HK0
  have HK := Lib.hid HK0
  clear HK0 hf
  have hc0 := fun x => ((show Ext w (w.alloc x) by (repeat (first | exact Ext.rfl' _ | assumption | refine Ext.dr ?_ | refine Ext.drN ?_ _ | refine Ext.al ?_ _ | refine Ext.st ?_ (by simp) _ | refine Ext.tr ?_ (by assumption)))).cell (p := ⟨p, 0, none⟩) (lt_of_cell c0)).trans c0
  go_enter Tryz.func20, Tryz.ntmps20
  go_wp2_with (first
    | (go_at_call 49; refine (none_no p mb _ (hc0 _)).mono ?_; rintro e w1 ⟨rfl, hx1⟩; have hx2 : Ext w w1 := (show Ext w (w.alloc _) by (repeat (first | exact Ext.rfl' _ | assumption | refine Ext.dr ?_ | refine Ext.drN ?_ _ | refine Ext.al ?_ _ | refine Ext.st ?_ (by simp) _ | refine Ext.tr ?_ (by assumption)))).tr hx1; have u0 := (HH.out w1 hx2).c0; have hi1 := HI.out w1 hx2; have r0 := fun x => (hx1.tr (show Ext w1 (w1.alloc x) by (repeat (first | exact Ext.rfl' _ | assumption | refine Ext.dr ?_ | refine Ext.drN ?_ _ | refine Ext.al ?_ _ | refine Ext.st ?_ (by simp) _ | refine Ext.tr ?_ (by assumption))))).new 0 _ rfl; have r1 := fun x => (hx1.tr (show Ext w1 (w1.alloc x) by (repeat (first | exact Ext.rfl' _ | assumption | refine Ext.dr ?_ | refine Ext.drN ?_ _ | refine Ext.al ?_ _ | refine Ext.st ?_ (by simp) _ | refine Ext.tr ?_ (by assumption))))).new 1 _ rfl; have r2 := fun x => (hx1.tr (show Ext w1 (w1.alloc x) by (repeat (first | exact Ext.rfl' _ | assumption | refine Ext.dr ?_ | refine Ext.drN ?_ _ | refine Ext.al ?_ _ | refine Ext.st ?_ (by simp) _ | refine Ext.tr ?_ (by assumption))))).new 2 _ rfl; have f0 := fun x => (hx1.tr (show Ext w1 (w1.alloc x) by (repeat (first | exact Ext.rfl' _ | assumption | refine Ext.dr ?_ | refine Ext.drN ?_ _ | refine Ext.al ?_ _ | refine Ext.st ?_ (by simp) _ | refine Ext.tr ?_ (by assumption))))).newfr 0; have f1 := fun x => (hx1.tr (show Ext w1 (w1.alloc x) by (repeat (first | exact Ext.rfl' _ | assumption | refine Ext.dr ?_ | refine Ext.drN ?_ _ | refine Ext.al ?_ _ | refine Ext.st ?_ (by simp) _ | refine Ext.tr ?_ (by assumption))))).newfr 1; have f2 := fun x => (hx1.tr (show Ext w1 (w1.alloc x) by (repeat (first | exact Ext.rfl' _ | assumption | refine Ext.dr ?_ | refine Ext.drN ?_ _ | refine Ext.al ?_ _ | refine Ext.st ?_ (by simp) _ | refine Ext.tr ?_ (by assumption))))).newfr 2)
    | (at_lookup; refine wpL_look rfl _ _ 44 rfl 110 keyedS mapU Tryz.underlying9 (Tryz.zeroValue110 _) rfl hi1 l hlm rfl ?_; rw [HK.out]; simp only [Option.getD_none, Option.isSome_none, Option.map_none]))
  refine bodyPost_ret (v := .tuple #[.agg #[.string ⟨#[]⟩, .slice none 0 0, .int .i64 0], .int .i64 0, .int .i64 3]) (by simp [results, Tryz.results20, go_sem, r0, r1, r2]) rfl ?_
  exact ⟨rfl, by (repeat (first | exact Ext.rfl' _ | assumption | refine Ext.dr ?_ | refine Ext.drN ?_ _ | refine Ext.al ?_ _ | refine Ext.st ?_ (by simp) _ | refine Ext.tr ?_ (by assumption)))⟩
set_option maxRecDepth 100000 in
set_option maxHeartbeats 4000000 in
theorem wFile_some (j : Nat) (w : World) (o : Ow) (k p : Nat) (s : Wrl) (h : WdAt w o k p s) (hk : Wok s) (l : List UInt8) (hl : l.length ≤ 4611686018427387904) (f : Fil) (hf : lkM s.L l = some f) :
    Calls Tryz.prog 20 #[.pointer (some ⟨p, 0, none⟩), .string (str l)] w (Turns (fun _ => False) w o fun v w' o' => ∃ A c, v = .tuple #[.agg #[.string (str l), .slice A f.b.length c, .int .i64 f.mt], .int .i64 (f.ve : Int), .int .i64 0] ∧ Sl w' o' j 1 A f.b.length c (bc f.b) ∧ (A = none → c = 0)) := by
  obtain ⟨mb, pl, hh, hm, hlt, hi, hs⟩ := h.row
  have c0 := hh.c0
  have hlm : l.length ≤ maxLen := by simp only [maxLen]; omega
  have HH := Lib.hid (fun w' (e : Ext w w') => hh.ext e)
  have HI := Lib.hid (fun w' (e : Ext w w') => World.isM.same hi (e.block mb hlt))
  have HK0 := lk_enc pl s.L l
  have hfm := lk_mem hf
  have hsl := hs _ hfm
  have hsz := hk.size _ hfm
  dsimp only at hsl hsz
  rw [hf] at HK0
  have HK : Hid (lkM (enc pl s.L) l = some (.agg #[.string (str l), .slice (pl l).1 f.b.length (pl l).2, .int .i64 f.mt, .int .i64 (f.ve : Int)])) := Lib.hid HK0
  obtain ⟨n0, hn0⟩ : ∃ n0, n0 = f.b.length := ⟨_, rfl⟩
  obtain ⟨A0, d0, hA0⟩ : ∃ A0 d0, pl l = (A0, d0) := ⟨_, _, rfl⟩
  rw [hA0] at hsl
  rw [← hn0, hA0] at HK
  obtain ⟨m0, hm0⟩ : ∃ m0, m0 = f.mt := ⟨_, rfl⟩
  obtain ⟨v0, hv0⟩ : ∃ v0, v0 = (f.ve : Int) := ⟨_, rfl⟩
  rw [← hm0, ← hv0] at HK
  rw [← hn0, ← hm0, ← hv0]
  have HSL := Lib.hid hsl.1.rd
  have HNA : Hid (A0 = none → d0 = 0) := Lib.hid hsl.2
  have HN0 := Lib.hid hn0
  have hnb : n0 ≤ 140737488351232 := by omega
  clear HK0 hf hA0 hm0 hv0 hfm hsl hsz hn0
  have hc0 := fun x => ((show Ext w (w.alloc x) by (repeat (first | exact Ext.rfl' _ | assumption | refine Ext.dr ?_ | refine Ext.drN ?_ _ | refine Ext.al ?_ _ | refine Ext.st ?_ (by simp) _ | refine Ext.tr ?_ (by assumption)))).cell (p := ⟨p, 0, none⟩) (lt_of_cell c0)).trans c0
  go_enter Tryz.func20, Tryz.ntmps20
  go_wp2_with (first
    | (go_at_call 49; refine (none_no p mb _ (hc0 _)).mono ?_; rintro e w1 ⟨rfl, hx1⟩; have hx2 : Ext w w1 := (show Ext w (w.alloc _) by (repeat (first | exact Ext.rfl' _ | assumption | refine Ext.dr ?_ | refine Ext.drN ?_ _ | refine Ext.al ?_ _ | refine Ext.st ?_ (by simp) _ | refine Ext.tr ?_ (by assumption)))).tr hx1; have u0 := (HH.out w1 hx2).c0; have hi1 := HI.out w1 hx2)
    | (at_lookup; refine wpL_look rfl _ _ 44 rfl 110 keyedS mapU Tryz.underlying9 (Tryz.zeroValue110 _) rfl hi1 l hlm rfl ?_; rw [HK.out]; simp only [Option.getD_some, Option.isSome_some, Option.map_some])
    | (go_at_call 52; refine (sClone_c j f.b A0 n0 d0 HN0.out HNA.out _ (fun b => if b = w1.heap.size then j + 1 else if b = w.heap.size then j + 2 else o b) ((HSL.out.ext hx2).ext (by (repeat (first | exact Ext.rfl' _ | assumption | refine Ext.dr ?_ | refine Ext.drN ?_ _ | refine Ext.al ?_ _ | refine Ext.st ?_ (by simp) _ | refine Ext.tr ?_ (by assumption))))) hnb).mono ?_; rintro e w5 ⟨v5, o5, rfl, ⟨A5, c5, rfl, hs5, hn5⟩, st5⟩; have x5 := st5.noExt; have r0 := x5.new 0 _ rfl; have r1 := x5.new 1 _ rfl; have r2 := x5.new 2 _ rfl; have r3 := x5.new 3 _ rfl; have f1 := x5.newfr 1))
  have hlt1 : w.heap.size < w1.heap.size := Nat.lt_of_lt_of_le (by simp) hx1.size
  have hx9 : Ext (w.alloc (.cells #[.string ⟨#[]⟩, .slice none 0 0, .int .i64 0] 24)) w5 := (hx1.tr (show Ext w1 (w1.alloc _) by (repeat (first | exact Ext.rfl' _ | assumption | refine Ext.dr ?_ | refine Ext.drN ?_ _ | refine Ext.al ?_ _ | refine Ext.st ?_ (by simp) _ | refine Ext.tr ?_ (by assumption))))).tr x5
  have hh5 : w5.heap[w1.heap.size]? = some (.cells #[.string (str l), .slice A0 n0 d0, .int .i64 m0, .int .i64 v0] 110 (0, 0)) := (x5.block _ (by simp)).trans (heap_alloc_new w1 _)
  have hr5 : w5.heap[w.heap.size]? = some (.cells #[.string ⟨#[]⟩, .slice none 0 0, .int .i64 0] 24 (0, 0)) := (hx9.block _ (by simp)).trans (heap_alloc_new w _)
  have hh6 := row_set hh5 1 (.slice A5 n0 c5)
  have oX : o5 w1.heap.size = j + 1 := by rw [st5.own _ (by simp)]; simp
  have oR : o5 w.heap.size = j + 2 := by rw [st5.own _ (by simp; omega)]; simp [Nat.ne_of_lt hlt1]
  have oo : ∀ b, b < w.heap.size → o5 b = o b := fun b hb => by
    rw [st5.own b (by simp; omega), if_neg (by omega), if_neg (by omega)]
  have st6 : Stp (fun i => i = j + 1) w5 o5 (w5.setCell ⟨w1.heap.size, 1, none⟩ (.slice A5 n0 c5)) o5 := Stp.set _ 1 _ (fun _ => oX)
  have hr6 := (st6.keep w.heap.size (row_lt hr5) (by rw [oR]; omega)).trans hr5
  have hs6 := hs5.stp st6 (by omega)
  have x6 : Ext w (w5.setCell ⟨w1.heap.size, 1, none⟩ (.slice A5 n0 c5)) := Ext.st ((show Ext w (w.alloc _) by (repeat (first | exact Ext.rfl' _ | assumption | refine Ext.dr ?_ | refine Ext.drN ?_ _ | refine Ext.al ?_ _ | refine Ext.st ?_ (by simp) _ | refine Ext.tr ?_ (by assumption)))).tr hx9) (by show w.heap.size ≤ w1.heap.size; omega) _
  obtain ⟨W7, hW7⟩ : ∃ W7, W7 = w5.setCell ⟨w1.heap.size, 1, none⟩ (.slice A5 n0 c5) := ⟨_, rfl⟩
  rw [← hW7] at hh6 hr6 hs6 x6 ⊢
  obtain ⟨XN, hXN⟩ : ∃ XN, XN = w1.heap.size := ⟨_, rfl⟩
  obtain ⟨RN, hRN⟩ : ∃ RN, RN = w.heap.size := ⟨_, rfl⟩
  rw [← hXN, ← hRN] at hlt1
  rw [← hXN] at hh6
  rw [← hRN] at hr6 oR
  have hRN2 : w.heap.size ≤ RN := Nat.le_of_eq hRN.symm
  rw [← hXN, ← hRN]
  have g0 := (row_facts hh6 0 _ rfl).1
  have g1 := (row_facts hh6 1 _ rfl).1
  have g2 := (row_facts hh6 2 _ rfl).1
  have g3 := (row_facts hh6 3 _ rfl).1
  have k0 := row_facts hr6 0 _ rfl
  have k1 := row_facts hr6 1 _ rfl
  have k2 := row_facts hr6 2 _ rfl
  obtain ⟨k00, k01⟩ := k0
  obtain ⟨k10, k11⟩ := k1
  obtain ⟨k20, k21⟩ := k2
  have hne : ¬ XN = RN := by omega
  have hne2 : ¬ RN = XN := by omega
  clear r0 r1 r2 r3 f1 hW7 hh5 hr5 st6 hx9 hXN hRN oX
  go_region
  have sa : Stp (fun i => i = j + 2) W7 o5 (W7.setCell ⟨RN, 0, none⟩ (.string (str l))) o5 := Stp.set _ 0 _ (fun _ => oR)
  have sb : Stp (fun i => i = j + 2) _ o5 ((W7.setCell ⟨RN, 0, none⟩ (.string (str l))).setCell ⟨RN, 1, none⟩ (.slice A5 n0 c5)) o5 := Stp.set _ 1 _ (fun _ => oR)
  have sc : Stp (fun i => i = j + 2) _ o5 (((W7.setCell ⟨RN, 0, none⟩ (.string (str l))).setCell ⟨RN, 1, none⟩ (.slice A5 n0 c5)).setCell ⟨RN, 2, none⟩ (.int .i64 m0)) o5 := Stp.set _ 2 _ (fun _ => oR)
  have hs9 := hs6.stp ((sa.tr sb).tr sc) (by omega)
  have xa := Ext.st (Ext.st (Ext.st x6 (p := ⟨RN, 0, none⟩) hRN2 (.string (str l))) (p := ⟨RN, 1, none⟩) hRN2 (.slice A5 n0 c5)) (p := ⟨RN, 2, none⟩) hRN2 (.int .i64 m0)
  have y := row_set (row_set (row_set hr6 0 (.string (str l))) 1 (.slice A5 n0 c5)) 2 (.int .i64 m0)
  obtain ⟨W8, hW8⟩ : ∃ W8, W8 = ((W7.setCell ⟨RN, 0, none⟩ (.string (str l))).setCell ⟨RN, 1, none⟩ (.slice A5 n0 c5)).setCell ⟨RN, 2, none⟩ (.int .i64 m0) := ⟨_, rfl⟩
  rw [← hW8] at y hs9 xa ⊢
  have y0 := (row_facts y 0 _ rfl).1
  have y1 := (row_facts y 1 _ rfl).1
  have y2 := (row_facts y 2 _ rfl).1
  clear hW8 y sa sb sc
  go_wp2
  refine bodyPost_ret (v := .tuple #[.agg #[.string (str l), .slice A5 n0 c5, .int .i64 m0], .int .i64 v0, .int .i64 0]) (by simp [results, Tryz.results20, go_sem, y0, y1, y2]) rfl ?_
  exact Turns.mk o5 rfl ⟨A5, c5, rfl, hs9.ext (by (repeat (first | exact Ext.rfl' _ | assumption | refine Ext.dr ?_ | refine Ext.drN ?_ _ | refine Ext.al ?_ _ | refine Ext.st ?_ (by simp) _ | refine Ext.tr ?_ (by assumption)))), hn5⟩ (Stp.ext2 (Ext.dr xa) oo)
end Go.Proofs.YtemdgilifnhdpaaGreatDoor
end

section
namespace Go.Proofs.YtemdgilifnhdpaaGreatDoor
open Go.RowKit

theorem pre47 (l : List UInt8) : Lib.hasPrefix l [47] = decide (l.head? = some 47) := by
  unfold Lib.hasPrefix
  cases l with
  | nil => rfl
  | cons a r =>
    rw [Bool.eq_iff_iff]
    simp [List.isPrefixOf]
    exact ⟨fun h => h.symm, fun h => h.symm⟩
theorem hasPre_iff (s p : List UInt8) : Lib.hasPrefix s p = decide (p <+: s) := by
  unfold Lib.hasPrefix; rw [Bool.eq_iff_iff, List.isPrefixOf_iff_prefix, decide_eq_true_eq]
theorem folder_no {s : Wrl} {l : List UInt8} (h : Lib.hasPrefix l [47] = false ∨ Lib.hasSuffix l [47] = false) : folderW s l = false := by
  unfold folderW
  rw [pre47, suf47] at h
  rcases h with h | h
  · rw [h]; rfl
  · have : decide (l.getLast? = some 47) = false := by rw [decide_eq_false_iff_not]; intro e; rw [e] at h; simp at h
    rw [this]; simp
theorem folder_in {s : Wrl} {l : List UInt8} (h1 : Lib.hasPrefix l [47] = true) (h2 : Lib.hasSuffix l [47] = true) : folderW s l = (decide (l = [47]) || s.L.any fun x => decide (l <+: x.1)) := by
  unfold folderW
  rw [pre47] at h1
  rw [suf47] at h2
  have : decide (l.getLast? = some 47) = true := by simpa using h2
  rw [h1, this]; rfl
set_option maxRecDepth 100000 in
set_option maxHeartbeats 4000000 in
theorem wFolder_c (w : World) (o : Ow) (k p : Nat) (s : Wrl) (h : WdAt w o k p s) (l : List UInt8) (hl : l.length ≤ 4611686018427387904) :
    Calls Tryz.prog 62 #[.pointer (some ⟨p, 0, none⟩), .string (str l)] w (Gives (.bool (folderW s l)) w) := by
  obtain ⟨mb, pl, hh, hm, hlt, hi, hs⟩ := h.row
  have c0 := hh.c0
  have HH := Lib.hid (fun w' (e : Ext w w') => hh.ext e)
  have HI := Lib.hid (fun w' (e : Ext w w') => World.isM.same hi (e.block mb hlt))
  have hl2 : (str l).size ≤ 9223372036854775807 := by rw [str_size]; omega
  have SP := fun w => Tryz.strings_HasPrefix (str l) ⟨#[47]⟩ w
  have SS := fun w => Tryz.strings_HasSuffix (str l) ⟨#[47]⟩ w hl2
  rw [str_data] at SP SS
  cases hp : Lib.hasPrefix l [47] with
  | false =>
    rw [hp] at SP
    have SP := Lib.hid SP
    have SS := Lib.hid SS
    rw [folder_no (.inl hp)]
    clear hp
    go_enter Tryz.func62, Tryz.ntmps62
    go_wp2_with (first
      | (go_at_call 49; refine (none_no p mb _ c0).mono ?_; rintro e w1 ⟨rfl, hx1⟩; have HX1 := Lib.hid hx1; have u0 := (HH.out w1 hx1).c0; have hi1 := HI.out w1 hx1)
      | (go_at_call_of 60 (Value.string ⟨#[47]⟩); refine (SP.out _).mono ?_; rintro e w2 ⟨rfl, rfl⟩)
      | (go_at_call 56; refine (SS.out _).mono ?_; rintro e w3 ⟨rfl, rfl⟩)
      | (at_range; refine wpL_mrange rfl _ 44 rfl 110 keyedS mapU rfl hi1 ?_; intro w4 hr4 hg4 hs4))
    go_ret
    exact ⟨rfl, by (repeat (first | exact Ext.rfl' _ | assumption | refine Ext.dr ?_ | refine Ext.drN ?_ _ | refine Ext.al ?_ _ | refine Ext.st ?_ (by simp) _ | refine Ext.tr ?_ (by assumption)))⟩
  | true =>
    rw [hp] at SP
    cases hq : Lib.hasSuffix l [47] with
    | false =>
      rw [hq] at SS
      have SP := Lib.hid SP
      have SS := Lib.hid SS
      rw [folder_no (.inr hq)]
      clear hp hq
      go_enter Tryz.func62, Tryz.ntmps62
      go_wp2_with (first
        | (go_at_call 49; refine (none_no p mb _ c0).mono ?_; rintro e w1 ⟨rfl, hx1⟩; have HX1 := Lib.hid hx1; have u0 := (HH.out w1 hx1).c0; have hi1 := HI.out w1 hx1)
        | (go_at_call_of 60 (Value.string ⟨#[47]⟩); refine (SP.out _).mono ?_; rintro e w2 ⟨rfl, rfl⟩)
        | (go_at_call 56; refine (SS.out _).mono ?_; rintro e w3 ⟨rfl, rfl⟩)
        | (at_range; refine wpL_mrange rfl _ 44 rfl 110 keyedS mapU rfl hi1 ?_; intro w4 hr4 hg4 hs4))
      go_ret
      exact ⟨rfl, by (repeat (first | exact Ext.rfl' _ | assumption | refine Ext.dr ?_ | refine Ext.drN ?_ _ | refine Ext.al ?_ _ | refine Ext.st ?_ (by simp) _ | refine Ext.tr ?_ (by assumption)))⟩
    | true =>
      rw [hq] at SS
      have SP := Lib.hid SP
      have SS := Lib.hid SS
      rw [folder_in hp hq]
      clear hp hq
      obtain ⟨R, hR⟩ : ∃ R, R = (decide (l = [47]) || s.L.any fun x => decide (l <+: x.1)) := ⟨_, rfl⟩
      rw [← hR]
      have HR := Lib.hid hR
      clear hR
      go_enter Tryz.func62, Tryz.ntmps62
      go_wp2_with (first
        | (go_at_call 49; refine (none_no p mb _ c0).mono ?_; rintro e w1 ⟨rfl, hx1⟩; have HX1 := Lib.hid hx1; have u0 := (HH.out w1 hx1).c0; have hi1 := HI.out w1 hx1)
        | (go_at_call_of 60 (Value.string ⟨#[47]⟩); refine (SP.out _).mono ?_; rintro e w2 ⟨rfl, rfl⟩)
        | (go_at_call 56; refine (SS.out _).mono ?_; rintro e w3 ⟨rfl, rfl⟩)
        | (at_range; refine wpL_mrange rfl _ 44 rfl 110 keyedS mapU rfl hi1 ?_; intro w4 hr4 hg4 hs4))
      have hx4 : Ext w w4 := HX1.out.gr hg4 (fun _ h => by cases h)
      have hlt3 : w.heap.size ≤ w3.heap.size := HX1.out.size
      obtain ⟨r, hr⟩ : ∃ r, r = w3.heap.size := ⟨_, rfl⟩
      rw [← hr] at hr4 hlt3 ⊢
      clear hr hg4 hs4
      have HX4 := Lib.hid hx4
      have HR4 := Lib.hid hr4
      clear hr4 hx4
      go_frame
      go_loopw [5] (fun _ wr => ∃ left cnt, World.rgM wr Tryz.prog 9 mb r (enc pl s.L) left cnt ∧ Ext w wr ∧ ∀ x ∈ s.L, left x.1 = false → ¬ l <+: x.1) (fun _ wr => wr.rangeLeft mb r)
      case atStart => exact ⟨_, _, HR4.out, HX4.out, fun x hx hl => by
        exfalso
        have : (lkM s.L x.1).isSome = true := by
          cases e : lkM s.L x.1 with
          | none => exact absurd rfl (lk_none_mem e x hx)
          | some _ => rfl
        rw [lk_enc] at hl
        simp [this] at hl⟩
      case round =>
        obtain ⟨left, cnt, hrg, hext, hno⟩ := hrel
        have HNO := Lib.hid hno
        clear hno
        go_wp2_with (first
          | (at_next; refine wpL_mnext rfl _ rfl keyedS Tryz.underlying9 rfl hrg ?_ ?_))
        · intro hz hall
          have hd : R = decide (l = [47]) := by
            rw [HR.out]
            have : (s.L.any fun x => decide (l <+: x.1)) = false := by
              rw [List.any_eq_false]
              intro x hx
              have := HNO.out x hx (hall x.1)
              simpa using this
            rw [this]; simp
          by_cases h47 : l = [47]
          · obtain rfl : R = true := by rw [hd]; simp [h47]
            have e47 : (str l) = ⟨#[47]⟩ := by rw [h47]; rfl
            clear hd h47 hz hall
            simp only [e47]
            go_wp2
            go_ret
            exact ⟨rfl, hext⟩
          · obtain rfl : R = false := by rw [hd]; simp [h47]
            have e1 : ¬ (str l).toList = [47] := by rw [str_tl]; exact h47
            obtain ⟨sl, hsl⟩ : ∃ sl, sl = str l := ⟨_, rfl⟩
            rw [← hsl] at e1 ⊢
            have e2 : (sl.toList == [47]) = false := by rw [beq_eq_false_iff_ne]; exact e1
            have e3 : ¬ sl.toList = (⟨#[47]⟩ : ByteArray).toList := by rw [show (⟨#[47]⟩ : ByteArray).toList = [47] from by rw [ByteArray.toList_eq]]; exact e1
            have e4 : (sl.toList == (⟨#[47]⟩ : ByteArray).toList) = false := by rw [beq_eq_false_iff_ne]; exact e3
            clear hd h47 hz hall hsl
            go_wp2
            go_ret
            exact ⟨rfl, hext⟩
        · intro l1 v w' cnt' hlf hlk hlm1 hrg' hlt' hg' hsz' hen
          have C := fun w => Tryz.strings_HasPrefix (str l1) (str l) w
          rw [str_data, str_data] at C
          have hmem : ∃ f, (l1, f) ∈ s.L := by
            rw [lk_enc] at hlk
            cases e : lkM s.L l1 with
            | none => rw [e] at hlk; cases hlk
            | some f => exact ⟨f, lk_mem e⟩
          have hx' : Ext w w' := hext.gr hg' (fun k h => by injection h with h; omega)
          have hen : (Instr.entry (.pointer (some ⟨r, 0, none⟩))).run Tryz.prog w' = .ok (.tuple #[.string (str l1), v]) w' := hen
          rw [show (⟨l1.toArray⟩ : ByteArray) = str l1 from rfl]
          have HLK := Lib.hid hlk
          clear hlk
          cases hpre : Lib.hasPrefix l1 l with
          | true =>
            rw [hpre] at C
            have hd : R = true := by
              rw [HR.out]
              obtain ⟨f, hf⟩ := hmem
              have : (s.L.any fun x => decide (l <+: x.1)) = true := by
                rw [List.any_eq_true]
                rw [hasPre_iff] at hpre
                exact ⟨_, hf, hpre⟩
              rw [this]; simp
            clear HR
            subst hd
            have C := Lib.hid C
            clear hpre
            go_wp2_with (go_at_call 60; refine (C.out _).mono ?_; rintro e w6 ⟨rfl, rfl⟩)
            go_ret
            exact ⟨rfl, hx'⟩
          | false =>
            rw [hpre] at C
            have C := Lib.hid C
            have HP := Lib.hid hpre
            clear hpre
            have HRG := Lib.hid hrg
            clear hrg
            go_wp2_with (go_at_call 60; refine (C.out _).mono ?_; rintro e w6 ⟨rfl, rfl⟩)
            go_roundw
            case rel => exact ⟨_, _, hrg', hx', fun x hx hl => by
              by_cases e : x.1 = l1
              · have := HP.out
                rw [hasPre_iff] at this
                rw [e]; simpa using this
              · exact HNO.out x hx (by simpa [e] using hl)⟩
            case measure => rw [hrg'.left_eq, HRG.out.left_eq]; omega
end Go.Proofs.YtemdgilifnhdpaaGreatDoor
end

section
namespace Go.Proofs.YtemdgilifnhdpaaGreatDoor
open Go.RowKit

end Go.Proofs.YtemdgilifnhdpaaGreatDoor
end

section
namespace Go.Proofs.YtemdgilifnhdpaaGreatDoor
open Go.RowKit

structure OpW where
  kind : Int
  n : Int
  path : List UInt8
  B : Option Addr
  d : Nat
  mm : List UInt8
def opW (x : OpW) : List Value := [.int .i64 x.kind, .int .i64 x.n, .string (str x.path), .slice x.B x.mm.length x.d]
def opsW (l : List OpW) : List Value := l.flatMap opW
theorem opsW_len (l : List OpW) : (opsW l).length = l.length * 4 := by induction l with | nil => rfl | cons x l ih => simp [opsW, List.flatMap_cons, opW] at *; omega
theorem opsW_at (l : List OpW) (k i : Nat) (hi : i < 4) : (opsW l)[k * 4 + i]? = l[k]?.bind fun x => (opW x)[i]? := by
  induction l generalizing k with
  | nil => simp [opsW]
  | cons x l ih => cases k with
    | zero =>
      simp only [opsW, List.flatMap_cons, Nat.zero_mul, Nat.zero_add, List.getElem?_cons_zero, Option.bind_some]
      rw [List.getElem?_append_left (by simp [opW]; omega)]
    | succ k =>
      have := ih k
      simp only [opsW, List.flatMap_cons] at *
      rw [List.getElem?_append_right (by simp [opW]; omega), show (k + 1) * 4 + i - (opW x).length = k * 4 + i from by simp [opW]; omega, this]
      simp
def OpOk (w : World) (x : OpW) : Prop := Rd w x.B (bc x.mm) ∧ x.mm.length ≤ 140737488351232 ∧ (-9223372036854775808 ≤ x.n ∧ x.n ≤ 9223372036854775807) ∧ x.path.length ≤ 140737488351232
structure RdOpW (w : World) (A : Option Addr) (l : List OpW) : Prop where
  rd : Rd w A (opsW l)
  each : ∀ x ∈ l, OpOk w x
theorem RdOpW.ext {w w' : World} {A : Option Addr} {l : List OpW} (h : RdOpW w A l) (e : Ext w w') : RdOpW w' A l := ⟨h.rd.ext e, fun x hx => ⟨(h.each x hx).1.ext e, (h.each x hx).2⟩⟩
theorem RdOpW.row {w : World} {A : Option Addr} {l : List OpW} (h : RdOpW w A l) {k : Nat} (hk : k < l.length) :
    ∃ b f, A = some ⟨b, f, none⟩ ∧ b < w.heap.size ∧ (w.cell? ⟨b, f + k * 4, none⟩ = some (.int .i64 l[k].kind) ∧ w.cell? ⟨b, f + k * 4 + 1, none⟩ = some (.int .i64 l[k].n) ∧ w.cell? ⟨b, f + k * 4 + 2, none⟩ = some (.string (str l[k].path)) ∧ w.cell? ⟨b, f + k * 4 + 3, none⟩ = some (.slice l[k].B l[k].mm.length l[k].d)) := by
  obtain ⟨b, f, hA, hb, hc⟩ := h.rd.at_ (by rw [opsW_len]; omega)
  have g := fun i hi => opsW_at l k i hi
  rw [List.getElem?_eq_getElem hk] at g
  refine ⟨b, f, hA, hb, ?_, ?_, ?_, ?_⟩
  · exact hc (k * 4) _ (by have := g 0 (by omega); simpa [opW] using this)
  · rw [Nat.add_assoc]; exact hc (k * 4 + 1) _ (by have := g 1 (by omega); simpa [opW] using this)
  · rw [Nat.add_assoc]; exact hc (k * 4 + 2) _ (by have := g 2 (by omega); simpa [opW] using this)
  · rw [Nat.add_assoc]; exact hc (k * 4 + 3) _ (by have := g 3 (by omega); simpa [opW] using this)
theorem RdOpW.cells {w : World} {b f : Nat} {l : List OpW} (h : RdOpW w (some ⟨b, f, none⟩) l) {k : Nat} (hk : k < l.length) :
    (w.cell? ⟨b, f + k * 4, none⟩ = some (.int .i64 l[k].kind) ∧ w.cell? ⟨b, f + k * 4 + 1, none⟩ = some (.int .i64 l[k].n) ∧ w.cell? ⟨b, f + k * 4 + 2, none⟩ = some (.string (str l[k].path)) ∧ w.cell? ⟨b, f + k * 4 + 3, none⟩ = some (.slice l[k].B l[k].mm.length l[k].d)) := by
  obtain ⟨b', f', he, _, h⟩ := h.row hk
  cases he
  exact h
theorem run_copy (k : Nat) (W : World) (o : Ow) (l : List UInt8) (B : Option Addr) (n d : Nat) (hn : n = l.length) (hB : Rd W B (bc l)) (hb : n ≤ 140737488351232) (ty : TypeId) :
    ∃ A' c' w' o', (Builtin.append_ #[22, 22] ty #[.slice (some ⟨W.heap.size, 0, none⟩) 0 0, .slice B n d]).run Tryz.prog (W.alloc (.cells #[] 5)) = .ok (.slice A' n c') w' ∧ Sl w' o' k 1 A' n c' (bc l) ∧ Stp (fun _ => False) W o w' o' ∧ (A' = none → c' = 0) := by
  obtain ⟨A', c', w', o', hr, h1, h2, h3⟩ := run_put slt_u8 (tx := 22) ty (w := W.alloc (.cells #[] 5)) (o := fun b => if b < W.heap.size then o b else 0) (Sl.nil_ _ _ k 1 (some ⟨W.heap.size, 0, none⟩)) (fun h => by cases h) (Sl.src Tryz.underlying22 (hB.ext (by (repeat (first | exact Ext.rfl' _ | assumption | refine Ext.dr ?_ | refine Ext.drN ?_ _ | refine Ext.al ?_ _ | refine Ext.st ?_ (by simp) _ | refine Ext.tr ?_ (by assumption))))) (n := n) (by simp [hn]) (by omega) (bc_one _) d) (by omega) (by simp only [maxLen]; omega)
  rw [Nat.zero_add] at hr h1
  exact ⟨A', c', w', o', hr, h1, (Stp.ext2 (by (repeat (first | exact Ext.rfl' _ | assumption | refine Ext.dr ?_ | refine Ext.drN ?_ _ | refine Ext.al ?_ _ | refine Ext.st ?_ (by simp) _ | refine Ext.tr ?_ (by assumption)))) (fun b hb => if_pos hb)).tr (h2.mono fun _ hi => by omega), h3⟩
theorem step_run {P : Program} {ops : Array Oper} {o : Oper} {a : Act} {K : Act → World → Prop} {Q : Exit → Act → World → Prop} {E : Prop} (s x : Operand) {t tx : TypeId}
    (ho : o.op = .call { callee := .builtin .append, args := #[s, x], argTypes := #[t, tx] }) (hgd : o.guard = none) {sv xv v' : Value} {w w' : World} (hs : a.eval s = sv) (hx : a.eval x = xv)
    (hr : (Builtin.append_ #[t, tx] o.type #[sv, xv]).run P w = .ok v' w') (h : K (a.put o.dst v') w') : if Region.wanted o (yielded ops a.tmps) = true then Oper.wp P o a w K Q else E := by
  have hw : Region.wanted o (yielded ops a.tmps) = true := by simp [Region.wanted, hgd]
  rw [if_pos hw]
  unfold Oper.wp execOp
  simp only [ho, resolve, invoke, builtin, Sem.run_bind, Sem.run_pure, Result.andThen_ok, List.map_toArray, List.map_cons, List.map_nil, hs, hx, hr]
  exact h
end Go.Proofs.YtemdgilifnhdpaaGreatDoor
end

section
namespace Go.Proofs.YtemdgilifnhdpaaGreatDoor
open Go.RowKit

end Go.Proofs.YtemdgilifnhdpaaGreatDoor
end

section
namespace Go.Proofs.YtemdgilifnhdpaaGreatDoor
open Go.RowKit Go.Maps Go.Sort Go.Shelf

theorem sortsW (m : Nat) : AnyZ.SortsIn Tryz.prog Tryz.sortedW_ren Fence.wide m :=
  ⟨fun blk off cap ss W hH hblk hsz => callsIn_wide.2 (AnyM.slices_Sort_string Tryz.sortW blk off cap ss W hH hblk hsz),
   fun p cap W => callsIn_wide.2 (AnyM.slices_Sort_string_none Tryz.sortW p cap W)⟩
theorem mKeys_c (mb : Option Nat) (W : World) : Calls Tryz.prog 51 #[.map mb] W fun e w' => e = .returned (.func (.func 86) #[] #[.pointer (some ⟨W.heap.size, 0, none⟩)]) ∧ w' = W.alloc (.cells #[.map mb] 44) :=
  (callsIn_wide (n := 5)).1 (AnyZ.keys_in Tryz.keysW Fence.wide 5 trivial rfl mb W)
def KeysSorted (w : World) (ks : List (List UInt8)) (e : Ending) (w' : World) : Prop := ∃ v, e = .returned v ∧ w'.ownsRow w.heap.size 9 1 v ks.length (ks.map encStr) ∧ Ext w w'
set_option maxHeartbeats 1000000 in
theorem slSorted_c {H : Type} (b nn : Nat) (D0 : DataW H) (R : Value → Option (DataW H × List MemPlace)) (w : World) (hown : w.ownsMap Tryz.prog 9 R b nn D0) (hmax : Maps.size D0 ≤ maxLen) (hbytes : Maps.size D0 * 16 ≤ 140737488355328) :
    Calls Tryz.prog 50 #[.func (.func 86) #[] #[.pointer (some ⟨w.heap.size, 0, none⟩)]] (w.alloc (.cells #[.map (some b)] 44)) (KeysSorted (w.alloc (.cells #[.map (some b)] 44)) ((strKeys D0).mergeSort (fun x y => decide (x ≤ y)))) := by
  have hbl := hown.lt
  have hseq : SeqGives Fence.wide 2 Tryz.prog 86 #[.pointer (some ⟨w.heap.size, 0, none⟩)] encStr (fun ss => ss.Perm (strKeys D0)) (Maps.size D0) (w.alloc (.cells #[.map (some b)] 44)) :=
    AnyZ.keys_gives (ρ := Tryz.keysW_ren) { Tryz.keysW with } Fence.wide _ trivial rfl (by omega) w.heap.size b nn D0 _ (by simp) (by simp) (by
      obtain ⟨es, clock, hb, Ft, hs, hD⟩ := hown
      exact ⟨es, clock, (Below.heap_alloc _ _ b hbl).trans hb, Ft, hs, hD⟩)
  refine ((callsIn_wide (n := 5)).1 (AnyZ.sorted_in Tryz.sortedW Fence.wide 5 trivial trivial trivial trivial rfl (by omega) (sortsW _) (enters_of Tryz.func85 (by kernel_rfl) rfl) 86 #[.pointer (some ⟨w.heap.size, 0, none⟩)] trivial (enters_of Tryz.func86 (by kernel_rfl) rfl) _ _ hmax hbytes _ hseq)).mono ?_
  rintro e w' ⟨v, ss, rfl, hS, hrow, _, hb⟩
  have e1 : ss.mergeSort (fun x y => decide (x ≤ y)) = (strKeys D0).mergeSort (fun x y => decide (x ≤ y)) := mergeSort_of_perm hS
  refine ⟨v, rfl, ?_, hb⟩
  rw [← e1]
  have e2 : (ss.mergeSort (fun x y => decide (x ≤ y))).length = ss.length := List.length_mergeSort ss
  rw [e2]
  exact hrow
theorem isM_keys {w : World} {b : Nat} {M : List (List UInt8 × Value)} (h : World.isM w Tryz.prog 9 b M) :
    ∃ D : DataW Value, w.ownsMap Tryz.prog 9 heldR b M.length D ∧ (strKeys D).mergeSort (fun x y => decide (x ≤ y)) = (M.map (·.1)).mergeSort (fun x y => decide (x ≤ y)) ∧ Maps.size D = M.length := by
  obtain ⟨D, h1, h2, h3, h4, _⟩ := h
  refine ⟨D, h1, ?_, h3⟩
  have hc : Collected D (fun _ => false) (M.map (·.1)) := by
    refine ⟨List.pairwise_map.2 h2, fun x => ?_⟩
    rw [h4]
    constructor
    · intro hx
      obtain ⟨y, hy, rfl⟩ := List.mem_map.1 hx
      refine ⟨?_, rfl⟩
      cases e : lkM M y.1 with
      | none => exact absurd rfl (lk_none_mem e y hy)
      | some _ => rfl
    · rintro ⟨hx, _⟩
      cases e : lkM M x with
      | none => rw [e] at hx; cases hx
      | some v => exact List.mem_map.2 ⟨_, lk_mem e, rfl⟩
  exact (mergeSort_of_perm (hc.perm h1 keyedS Tryz.underlying9 (fun _ => rfl))).symm
end Go.Proofs.YtemdgilifnhdpaaGreatDoor
end

section
namespace Go.Proofs.YtemdgilifnhdpaaGreatDoor
open Go.RowKit

end Go.Proofs.YtemdgilifnhdpaaGreatDoor
end
