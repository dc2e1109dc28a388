/-
A world: Put; File.
-/
import Derived.Test.YtllpffdjlhamkaaWd7
import Derived.BigRegion
set_option linter.unusedVariables false
set_option linter.unusedSimpArgs false
namespace Go.Proofs.Ytllpffdjlhamkaa
open Go.RowKit

theorem wPut_c (w : World) (o : Ow) (k p : Nat) (s : Wrl) (h : WdAt w o k p s) (hk : Wok s) (l b : List UInt8) (hl : l.length ≤ 140737488355328) (B : Option Addr) (n d : Nat) (hn : n = b.length) (hb : n < 9223372036854775808) (hB : Rd w B (bc b)) (hBn : B = none → d = 0) (hBk : b = [] ∨ ∀ a, B = some a → a.block < w.heap.size → ¬ o a.block = k) (hv : s.ver < 4611686018427387904) :
    Calls Try.prog 9 #[.pointer (some ⟨p, 0, none⟩), .string (str l), .slice B n d] w (Turns (KW k) w o fun v w' o' => v = .int .i64 (putW s l b).2 ∧ WdAt w' o' k p (putW s l b).1) := by
  unfold putW
  cases hp : pathF l with
  | false =>
    rw [if_pos rfl]
    obtain ⟨mb, pl, hh, _⟩ := h.row
    refine (wPut_bad p mb l hl B n d hp w hh.c0).mono ?_
    rintro e w' ⟨rfl, hx⟩
    exact Turns.mk o rfl ⟨rfl, h.ext hx⟩ (Stp.ext hx)
  | true =>
    rw [if_neg (by simp)]
    by_cases h1 : 1048576 < b.length
    · rw [if_pos (.inl h1)]
      refine (wPut_big w o k p s h l hl B n d hb hp (by omega)).mono ?_
      rintro e w' ⟨rfl, hx⟩
      exact Turns.mk o rfl ⟨rfl, h.ext hx⟩ (Stp.ext hx)
    · by_cases h2 : (lkM s.L l).isSome = false ∧ s.L.length = 1000
      · rw [if_pos (.inr h2)]
        refine (wPut_many w o k p s h l hl B n d hb hp (by omega) (by simpa using h2.1) h2.2).mono ?_
        rintro e w' ⟨rfl, hx⟩
        exact Turns.mk o rfl ⟨rfl, h.ext hx⟩ (Stp.ext hx)
      · rw [if_neg (by rintro (h | h); exact h1 h; exact h2 h)]
        refine (wPut_good w o k p s h hk l b hl B n d hn hB hBn hBk hp hv (by omega) ?_).mono ?_
        · cases hf : (lkM s.L l).isSome
          · exact .inr fun e => h2 ⟨hf, e⟩
          · exact .inl rfl
        · intro e w' h; exact h

theorem Sl.away {w : World} {o : Ow} {j n c : Nat} {A : Option Addr} {b : List UInt8} (h : Sl w o j 1 A n c (bc b)) {k : Nat} (hk : j ≠ k) : b = [] ∨ ∀ a, A = some a → a.block < w.heap.size → ¬ o a.block = k := by
  have hl := h.len
  have hc := h.le
  rcases h.at_ with h0 | ⟨g, f, rfl, ho, _⟩
  · left
    refine List.eq_nil_of_length_eq_zero ?_
    rw [bc_len] at hl
    omega
  · right
    rintro a ⟨⟩ _
    show ¬ o g = k
    rw [ho]; exact hk
set_option maxRecDepth 100000 in
set_option maxHeartbeats 4000000 in
theorem wFile_none (w : World) (o : Ow) (k p : Nat) (s : Wrl) (h : WdAt w o k p s) (l : List UInt8) (hl : l.length ≤ 140737488355328) (hf : lkM s.L l = none) :
    Calls Try.prog 11 #[.pointer (some ⟨p, 0, none⟩), .string (str l)] w (Gives (.tuple #[.agg #[.string ⟨#[]⟩, .slice none 0 0, .int .i64 0], .int .i64 0, .int .i64 3]) w) := by
  obtain ⟨mb, pl, hh, hm, hlt, hi, hs⟩ := h.row
  have c0 := hh.c0
  have hlm : l.length ≤ maxLen := by simp only [maxLen]; omega
  have HH := Lib.hid (fun w' (e : Ext w w') => hh.ext e)
  have HI := Lib.hid (fun w' (e : Ext w w') => World.isM.same hi (e.block mb hlt))
  have HK0 := lk_enc pl s.L l
  rw [hf] at HK0
  have HK := Lib.hid HK0
  clear HK0 hf
  have hc0 := fun x => ((show Ext w (w.alloc x) by (repeat (first | exact Ext.rfl' _ | assumption | refine Ext.dr ?_ | refine Ext.drN ?_ _ | refine Ext.al ?_ _ | refine Ext.st ?_ (by simp) _ | refine Ext.tr ?_ (by assumption)))).cell (p := ⟨p, 0, none⟩) (lt_of_cell c0)).trans c0
  go_enter Try.func11, Try.ntmps11
  go_wp2_with (first
    | (go_at_call 27; refine (none_no p mb _ (hc0 _)).mono ?_; rintro e w1 ⟨rfl, hx1⟩; have hx2 : Ext w w1 := (show Ext w (w.alloc _) by (repeat (first | exact Ext.rfl' _ | assumption | refine Ext.dr ?_ | refine Ext.drN ?_ _ | refine Ext.al ?_ _ | refine Ext.st ?_ (by simp) _ | refine Ext.tr ?_ (by assumption)))).tr hx1; have u0 := (HH.out w1 hx2).c0; have hi1 := HI.out w1 hx2; have r0 := fun x => (hx1.tr (show Ext w1 (w1.alloc x) by (repeat (first | exact Ext.rfl' _ | assumption | refine Ext.dr ?_ | refine Ext.drN ?_ _ | refine Ext.al ?_ _ | refine Ext.st ?_ (by simp) _ | refine Ext.tr ?_ (by assumption))))).new 0 _ rfl; have r1 := fun x => (hx1.tr (show Ext w1 (w1.alloc x) by (repeat (first | exact Ext.rfl' _ | assumption | refine Ext.dr ?_ | refine Ext.drN ?_ _ | refine Ext.al ?_ _ | refine Ext.st ?_ (by simp) _ | refine Ext.tr ?_ (by assumption))))).new 1 _ rfl; have r2 := fun x => (hx1.tr (show Ext w1 (w1.alloc x) by (repeat (first | exact Ext.rfl' _ | assumption | refine Ext.dr ?_ | refine Ext.drN ?_ _ | refine Ext.al ?_ _ | refine Ext.st ?_ (by simp) _ | refine Ext.tr ?_ (by assumption))))).new 2 _ rfl; have f0 := fun x => (hx1.tr (show Ext w1 (w1.alloc x) by (repeat (first | exact Ext.rfl' _ | assumption | refine Ext.dr ?_ | refine Ext.drN ?_ _ | refine Ext.al ?_ _ | refine Ext.st ?_ (by simp) _ | refine Ext.tr ?_ (by assumption))))).newfr 0; have f1 := fun x => (hx1.tr (show Ext w1 (w1.alloc x) by (repeat (first | exact Ext.rfl' _ | assumption | refine Ext.dr ?_ | refine Ext.drN ?_ _ | refine Ext.al ?_ _ | refine Ext.st ?_ (by simp) _ | refine Ext.tr ?_ (by assumption))))).newfr 1; have f2 := fun x => (hx1.tr (show Ext w1 (w1.alloc x) by (repeat (first | exact Ext.rfl' _ | assumption | refine Ext.dr ?_ | refine Ext.drN ?_ _ | refine Ext.al ?_ _ | refine Ext.st ?_ (by simp) _ | refine Ext.tr ?_ (by assumption))))).newfr 2)
    | (at_lookup; refine wpL_look rfl _ _ 36 rfl 67 keyedS mapU Try.underlying9 (Try.zeroValue67 _) rfl hi1 l hlm rfl ?_; rw [HK.out]; simp only [Option.getD_none, Option.isSome_none, Option.map_none]))
  refine bodyPost_ret (v := .tuple #[.agg #[.string ⟨#[]⟩, .slice none 0 0, .int .i64 0], .int .i64 0, .int .i64 3]) (by simp [results, Try.results11, go_sem, r0, r1, r2]) rfl ?_
  exact ⟨rfl, by (repeat (first | exact Ext.rfl' _ | assumption | refine Ext.dr ?_ | refine Ext.drN ?_ _ | refine Ext.al ?_ _ | refine Ext.st ?_ (by simp) _ | refine Ext.tr ?_ (by assumption)))⟩
set_option maxRecDepth 100000 in
set_option maxHeartbeats 4000000 in
theorem wFile_some (j : Nat) (w : World) (o : Ow) (k p : Nat) (s : Wrl) (h : WdAt w o k p s) (hk : Wok s) (l : List UInt8) (hl : l.length ≤ 140737488355328) (f : Fil) (hf : lkM s.L l = some f) :
    Calls Try.prog 11 #[.pointer (some ⟨p, 0, none⟩), .string (str l)] w (Turns (fun _ => False) w o fun v w' o' => ∃ A c, v = .tuple #[.agg #[.string (str l), .slice A f.b.length c, .int .i64 f.mt], .int .i64 (f.ve : Int), .int .i64 0] ∧ Sl w' o' j 1 A f.b.length c (bc f.b) ∧ (A = none → c = 0)) := by
  obtain ⟨mb, pl, hh, hm, hlt, hi, hs⟩ := h.row
  have c0 := hh.c0
  have hlm : l.length ≤ maxLen := by simp only [maxLen]; omega
  have HH := Lib.hid (fun w' (e : Ext w w') => hh.ext e)
  have HI := Lib.hid (fun w' (e : Ext w w') => World.isM.same hi (e.block mb hlt))
  have HK0 := lk_enc pl s.L l
  have hfm := lk_mem hf
  have hsl := hs _ hfm
  have hsz := hk.size _ hfm
  dsimp only at hsl hsz
  rw [hf] at HK0
  have HK : Hid (lkM (enc pl s.L) l = some (.agg #[.string (str l), .slice (pl l).1 f.b.length (pl l).2, .int .i64 f.mt, .int .i64 (f.ve : Int)])) := Lib.hid HK0
  obtain ⟨n0, hn0⟩ : ∃ n0, n0 = f.b.length := ⟨_, rfl⟩
  obtain ⟨A0, d0, hA0⟩ : ∃ A0 d0, pl l = (A0, d0) := ⟨_, _, rfl⟩
  rw [hA0] at hsl
  rw [← hn0, hA0] at HK
  obtain ⟨m0, hm0⟩ : ∃ m0, m0 = f.mt := ⟨_, rfl⟩
  obtain ⟨v0, hv0⟩ : ∃ v0, v0 = (f.ve : Int) := ⟨_, rfl⟩
  rw [← hm0, ← hv0] at HK
  rw [← hn0, ← hm0, ← hv0]
  have HSL := Lib.hid hsl.1.rd
  have HNA : Hid (A0 = none → d0 = 0) := Lib.hid hsl.2
  have HN0 := Lib.hid hn0
  have hnb : n0 ≤ 140737488351232 := by omega
  clear HK0 hf hA0 hm0 hv0 hfm hsl hsz hn0
  have hc0 := fun x => ((show Ext w (w.alloc x) by (repeat (first | exact Ext.rfl' _ | assumption | refine Ext.dr ?_ | refine Ext.drN ?_ _ | refine Ext.al ?_ _ | refine Ext.st ?_ (by simp) _ | refine Ext.tr ?_ (by assumption)))).cell (p := ⟨p, 0, none⟩) (lt_of_cell c0)).trans c0
  go_enter Try.func11, Try.ntmps11
  go_wp2_with (first
    | (go_at_call 27; refine (none_no p mb _ (hc0 _)).mono ?_; rintro e w1 ⟨rfl, hx1⟩; have hx2 : Ext w w1 := (show Ext w (w.alloc _) by (repeat (first | exact Ext.rfl' _ | assumption | refine Ext.dr ?_ | refine Ext.drN ?_ _ | refine Ext.al ?_ _ | refine Ext.st ?_ (by simp) _ | refine Ext.tr ?_ (by assumption)))).tr hx1; have u0 := (HH.out w1 hx2).c0; have hi1 := HI.out w1 hx2)
    | (at_lookup; refine wpL_look rfl _ _ 36 rfl 67 keyedS mapU Try.underlying9 (Try.zeroValue67 _) rfl hi1 l hlm rfl ?_; rw [HK.out]; simp only [Option.getD_some, Option.isSome_some, Option.map_some])
    | (go_at_call 29; refine (sClone_c j f.b A0 n0 d0 HN0.out HNA.out _ (fun b => if b = w1.heap.size then j + 1 else if b = w.heap.size then j + 2 else o b) ((HSL.out.ext hx2).ext (by (repeat (first | exact Ext.rfl' _ | assumption | refine Ext.dr ?_ | refine Ext.drN ?_ _ | refine Ext.al ?_ _ | refine Ext.st ?_ (by simp) _ | refine Ext.tr ?_ (by assumption))))) hnb).mono ?_; rintro e w5 ⟨v5, o5, rfl, ⟨A5, c5, rfl, hs5, hn5⟩, st5⟩; have x5 := st5.noExt; have r0 := x5.new 0 _ rfl; have r1 := x5.new 1 _ rfl; have r2 := x5.new 2 _ rfl; have r3 := x5.new 3 _ rfl; have f1 := x5.newfr 1))
  have hlt1 : w.heap.size < w1.heap.size := Nat.lt_of_lt_of_le (by simp) hx1.size
  have hx9 : Ext (w.alloc (.cells #[.string ⟨#[]⟩, .slice none 0 0, .int .i64 0] 46)) w5 := (hx1.tr (show Ext w1 (w1.alloc _) by (repeat (first | exact Ext.rfl' _ | assumption | refine Ext.dr ?_ | refine Ext.drN ?_ _ | refine Ext.al ?_ _ | refine Ext.st ?_ (by simp) _ | refine Ext.tr ?_ (by assumption))))).tr x5
  have hh5 : w5.heap[w1.heap.size]? = some (.cells #[.string (str l), .slice A0 n0 d0, .int .i64 m0, .int .i64 v0] 67 (0, 0)) := (x5.block _ (by simp)).trans (heap_alloc_new w1 _)
  have hr5 : w5.heap[w.heap.size]? = some (.cells #[.string ⟨#[]⟩, .slice none 0 0, .int .i64 0] 46 (0, 0)) := (hx9.block _ (by simp)).trans (heap_alloc_new w _)
  have hh6 := row_set hh5 1 (.slice A5 n0 c5)
  have oX : o5 w1.heap.size = j + 1 := by rw [st5.own _ (by simp)]; simp
  have oR : o5 w.heap.size = j + 2 := by rw [st5.own _ (by simp; omega)]; simp [Nat.ne_of_lt hlt1]
  have oo : ∀ b, b < w.heap.size → o5 b = o b := fun b hb => by
    rw [st5.own b (by simp; omega), if_neg (by omega), if_neg (by omega)]
  have st6 : Stp (fun i => i = j + 1) w5 o5 (w5.setCell ⟨w1.heap.size, 1, none⟩ (.slice A5 n0 c5)) o5 := Stp.set _ 1 _ (fun _ => oX)
  have hr6 := (st6.keep w.heap.size (row_lt hr5) (by rw [oR]; omega)).trans hr5
  have hs6 := hs5.stp st6 (by omega)
  have x6 : Ext w (w5.setCell ⟨w1.heap.size, 1, none⟩ (.slice A5 n0 c5)) := Ext.st ((show Ext w (w.alloc _) by (repeat (first | exact Ext.rfl' _ | assumption | refine Ext.dr ?_ | refine Ext.drN ?_ _ | refine Ext.al ?_ _ | refine Ext.st ?_ (by simp) _ | refine Ext.tr ?_ (by assumption)))).tr hx9) (by show w.heap.size ≤ w1.heap.size; omega) _
  obtain ⟨W7, hW7⟩ : ∃ W7, W7 = w5.setCell ⟨w1.heap.size, 1, none⟩ (.slice A5 n0 c5) := ⟨_, rfl⟩
  rw [← hW7] at hh6 hr6 hs6 x6 ⊢
  obtain ⟨XN, hXN⟩ : ∃ XN, XN = w1.heap.size := ⟨_, rfl⟩
  obtain ⟨RN, hRN⟩ : ∃ RN, RN = w.heap.size := ⟨_, rfl⟩
  rw [← hXN, ← hRN] at hlt1
  rw [← hXN] at hh6
  rw [← hRN] at hr6 oR
  have hRN2 : w.heap.size ≤ RN := Nat.le_of_eq hRN.symm
  rw [← hXN, ← hRN]
  have g0 := (row_facts hh6 0 _ rfl).1
  have g1 := (row_facts hh6 1 _ rfl).1
  have g2 := (row_facts hh6 2 _ rfl).1
  have g3 := (row_facts hh6 3 _ rfl).1
  have k0 := row_facts hr6 0 _ rfl
  have k1 := row_facts hr6 1 _ rfl
  have k2 := row_facts hr6 2 _ rfl
  obtain ⟨k00, k01⟩ := k0
  obtain ⟨k10, k11⟩ := k1
  obtain ⟨k20, k21⟩ := k2
  have hne : ¬ XN = RN := by omega
  have hne2 : ¬ RN = XN := by omega
  clear r0 r1 r2 r3 f1 hW7 hh5 hr5 st6 hx9 hXN hRN oX
  go_region
  have sa : Stp (fun i => i = j + 2) W7 o5 (W7.setCell ⟨RN, 0, none⟩ (.string (str l))) o5 := Stp.set _ 0 _ (fun _ => oR)
  have sb : Stp (fun i => i = j + 2) _ o5 ((W7.setCell ⟨RN, 0, none⟩ (.string (str l))).setCell ⟨RN, 1, none⟩ (.slice A5 n0 c5)) o5 := Stp.set _ 1 _ (fun _ => oR)
  have sc : Stp (fun i => i = j + 2) _ o5 (((W7.setCell ⟨RN, 0, none⟩ (.string (str l))).setCell ⟨RN, 1, none⟩ (.slice A5 n0 c5)).setCell ⟨RN, 2, none⟩ (.int .i64 m0)) o5 := Stp.set _ 2 _ (fun _ => oR)
  have hs9 := hs6.stp ((sa.tr sb).tr sc) (by omega)
  have xa := Ext.st (Ext.st (Ext.st x6 (p := ⟨RN, 0, none⟩) hRN2 (.string (str l))) (p := ⟨RN, 1, none⟩) hRN2 (.slice A5 n0 c5)) (p := ⟨RN, 2, none⟩) hRN2 (.int .i64 m0)
  have y := row_set (row_set (row_set hr6 0 (.string (str l))) 1 (.slice A5 n0 c5)) 2 (.int .i64 m0)
  obtain ⟨W8, hW8⟩ : ∃ W8, W8 = ((W7.setCell ⟨RN, 0, none⟩ (.string (str l))).setCell ⟨RN, 1, none⟩ (.slice A5 n0 c5)).setCell ⟨RN, 2, none⟩ (.int .i64 m0) := ⟨_, rfl⟩
  rw [← hW8] at y hs9 xa ⊢
  have y0 := (row_facts y 0 _ rfl).1
  have y1 := (row_facts y 1 _ rfl).1
  have y2 := (row_facts y 2 _ rfl).1
  clear hW8 y sa sb sc
  go_wp2
  refine bodyPost_ret (v := .tuple #[.agg #[.string (str l), .slice A5 n0 c5, .int .i64 m0], .int .i64 v0, .int .i64 0]) (by simp [results, Try.results11, go_sem, y0, y1, y2]) rfl ?_
  exact Turns.mk o5 rfl ⟨A5, c5, rfl, hs9.ext (by (repeat (first | exact Ext.rfl' _ | assumption | refine Ext.dr ?_ | refine Ext.drN ?_ _ | refine Ext.al ?_ _ | refine Ext.st ?_ (by simp) _ | refine Ext.tr ?_ (by assumption)))), hn5⟩ (Stp.ext2 (Ext.dr xa) oo)
end Go.Proofs.Ytllpffdjlhamkaa
