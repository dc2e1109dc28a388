/-
The document's world: Put; Remove.
-/
import Derived.Test.YtemdgilifnhdpaaGreatDoorZax
import Derived.Test.YtemdgilifnhdpaaGreatDoorZav
import Derived.Deep.CutBlock
import Derived.Test.YtemdgilifnhdpaaGreatDoorZaf
import Derived.Test.YtemdgilifnhdpaaGreatDoorZaw
import Derived.Test.YtemdgilifnhdpaaGreatDoorZae
import Derived.Test.YtemdgilifnhdpaaGreatDoorZac
import Derived.Test.YtemdgilifnhdpaaGreatDoorZai
set_option linter.unusedVariables false
set_option linter.unusedSimpArgs false
section
namespace Go.Proofs.YtemdgilifnhdpaaGreatDoor
open Go.RowKit

theorem rwPut_c (w : World) (o : Ow) (k p : Nat) (s : Wrl) (h : RwAt w o k p s) (hk : Wok s) (l b : List UInt8) (hl : l.length ≤ 140737488355328) (B : Option Addr) (n d : Nat) (hn : n = b.length) (hb : n < 9223372036854775808) (hB : Rd w B (bc b)) (hBk : b = [] ∨ ∀ a, B = some a → a.block < w.heap.size → ¬ KR k (o a.block)) (hv : s.ver < 4611686018427387904) :
    Calls Tryz.prog 43 #[.pointer (some ⟨p, 0, none⟩), .string (str l), .slice B n d] w (Turns (KR k) w o fun v w' o' => v = .int .i64 (putW s l b).2 ∧ RwAt w' o' k p (putW s l b).1) := by
  unfold putW
  cases hp : pathF l with
  | false =>
    rw [if_pos rfl]
    refine (rwPut_bad _ l hl B n d hp w).mono ?_
    rintro e w' ⟨rfl, hx⟩
    exact Turns.mk o rfl ⟨rfl, h.ext hx⟩ (Stp.ext hx)
  | true =>
    rw [if_neg (by simp)]
    by_cases h1 : 1048576 < b.length
    · rw [if_pos (.inl h1)]
      refine (rwPut_big w o k p s h hk l hl B n d hb hp (by omega)).mono ?_
      rintro e w' ⟨rfl, hx⟩
      exact Turns.mk o rfl ⟨rfl, h.ext hx⟩ (Stp.ext hx)
    · by_cases h2 : (lkM s.L l).isSome = false ∧ s.L.length = 1000
      · rw [if_pos (.inr h2)]
        refine (rwPut_many w o k p s h hk l hl B n d hb hp (by omega) (by simpa using h2.1) h2.2).mono ?_
        rintro e w' ⟨rfl, hx⟩
        exact Turns.mk o rfl ⟨rfl, h.ext hx⟩ (Stp.ext hx)
      · rw [if_neg (by rintro (h | h); exact h1 h; exact h2 h)]
        refine (rwPut_good w o k p s h hk l b hl B n d hn hB hBk hp hv (by omega) ?_).mono ?_
        · cases hf : (lkM s.L l).isSome
          · exact .inr fun e => h2 ⟨hf, e⟩
          · exact .inl rfl
        · intro e w' h; exact h
theorem flC_take (fl : List FE) (i : Nat) : (flC fl).take (i * 3) = flC (fl.take i) := by
  induction fl generalizing i with
  | nil => simp [flC]
  | cons x r ih => cases i with
    | zero => simp [flC]
    | succ i =>
      have := ih i
      simp only [flC, List.flatMap_cons, List.take_succ_cons] at *
      rw [Nat.succ_mul, List.take_append, show (feC x).length = 3 from rfl, List.take_of_length_le (by simp [feC]), Nat.add_sub_cancel, this]
theorem flC_drop (fl : List FE) (i : Nat) : (flC fl).drop (i * 3) = flC (fl.drop i) := by
  induction fl generalizing i with
  | nil => simp [flC]
  | cons x r ih => cases i with
    | zero => simp [flC]
    | succ i =>
      have := ih i
      simp only [flC, List.flatMap_cons, List.drop_succ_cons] at *
      rw [Nat.succ_mul, List.drop_append, show (feC x).length = 3 from rfl, List.drop_of_length_le (by simp [feC]), Nat.add_sub_cancel, this, List.nil_append]
theorem feC_one (fl : List FE) : ∀ u ∈ flC fl, u.oneCell' = true := by
  intro u hu
  obtain ⟨x, _, hx⟩ := List.mem_flatMap.1 hu
  simp [feC] at hx
  rcases hx with rfl | rfl | rfl <;> rfl
theorem vc_one (fl : List FE) : ∀ u ∈ vc fl, u.oneCell' = true := by
  intro u hu
  obtain ⟨x, _, rfl⟩ := List.mem_map.1 hu
  rfl
set_option maxRecDepth 100000 in
set_option maxHeartbeats 4000000 in
theorem rwRemove_none (w : World) (o : Ow) (k p : Nat) (s : Wrl) (h : RwAt w o k p s) (hk : Wok s) (l : List UInt8) (hf : lkM s.L l = none) :
    Calls Tryz.prog 45 #[.pointer (some ⟨p, 0, none⟩), .string (str l)] w (Gives (.int .i64 3) w) := by
  have HR := Lib.hid (fun w' (e : Ext w w') => rwfind_c w' o k p s (h.ext e) hk l)
  have HF := Lib.hid hf
  clear hf
  go_enter Tryz.func45, Tryz.ntmps45
  go_wp2_with (first
    | (go_at_call 83; refine (HR.out _ (by (repeat (first | exact Ext.rfl' _ | assumption | refine Ext.dr ?_ | refine Ext.drN ?_ _ | refine Ext.al ?_ _ | refine Ext.st ?_ (by simp) _ | refine Ext.tr ?_ (by assumption))))).mono ?_; rintro e w1 ⟨v, rfl, ⟨r, rfl, hF⟩, hx1⟩; obtain rfl := found_none hF hk.one HF.out))
  go_ret
  exact ⟨rfl, by (repeat (first | exact Ext.rfl' _ | assumption | refine Ext.dr ?_ | refine Ext.drN ?_ _ | refine Ext.al ?_ _ | refine Ext.st ?_ (by simp) _ | refine Ext.tr ?_ (by assumption)))⟩
theorem cut_from (size : Nat) (ty el : TypeId) (hu : Tryz.prog.underlying ty = some (.slice el)) (hz : ∀ w', (Go.sizeOf el).run Tryz.prog w' = .ok size w') (xs : List Value) (B : Option Addr) (n c X : Nat) (x : Int) (hx : x = (X : Int)) (w : World) (hR : Rd w B xs) (hl : xs.length = n * size) (hX : X ≤ n) (hc : n ≤ c) :
    ∃ B', (∀ w', (Instr.slice ty (.slice B n c) (some (.int .i64 x)) none none).run Tryz.prog w' = .ok (.slice B' (n - X) (c - X)) w') ∧ ∀ w', Rd w' B xs → Rd w' B' (xs.drop (X * size)) := by
  subst hx
  refine ⟨if c = X then B else B.map (·.add (X * size)), fun w' => ?_, fun w' hR => ?_⟩
  · have h2 : (X : Int) ≤ (n : Int) := by omega
    have h3 : (0 : Int) ≤ (X : Int) := by omega
    have h4 : (0 : Int) ≤ (n : Int) := by omega
    have h5 : (n : Int) ≤ (c : Int) := by omega
    simp [Instr.slice, Instr.sliceBounds, Instr.sliceBound, asIntOf, run_underlying hu, go_sem, h2, h3, h4, h5, hz, hX, hc]
  · by_cases h0 : X = n
    · exact .inl (List.drop_eq_nil_iff.2 (by rw [hl, h0]; exact Nat.le_refl _))
    · rw [if_neg (by omega)]
      rcases hR with h | ⟨g, f, rfl, hcc⟩
      · exact .inl (by rw [h]; simp)
      · refine .inr ⟨g, f + X * size, by simp [Addr.add], fun j u hu => ?_⟩
        rw [Nat.add_assoc]
        refine hcc (X * size + j) u ?_
        rwa [List.getElem?_drop] at hu
def Rrow2 (w : World) (p : Nat) (s : Wrl) (A : Option Addr) (n c : Nat) (B : Option Addr) (m d : Nat) : Prop := w.heap[p]? = some (.cells #[.slice A n c, .slice B m d, .int .i64 s.now, .int .i64 (s.ver : Int)] 153 (0, 0))
def RmA (w2 : World) (o : Ow) (k p : Nat) (s : Wrl) (fl : List FE) (i N : Nat) (B : Option Addr) (d : Nat) (wx : World) : Prop :=
  ∃ o5 A' c', Stp (fun j => j = k ∨ j = k + 1) w2 o wx o5 ∧ o5 p = k ∧ Rrow2 wx p s A' (N - 1) c' B N d ∧ Sl wx o5 (k + 1) 3 A' (N - 1) c' (flC (fl.take i ++ fl.drop (i + 1))) ∧ (A' = none → c' = 0)
def RmB (w3 : World) (o : Ow) (k p : Nat) (s : Wrl) (fl : List FE) (i N : Nat) (A : Option Addr) (c : Nat) (wx : World) : Prop :=
  ∃ o5 B' d', Stp (fun j => j = k ∨ j = k + 2) w3 o wx o5 ∧ o5 p = k ∧ Rrow2 wx p s A (N - 1) c B' (N - 1) d' ∧ Sl wx o5 (k + 2) 1 B' (N - 1) d' (vc (fl.take i ++ fl.drop (i + 1))) ∧ (B' = none → d' = 0)
theorem flC_two (a b : List FE) : flC (a ++ b) = flC a ++ flC b := by simp [flC]
theorem vc_two (a b : List FE) : vc (a ++ b) = vc a ++ vc b := by simp [vc]
theorem vc_take (fl : List FE) (i : Nat) : (vc fl).take (i * 1) = vc (fl.take i) := by rw [Nat.mul_one]; simp [vc, List.map_take]
theorem vc_drop (fl : List FE) (i : Nat) : (vc fl).drop (i * 1) = vc (fl.drop i) := by rw [Nat.mul_one]; simp [vc, List.map_drop]
section
variable {w2 wx : World} {o : Ow} {k p : Nat} {s : Wrl} {fl : List FE} {i N : Nat} {B : Option Addr} {d : Nat}
theorem RmA.dr (h : RmA w2 o k p s fl i N B d wx) (n : Nat) : RmA w2 o k p s fl i N B d (wx.drewN n) := by
  obtain ⟨o5, A', c', h1, h2, h3, h4, h5⟩ := h
  have e : Ext wx (wx.drewN n) := by (repeat (first | exact Ext.rfl' _ | assumption | refine Ext.dr ?_ | refine Ext.drN ?_ _ | refine Ext.al ?_ _ | refine Ext.st ?_ (by simp) _ | refine Ext.tr ?_ (by assumption)))
  exact ⟨o5, A', c', h1.tr (Stp.ext e), h2, (e.block p (row_lt h3)).trans h3, h4.ext e, h5⟩
theorem RmB.dr (h : RmB w2 o k p s fl i N B d wx) (n : Nat) : RmB w2 o k p s fl i N B d (wx.drewN n) := by
  obtain ⟨o5, A', c', h1, h2, h3, h4, h5⟩ := h
  have e : Ext wx (wx.drewN n) := by (repeat (first | exact Ext.rfl' _ | assumption | refine Ext.dr ?_ | refine Ext.drN ?_ _ | refine Ext.al ?_ _ | refine Ext.st ?_ (by simp) _ | refine Ext.tr ?_ (by assumption)))
  exact ⟨o5, A', c', h1.tr (Stp.ext e), h2, (e.block p (row_lt h3)).trans h3, h4.ext e, h5⟩
end
set_option maxRecDepth 100000 in
set_option maxHeartbeats 4000000 in
theorem rwRemove_some (w : World) (o : Ow) (k p : Nat) (s : Wrl) (h : RwAt w o k p s) (hk : Wok s) (l : List UInt8) (f : Fil) (hf : lkM s.L l = some f) :
    Calls Tryz.prog 45 #[.pointer (some ⟨p, 0, none⟩), .string (str l)] w (Turns (KR k) w o fun v w' o' => v = .int .i64 0 ∧ RwAt w' o' k p ⟨delM s.L l, s.now, s.ver⟩) := by
  have HRF := Lib.hid (fun w' (e : Ext w w') => rwfind_c w' o k p s (h.ext e) hk l)
  obtain ⟨A, c, D, d, fl, hm, hfe⟩ := h.mem
  have hfl : fl.length = s.L.length := by rw [← hfe, List.length_map]
  have hfew := hk.few
  have FS : Hid (∀ r, FoundAt s.L l r → ∃ i : Nat, r = (i : Int) ∧ i < fl.length ∧ ∃ hi : i < s.L.length, s.L[i].1 = l) := Lib.hid (fun r hr => by
    obtain ⟨i, hi, rfl, hil⟩ := found_some hr hk.one hf
    exact ⟨i, rfl, by rw [hfl]; exact hi, hi, by rw [hil]⟩)
  have HM := Lib.hid hm
  have HFE := Lib.hid hfe
  obtain ⟨N, hN⟩ : ∃ N, fl.length = N := ⟨_, rfl⟩
  have HN := Lib.hid hN
  have hNb : N ≤ 1000 := by omega
  rw [hN] at FS
  clear hm hfe hfl hfew hN hf
  go_enter Tryz.func45, Tryz.ntmps45
  go_wp2_with (first
    | (go_at_call 83; refine (HRF.out _ (by (repeat (first | exact Ext.rfl' _ | assumption | refine Ext.dr ?_ | refine Ext.drN ?_ _ | refine Ext.al ?_ _ | refine Ext.st ?_ (by simp) _ | refine Ext.tr ?_ (by assumption))))).mono ?_; rintro e w2 ⟨v, rfl, ⟨r, rfl, hF⟩, hx2⟩; obtain ⟨i, rfl, hiN, his, hil⟩ := FS.out r hF; have hng : ¬ (i : Int) < 0 := (by omega); have hk0 : (0 : Int) ≤ (i : Int) := (by omega); have hk1 : (i : Int) < (N : Int) := (by omega); have HIL := Lib.hid hil; clear hF hil))
  obtain ⟨bA, gA, rfl, _, _⟩ := HM.out.fa.rd.at_ (by rw [flC_len, HN.out]; omega)
  obtain ⟨bB, gB, rfl, _, _⟩ := HM.out.fb.rd.at_ (by rw [vc_len, HN.out]; omega)
  have M2 := Lib.hid (HM.out.ext hx2)
  have rA := Lib.hid (M2.out.fa.rd)
  have opW := Lib.hid M2.out.own
  have rw2 : Rrow2 w2 p s (some ⟨bA, gA, none⟩) N c (some ⟨bB, gB, none⟩) N d := by have := M2.out.row; rw [HN.out] at this; exact this
  go_cut [] (fun wx => RmA w2 o k p s fl i N (some ⟨bB, gB, none⟩) d wx)
  case first =>
    have hle := (by have := M2.out.fa.le; rw [HN.out] at this; exact this)
    obtain ⟨Bz, hBz, hRz⟩ := cut_from 3 150 24 Tryz.underlying150 (fun _ => rfl) (flC fl) (some ⟨bA, gA, none⟩) N c (i + 1) ((i : Int) + 1) (by omega) w2 rA.out (by rw [flC_len, HN.out]; try omega) (by omega) hle
    obtain ⟨A5, c5, w5, o5, hr5, hs5, st5, hn5⟩ := run_put slt_file (tx := 150) 150 (w := (w2.alloc (.cells #[] 24)).drew) (o := fun b => if b < w2.heap.size then o b else 0) (Sl.nil_ _ _ (k + 1 + 0) 3 (some ⟨w2.heap.size, 0, none⟩)) (fun h => by cases h) (Sl.src Tryz.underlying150 (n := i) (xs := flC (fl.take i)) (by rw [← flC_take]; exact (rA.out.ext (by (repeat (first | exact Ext.rfl' _ | assumption | refine Ext.dr ?_ | refine Ext.drN ?_ _ | refine Ext.al ?_ _ | refine Ext.st ?_ (by simp) _ | refine Ext.tr ?_ (by assumption))))).take _) (by rw [flC_len, List.length_take, HN.out]; try omega) (by omega) (feC_one _) c) (by omega) (by simp only [maxLen]; omega)
    rw [Nat.zero_add] at hr5 hs5
    have st5' : Stp (fun _ => False) w2 o w5 o5 := (Stp.ext2 (by (repeat (first | exact Ext.rfl' _ | assumption | refine Ext.dr ?_ | refine Ext.drN ?_ _ | refine Ext.al ?_ _ | refine Ext.st ?_ (by simp) _ | refine Ext.tr ?_ (by assumption)))) (fun b hb => if_pos hb)).tr (st5.mono fun _ hi => by omega)
    have x5 := st5'.noExt
    obtain ⟨A6, c6, w6, o6, hr6, hs6, st6, hn6⟩ := run_put slt_file (tx := 150) 150 (w := w5) (o := o5) hs5 hn5 (Sl.src Tryz.underlying150 (n := N - (i + 1)) (xs := flC (fl.drop (i + 1))) (A := Bz) (by rw [← flC_drop]; exact hRz _ (rA.out.ext x5)) (by rw [flC_len, List.length_drop, HN.out]; try omega) (by omega) (feC_one _) (c - (i + 1))) (by omega) (by simp only [maxLen]; omega)
    rw [show i + (N - (i + 1)) = N - 1 from by omega] at hr6 hs6
    have row0 := Lib.hid rw2
    have c0 := (row_facts row0.out 0 _ rfl).1
    have F0 := Lib.hid (fun w' (e : Ext w2 w') => (e.cell (p := ⟨p, 0, none⟩) (lt_of_cell c0)).trans c0)
    have st6' : Stp (fun i => i = k + 1 + 0) w2 o w6 o6 := (st5'.mono fun _ h => h.elim).tr (st6.mono fun _ hi => hi.2)
    have op6 : o6 p = k := by rw [st6'.own p (row_lt row0.out)]; exact opW.out
    have r6 := Lib.hid ((st6'.keep p (row_lt row0.out) (by rw [opW.out]; omega)).trans row0.out)
    have q6 := (row_facts r6.out 0 _ rfl).1
    have f6 := (row_facts r6.out 0 _ rfl).2
    have w1 : IntKind.i64.wrap ((i : Int) + 1) = (i : Int) + 1 := by rw [IntKind.wrap_i64]; omega
    have t1 : ((i : Int) + 1).toNat = i + 1 := by omega
    have j1 : (0 : Int) ≤ (i : Int) + 1 := by omega
    have j2 : (i : Int) + 1 ≤ (N : Int) := by omega
    have j3 : (i : Int) ≤ (c : Int) := by omega
    have j4 : i ≤ c := by omega
    have j5 : i + 1 ≤ N := by omega
    have cA : (w2.alloc (.cells #[] 24)).drew.cell? ⟨p, 0, none⟩ = some (.slice (some ⟨bA, gA, none⟩) N c) := F0.out _ (by (repeat (first | exact Ext.rfl' _ | assumption | refine Ext.dr ?_ | refine Ext.drN ?_ _ | refine Ext.al ?_ _ | refine Ext.st ?_ (by simp) _ | refine Ext.tr ?_ (by assumption))))
    have c5' := F0.out _ x5
    have ST := Lib.hid st6'
    have HS6 := Lib.hid hs6
    clear hRz hs5 st5 st5' hs6 st6 st6' hle
    go_region_law (first
      | (refine step_run (.tmp 12) (.tmp 18) rfl rfl rfl rfl hr5 ?_)
      | (refine step_run (.tmp 19) (.tmp 26) rfl rfl rfl rfl hr6 ?_))
    all_goals (have HF : Hid (RmA w2 o k p s fl i N (some ⟨bB, gB, none⟩) d (w6.setCell ⟨p, 0, none⟩ (.slice A6 (N - 1) c6))) := Lib.hid ⟨o6, A6, c6, (ST.out.mono fun j hj => .inr (by omega)).tr (Stp.set p 0 _ fun _ => .inl op6), op6, row_set r6.out 0 _, by rw [flC_two]; exact HS6.out.stp (Stp.set (K := fun i => i = k) p 0 _ fun _ => op6) (by omega), hn6⟩)
    all_goals (clear hr5 hr6 c0 F0 q6 f6 cA c5' x5; go_wp2_with fail; go_meet)
    all_goals exact HF.out
  case rest =>
    obtain ⟨o3, A', c', st3, op3, row3, sl3, nA⟩ := hcut
    have opW0 := opW
    clear opW
    have opW := Lib.hid op3
    have M3 := Lib.hid (M2.out.fb.stp st3 (by omega))
    have M4 := Lib.hid (fun x hx => (M2.out.each x hx).stp st3 (by omega))
    have M4 : Hid (∀ x ∈ fl, Sl wc o3 (k + 3) 1 x.A x.f.b.length x.c (bc x.f.b)) := M4
    have rB : Hid (Rd wc (some ⟨bB, gB, none⟩) (vc fl)) := Lib.hid M3.out.rd
    have SL3 := Lib.hid sl3
    have ST3 := Lib.hid st3
    clear st3 sl3 op3
    go_wp2_with fail
    go_cut [] (fun wy => RmB wc o3 k p s fl i N A' c' wy)
    case first =>
      have hle := (by have := M3.out.le; rw [HN.out] at this; exact this)
      obtain ⟨Bz, hBz, hRz⟩ := cut_from 1 151 3 Tryz.underlying151 (fun _ => rfl) (vc fl) (some ⟨bB, gB, none⟩) N d (i + 1) ((i : Int) + 1) (by omega) wc rB.out (by rw [vc_len, HN.out]; try omega) (by omega) hle
      obtain ⟨A5, c5, w5, o5, hr5, hs5, st5, hn5⟩ := run_put slt_int13 (tx := 151) 151 (w := (wc.alloc (.cells #[] 3)).drew) (o := fun b => if b < wc.heap.size then o3 b else 0) (Sl.nil_ _ _ (k + 1 + 1) 1 (some ⟨wc.heap.size, 0, none⟩)) (fun h => by cases h) (Sl.src Tryz.underlying151 (n := i) (xs := vc (fl.take i)) (by rw [← vc_take]; exact (rB.out.ext (by (repeat (first | exact Ext.rfl' _ | assumption | refine Ext.dr ?_ | refine Ext.drN ?_ _ | refine Ext.al ?_ _ | refine Ext.st ?_ (by simp) _ | refine Ext.tr ?_ (by assumption))))).take _) (by rw [vc_len, List.length_take, HN.out]; try omega) (by omega) (vc_one _) d) (by omega) (by simp only [maxLen]; omega)
      rw [Nat.zero_add] at hr5 hs5
      have st5' : Stp (fun _ => False) wc o3 w5 o5 := (Stp.ext2 (by (repeat (first | exact Ext.rfl' _ | assumption | refine Ext.dr ?_ | refine Ext.drN ?_ _ | refine Ext.al ?_ _ | refine Ext.st ?_ (by simp) _ | refine Ext.tr ?_ (by assumption)))) (fun b hb => if_pos hb)).tr (st5.mono fun _ hi => by omega)
      have x5 := st5'.noExt
      obtain ⟨A6, c6, w6, o6, hr6, hs6, st6, hn6⟩ := run_put slt_int13 (tx := 151) 151 (w := w5) (o := o5) hs5 hn5 (Sl.src Tryz.underlying151 (n := N - (i + 1)) (xs := vc (fl.drop (i + 1))) (A := Bz) (by rw [← vc_drop]; exact hRz _ (rB.out.ext x5)) (by rw [vc_len, List.length_drop, HN.out]; try omega) (by omega) (vc_one _) (d - (i + 1))) (by omega) (by simp only [maxLen]; omega)
      rw [show i + (N - (i + 1)) = N - 1 from by omega] at hr6 hs6
      have row0 := Lib.hid row3
      have c0 := (row_facts row0.out 1 _ rfl).1
      have F0 := Lib.hid (fun w' (e : Ext wc w') => (e.cell (p := ⟨p, 1, none⟩) (lt_of_cell c0)).trans c0)
      have st6' : Stp (fun i => i = k + 1 + 1) wc o3 w6 o6 := (st5'.mono fun _ h => h.elim).tr (st6.mono fun _ hi => hi.2)
      have op6 : o6 p = k := by rw [st6'.own p (row_lt row0.out)]; exact opW.out
      have r6 := Lib.hid ((st6'.keep p (row_lt row0.out) (by rw [opW.out]; omega)).trans row0.out)
      have q6 := (row_facts r6.out 1 _ rfl).1
      have f6 := (row_facts r6.out 1 _ rfl).2
      have w1 : IntKind.i64.wrap ((i : Int) + 1) = (i : Int) + 1 := by rw [IntKind.wrap_i64]; omega
      have t1 : ((i : Int) + 1).toNat = i + 1 := by omega
      have j1 : (0 : Int) ≤ (i : Int) + 1 := by omega
      have j2 : (i : Int) + 1 ≤ (N : Int) := by omega
      have j3 : (i : Int) ≤ (d : Int) := by omega
      have j4 : i ≤ d := by omega
      have j5 : i + 1 ≤ N := by omega
      have cA : (wc.alloc (.cells #[] 3)).drew.cell? ⟨p, 1, none⟩ = some (.slice (some ⟨bB, gB, none⟩) N d) := F0.out _ (by (repeat (first | exact Ext.rfl' _ | assumption | refine Ext.dr ?_ | refine Ext.drN ?_ _ | refine Ext.al ?_ _ | refine Ext.st ?_ (by simp) _ | refine Ext.tr ?_ (by assumption))))
      have c5' := F0.out _ x5
      have ST := Lib.hid st6'
      have HS6 := Lib.hid hs6
      clear hRz hs5 st5 st5' hs6 st6 st6' hle
      go_region_law (first
        | (refine step_run (.tmp 31) (.tmp 37) rfl rfl rfl rfl hr5 ?_)
        | (refine step_run (.tmp 38) (.tmp 45) rfl rfl rfl rfl hr6 ?_))
      all_goals (have HF : Hid (RmB wc o3 k p s fl i N A' c' (w6.setCell ⟨p, 1, none⟩ (.slice A6 (N - 1) c6))) := Lib.hid ⟨o6, A6, c6, (ST.out.mono fun j hj => .inr (by omega)).tr (Stp.set p 1 _ fun _ => .inl op6), op6, row_set r6.out 1 _, by rw [vc_two]; exact HS6.out.stp (Stp.set (K := fun i => i = k) p 1 _ fun _ => op6) (by omega), hn6⟩)
      all_goals (clear hr5 hr6 c0 F0 q6 f6 cA c5' x5; go_wp2_with fail; go_meet)
      all_goals exact HF.out
    case rest =>
      obtain ⟨o4, B', d', st4, op4, row4, sl4, nB⟩ := hcut
      go_wp2
      go_ret
      have e1 : (fl.take i ++ fl.drop (i + 1)).length = N - 1 := by rw [List.length_append, List.length_take, List.length_drop, HN.out]; omega
      refine Turns.mk o4 rfl ⟨rfl, op4, A', c', B', d', fl.take i ++ fl.drop (i + 1), by rw [e1]; exact row4, by rw [e1]; exact SL3.out.stp st4 (by omega), nA, by rw [e1]; exact sl4, nB, ?_, fun x hx => (M4.out x ?_).stp st4 (by omega)⟩ ((Stp.ext hx2).tr ((ST3.out.mono ?_).tr (st4.mono ?_)))
      · rw [List.map_append, List.map_take, List.map_drop, HFE.out, ← HIL.out]; exact (del_at hk.one his).symm
      · rcases List.mem_append.1 hx with h | h
        · exact List.mem_of_mem_take h
        · exact List.mem_of_mem_drop h
      · rintro j (rfl | rfl); exact .inl rfl; exact .inr (.inl rfl)
      · rintro j (rfl | rfl); exact .inl rfl; exact .inr (.inr rfl)
theorem rwRemove_c (w : World) (o : Ow) (k p : Nat) (s : Wrl) (h : RwAt w o k p s) (hk : Wok s) (l : List UInt8) :
    Calls Tryz.prog 45 #[.pointer (some ⟨p, 0, none⟩), .string (str l)] w (Turns (KR k) w o fun v w' o' => v = .int .i64 (removeW s l).2 ∧ RwAt w' o' k p (removeW s l).1) := by
  unfold removeW
  cases hf : lkM s.L l with
  | none =>
    refine (rwRemove_none w o k p s h hk l hf).mono ?_
    rintro e w' ⟨rfl, hx⟩
    exact Turns.mk o rfl ⟨rfl, h.ext hx⟩ (Stp.ext hx)
  | some f => exact rwRemove_some w o k p s h hk l f hf
end Go.Proofs.YtemdgilifnhdpaaGreatDoor
end

section
namespace Go.Proofs.YtemdgilifnhdpaaGreatDoor
open Go.RowKit Go.Maps Go.Sort

end Go.Proofs.YtemdgilifnhdpaaGreatDoor
end

section
namespace Go.Proofs.YtemdgilifnhdpaaGreatDoor
open Go.RowKit

end Go.Proofs.YtemdgilifnhdpaaGreatDoor
end

section
namespace Go.Proofs.YtemdgilifnhdpaaGreatDoor
open Go.RowKit

section
variable {K : Nat → Prop} {w w' : World} {o o' : Ow}
theorem Stp.dr (h : Stp K w o w' o') : Stp K w o w'.drew o' := h.tr (Stp.ext (Ext.dr (Ext.rfl' _)))
theorem Stp.drN (h : Stp K w o w' o') (n : Nat) : Stp K w o (w'.drewN n) o' := h.tr (Stp.ext (Ext.drN (Ext.rfl' _) n))
theorem Stp.al (h : Stp K w o w' o') (x : Obj) : Stp K w o (w'.alloc x) o' := h.tr (Stp.ext (Ext.al (Ext.rfl' _) x))
end
def stepW (s : Wrl) (x : OpW) : Wrl := if x.kind = 0 then (putW s x.path x.mm).1 else if x.kind = 1 then (removeW s x.path).1 else if x.kind = 2 then (tickW s x.n).1 else s
end Go.Proofs.YtemdgilifnhdpaaGreatDoor
end

section
namespace Go.Proofs.YtemdgilifnhdpaaGreatDoor
open Go.RowKit

set_option maxRecDepth 100000 in
set_option maxHeartbeats 0 in
theorem snKnows_run : Ev.isT (.bool true) (Ev.run Tryz.prog Ev.smB 100000 (.fn 15 [] Ev.h0E)) = true := by decide +kernel
theorem snKnows_c (W : World) (h : Ev.MxE W) : Calls Tryz.prog 15 #[] W (Gives (.bool true) W) :=
  (Ev.runs (ν := fun _ => .bool true) (fun _ => rfl) snKnows_run h (A := #[]) Ev.Rs.nil).mono fun e w' ⟨x, n, m, h1, h2, h3⟩ => ⟨by rw [h1, Ev.R_true h2], h3.toExt⟩
end Go.Proofs.YtemdgilifnhdpaaGreatDoor
end

section
namespace Go.Proofs.YtemdgilifnhdpaaGreatDoor
open Go.RowKit

theorem bruOf {w : World} (h : Ev.MxE w) : Bru w := (row_facts h.2 15 _ rfl).1
theorem mxExt {w w' : World} (h : Ev.MxE w) (e : Ext w w') : Ev.MxE w' := h.ext fun r hr => e.block r hr
end Go.Proofs.YtemdgilifnhdpaaGreatDoor
end
