/-
Framing's Feed.
-/
import Derived.Test.YtnakeigpelcajaaGreatDoorFd4
set_option linter.unusedVariables false
set_option linter.unusedSimpArgs false
/-
Framing's Feed.
-/
section
namespace Go.Proofs.YtnakeigpelcajaaGreatDoor
open Go.RowKit

/-- What Feed hands back: how many, the body's bytes, whole?, the number. -/
def IsFed (k : Nat) (r : Nat × List UInt8 × Bool × Int) (v : Value) (w : World) (o : Ow) : Prop := ∃ C g, v = .tuple #[.int .i64 (r.1 : Int), .slice C r.2.1.length g, .bool r.2.2.1, .int .i64 r.2.2.2] ∧ Sl w o (k + 3) 1 C r.2.1.length g (bc r.2.1)
set_option maxRecDepth 100000 in
set_option maxHeartbeats 4000000 in
theorem fFeed_c (k P : Nat) (hk : 0 < k) (s : Rst) (hs : s.done = true ∨ s.e ≠ 0 ∨ Rok s) (b : List UInt8) (B : Option Addr) (n d : Nat) (hn : n = b.length) (hb : n ≤ 4611686018427387904) (w : World) (o : Ow) (h : FsAt w o k P s) (hG : GlF w o) (hB : Rd w B (bc b)) (hBo : b ≠ [] → ∀ a, B = some a → a.block < w.heap.size → ¬ KF k (o a.block)) :
    Calls Tryz.prog 19 #[.pointer (some ⟨P, 0, none⟩), .slice B n d] w (Turns (KF k) w o fun v w' o' => IsFed k (feedF s b).2 v w' o' ∧ FsAt w' o' k P (feedF s b).1) := by
  have CG := Lib.hid (fGo_c k P hk s hs b B n d hn hb w o h hG hB hBo)
  obtain ⟨A, m, D, l, C, g, hr, h1⟩ := h.row
  have c9 := hr.c9
  obtain ⟨q, hq⟩ : ∃ q, q = goF s b := ⟨_, rfl⟩
  have HF := Lib.hid (show feedF s b = ({ q.1 with body := [] }, q.2, q.1.body, q.1.done, q.1.e) from by rw [hq]; rfl)
  rw [← hq] at CG
  obtain ⟨R, hR⟩ : ∃ R, R = feedF s b := ⟨_, rfl⟩
  rw [← hR] at HF ⊢
  clear hr h1 h hG hB hBo hn hq hR hs
  go_enter Tryz.func19, Tryz.ntmps19
  go_wp2_with (go_at_call 26; refine (CG.out).mono ?_; rintro e w2 ⟨v, o2, rfl, ⟨rfl, hp2⟩, st2⟩; obtain ⟨A2, m2, D2, l2, C2, g2, hr2, hh2⟩ := hp2.row; have k12 := hr2.c12; have k10 := hr2.c10; have k11 := hr2.c11; have g12 := hr2.fz 12 (by decide); have HP2 := Lib.hid hp2; have HR2 := Lib.hid hr2; have HH2 := Lib.hid hh2; have ST2 := Lib.hid st2; clear hp2 hr2 hh2 st2 c9)
  go_region
  all_goals go_wp2
  all_goals (
    refine bodyPost_ret (v := .tuple #[.int .i64 (q.2 : Int), .slice C2 q.1.body.length g2, .bool q.1.done, .int .i64 q.1.e]) (by simp [results, Tryz.results19, go_sem]) rfl ?_
    obtain ⟨a1, a2, a3, a4, a5, a6⟩ := HH2.out
    have hp := HP2.out.own
    have st : Stp (fun i => i = k) w2 o2 (w2.setCell ⟨P, 12, none⟩ (.slice none 0 0)) o2 := Stp.set P 12 _ (fun _ => hp)
    refine Turns.mk o2 rfl ⟨?_, ?_⟩ ((ST2.out.tr (setF_stp 12 (.slice none 0 0) hp)).tr (Stp.ext (by (repeat (first | exact Ext.rfl' _ | assumption | refine Ext.dr ?_ | refine Ext.drN ?_ _ | refine Ext.al ?_ _ | refine Ext.st ?_ (by simp) _ | refine Ext.tr ?_ (by assumption))))))
    · rw [HF.out]
      exact ⟨C2, g2, rfl, (a5.stp st (by omega)).ext (by (repeat (first | exact Ext.rfl' _ | assumption | refine Ext.dr ?_ | refine Ext.drN ?_ _ | refine Ext.al ?_ _ | refine Ext.st ?_ (by simp) _ | refine Ext.tr ?_ (by assumption))))⟩
    · rw [HF.out]
      exact FsAt.ext (w := w2.setCell ⟨P, 12, none⟩ (.slice none 0 0)) ⟨hp, A2, m2, D2, l2, none, 0, HR2.out.set 12 _ (by simp [Rst.cells]), a1.stp st (by omega), a2, a3.stp st (by omega), a4, Sl.nil_ _ _ _ _ _, fun _ => rfl⟩ (by (repeat (first | exact Ext.rfl' _ | assumption | refine Ext.dr ?_ | refine Ext.drN ?_ _ | refine Ext.al ?_ _ | refine Ext.st ?_ (by simp) _ | refine Ext.tr ?_ (by assumption)))))
theorem fFeed_nil (B : Option Addr) (n d : Nat) (w : World) :
    Calls Tryz.prog 19 #[.pointer none, .slice B n d] w (Gives (.tuple #[.int .i64 0, .slice none 0 0, .bool false, .int .i64 1]) w) := by
  go_enter Tryz.func19, Tryz.ntmps19
  go_wp2
  refine bodyPost_ret (v := .tuple #[.int .i64 0, .slice none 0 0, .bool false, .int .i64 1]) (by simp [results, Tryz.results19, go_sem]) rfl ?_
  exact ⟨rfl, by (repeat (first | exact Ext.rfl' _ | assumption | refine Ext.dr ?_ | refine Ext.drN ?_ _ | refine Ext.al ?_ _ | refine Ext.st ?_ (by simp) _ | refine Ext.tr ?_ (by assumption)))⟩
theorem fFeed_unmade (P : Nat) (B : Option Addr) (n d : Nat) (w : World) (h : w.cell? ⟨P, 9, none⟩ = some (.bool false)) :
    Calls Tryz.prog 19 #[.pointer (some ⟨P, 0, none⟩), .slice B n d] w (Gives (.tuple #[.int .i64 0, .slice none 0 0, .bool false, .int .i64 1]) w) := by
  go_enter Tryz.func19, Tryz.ntmps19
  go_wp2
  refine bodyPost_ret (v := .tuple #[.int .i64 0, .slice none 0 0, .bool false, .int .i64 1]) (by simp [results, Tryz.results19, go_sem]) rfl ?_
  exact ⟨rfl, by (repeat (first | exact Ext.rfl' _ | assumption | refine Ext.dr ?_ | refine Ext.drN ?_ _ | refine Ext.al ?_ _ | refine Ext.st ?_ (by simp) _ | refine Ext.tr ?_ (by assumption)))⟩
end Go.Proofs.YtnakeigpelcajaaGreatDoor
end

/-
Framing's NewReader.
-/
section
namespace Go.Proofs.YtnakeigpelcajaaGreatDoor
open Go.RowKit

def goodR (kd n most : Int) : Bool := decide (0 ≤ kd) && decide (kd ≤ 3) && decide (0 ≤ n) && (decide (n ≤ 0) || decide (kd = 1)) && decide (0 ≤ most) && decide (most ≤ 1048576)
theorem FsAt.fresh (W : World) (o : Ow) (k : Nat) (s : Rst) (hl : s.line = []) (ht : s.tail = []) (hb : s.body = []) : FsAt (W.alloc (.cells (s.cells none 0 none 0 none 0) 55)) (fun b => if b = W.heap.size then k else o b) k W.heap.size s := by
  refine ⟨by simp, none, 0, none, 0, none, 0, heap_alloc_new W _, ?_, fun _ => rfl, ?_, fun _ => rfl, ?_, fun _ => rfl⟩
  · rw [hl]; exact Sl.nil_ _ _ _ _ _
  · rw [ht]; exact Sl.nil_ _ _ _ _ _
  · rw [hb]; exact Sl.nil_ _ _ _ _ _
set_option maxRecDepth 100000 in
set_option maxHeartbeats 4000000 in
theorem fNew_yes (k : Nat) (kd n most : Nat) (h1 : kd ≤ 3) (h2 : n = 0 ∨ kd = 1) (h3 : most ≤ 1048576) (hn : n < 9223372036854775808) (w : World) (o : Ow) :
    Calls Tryz.prog 18 #[.agg #[.int .i64 (kd : Int), .int .i64 (n : Int)], .int .i64 (most : Int)] w (Turns (fun _ => False) w o fun v w' o' => ∃ p, v = .tuple #[.pointer (some ⟨p, 0, none⟩), .int .i64 0] ∧ FsAt w' o' k p (newF kd n most) ∧ w.heap.size ≤ p) := by
  have a1 : ¬ (kd : Int) < 0 := by omega
  have a2 : ¬ (3 : Int) < (kd : Int) := by omega
  have a3 : ¬ (n : Int) < 0 := by omega
  have a4 : ¬ (most : Int) < 0 := by omega
  have a5 : ¬ (1048576 : Int) < (most : Int) := by omega
  have hz : (w.alloc (.cells #[.int .i64 (kd : Int), .int .i64 (n : Int)] 42)).heap.size = w.heap.size + 1 := by simp
  by_cases k2 : kd = 2
  · obtain rfl : n = 0 := by omega
    subst k2
    have HZ := Lib.hid hz
    clear a1 a2 a3 hz
    go_enter Tryz.func18, Tryz.ntmps18
    go_wp2
    refine bodyPost_ret (v := .tuple #[.pointer (some ⟨w.heap.size + 1, 0, none⟩), .int .i64 0]) (by simp [results, Tryz.results18, go_sem]) rfl ?_
    have hf := FsAt.fresh (w.alloc (.cells #[.int .i64 2, .int .i64 0] 42)) o k (newF 2 0 most) rfl rfl rfl
    rw [show (w.alloc (.cells #[.int .i64 2, .int .i64 0] 42)).heap.size = w.heap.size + 1 from by simp] at hf
    have hs : (newF 2 0 most).cells none 0 none 0 none 0 = #[.int .i64 2, .int .i64 0, .int .i64 (most : Int), .int .i64 0, .int .i64 1, .int .i64 0, .slice none 0 0, .bool false, .slice none 0 0, .bool true, .bool false, .int .i64 0, .slice none 0 0] := by unfold newF; first | rfl | (rw [if_neg k2]; rfl)
    rw [hs] at hf
    exact Turns.mk _ rfl ⟨w.heap.size + 1, rfl, hf, Nat.le_succ _⟩ (Stp.ext2 (by (repeat (first | exact Ext.rfl' _ | assumption | refine Ext.dr ?_ | refine Ext.drN ?_ _ | refine Ext.al ?_ _ | refine Ext.st ?_ (by simp) _ | refine Ext.tr ?_ (by assumption)))) (fun b hb => by rw [if_neg (by omega)]))
  · have d2 : ((kd : Int) == 2) = false := by rw [beq_eq_false_iff_ne]; omega
    have HZ := Lib.hid hz
    clear hz
    by_cases k1 : n = 0
    · subst k1
      clear a3
      go_enter Tryz.func18, Tryz.ntmps18
      go_wp2
      refine bodyPost_ret (v := .tuple #[.pointer (some ⟨w.heap.size + 1, 0, none⟩), .int .i64 0]) (by simp [results, Tryz.results18, go_sem]) rfl ?_
      have hf := FsAt.fresh (w.alloc (.cells #[.int .i64 (kd : Int), .int .i64 0] 42)) o k (newF kd 0 most) rfl rfl rfl
      rw [show (w.alloc (.cells #[.int .i64 (kd : Int), .int .i64 0] 42)).heap.size = w.heap.size + 1 from by simp] at hf
      have hs : (newF kd 0 most).cells none 0 none 0 none 0 = #[.int .i64 (kd : Int), .int .i64 0, .int .i64 (most : Int), .int .i64 0, .int .i64 0, .int .i64 0, .slice none 0 0, .bool false, .slice none 0 0, .bool true, .bool false, .int .i64 0, .slice none 0 0] := by unfold newF; first | rfl | (rw [if_neg k2]; rfl)
      rw [hs] at hf
      exact Turns.mk _ rfl ⟨w.heap.size + 1, rfl, hf, Nat.le_succ _⟩ (Stp.ext2 (by (repeat (first | exact Ext.rfl' _ | assumption | refine Ext.dr ?_ | refine Ext.drN ?_ _ | refine Ext.al ?_ _ | refine Ext.st ?_ (by simp) _ | refine Ext.tr ?_ (by assumption)))) (fun b hb => by rw [if_neg (by omega)]))
    · obtain rfl : kd = 1 := by omega
      have a6 : (0 : Int) < (n : Int) := by omega
      clear a1 a2
      go_enter Tryz.func18, Tryz.ntmps18
      go_wp2
      refine bodyPost_ret (v := .tuple #[.pointer (some ⟨w.heap.size + 1, 0, none⟩), .int .i64 0]) (by simp [results, Tryz.results18, go_sem]) rfl ?_
      have hf := FsAt.fresh (w.alloc (.cells #[.int .i64 1, .int .i64 (n : Int)] 42)) o k (newF 1 n most) rfl rfl rfl
      rw [show (w.alloc (.cells #[.int .i64 1, .int .i64 (n : Int)] 42)).heap.size = w.heap.size + 1 from by simp] at hf
      have hs : (newF 1 n most).cells none 0 none 0 none 0 = #[.int .i64 1, .int .i64 (n : Int), .int .i64 (most : Int), .int .i64 0, .int .i64 0, .int .i64 0, .slice none 0 0, .bool false, .slice none 0 0, .bool true, .bool false, .int .i64 0, .slice none 0 0] := by unfold newF; first | rfl | (rw [if_neg k2]; rfl)
      rw [hs] at hf
      exact Turns.mk _ rfl ⟨w.heap.size + 1, rfl, hf, Nat.le_succ _⟩ (Stp.ext2 (by (repeat (first | exact Ext.rfl' _ | assumption | refine Ext.dr ?_ | refine Ext.drN ?_ _ | refine Ext.al ?_ _ | refine Ext.st ?_ (by simp) _ | refine Ext.tr ?_ (by assumption)))) (fun b hb => by rw [if_neg (by omega)]))
set_option maxRecDepth 100000 in
set_option maxHeartbeats 4000000 in
/-- Of a length that may not be, or too much: none. -/
theorem fNew_no (kd n most : Int) (h : goodR kd n most = false) (w : World) :
    Calls Tryz.prog 18 #[.agg #[.int .i64 kd, .int .i64 n], .int .i64 most] w (Gives (.tuple #[.pointer none, .int .i64 1]) w) := by
  have W : ∀ (_ : kd < 0 ∨ 3 < kd ∨ n < 0 ∨ (0 < n ∧ kd ≠ 1) ∨ most < 0 ∨ 1048576 < most), Calls Tryz.prog 18 #[.agg #[.int .i64 kd, .int .i64 n], .int .i64 most] w (Gives (.tuple #[.pointer none, .int .i64 1]) w) := by
    intro hc
    clear h
    by_cases b1 : kd < 0
    · clear hc
      go_enter Tryz.func18, Tryz.ntmps18
      go_wp2
      refine bodyPost_ret (v := .tuple #[.pointer none, .int .i64 1]) (by simp [results, Tryz.results18, go_sem]) rfl ?_
      exact ⟨rfl, by (repeat (first | exact Ext.rfl' _ | assumption | refine Ext.dr ?_ | refine Ext.drN ?_ _ | refine Ext.al ?_ _ | refine Ext.st ?_ (by simp) _ | refine Ext.tr ?_ (by assumption)))⟩
    · by_cases b2 : 3 < kd
      · clear hc
        go_enter Tryz.func18, Tryz.ntmps18
        go_wp2
        refine bodyPost_ret (v := .tuple #[.pointer none, .int .i64 1]) (by simp [results, Tryz.results18, go_sem]) rfl ?_
        exact ⟨rfl, by (repeat (first | exact Ext.rfl' _ | assumption | refine Ext.dr ?_ | refine Ext.drN ?_ _ | refine Ext.al ?_ _ | refine Ext.st ?_ (by simp) _ | refine Ext.tr ?_ (by assumption)))⟩
      · by_cases b3 : n < 0
        · clear hc
          go_enter Tryz.func18, Tryz.ntmps18
          go_wp2
          refine bodyPost_ret (v := .tuple #[.pointer none, .int .i64 1]) (by simp [results, Tryz.results18, go_sem]) rfl ?_
          exact ⟨rfl, by (repeat (first | exact Ext.rfl' _ | assumption | refine Ext.dr ?_ | refine Ext.drN ?_ _ | refine Ext.al ?_ _ | refine Ext.st ?_ (by simp) _ | refine Ext.tr ?_ (by assumption)))⟩
        · by_cases b4 : 0 < n
          · by_cases b5 : kd = 1
            · subst b5
              clear b1 b2
              by_cases b6 : most < 0
              · clear hc
                go_enter Tryz.func18, Tryz.ntmps18
                go_wp2
                refine bodyPost_ret (v := .tuple #[.pointer none, .int .i64 1]) (by simp [results, Tryz.results18, go_sem]) rfl ?_
                exact ⟨rfl, by (repeat (first | exact Ext.rfl' _ | assumption | refine Ext.dr ?_ | refine Ext.drN ?_ _ | refine Ext.al ?_ _ | refine Ext.st ?_ (by simp) _ | refine Ext.tr ?_ (by assumption)))⟩
              · have b7 : 1048576 < most := by omega
                clear hc
                go_enter Tryz.func18, Tryz.ntmps18
                go_wp2
                refine bodyPost_ret (v := .tuple #[.pointer none, .int .i64 1]) (by simp [results, Tryz.results18, go_sem]) rfl ?_
                exact ⟨rfl, by (repeat (first | exact Ext.rfl' _ | assumption | refine Ext.dr ?_ | refine Ext.drN ?_ _ | refine Ext.al ?_ _ | refine Ext.st ?_ (by simp) _ | refine Ext.tr ?_ (by assumption)))⟩
            · have b5' : (kd != 1) = true := by rw [bne_iff_ne]; exact b5
              clear hc
              go_enter Tryz.func18, Tryz.ntmps18
              go_wp2
              refine bodyPost_ret (v := .tuple #[.pointer none, .int .i64 1]) (by simp [results, Tryz.results18, go_sem]) rfl ?_
              exact ⟨rfl, by (repeat (first | exact Ext.rfl' _ | assumption | refine Ext.dr ?_ | refine Ext.drN ?_ _ | refine Ext.al ?_ _ | refine Ext.st ?_ (by simp) _ | refine Ext.tr ?_ (by assumption)))⟩
          · by_cases b6 : most < 0
            · clear hc
              go_enter Tryz.func18, Tryz.ntmps18
              go_wp2
              refine bodyPost_ret (v := .tuple #[.pointer none, .int .i64 1]) (by simp [results, Tryz.results18, go_sem]) rfl ?_
              exact ⟨rfl, by (repeat (first | exact Ext.rfl' _ | assumption | refine Ext.dr ?_ | refine Ext.drN ?_ _ | refine Ext.al ?_ _ | refine Ext.st ?_ (by simp) _ | refine Ext.tr ?_ (by assumption)))⟩
            · have b7 : 1048576 < most := by omega
              clear hc
              go_enter Tryz.func18, Tryz.ntmps18
              go_wp2
              refine bodyPost_ret (v := .tuple #[.pointer none, .int .i64 1]) (by simp [results, Tryz.results18, go_sem]) rfl ?_
              exact ⟨rfl, by (repeat (first | exact Ext.rfl' _ | assumption | refine Ext.dr ?_ | refine Ext.drN ?_ _ | refine Ext.al ?_ _ | refine Ext.st ?_ (by simp) _ | refine Ext.tr ?_ (by assumption)))⟩
  apply W
  unfold goodR at h
  simp only [Bool.and_eq_false_iff, Bool.or_eq_false_iff, decide_eq_false_iff_not] at h
  omega
end Go.Proofs.YtnakeigpelcajaaGreatDoor
end
