/-
The directive peer: its contract.
-/
import Derived.Test.YtmnohicojefhfaaGreatDoorCFg
import Derived.BigRegion
set_option linter.unusedVariables false
set_option linter.unusedSimpArgs false
namespace Go.Proofs.YtmnohicojefhfaaGreatDoor
open Go.RowKit

set_option maxRecDepth 100000 in
set_option maxHeartbeats 8000000 in
theorem peer_y1 (w : World) (o : Ow) (p line : Nat) (c : Cf14) (h : CfAt w o p c line) (hE : ErrR w) (hne : c.ups ≠ []) (hM : CfB 1048576 c) (s : List UInt8) (hs : s.length ≤ 65536) (n : Int) (hn : numC s = some n) (A : Option Addr) (ac : Nat) (hr : Rd w A (strC [s])) :
    Calls Tryz.prog 93 #[.pointer (some ⟨p, 0, none⟩), .slice A 1 ac] w (DoQ w o p line (doD .peer [s] c)) := by
  obtain ⟨U, UA, uc, S, SA, sc, h⟩ := h
  obtain ⟨b, x, g, f, rfl, rfl, hl, hcs, hg, hce⟩ := h.upX hne
  have h5 := h.c4
  rw [hl] at h5
  have hm : b.length < 1099511627776 := by have := hM.ups; omega
  have CU := Lib.hid (fun (w' : World) (e : Ext w w') => cup_c p g f b.length uc w' hm ((e.cell (lt_of_cell h5)).trans h5))
  obtain ⟨F, hF⟩ : ∃ F, F = f + b.length * 4 := ⟨_, rfl⟩
  rw [← hF] at CU hce
  have og : o g = 2 := by
    obtain ⟨g', f', hA', ho, _⟩ := h.ups.cells (by omega)
    cases hA'; exact ho
  have hnb : x.1.peers.length ≤ 1048576 := hM.peers x.1 (by rw [hcs]; simp)
  have q0 := hce 1 _ rfl
  have HC := Lib.hid h
  have HP := Lib.hid (list_one h.peers).2
  have HCS := Lib.hid hcs
  have HF := Lib.hid hF
  have OG := Lib.hid og
  have FQ := Lib.hid (fun (w' : World) (e : Ext w w') => (e.cell (p := ⟨g, F + 1, none⟩) hg).trans q0.1)
  have FZ := Lib.hid q0.2
  obtain ⟨bA, gA, rfl, k0⟩ : ∃ b g, A = some ⟨b, g, none⟩ ∧ w.cell? ⟨b, g, none⟩ = some (.string (str s)) := by
    rcases hr with h | ⟨b, g, hA, hc⟩
    · cases h
    · exact ⟨b, g, hA, hc 0 _ rfl⟩
  have CN := Lib.hid (fun w' (e : Ext w w') => cnumber_yes p s hs n hn w' (hE.ext e))
  have HD : Hid (doD .peer [s] c = some (cfUp c fun u => { u with peers := u.peers ++ [⟨n, 8⟩] })) := Lib.hid (by simp [doD, hn])
  obtain ⟨sv, hsv⟩ : ∃ v, v = str s := ⟨_, rfl⟩
  rw [← hsv] at k0 CN
  clear hsv hr hE hn hs h hcs hF og hce h5 hl q0
  go_enter Tryz.func93, Tryz.ntmps93
  go_wp2_with (first
    | (go_at_call 57; refine (CN.out _ (by (repeat (first | exact Ext.rfl' _ | assumption | refine Ext.dr ?_ | refine Ext.drN ?_ _ | refine Ext.al ?_ _ | refine Ext.st ?_ (by simp) _ | refine Ext.tr ?_ (by assumption))))).mono ?_; rintro e w1 ⟨rfl, hx1⟩))
  have FB0 : Hid (∀ w', Ext (w1.alloc (.cells #[.int .i64 n, .int .i64 8] 75)) w' → (w'.cell? ⟨w1.heap.size, 0, none⟩ = some (.int .i64 n) ∧ w'.cell? ⟨w1.heap.size, 1, none⟩ = some (.int .i64 8))) := Lib.hid (fun w' e => ⟨Ext.new e 0 _ rfl, Ext.new e 1 _ rfl⟩)
  have xW : Ext w (w1.alloc (.cells #[.int .i64 n, .int .i64 8] 75)) := by (repeat (first | exact Ext.rfl' _ | assumption | refine Ext.dr ?_ | refine Ext.drN ?_ _ | refine Ext.al ?_ _ | refine Ext.st ?_ (by simp) _ | refine Ext.tr ?_ (by assumption)))
  obtain ⟨gb, hgb⟩ : ∃ gb, gb = w1.heap.size := ⟨_, rfl⟩
  rw [← hgb] at FB0 ⊢
  generalize w1.alloc (.cells #[.int .i64 n, .int .i64 8] 75) = W at *
  have FB := FB0
  have b0 := (FB.out W (Ext.rfl' W)).1
  have d0 := (FB.out W (Ext.rfl' W)).2
  clear hgb
  go_region_law (first
    | (refine step_call (.tmp 20) rfl rfl rfl (enter_up _ _) (CU.out _ (by (repeat (first | exact Ext.rfl' _ | assumption | refine Ext.dr ?_ | refine Ext.drN ?_ _ | refine Ext.al ?_ _ | refine Ext.st ?_ (by simp) _ | refine Ext.tr ?_ (by assumption))))) ?_; intro w3 hx3; have b3 := (FB.out w3 (by (repeat (first | exact Ext.rfl' _ | assumption | refine Ext.dr ?_ | refine Ext.drN ?_ _ | refine Ext.al ?_ _ | refine Ext.st ?_ (by simp) _ | refine Ext.tr ?_ (by assumption))))).1; have d3 := (FB.out w3 (by (repeat (first | exact Ext.rfl' _ | assumption | refine Ext.dr ?_ | refine Ext.drN ?_ _ | refine Ext.al ?_ _ | refine Ext.st ?_ (by simp) _ | refine Ext.tr ?_ (by assumption))))).2; have q3 := FQ.out w3 (by (repeat (first | exact Ext.rfl' _ | assumption | refine Ext.dr ?_ | refine Ext.drN ?_ _ | refine Ext.al ?_ _ | refine Ext.st ?_ (by simp) _ | refine Ext.tr ?_ (by assumption)))))
    | (refine step_call (.tmp 22) rfl rfl rfl (enter_up _ _) (CU.out _ (by (repeat (first | exact Ext.rfl' _ | assumption | refine Ext.dr ?_ | refine Ext.drN ?_ _ | refine Ext.al ?_ _ | refine Ext.st ?_ (by simp) _ | refine Ext.tr ?_ (by assumption))))) ?_; intro w4 hx4; have b4 := (FB.out w4 (by (repeat (first | exact Ext.rfl' _ | assumption | refine Ext.dr ?_ | refine Ext.drN ?_ _ | refine Ext.al ?_ _ | refine Ext.st ?_ (by simp) _ | refine Ext.tr ?_ (by assumption))))).1; have d4 := (FB.out w4 (by (repeat (first | exact Ext.rfl' _ | assumption | refine Ext.dr ?_ | refine Ext.drN ?_ _ | refine Ext.al ?_ _ | refine Ext.st ?_ (by simp) _ | refine Ext.tr ?_ (by assumption))))).2; have q4 := FQ.out w4 (by (repeat (first | exact Ext.rfl' _ | assumption | refine Ext.dr ?_ | refine Ext.drN ?_ _ | refine Ext.al ?_ _ | refine Ext.st ?_ (by simp) _ | refine Ext.tr ?_ (by assumption)))); have q5 := FQ.out (w4.alloc (.cells #[.int .i64 n, .int .i64 8] 75)) (by (repeat (first | exact Ext.rfl' _ | assumption | refine Ext.dr ?_ | refine Ext.drN ?_ _ | refine Ext.al ?_ _ | refine Ext.st ?_ (by simp) _ | refine Ext.tr ?_ (by assumption)))))
    | (refine step_put slt_pe (.tmp 26) (.tmp 28) rfl rfl rfl rfl (HP.out.1.ext (by (repeat (first | exact Ext.rfl' _ | assumption | refine Ext.dr ?_ | refine Ext.drN ?_ _ | refine Ext.al ?_ _ | refine Ext.st ?_ (by simp) _ | refine Ext.tr ?_ (by assumption))))) HP.out.2 (Sl.src Tryz.underlying71 (n := 1) ((rd_newV _ _ rfl #[.int .i64 n, .int .i64 8] 75).ext (by (repeat (first | exact Ext.rfl' _ | assumption | refine Ext.dr ?_ | refine Ext.drN ?_ _ | refine Ext.al ?_ _ | refine Ext.st ?_ (by simp) _ | refine Ext.tr ?_ (by assumption))))) (by simp) (by omega) (by simp [Value.oneCell']) 1) (by omega) (by simp only [maxLen]; omega) ?_; intro A5 c5 w5 o5 hs5 st5 hn5; have st5' : Stp (fun i => i = 10 + 3 * b.length) w o w5 o5 := (Stp.ext (by (repeat (first | exact Ext.rfl' _ | assumption | refine Ext.dr ?_ | refine Ext.drN ?_ _ | refine Ext.al ?_ _ | refine Ext.st ?_ (by simp) _ | refine Ext.tr ?_ (by assumption))))).tr st5; have hT := HC.out.up5 st5' ({ x.1 with peers := x.1.peers ++ [⟨n, 8⟩] }, (A5, c5)) ⟨by rw [List.length_append, List.length_singleton, List.flatMap_append]; exact hs5, hn5⟩ 1 (by omega) (.slice A5 (x.1.peers.length + 1) c5) (by simp [upV]); have HT := Lib.hid (DoQ.yes (p := p) (line := line) (r := (doD .peer [s] c)) (c := cfUp c fun u => { u with peers := u.peers ++ [⟨n, 8⟩] }) HD.out hT.2 ⟨_, _, _, _, _, _, by rw [cfUp_eq HCS.out _ (A5, c5)]; exact hT.1⟩); rw [← Nat.add_assoc, ← HF.out] at HT; have q9 := st5'.cell (a := ⟨g, F + 1, none⟩) (by show ¬ (o g = _); rw [OG.out]; omega) (FQ.out w (Ext.rfl' w)); have f9 := (st5'.frozen (a := ⟨g, F + 1, none⟩) hg (by show ¬ (o g = _); rw [OG.out]; omega)).trans FZ.out; clear hT st5' hs5 st5))
  all_goals go_end0
  all_goals exact HT.out
set_option maxRecDepth 100000 in
set_option maxHeartbeats 8000000 in
theorem peer_n (w : World) (o : Ow) (p line : Nat) (c : Cf14) (h : CfAt w o p c line) (hE : ErrR w) (s : List UInt8) (r : List (List UInt8)) (hs : s.length ≤ 65536) (hn : numC s = none) (A : Option Addr) (m ac : Nat) (hm0 : 0 < m) (hr : Rd w A (strC (s :: r))) :
    Calls Tryz.prog 93 #[.pointer (some ⟨p, 0, none⟩), .slice A m ac] w (DoQ w o p line (doD .peer (s :: r) c)) := by
  obtain ⟨bA, gA, rfl, k0⟩ : ∃ b g, A = some ⟨b, g, none⟩ ∧ w.cell? ⟨b, g, none⟩ = some (.string (str s)) := by
    rcases hr with h | ⟨b, g, hA, hc⟩
    · cases h
    · exact ⟨b, g, hA, hc 0 _ rfl⟩
  have CN := Lib.hid (fun w' (e : Ext w w') => cnumber_no p line s hs hn w' (hE.ext e) ((e.cell (p := ⟨p, 6, none⟩) (lt_of_cell h.c6)).trans h.c6))
  have HT := Lib.hid (fun w1 (hx : Ext w w1) => DoQ.no (o := o) (p := p) (line := line) (r := doD .peer (s :: r) c) (by simp [doD, hn]) hx)
  obtain ⟨sv, hsv⟩ : ∃ v, v = str s := ⟨_, rfl⟩
  rw [← hsv] at k0 CN
  have m1 : (0 : Int) < (m : Int) := by omega
  clear hsv hr hE hn hs h
  go_enter Tryz.func93, Tryz.ntmps93
  go_wp2_with (first
    | (go_at_call 57; refine (CN.out _ (by (repeat (first | exact Ext.rfl' _ | assumption | refine Ext.dr ?_ | refine Ext.drN ?_ _ | refine Ext.al ?_ _ | refine Ext.st ?_ (by simp) _ | refine Ext.tr ?_ (by assumption))))).mono ?_; rintro e w1 ⟨rfl, hx1⟩))
  simp only [bodyPost]
  exact ⟨trivial, HT.out _ (by (repeat (first | exact Ext.rfl' _ | assumption | refine Ext.dr ?_ | refine Ext.drN ?_ _ | refine Ext.al ?_ _ | refine Ext.st ?_ (by simp) _ | refine Ext.tr ?_ (by assumption))))⟩
set_option maxRecDepth 100000 in
set_option maxHeartbeats 8000000 in
theorem peer_yn (w : World) (o : Ow) (p line : Nat) (c : Cf14) (h : CfAt w o p c line) (hE : ErrR w) (s t : List UInt8) (hs : s.length ≤ 65536) (ht : t.length ≤ 65536) (n : Int) (hn : numC s = some n) (hm' : numC t = none) (A : Option Addr) (ac : Nat) (hr : Rd w A (strC [s, t])) :
    Calls Tryz.prog 93 #[.pointer (some ⟨p, 0, none⟩), .slice A 2 ac] w (DoQ w o p line (doD .peer [s, t] c)) := by
  obtain ⟨bA, gA, rfl, k0, k9⟩ : ∃ b g, A = some ⟨b, g, none⟩ ∧ w.cell? ⟨b, g, none⟩ = some (.string (str s)) ∧ w.cell? ⟨b, g + 1, none⟩ = some (.string (str t)) := by
    rcases hr with h | ⟨b, g, hA, hc⟩
    · cases h
    · exact ⟨b, g, hA, hc 0 _ rfl, hc 1 _ rfl⟩
  have CN := Lib.hid (fun w' (e : Ext w w') => cnumber_yes p s hs n hn w' (hE.ext e))
  have CM := Lib.hid (fun w' (e : Ext w w') => cnumber_no p line t ht hm' w' (hE.ext e) ((e.cell (p := ⟨p, 6, none⟩) (lt_of_cell h.c6)).trans h.c6))
  have HT := Lib.hid (fun w1 (hx : Ext w w1) => DoQ.no (o := o) (p := p) (line := line) (r := doD .peer [s, t] c) (by simp [doD, hn, hm']) hx)
  obtain ⟨sv, hsv⟩ : ∃ v, v = str s := ⟨_, rfl⟩
  obtain ⟨tv, htv⟩ : ∃ v, v = str t := ⟨_, rfl⟩
  rw [← hsv] at k0 CN
  rw [← htv] at k9 CM
  have FT := Lib.hid (fun w' (e : Ext w w') => (e.cell (p := ⟨bA, gA + 1, none⟩) (lt_of_cell k9)).trans k9)
  clear hsv htv hr hE hn hm' hs ht h
  go_enter Tryz.func93, Tryz.ntmps93
  go_wp2_with (first
    | (go_at_call 57; refine (CN.out _ (by (repeat (first | exact Ext.rfl' _ | assumption | refine Ext.dr ?_ | refine Ext.drN ?_ _ | refine Ext.al ?_ _ | refine Ext.st ?_ (by simp) _ | refine Ext.tr ?_ (by assumption))))).mono ?_; rintro e w1 ⟨rfl, hx1⟩; clear CN; have k8 := FT.out (w1.alloc (.cells #[.int .i64 n, .int .i64 8] 75)) (by (repeat (first | exact Ext.rfl' _ | assumption | refine Ext.dr ?_ | refine Ext.drN ?_ _ | refine Ext.al ?_ _ | refine Ext.st ?_ (by simp) _ | refine Ext.tr ?_ (by assumption)))))
    | (go_at_call 57; refine (CM.out _ (by (repeat (first | exact Ext.rfl' _ | assumption | refine Ext.dr ?_ | refine Ext.drN ?_ _ | refine Ext.al ?_ _ | refine Ext.st ?_ (by simp) _ | refine Ext.tr ?_ (by assumption))))).mono ?_; rintro e w2 ⟨rfl, hx2⟩))
  simp only [bodyPost]
  exact ⟨trivial, HT.out _ (by (repeat (first | exact Ext.rfl' _ | assumption | refine Ext.dr ?_ | refine Ext.drN ?_ _ | refine Ext.al ?_ _ | refine Ext.st ?_ (by simp) _ | refine Ext.tr ?_ (by assumption))))⟩
set_option maxRecDepth 100000 in
set_option maxHeartbeats 8000000 in
theorem peer_yy (w : World) (o : Ow) (p line : Nat) (c : Cf14) (h : CfAt w o p c line) (hE : ErrR w) (hne : c.ups ≠ []) (hM : CfB 1048576 c) (s t : List UInt8) (hs : s.length ≤ 65536) (ht : t.length ≤ 65536) (n m : Int) (hn : numC s = some n) (hm' : numC t = some m) (A : Option Addr) (ac : Nat) (hr : Rd w A (strC [s, t])) :
    Calls Tryz.prog 93 #[.pointer (some ⟨p, 0, none⟩), .slice A 2 ac] w (DoQ w o p line (doD .peer [s, t] c)) := by
  obtain ⟨U, UA, uc, S, SA, sc, h⟩ := h
  obtain ⟨b, x, g, f, rfl, rfl, hl, hcs, hg, hce⟩ := h.upX hne
  have h5 := h.c4
  rw [hl] at h5
  have hm : b.length < 1099511627776 := by have := hM.ups; omega
  have CU := Lib.hid (fun (w' : World) (e : Ext w w') => cup_c p g f b.length uc w' hm ((e.cell (lt_of_cell h5)).trans h5))
  obtain ⟨F, hF⟩ : ∃ F, F = f + b.length * 4 := ⟨_, rfl⟩
  rw [← hF] at CU hce
  have og : o g = 2 := by
    obtain ⟨g', f', hA', ho, _⟩ := h.ups.cells (by omega)
    cases hA'; exact ho
  have hnb : x.1.peers.length ≤ 1048576 := hM.peers x.1 (by rw [hcs]; simp)
  have q0 := hce 1 _ rfl
  have HC := Lib.hid h
  have HP := Lib.hid (list_one h.peers).2
  have HCS := Lib.hid hcs
  have HF := Lib.hid hF
  have OG := Lib.hid og
  have FQ := Lib.hid (fun (w' : World) (e : Ext w w') => (e.cell (p := ⟨g, F + 1, none⟩) hg).trans q0.1)
  have FZ := Lib.hid q0.2
  obtain ⟨bA, gA, rfl, k0, k9⟩ : ∃ b g, A = some ⟨b, g, none⟩ ∧ w.cell? ⟨b, g, none⟩ = some (.string (str s)) ∧ w.cell? ⟨b, g + 1, none⟩ = some (.string (str t)) := by
    rcases hr with h | ⟨b, g, hA, hc⟩
    · cases h
    · exact ⟨b, g, hA, hc 0 _ rfl, hc 1 _ rfl⟩
  have CN := Lib.hid (fun w' (e : Ext w w') => cnumber_yes p s hs n hn w' (hE.ext e))
  have CM := Lib.hid (fun w' (e : Ext w w') => cnumber_yes p t ht m hm' w' (hE.ext e))
  have HD : Hid (doD .peer [s, t] c = some (cfUp c fun u => { u with peers := u.peers ++ [⟨n, m⟩] })) := Lib.hid (by simp [doD, hn, hm'])
  obtain ⟨sv, hsv⟩ : ∃ v, v = str s := ⟨_, rfl⟩
  obtain ⟨tv, htv⟩ : ∃ v, v = str t := ⟨_, rfl⟩
  rw [← hsv] at k0 CN
  rw [← htv] at k9 CM
  have FT := Lib.hid (fun w' (e : Ext w w') => (e.cell (p := ⟨bA, gA + 1, none⟩) (lt_of_cell k9)).trans k9)
  clear hsv htv hr hE hn hm' hs ht h hcs hF og hce h5 hl q0
  go_enter Tryz.func93, Tryz.ntmps93
  go_wp2_with (first
    | (go_at_call 57; refine (CN.out _ (by (repeat (first | exact Ext.rfl' _ | assumption | refine Ext.dr ?_ | refine Ext.drN ?_ _ | refine Ext.al ?_ _ | refine Ext.st ?_ (by simp) _ | refine Ext.tr ?_ (by assumption))))).mono ?_; rintro e w1 ⟨rfl, hx1⟩; clear CN; have k8 := FT.out (w1.alloc (.cells #[.int .i64 n, .int .i64 8] 75)) (by (repeat (first | exact Ext.rfl' _ | assumption | refine Ext.dr ?_ | refine Ext.drN ?_ _ | refine Ext.al ?_ _ | refine Ext.st ?_ (by simp) _ | refine Ext.tr ?_ (by assumption)))))
    | (go_at_call 57; refine (CM.out _ (by (repeat (first | exact Ext.rfl' _ | assumption | refine Ext.dr ?_ | refine Ext.drN ?_ _ | refine Ext.al ?_ _ | refine Ext.st ?_ (by simp) _ | refine Ext.tr ?_ (by assumption))))).mono ?_; rintro e w2 ⟨rfl, hx2⟩; have hz := ((show Ext (w1.alloc (.cells #[.int .i64 n, .int .i64 8] 75)) w2 by (repeat (first | exact Ext.rfl' _ | assumption | refine Ext.dr ?_ | refine Ext.drN ?_ _ | refine Ext.al ?_ _ | refine Ext.st ?_ (by simp) _ | refine Ext.tr ?_ (by assumption)))).block w1.heap.size (by simp)).trans (heap_alloc_new w1 _); have z1 := (row_facts hz 1 _ rfl).1; have z2 := (row_facts hz 1 _ rfl).2; have HZ := Lib.hid (row_set hz 1 (.int .i64 m)); clear hz))
  have FB0 : Hid (∀ w', Ext (w2.setCell ⟨w1.heap.size, 1, none⟩ (.int .i64 m)) w' → (w'.cell? ⟨w1.heap.size, 0, none⟩ = some (.int .i64 n) ∧ w'.cell? ⟨w1.heap.size, 1, none⟩ = some (.int .i64 m))) := Lib.hid (fun w' e => by
    have h9 := (e.block w1.heap.size (row_lt HZ.out)).trans HZ.out
    exact ⟨(row_facts h9 0 _ rfl).1, (row_facts h9 1 _ rfl).1⟩)
  have xW : Ext w (w2.setCell ⟨w1.heap.size, 1, none⟩ (.int .i64 m)) := Ext.st (by (repeat (first | exact Ext.rfl' _ | assumption | refine Ext.dr ?_ | refine Ext.drN ?_ _ | refine Ext.al ?_ _ | refine Ext.st ?_ (by simp) _ | refine Ext.tr ?_ (by assumption)))) (by have := hx1.size; exact this) _
  obtain ⟨gb, hgb⟩ : ∃ gb, gb = w1.heap.size := ⟨_, rfl⟩
  clear z1 z2 HZ
  rw [← hgb] at FB0 xW ⊢
  generalize w2.setCell ⟨gb, 1, none⟩ (.int .i64 m) = W at *
  have FB := FB0
  have b0 := (FB.out W (Ext.rfl' W)).1
  have d0 := (FB.out W (Ext.rfl' W)).2
  clear hgb
  go_region_law (first
    | (refine step_call (.tmp 20) rfl rfl rfl (enter_up _ _) (CU.out _ (by (repeat (first | exact Ext.rfl' _ | assumption | refine Ext.dr ?_ | refine Ext.drN ?_ _ | refine Ext.al ?_ _ | refine Ext.st ?_ (by simp) _ | refine Ext.tr ?_ (by assumption))))) ?_; intro w3 hx3; have b3 := (FB.out w3 (by (repeat (first | exact Ext.rfl' _ | assumption | refine Ext.dr ?_ | refine Ext.drN ?_ _ | refine Ext.al ?_ _ | refine Ext.st ?_ (by simp) _ | refine Ext.tr ?_ (by assumption))))).1; have d3 := (FB.out w3 (by (repeat (first | exact Ext.rfl' _ | assumption | refine Ext.dr ?_ | refine Ext.drN ?_ _ | refine Ext.al ?_ _ | refine Ext.st ?_ (by simp) _ | refine Ext.tr ?_ (by assumption))))).2; have q3 := FQ.out w3 (by (repeat (first | exact Ext.rfl' _ | assumption | refine Ext.dr ?_ | refine Ext.drN ?_ _ | refine Ext.al ?_ _ | refine Ext.st ?_ (by simp) _ | refine Ext.tr ?_ (by assumption)))))
    | (refine step_call (.tmp 22) rfl rfl rfl (enter_up _ _) (CU.out _ (by (repeat (first | exact Ext.rfl' _ | assumption | refine Ext.dr ?_ | refine Ext.drN ?_ _ | refine Ext.al ?_ _ | refine Ext.st ?_ (by simp) _ | refine Ext.tr ?_ (by assumption))))) ?_; intro w4 hx4; have b4 := (FB.out w4 (by (repeat (first | exact Ext.rfl' _ | assumption | refine Ext.dr ?_ | refine Ext.drN ?_ _ | refine Ext.al ?_ _ | refine Ext.st ?_ (by simp) _ | refine Ext.tr ?_ (by assumption))))).1; have d4 := (FB.out w4 (by (repeat (first | exact Ext.rfl' _ | assumption | refine Ext.dr ?_ | refine Ext.drN ?_ _ | refine Ext.al ?_ _ | refine Ext.st ?_ (by simp) _ | refine Ext.tr ?_ (by assumption))))).2; have q4 := FQ.out w4 (by (repeat (first | exact Ext.rfl' _ | assumption | refine Ext.dr ?_ | refine Ext.drN ?_ _ | refine Ext.al ?_ _ | refine Ext.st ?_ (by simp) _ | refine Ext.tr ?_ (by assumption)))); have q5 := FQ.out (w4.alloc (.cells #[.int .i64 n, .int .i64 m] 75)) (by (repeat (first | exact Ext.rfl' _ | assumption | refine Ext.dr ?_ | refine Ext.drN ?_ _ | refine Ext.al ?_ _ | refine Ext.st ?_ (by simp) _ | refine Ext.tr ?_ (by assumption)))))
    | (refine step_put slt_pe (.tmp 26) (.tmp 28) rfl rfl rfl rfl (HP.out.1.ext (by (repeat (first | exact Ext.rfl' _ | assumption | refine Ext.dr ?_ | refine Ext.drN ?_ _ | refine Ext.al ?_ _ | refine Ext.st ?_ (by simp) _ | refine Ext.tr ?_ (by assumption))))) HP.out.2 (Sl.src Tryz.underlying71 (n := 1) ((rd_newV _ _ rfl #[.int .i64 n, .int .i64 m] 75).ext (by (repeat (first | exact Ext.rfl' _ | assumption | refine Ext.dr ?_ | refine Ext.drN ?_ _ | refine Ext.al ?_ _ | refine Ext.st ?_ (by simp) _ | refine Ext.tr ?_ (by assumption))))) (by simp) (by omega) (by simp [Value.oneCell']) 1) (by omega) (by simp only [maxLen]; omega) ?_; intro A5 c5 w5 o5 hs5 st5 hn5; have st5' : Stp (fun i => i = 10 + 3 * b.length) w o w5 o5 := (Stp.ext (by (repeat (first | exact Ext.rfl' _ | assumption | refine Ext.dr ?_ | refine Ext.drN ?_ _ | refine Ext.al ?_ _ | refine Ext.st ?_ (by simp) _ | refine Ext.tr ?_ (by assumption))))).tr st5; have hT := HC.out.up5 st5' ({ x.1 with peers := x.1.peers ++ [⟨n, m⟩] }, (A5, c5)) ⟨by rw [List.length_append, List.length_singleton, List.flatMap_append]; exact hs5, hn5⟩ 1 (by omega) (.slice A5 (x.1.peers.length + 1) c5) (by simp [upV]); have HT := Lib.hid (DoQ.yes (p := p) (line := line) (r := (doD .peer [s, t] c)) (c := cfUp c fun u => { u with peers := u.peers ++ [⟨n, m⟩] }) HD.out hT.2 ⟨_, _, _, _, _, _, by rw [cfUp_eq HCS.out _ (A5, c5)]; exact hT.1⟩); rw [← Nat.add_assoc, ← HF.out] at HT; have q9 := st5'.cell (a := ⟨g, F + 1, none⟩) (by show ¬ (o g = _); rw [OG.out]; omega) (FQ.out w (Ext.rfl' w)); have f9 := (st5'.frozen (a := ⟨g, F + 1, none⟩) hg (by show ¬ (o g = _); rw [OG.out]; omega)).trans FZ.out; clear hT st5' hs5 st5))
  all_goals go_end0
  all_goals exact HT.out
end Go.Proofs.YtmnohicojefhfaaGreatDoor
