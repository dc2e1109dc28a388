/-
Head's field: a line behind the first one.
-/
import Derived.Test.YtppajpchibkneaaGreatDoorHTa
set_option linter.unusedVariables false
set_option linter.unusedSimpArgs false
namespace Go.Proofs.YtppajpchibkneaaGreatDoor
open Go.RowKit

theorem Value_h (l : List UInt8) (hs : l.length ≤ maxLen) (w : World) : Calls Tryz.prog 36 #[.string (str l)] w (Gives (.bool (vlL l)) w) := Value_c l hs w
/-- A parser that is done. -/
theorem PsAt.dn {w : World} {o : Ow} {k P : Nat} {s : Pst} (h : PsAt w o k P s) : PsAt (w.setCell ⟨P, 4, none⟩ (.bool true)) o k P { s with done := true } := by
  obtain ⟨A, c, B, d, hr, h1, h2, h3, h4⟩ := h.row
  exact PsAt.of h.own (hr.set 4 _ rfl) (h1.stp (Stp.set (K := fun i => i = k) P 4 _ (fun _ => h.own)) (by omega)) h2 (h3.stp (Stp.set (K := fun i => i = k) P 4 _ (fun _ => h.own)) (by omega)) h4
set_option maxRecDepth 100000 in
set_option maxHeartbeats 4000000 in
theorem hField_done (k P : Nat) (s : Pst) (w : World) (o : Ow) (h : PsAt w o k P s) :
    Calls Tryz.prog 44 #[.pointer (some ⟨P, 0, none⟩), .string (str [])] w (TurnsP k w o P (fldP s [])) := by
  obtain ⟨A, c, B, d, hr, h1, h2, h3, h4⟩ := h.row
  have c4 := hr.c4
  have f4 := hr.fz 4 (by decide)
  have HE := Lib.hid h
  have HQ := Lib.hid (show fldP s [] = ({ s with done := true }, 0) from if_pos rfl)
  clear hr h1 h2 h3 h4 h
  rw [show str ([] : List UInt8) = ⟨#[]⟩ from rfl]
  go_enter Tryz.func44, Tryz.ntmps44
  go_wp2
  refine bodyPost_ret (results_none rfl _ _ _) rfl ?_
  rw [HQ.out]
  exact ⟨rfl, o, HE.out.dn, set_stp 4 _ HE.out.own⟩
set_option maxRecDepth 100000 in
set_option maxHeartbeats 4000000 in
theorem hField_nocut (k P : Nat) (s : Pst) (l : List UInt8) (hne : l ≠ []) (hno : 58 ∉ l) (w : World) (o : Ow) (h : PsAt w o k P s) :
    Calls Tryz.prog 44 #[.pointer (some ⟨P, 0, none⟩), .string (str l)] w (TurnsP k w o P (fldP s l)) := by
  have HE := Lib.hid h
  have HQ := Lib.hid (show fldP s l = (s, 42) from by unfold fldP fldV; rw [if_neg hne, cutW_no hno])
  have CC := Lib.hid (fun w => Cut_no l 58 hno w)
  have CT := Lib.hid (fun w => show Calls Tryz.prog 50 #[.string ⟨#[]⟩] w (Gives (.string (str (trimL []))) w) from Trim_c [] (by decide) w)
  have e1 : l.isEmpty = false := by rw [List.isEmpty_eq_false_iff]; exact hne
  have e2 : (str l).toList.isEmpty = false := by rw [Lib.toList_data]; exact e1
  clear hno hne h
  go_enter Tryz.func44, Tryz.ntmps44
  go_wp2_with (first
    | (go_at_call 28; refine (CC.out _).mono ?_; rintro e w2 ⟨rfl, rfl⟩)
    | (go_at_call 50; refine (CT.out _).mono ?_; rintro e w3 ⟨rfl, hx3⟩)
    | (go_at_call 46; refine (demand_c _ _ _).mono ?_; rintro e w6 ⟨hy, hn, rfl⟩; first | (obtain rfl := hy rfl; clear hy hn) | (obtain rfl := hn rfl; clear hy hn)))
  simp only [bodyPost]
  rw [HQ.out]
  refine ⟨trivial, rfl, o, HE.out.ext (by (repeat (first | exact Ext.rfl' _ | assumption | refine Ext.dr ?_ | refine Ext.drN ?_ _ | refine Ext.al ?_ _ | refine Ext.st ?_ (by simp) _ | refine Ext.tr ?_ (by assumption)))), Stp.ext (by (repeat (first | exact Ext.rfl' _ | assumption | refine Ext.dr ?_ | refine Ext.drN ?_ _ | refine Ext.al ?_ _ | refine Ext.st ?_ (by simp) _ | refine Ext.tr ?_ (by assumption))))⟩
set_option maxRecDepth 100000 in
set_option maxHeartbeats 4000000 in
theorem hField_bad (k P : Nat) (s : Pst) (a r : List UInt8) (hno : 58 ∉ a) (hl : (a ++ 58 :: r).length ≤ 8192) (hbad : (tokL a && vlL (trimL r)) = false) (w : World) (o : Ow) (h : PsAt w o k P s) :
    Calls Tryz.prog 44 #[.pointer (some ⟨P, 0, none⟩), .string (str (a ++ 58 :: r))] w (TurnsP k w o P (fldP s (a ++ 58 :: r))) := by
  obtain ⟨A, c, B, d, hr, h1, h2, hs, hm⟩ := h.row
  have HROW := Lib.hid hr
  have HE := Lib.hid h
  have HS := Lib.hid hs
  have HQ := Lib.hid (show fldP s (a ++ 58 :: r) = (s, 42) from by unfold fldP fldV; rw [if_neg (by simp), cutW_at r hno]; dsimp only; rw [hbad]; rfl)
  clear hr h1 h2 hs h
  obtain ⟨sl, hsl⟩ : ∃ q, q = str (a ++ 58 :: r) := ⟨_, rfl⟩
  have e2 : sl.toList.isEmpty = false := by rw [hsl, Lib.toList_data]; rw [List.isEmpty_eq_false_iff]; simp
  have htl := trim_len r
  have CC := fun w => Cut_at a r 58 hno (by unfold maxLen; simp at hl; omega) w
  have CT := Lib.hid (fun w => Trim_c r (by unfold maxLen; simp at hl; omega) w)
  have CK := fun w => Token_h a (by unfold maxLen; simp at hl; omega) w
  have CV := fun w => Value_h (trimL r) (by unfold maxLen; simp at hl; omega) w
  rw [← hsl] at CC ⊢
  obtain ⟨v, hv⟩ : ∃ v, v = trimL r := ⟨_, rfl⟩
  have CT : Hid (∀ w, Calls Tryz.prog 50 #[.string (str r)] w (Gives (.string (str v)) w)) := by rw [hv]; exact CT
  rw [← hv] at CV
  have CC := Lib.hid CC
  rw [← hv] at hbad
  obtain ⟨gt, hgt⟩ : ∃ g, g = tokL a := ⟨_, rfl⟩
  obtain ⟨gv, hgv⟩ : ∃ g, g = vlL v := ⟨_, rfl⟩
  rw [← hgt] at CK hbad
  rw [← hgv] at CV hbad
  have CK := Lib.hid CK
  have CV := Lib.hid CV
  obtain ⟨R, hR⟩ : ∃ R, R = fldP s (a ++ 58 :: r) := ⟨_, rfl⟩
  rw [← hR] at HQ ⊢
  clear hgt hgv hv hno hl hsl htl hR
  cases gt with
  | false =>
    clear hbad
    go_enter Tryz.func44, Tryz.ntmps44
    go_wp2_with (first
      | (go_at_call 28; refine (CC.out _).mono ?_; rintro e w2 ⟨rfl, q, rfl⟩)
      | (go_at_call 50; refine (CT.out _).mono ?_; rintro e w3 ⟨rfl, hx3⟩)
      | (go_at_call 19; refine (CK.out _).mono ?_; rintro e w4 ⟨rfl, hx4⟩)
      | (go_at_call 36; refine (CV.out _).mono ?_; rintro e w5 ⟨rfl, hx5⟩; have hxa : Ext w w5 := (by (repeat (first | exact Ext.rfl' _ | assumption | refine Ext.dr ?_ | refine Ext.drN ?_ _ | refine Ext.al ?_ _ | refine Ext.st ?_ (by simp) _ | refine Ext.tr ?_ (by assumption)))); have hr5 := HROW.out.ext hxa; have c15 := hr5.c15; have f15 := hr5.fz 15 (by decide))
      | (go_at_call 46; refine (demand_c _ _ _).mono ?_; rintro e w6 ⟨hy, hn, rfl⟩; first | (obtain rfl := hy rfl; clear hy hn) | (obtain rfl := hn rfl; clear hy hn) | (obtain rfl := hy d9; clear hy hn) | (obtain rfl := hn d9; clear hy hn))
      | (at_builtin; refine wpL_put slt_fld (.tmp 41) (.tmp 45) rfl rfl rfl rfl ((HS.out.ext hxa).ext (Ext.al (Ext.rfl' w5) _)) hm (Src.ofSlice (size := 2) _ Tryz.underlying22 ⟨w5.heap.size, 0, none⟩ 1 1 [.string (str a), .string (str v)] (by simp) (new_cells w5 #[.string (str a), .string (str v)] 61) (by simp [Value.oneCell'])) (by omega) (by simp only [maxLen]; omega) ?_; intro A7 c7 w7 o7 hs7 hst7 hn7; have st7 : Stp (fun i => i = k + 2) w o w7 o7 := (Stp.ext (hxa.al _)).tr hst7; have hr7 : Prow w7 P s A c B d := (st7.keep P (row_lt HROW.out) (by rw [HE.out.own]; omega)).trans HROW.out; have k15 := hr7.c15; have g15 := hr7.fz 15 (by decide); clear c15 f15 hr5))
    simp only [bodyPost]
    rw [HQ.out]
    refine ⟨trivial, rfl, o, HE.out.ext (by (repeat (first | exact Ext.rfl' _ | assumption | refine Ext.dr ?_ | refine Ext.drN ?_ _ | refine Ext.al ?_ _ | refine Ext.st ?_ (by simp) _ | refine Ext.tr ?_ (by assumption)))), Stp.ext (by (repeat (first | exact Ext.rfl' _ | assumption | refine Ext.dr ?_ | refine Ext.drN ?_ _ | refine Ext.al ?_ _ | refine Ext.st ?_ (by simp) _ | refine Ext.tr ?_ (by assumption))))⟩
  | true =>
    rw [Bool.true_and] at hbad
    subst hbad
    go_enter Tryz.func44, Tryz.ntmps44
    go_wp2_with (first
      | (go_at_call 28; refine (CC.out _).mono ?_; rintro e w2 ⟨rfl, q, rfl⟩)
      | (go_at_call 50; refine (CT.out _).mono ?_; rintro e w3 ⟨rfl, hx3⟩)
      | (go_at_call 19; refine (CK.out _).mono ?_; rintro e w4 ⟨rfl, hx4⟩)
      | (go_at_call 36; refine (CV.out _).mono ?_; rintro e w5 ⟨rfl, hx5⟩; have hxa : Ext w w5 := (by (repeat (first | exact Ext.rfl' _ | assumption | refine Ext.dr ?_ | refine Ext.drN ?_ _ | refine Ext.al ?_ _ | refine Ext.st ?_ (by simp) _ | refine Ext.tr ?_ (by assumption)))); have hr5 := HROW.out.ext hxa; have c15 := hr5.c15; have f15 := hr5.fz 15 (by decide))
      | (go_at_call 46; refine (demand_c _ _ _).mono ?_; rintro e w6 ⟨hy, hn, rfl⟩; first | (obtain rfl := hy rfl; clear hy hn) | (obtain rfl := hn rfl; clear hy hn) | (obtain rfl := hy d9; clear hy hn) | (obtain rfl := hn d9; clear hy hn))
      | (at_builtin; refine wpL_put slt_fld (.tmp 41) (.tmp 45) rfl rfl rfl rfl ((HS.out.ext hxa).ext (Ext.al (Ext.rfl' w5) _)) hm (Src.ofSlice (size := 2) _ Tryz.underlying22 ⟨w5.heap.size, 0, none⟩ 1 1 [.string (str a), .string (str v)] (by simp) (new_cells w5 #[.string (str a), .string (str v)] 61) (by simp [Value.oneCell'])) (by omega) (by simp only [maxLen]; omega) ?_; intro A7 c7 w7 o7 hs7 hst7 hn7; have st7 : Stp (fun i => i = k + 2) w o w7 o7 := (Stp.ext (hxa.al _)).tr hst7; have hr7 : Prow w7 P s A c B d := (st7.keep P (row_lt HROW.out) (by rw [HE.out.own]; omega)).trans HROW.out; have k15 := hr7.c15; have g15 := hr7.fz 15 (by decide); clear c15 f15 hr5))
    simp only [bodyPost]
    rw [HQ.out]
    refine ⟨trivial, rfl, o, HE.out.ext (by (repeat (first | exact Ext.rfl' _ | assumption | refine Ext.dr ?_ | refine Ext.drN ?_ _ | refine Ext.al ?_ _ | refine Ext.st ?_ (by simp) _ | refine Ext.tr ?_ (by assumption)))), Stp.ext (by (repeat (first | exact Ext.rfl' _ | assumption | refine Ext.dr ?_ | refine Ext.drN ?_ _ | refine Ext.al ?_ _ | refine Ext.st ?_ (by simp) _ | refine Ext.tr ?_ (by assumption))))⟩
set_option maxRecDepth 100000 in
set_option maxHeartbeats 4000000 in
theorem hField_long (k P : Nat) (s : Pst) (a r : List UInt8) (hno : 58 ∉ a) (hl : (a ++ 58 :: r).length ≤ 8192) (hgood : (tokL a && vlL (trimL r)) = true) (hf : ¬ s.fields.length < 100) (w : World) (o : Ow) (h : PsAt w o k P s) :
    Calls Tryz.prog 44 #[.pointer (some ⟨P, 0, none⟩), .string (str (a ++ 58 :: r))] w (TurnsP k w o P (fldP s (a ++ 58 :: r))) := by
  obtain ⟨A, c, B, d, hr, h1, h2, hs, hm⟩ := h.row
  have HROW := Lib.hid hr
  have HE := Lib.hid h
  have HS := Lib.hid hs
  have HQ := Lib.hid (show fldP s (a ++ 58 :: r) = (s, 44) from by unfold fldP fldV; rw [if_neg (by simp), cutW_at r hno]; dsimp only; rw [hgood]; exact if_neg hf)
  clear hr h1 h2 hs h
  obtain ⟨sl, hsl⟩ : ∃ q, q = str (a ++ 58 :: r) := ⟨_, rfl⟩
  have e2 : sl.toList.isEmpty = false := by rw [hsl, Lib.toList_data]; rw [List.isEmpty_eq_false_iff]; simp
  have htl := trim_len r
  have CC := fun w => Cut_at a r 58 hno (by unfold maxLen; simp at hl; omega) w
  have CT := Lib.hid (fun w => Trim_c r (by unfold maxLen; simp at hl; omega) w)
  have CK := fun w => Token_h a (by unfold maxLen; simp at hl; omega) w
  have CV := fun w => Value_h (trimL r) (by unfold maxLen; simp at hl; omega) w
  rw [← hsl] at CC ⊢
  obtain ⟨v, hv⟩ : ∃ v, v = trimL r := ⟨_, rfl⟩
  have CT : Hid (∀ w, Calls Tryz.prog 50 #[.string (str r)] w (Gives (.string (str v)) w)) := by rw [hv]; exact CT
  rw [← hv] at CV
  have CC := Lib.hid CC
  rw [← hv] at hgood
  rw [Bool.and_eq_true] at hgood
  rw [hgood.1] at CK
  rw [hgood.2] at CV
  have CK := Lib.hid CK
  have CV := Lib.hid CV
  obtain ⟨R, hR⟩ : ∃ R, R = fldP s (a ++ 58 :: r) := ⟨_, rfl⟩
  rw [← hR] at HQ ⊢
  have d9 : decide ((s.fields.length : Int) < 100) = false := decide_eq_false (by omega)
  clear hgood hv hno hl hsl htl hR
  go_enter Tryz.func44, Tryz.ntmps44
  go_wp2_with (first
    | (go_at_call 28; refine (CC.out _).mono ?_; rintro e w2 ⟨rfl, q, rfl⟩)
    | (go_at_call 50; refine (CT.out _).mono ?_; rintro e w3 ⟨rfl, hx3⟩)
    | (go_at_call 19; refine (CK.out _).mono ?_; rintro e w4 ⟨rfl, hx4⟩)
    | (go_at_call 36; refine (CV.out _).mono ?_; rintro e w5 ⟨rfl, hx5⟩; have hxa : Ext w w5 := (by (repeat (first | exact Ext.rfl' _ | assumption | refine Ext.dr ?_ | refine Ext.drN ?_ _ | refine Ext.al ?_ _ | refine Ext.st ?_ (by simp) _ | refine Ext.tr ?_ (by assumption)))); have hr5 := HROW.out.ext hxa; have c15 := hr5.c15; have f15 := hr5.fz 15 (by decide))
    | (go_at_call 46; refine (demand_c _ _ _).mono ?_; rintro e w6 ⟨hy, hn, rfl⟩; first | (obtain rfl := hy rfl; clear hy hn) | (obtain rfl := hn rfl; clear hy hn) | (obtain rfl := hy d9; clear hy hn) | (obtain rfl := hn d9; clear hy hn))
    | (at_builtin; refine wpL_put slt_fld (.tmp 41) (.tmp 45) rfl rfl rfl rfl ((HS.out.ext hxa).ext (Ext.al (Ext.rfl' w5) _)) hm (Src.ofSlice (size := 2) _ Tryz.underlying22 ⟨w5.heap.size, 0, none⟩ 1 1 [.string (str a), .string (str v)] (by simp) (new_cells w5 #[.string (str a), .string (str v)] 61) (by simp [Value.oneCell'])) (by omega) (by simp only [maxLen]; omega) ?_; intro A7 c7 w7 o7 hs7 hst7 hn7; have st7 : Stp (fun i => i = k + 2) w o w7 o7 := (Stp.ext (hxa.al _)).tr hst7; have hr7 : Prow w7 P s A c B d := (st7.keep P (row_lt HROW.out) (by rw [HE.out.own]; omega)).trans HROW.out; have k15 := hr7.c15; have g15 := hr7.fz 15 (by decide); clear c15 f15 hr5))
  simp only [bodyPost]
  rw [HQ.out]
  refine ⟨trivial, rfl, o, HE.out.ext (by (repeat (first | exact Ext.rfl' _ | assumption | refine Ext.dr ?_ | refine Ext.drN ?_ _ | refine Ext.al ?_ _ | refine Ext.st ?_ (by simp) _ | refine Ext.tr ?_ (by assumption)))), Stp.ext (by (repeat (first | exact Ext.rfl' _ | assumption | refine Ext.dr ?_ | refine Ext.drN ?_ _ | refine Ext.al ?_ _ | refine Ext.st ?_ (by simp) _ | refine Ext.tr ?_ (by assumption))))⟩
set_option maxRecDepth 100000 in
set_option maxHeartbeats 4000000 in
theorem hField_good (k P : Nat) (s : Pst) (a r : List UInt8) (hno : 58 ∉ a) (hl : (a ++ 58 :: r).length ≤ 8192) (hgood : (tokL a && vlL (trimL r)) = true) (hf : s.fields.length < 100) (w : World) (o : Ow) (h : PsAt w o k P s) :
    Calls Tryz.prog 44 #[.pointer (some ⟨P, 0, none⟩), .string (str (a ++ 58 :: r))] w (TurnsP k w o P (fldP s (a ++ 58 :: r))) := by
  obtain ⟨A, c, B, d, hr, h1, h2, hs, hm⟩ := h.row
  have HROW := Lib.hid hr
  have HE := Lib.hid h
  have HS := Lib.hid hs
  have HL := Lib.hid (And.intro h1 h2)
  have HQ := Lib.hid (show fldP s (a ++ 58 :: r) = ({ s with fields := s.fields ++ [(a, trimL r)] }, 0) from by unfold fldP fldV; rw [if_neg (by simp), cutW_at r hno]; dsimp only; rw [hgood]; exact if_pos hf)
  clear hr h1 h2 hs h
  obtain ⟨sl, hsl⟩ : ∃ q, q = str (a ++ 58 :: r) := ⟨_, rfl⟩
  have e2 : sl.toList.isEmpty = false := by rw [hsl, Lib.toList_data]; rw [List.isEmpty_eq_false_iff]; simp
  have htl := trim_len r
  have CC := fun w => Cut_at a r 58 hno (by unfold maxLen; simp at hl; omega) w
  have CT := Lib.hid (fun w => Trim_c r (by unfold maxLen; simp at hl; omega) w)
  have CK := fun w => Token_h a (by unfold maxLen; simp at hl; omega) w
  have CV := fun w => Value_h (trimL r) (by unfold maxLen; simp at hl; omega) w
  rw [← hsl] at CC ⊢
  obtain ⟨v, hv⟩ : ∃ v, v = trimL r := ⟨_, rfl⟩
  have CT : Hid (∀ w, Calls Tryz.prog 50 #[.string (str r)] w (Gives (.string (str v)) w)) := by rw [hv]; exact CT
  rw [← hv] at CV
  have CC := Lib.hid CC
  rw [← hv] at hgood HQ
  rw [Bool.and_eq_true] at hgood
  rw [hgood.1] at CK
  rw [hgood.2] at CV
  have CK := Lib.hid CK
  have CV := Lib.hid CV
  obtain ⟨R, hR⟩ : ∃ R, R = fldP s (a ++ 58 :: r) := ⟨_, rfl⟩
  rw [← hR] at HQ ⊢
  have d9 : decide ((s.fields.length : Int) < 100) = true := decide_eq_true (by omega)
  clear hgood hv hno hl hsl htl hR
  go_enter Tryz.func44, Tryz.ntmps44
  go_wp2_with (first
    | (go_at_call 28; refine (CC.out _).mono ?_; rintro e w2 ⟨rfl, q, rfl⟩)
    | (go_at_call 50; refine (CT.out _).mono ?_; rintro e w3 ⟨rfl, hx3⟩)
    | (go_at_call 19; refine (CK.out _).mono ?_; rintro e w4 ⟨rfl, hx4⟩)
    | (go_at_call 36; refine (CV.out _).mono ?_; rintro e w5 ⟨rfl, hx5⟩; have hxa : Ext w w5 := (by (repeat (first | exact Ext.rfl' _ | assumption | refine Ext.dr ?_ | refine Ext.drN ?_ _ | refine Ext.al ?_ _ | refine Ext.st ?_ (by simp) _ | refine Ext.tr ?_ (by assumption)))); have hr5 := HROW.out.ext hxa; have c15 := hr5.c15; have f15 := hr5.fz 15 (by decide))
    | (go_at_call 46; refine (demand_c _ _ _).mono ?_; rintro e w6 ⟨hy, hn, rfl⟩; first | (obtain rfl := hy rfl; clear hy hn) | (obtain rfl := hn rfl; clear hy hn) | (obtain rfl := hy d9; clear hy hn) | (obtain rfl := hn d9; clear hy hn))
    | (at_builtin; refine wpL_put slt_fld (.tmp 41) (.tmp 45) rfl rfl rfl rfl ((HS.out.ext hxa).ext (Ext.al (Ext.rfl' w5) _)) hm (Src.ofSlice (size := 2) _ Tryz.underlying22 ⟨w5.heap.size, 0, none⟩ 1 1 [.string (str a), .string (str v)] (by simp) (new_cells w5 #[.string (str a), .string (str v)] 61) (by simp [Value.oneCell'])) (by omega) (by simp only [maxLen]; omega) ?_; intro A7 c7 w7 o7 hs7 hst7 hn7; have st7 : Stp (fun i => i = k + 2) w o w7 o7 := (Stp.ext (hxa.al _)).tr hst7; have hr7 : Prow w7 P s A c B d := (st7.keep P (row_lt HROW.out) (by rw [HE.out.own]; omega)).trans HROW.out; have k15 := hr7.c15; have g15 := hr7.fz 15 (by decide); clear c15 f15 hr5))
  go_end0
  rw [HQ.out]
  have hp7 : o7 P = k := by rw [st7.own P (row_lt HROW.out)]; exact HE.out.own
  have stf : Stp (fun i => i = k) w7 o7 (w7.setCell ⟨P, 15, none⟩ (.slice A7 (s.fields.length + 1) c7)) o7 := Stp.set P 15 _ (fun _ => hp7)
  have hlen : (s.fields ++ [(a, v)]).length = s.fields.length + 1 := by simp
  refine ⟨rfl, o7, PsAt.of hp7 (A := A) (c := c) (B := A7) (d := c7) ?_ ((HL.out.1.stp st7 (by omega)).stp stf (by omega)) HL.out.2 ?_ hn7, (st7.mono fun i hi => .inr (.inr hi)).tr (stf.mono fun i hi => .inl hi)⟩
  · exact hr7.set 15 _ (by simp [Pst.cells])
  · rw [hlen, fc_app]
    exact hs7.stp stf (by omega)
/-- A line behind the first one, or the end. -/
theorem hField_c (k P : Nat) (s : Pst) (l : List UInt8) (hl : l.length ≤ 8192) (w : World) (o : Ow) (h : PsAt w o k P s) :
    Calls Tryz.prog 44 #[.pointer (some ⟨P, 0, none⟩), .string (str l)] w (TurnsP k w o P (fldP s l)) := by
  by_cases hl0 : l = []
  · subst hl0; exact hField_done k P s w o h
  · rcases cut_cases l 58 with hno | ⟨a, r, rfl, hno⟩
    · exact hField_nocut k P s l hl0 hno w o h
    · cases hg : (tokL a && vlL (trimL r)) with
      | false => exact hField_bad k P s a r hno hl hg w o h
      | true =>
        by_cases hf : s.fields.length < 100
        · exact hField_good k P s a r hno hl hg hf w o h
        · exact hField_long k P s a r hno hl hg hf w o h
end Go.Proofs.YtppajpchibkneaaGreatDoor
