/-
The law AsciiBack as a walk: it answers true.
-/
import Derived.Test.YteklakibcboepaaDoorKn1
import Derived.Test.YteklakibcboepaaDoorAsc12
import Derived.Test.YteklakibcboepaaDoorHex2
import Derived.Test.YteklakibcboepaaDoorBack1
set_option linter.unusedVariables false
set_option linter.unusedSimpArgs false
namespace Go.Proofs.YteklakibcboepaaDoor
open Go.RowKit


set_option maxRecDepth 100000 in
set_option maxHeartbeats 4000000 in
theorem AsciiBack_w (n : Int) (l : List UInt8) (hs : l.length ≤ 140737488355328) (h0 : -9223372036854775808 ≤ n) (h1 : n ≤ 9223372036854775807) (w : World) (hE : ErrR w) (hP : Pow w) (hB : Bru w) :
    Calls Tryd.prog 9 #[.int .i64 n, .string (str l)] w (Gives (.bool true) w) := by
  have hm : l.length ≤ maxLen := by unfold maxLen; omega
  have hm' : (lowL l).length ≤ maxLen := by rw [low_length]; exact hm
  have hm'' : (trimL l).length ≤ maxLen := Nat.le_trans (trim_len l) hm
  have hl1 := Lib.itoa_length_le n h0 h1
  have hl2 := hx_len 15 (u64N n) (u64N_lt n)
  have CD := fun w h => Digits_c n w h h0 h1
  have CX := fun w => HexDigits_c n w
  have C1 := fun w h => Decimal_c (Lib.itoa n) (by omega) w h
  have C2 := fun w h => Hex_c (hxL (u64N n)) (by omega) w h
  unfold decB at CD
  unfold hexB at CX
  have N1 : 0 ≤ n → n ≤ 1000000000000000000 → numL 10 1000000000000000000 (Lib.itoa n) = (n, 0) := fun a b => by
    obtain ⟨k, rfl⟩ : ∃ k : Nat, n = k := ⟨n.toNat, by omega⟩
    exact num_dec k (by omega)
  have N2 : 0 ≤ n → n ≤ 1152921504606846976 → numL 16 1152921504606846976 (hxL (u64N n)) = (n, 0) := fun a b => by
    obtain ⟨k, rfl⟩ : ∃ k : Nat, n = k := ⟨n.toNat, by omega⟩
    have : u64N (k : Int) = k := by unfold u64N; omega
    rw [this]
    exact num_hex k (by omega)
  generalize hx1 : numL 10 1000000000000000000 (Lib.itoa n) = x1 at *
  generalize hx2 : numL 16 1152921504606846976 (hxL (u64N n)) = x2 at *
  clear hx1 hx2
  have CD := Lib.hid CD
  have CX := Lib.hid CX
  generalize Lib.itoa n = d1 at *
  generalize hxL (u64N n) = d2 at *
  obtain ⟨a1, e1⟩ := x1
  obtain ⟨a2, e2⟩ := x2
  have C1 := Lib.hid C1
  have C2 := Lib.hid C2
  by_cases hn : 0 ≤ n
  · by_cases hd : n ≤ 1000000000000000000
    · have hd2 : n ≤ 1152921504606846976 := by omega
      obtain ⟨i1, i2⟩ := Prod.mk.inj (N1 hn hd)
      obtain ⟨i3, i4⟩ := Prod.mk.inj (N2 hn hd2)
      clear N1 N2 hl1 hl2
      subst i2 i4 i1 i3
      have CE := fun w => Equal_c l (lowL l) hm hm' w
      rw [low_idem, beq_self_eq_true] at CE
      have CL : ∀ m w, (m = l ∨ m = lowL l) → Calls Tryd.prog 31 #[.string (str m)] w (Gives (.string (str (lowL l))) w) := by
        rintro m w (rfl | rfl)
        · exact Lower_c _ hm w
        · have := Lower_c (lowL l) hm' w; rw [low_idem] at this; exact this
      have CT : ∀ m w, (m = l ∨ m = trimL l) → Calls Tryd.prog 35 #[.string (str m)] w (Gives (.string (str (trimL l))) w) := by
        rintro m w (rfl | rfl)
        · exact Trim_c _ hm w
        · have := Trim_c (trimL l) hm'' w; rw [trim_idem] at this; exact this
      have CE := Lib.hid CE
      have CL := Lib.hid CL
      have CT := Lib.hid CT
      have HE := Lib.hid hE
      have HW := Lib.hid hP
      have HB := Lib.hid hB
      clear hE hm hm' hm'' hP hs hB
      generalize lowL l = a at *
      generalize trimL l = b at *
      go_enter Tryd.func9, Tryd.ntmps9
      go_wp2_with (first
        | (go_at_call 45; refine (CD.out _ (HW.out.ext (by (repeat (first | exact Ext.rfl' _ | assumption | refine Ext.dr ?_ | refine Ext.drN ?_ _ | refine Ext.al ?_ _ | refine Ext.st ?_ (by simp) _ | refine Ext.tr ?_ (by assumption)))))).mono ?_; rintro e w1 ⟨rfl, hx1⟩)
        | (go_at_call 40; refine (C1.out _ (HE.out.ext (by (repeat (first | exact Ext.rfl' _ | assumption | refine Ext.dr ?_ | refine Ext.drN ?_ _ | refine Ext.al ?_ _ | refine Ext.st ?_ (by simp) _ | refine Ext.tr ?_ (by assumption)))))).mono ?_; rintro e w2 ⟨rfl, hx2⟩)
        | (go_at_call 47; refine (CX.out _ (HB.out.ext (by (repeat (first | exact Ext.rfl' _ | assumption | refine Ext.dr ?_ | refine Ext.drN ?_ _ | refine Ext.al ?_ _ | refine Ext.st ?_ (by simp) _ | refine Ext.tr ?_ (by assumption)))))).mono ?_; rintro e w3 ⟨rfl, hx3⟩)
        | (go_at_call 42; refine (C2.out _ (HE.out.ext (by (repeat (first | exact Ext.rfl' _ | assumption | refine Ext.dr ?_ | refine Ext.drN ?_ _ | refine Ext.al ?_ _ | refine Ext.st ?_ (by simp) _ | refine Ext.tr ?_ (by assumption)))))).mono ?_; rintro e w4 ⟨rfl, hx4⟩)
        | (go_at_call 44; refine (num01_c _ _).mono ?_; rintro e w5 ⟨rfl, rfl⟩)
        | (go_at_call 31; refine (CL.out _ _ (by first | exact .inl rfl | exact .inr rfl)).mono ?_; rintro e w6 ⟨rfl, hx6⟩)
        | (go_at_call 35; refine (CT.out _ _ (by first | exact .inl rfl | exact .inr rfl)).mono ?_; rintro e w8 ⟨rfl, hx8⟩)
        | (go_at_call 33; refine (CE.out _).mono ?_; rintro e w10 ⟨rfl, hx10⟩)
        | (go_at_call 30; refine (knows01_c _ (HE.out.ext (by (repeat (first | exact Ext.rfl' _ | assumption | refine Ext.dr ?_ | refine Ext.drN ?_ _ | refine Ext.al ?_ _ | refine Ext.st ?_ (by simp) _ | refine Ext.tr ?_ (by assumption)))))).mono ?_; rintro e w11 ⟨rfl, hx11⟩))
      go_ret
      exact ⟨rfl, by (repeat (first | exact Ext.rfl' _ | assumption | refine Ext.dr ?_ | refine Ext.drN ?_ _ | refine Ext.al ?_ _ | refine Ext.st ?_ (by simp) _ | refine Ext.tr ?_ (by assumption)))⟩
    · by_cases hd2 : n ≤ 1152921504606846976
      · obtain ⟨i3, i4⟩ := Prod.mk.inj (N2 hn hd2)
        clear N1 N2 hl1 hl2
        subst i4 i3
        have CE := fun w => Equal_c l (lowL l) hm hm' w
        rw [low_idem, beq_self_eq_true] at CE
        have CL : ∀ m w, (m = l ∨ m = lowL l) → Calls Tryd.prog 31 #[.string (str m)] w (Gives (.string (str (lowL l))) w) := by
          rintro m w (rfl | rfl)
          · exact Lower_c _ hm w
          · have := Lower_c (lowL l) hm' w; rw [low_idem] at this; exact this
        have CT : ∀ m w, (m = l ∨ m = trimL l) → Calls Tryd.prog 35 #[.string (str m)] w (Gives (.string (str (trimL l))) w) := by
          rintro m w (rfl | rfl)
          · exact Trim_c _ hm w
          · have := Trim_c (trimL l) hm'' w; rw [trim_idem] at this; exact this
        have CE := Lib.hid CE
        have CL := Lib.hid CL
        have CT := Lib.hid CT
        have HE := Lib.hid hE
        have HW := Lib.hid hP
        have HB := Lib.hid hB
        clear hE hm hm' hm'' hP hs hB
        generalize lowL l = a at *
        generalize trimL l = b at *
        go_enter Tryd.func9, Tryd.ntmps9
        go_wp2_with (first
          | (go_at_call 45; refine (CD.out _ (HW.out.ext (by (repeat (first | exact Ext.rfl' _ | assumption | refine Ext.dr ?_ | refine Ext.drN ?_ _ | refine Ext.al ?_ _ | refine Ext.st ?_ (by simp) _ | refine Ext.tr ?_ (by assumption)))))).mono ?_; rintro e w1 ⟨rfl, hx1⟩)
          | (go_at_call 40; refine (C1.out _ (HE.out.ext (by (repeat (first | exact Ext.rfl' _ | assumption | refine Ext.dr ?_ | refine Ext.drN ?_ _ | refine Ext.al ?_ _ | refine Ext.st ?_ (by simp) _ | refine Ext.tr ?_ (by assumption)))))).mono ?_; rintro e w2 ⟨rfl, hx2⟩)
          | (go_at_call 47; refine (CX.out _ (HB.out.ext (by (repeat (first | exact Ext.rfl' _ | assumption | refine Ext.dr ?_ | refine Ext.drN ?_ _ | refine Ext.al ?_ _ | refine Ext.st ?_ (by simp) _ | refine Ext.tr ?_ (by assumption)))))).mono ?_; rintro e w3 ⟨rfl, hx3⟩)
          | (go_at_call 42; refine (C2.out _ (HE.out.ext (by (repeat (first | exact Ext.rfl' _ | assumption | refine Ext.dr ?_ | refine Ext.drN ?_ _ | refine Ext.al ?_ _ | refine Ext.st ?_ (by simp) _ | refine Ext.tr ?_ (by assumption)))))).mono ?_; rintro e w4 ⟨rfl, hx4⟩)
          | (go_at_call 44; refine (num01_c _ _).mono ?_; rintro e w5 ⟨rfl, rfl⟩)
          | (go_at_call 31; refine (CL.out _ _ (by first | exact .inl rfl | exact .inr rfl)).mono ?_; rintro e w6 ⟨rfl, hx6⟩)
          | (go_at_call 35; refine (CT.out _ _ (by first | exact .inl rfl | exact .inr rfl)).mono ?_; rintro e w8 ⟨rfl, hx8⟩)
          | (go_at_call 33; refine (CE.out _).mono ?_; rintro e w10 ⟨rfl, hx10⟩)
          | (go_at_call 30; refine (knows01_c _ (HE.out.ext (by (repeat (first | exact Ext.rfl' _ | assumption | refine Ext.dr ?_ | refine Ext.drN ?_ _ | refine Ext.al ?_ _ | refine Ext.st ?_ (by simp) _ | refine Ext.tr ?_ (by assumption)))))).mono ?_; rintro e w11 ⟨rfl, hx11⟩))
        go_ret
        exact ⟨rfl, by (repeat (first | exact Ext.rfl' _ | assumption | refine Ext.dr ?_ | refine Ext.drN ?_ _ | refine Ext.al ?_ _ | refine Ext.st ?_ (by simp) _ | refine Ext.tr ?_ (by assumption)))⟩
      · clear N1 N2 hl1 hl2
        have CE := fun w => Equal_c l (lowL l) hm hm' w
        rw [low_idem, beq_self_eq_true] at CE
        have CL : ∀ m w, (m = l ∨ m = lowL l) → Calls Tryd.prog 31 #[.string (str m)] w (Gives (.string (str (lowL l))) w) := by
          rintro m w (rfl | rfl)
          · exact Lower_c _ hm w
          · have := Lower_c (lowL l) hm' w; rw [low_idem] at this; exact this
        have CT : ∀ m w, (m = l ∨ m = trimL l) → Calls Tryd.prog 35 #[.string (str m)] w (Gives (.string (str (trimL l))) w) := by
          rintro m w (rfl | rfl)
          · exact Trim_c _ hm w
          · have := Trim_c (trimL l) hm'' w; rw [trim_idem] at this; exact this
        have CE := Lib.hid CE
        have CL := Lib.hid CL
        have CT := Lib.hid CT
        have HE := Lib.hid hE
        have HW := Lib.hid hP
        have HB := Lib.hid hB
        clear hE hm hm' hm'' hP hs hB
        generalize lowL l = a at *
        generalize trimL l = b at *
        go_enter Tryd.func9, Tryd.ntmps9
        go_wp2_with (first
          | (go_at_call 45; refine (CD.out _ (HW.out.ext (by (repeat (first | exact Ext.rfl' _ | assumption | refine Ext.dr ?_ | refine Ext.drN ?_ _ | refine Ext.al ?_ _ | refine Ext.st ?_ (by simp) _ | refine Ext.tr ?_ (by assumption)))))).mono ?_; rintro e w1 ⟨rfl, hx1⟩)
          | (go_at_call 40; refine (C1.out _ (HE.out.ext (by (repeat (first | exact Ext.rfl' _ | assumption | refine Ext.dr ?_ | refine Ext.drN ?_ _ | refine Ext.al ?_ _ | refine Ext.st ?_ (by simp) _ | refine Ext.tr ?_ (by assumption)))))).mono ?_; rintro e w2 ⟨rfl, hx2⟩)
          | (go_at_call 47; refine (CX.out _ (HB.out.ext (by (repeat (first | exact Ext.rfl' _ | assumption | refine Ext.dr ?_ | refine Ext.drN ?_ _ | refine Ext.al ?_ _ | refine Ext.st ?_ (by simp) _ | refine Ext.tr ?_ (by assumption)))))).mono ?_; rintro e w3 ⟨rfl, hx3⟩)
          | (go_at_call 42; refine (C2.out _ (HE.out.ext (by (repeat (first | exact Ext.rfl' _ | assumption | refine Ext.dr ?_ | refine Ext.drN ?_ _ | refine Ext.al ?_ _ | refine Ext.st ?_ (by simp) _ | refine Ext.tr ?_ (by assumption)))))).mono ?_; rintro e w4 ⟨rfl, hx4⟩)
          | (go_at_call 44; refine (num01_c _ _).mono ?_; rintro e w5 ⟨rfl, rfl⟩)
          | (go_at_call 31; refine (CL.out _ _ (by first | exact .inl rfl | exact .inr rfl)).mono ?_; rintro e w6 ⟨rfl, hx6⟩)
          | (go_at_call 35; refine (CT.out _ _ (by first | exact .inl rfl | exact .inr rfl)).mono ?_; rintro e w8 ⟨rfl, hx8⟩)
          | (go_at_call 33; refine (CE.out _).mono ?_; rintro e w10 ⟨rfl, hx10⟩)
          | (go_at_call 30; refine (knows01_c _ (HE.out.ext (by (repeat (first | exact Ext.rfl' _ | assumption | refine Ext.dr ?_ | refine Ext.drN ?_ _ | refine Ext.al ?_ _ | refine Ext.st ?_ (by simp) _ | refine Ext.tr ?_ (by assumption)))))).mono ?_; rintro e w11 ⟨rfl, hx11⟩))
        go_ret
        exact ⟨rfl, by (repeat (first | exact Ext.rfl' _ | assumption | refine Ext.dr ?_ | refine Ext.drN ?_ _ | refine Ext.al ?_ _ | refine Ext.st ?_ (by simp) _ | refine Ext.tr ?_ (by assumption)))⟩
  · clear N1 N2 hl1 hl2
    have CE := fun w => Equal_c l (lowL l) hm hm' w
    rw [low_idem, beq_self_eq_true] at CE
    have CL : ∀ m w, (m = l ∨ m = lowL l) → Calls Tryd.prog 31 #[.string (str m)] w (Gives (.string (str (lowL l))) w) := by
      rintro m w (rfl | rfl)
      · exact Lower_c _ hm w
      · have := Lower_c (lowL l) hm' w; rw [low_idem] at this; exact this
    have CT : ∀ m w, (m = l ∨ m = trimL l) → Calls Tryd.prog 35 #[.string (str m)] w (Gives (.string (str (trimL l))) w) := by
      rintro m w (rfl | rfl)
      · exact Trim_c _ hm w
      · have := Trim_c (trimL l) hm'' w; rw [trim_idem] at this; exact this
    have CE := Lib.hid CE
    have CL := Lib.hid CL
    have CT := Lib.hid CT
    have HE := Lib.hid hE
    have HW := Lib.hid hP
    have HB := Lib.hid hB
    clear hE hm hm' hm'' hP hs hB
    generalize lowL l = a at *
    generalize trimL l = b at *
    go_enter Tryd.func9, Tryd.ntmps9
    go_wp2_with (first
      | (go_at_call 45; refine (CD.out _ (HW.out.ext (by (repeat (first | exact Ext.rfl' _ | assumption | refine Ext.dr ?_ | refine Ext.drN ?_ _ | refine Ext.al ?_ _ | refine Ext.st ?_ (by simp) _ | refine Ext.tr ?_ (by assumption)))))).mono ?_; rintro e w1 ⟨rfl, hx1⟩)
      | (go_at_call 40; refine (C1.out _ (HE.out.ext (by (repeat (first | exact Ext.rfl' _ | assumption | refine Ext.dr ?_ | refine Ext.drN ?_ _ | refine Ext.al ?_ _ | refine Ext.st ?_ (by simp) _ | refine Ext.tr ?_ (by assumption)))))).mono ?_; rintro e w2 ⟨rfl, hx2⟩)
      | (go_at_call 47; refine (CX.out _ (HB.out.ext (by (repeat (first | exact Ext.rfl' _ | assumption | refine Ext.dr ?_ | refine Ext.drN ?_ _ | refine Ext.al ?_ _ | refine Ext.st ?_ (by simp) _ | refine Ext.tr ?_ (by assumption)))))).mono ?_; rintro e w3 ⟨rfl, hx3⟩)
      | (go_at_call 42; refine (C2.out _ (HE.out.ext (by (repeat (first | exact Ext.rfl' _ | assumption | refine Ext.dr ?_ | refine Ext.drN ?_ _ | refine Ext.al ?_ _ | refine Ext.st ?_ (by simp) _ | refine Ext.tr ?_ (by assumption)))))).mono ?_; rintro e w4 ⟨rfl, hx4⟩)
      | (go_at_call 44; refine (num01_c _ _).mono ?_; rintro e w5 ⟨rfl, rfl⟩)
      | (go_at_call 31; refine (CL.out _ _ (by first | exact .inl rfl | exact .inr rfl)).mono ?_; rintro e w6 ⟨rfl, hx6⟩)
      | (go_at_call 35; refine (CT.out _ _ (by first | exact .inl rfl | exact .inr rfl)).mono ?_; rintro e w8 ⟨rfl, hx8⟩)
      | (go_at_call 33; refine (CE.out _).mono ?_; rintro e w10 ⟨rfl, hx10⟩)
      | (go_at_call 30; refine (knows01_c _ (HE.out.ext (by (repeat (first | exact Ext.rfl' _ | assumption | refine Ext.dr ?_ | refine Ext.drN ?_ _ | refine Ext.al ?_ _ | refine Ext.st ?_ (by simp) _ | refine Ext.tr ?_ (by assumption)))))).mono ?_; rintro e w11 ⟨rfl, hx11⟩))
    go_ret
    exact ⟨rfl, by (repeat (first | exact Ext.rfl' _ | assumption | refine Ext.dr ?_ | refine Ext.drN ?_ _ | refine Ext.al ?_ _ | refine Ext.st ?_ (by simp) _ | refine Ext.tr ?_ (by assumption)))⟩
end Go.Proofs.YteklakibcboepaaDoor
