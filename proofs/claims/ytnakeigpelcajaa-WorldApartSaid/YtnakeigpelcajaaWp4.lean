/-
A file that is put, or removed, changes no other one: the law as a walk (a good clock).
-/
import Derived.Test.YtnakeigpelcajaaWp3
set_option linter.unusedVariables false
set_option linter.unusedSimpArgs false
namespace Go.Proofs.Ytnakeigpelcajaa
open Go.RowKit

theorem rd_newG (w : World) (g : Nat) (hg : w.heap.size = g) (xs : List Value) (t : TypeId) : Rd (w.alloc (.cells xs.toArray t)) (some ⟨g, 0, none⟩) xs := by
  subst hg
  exact .inr ⟨_, 0, rfl, fun j u hu => by have := new_cells w xs.toArray t j u (by simpa using hu); rw [add_mk] at this; rw [Nat.zero_add]; rw [Nat.zero_add] at this; exact this⟩
theorem new_str (W : World) (j : Nat) (u : Value) (t : TypeId) (cs : List Value) (h : cs[j]? = some u) : (W.alloc (.cells cs.toArray t)).cell? ⟨W.heap.size, j, none⟩ = some u := new_at W cs.toArray t j u (by simpa using h)
set_option maxRecDepth 100000 in
set_option maxHeartbeats 16000000 in
theorem WorldApart_yes (w : World) (a : Int) (h0 : 0 ≤ a) (h1 : a ≤ 253402300799) (A : Option Addr) (c : Nat) (xs : List OpW) (hA : RdOpW w A xs) (hxs : xs.length ≤ 140737488351232) (x : OpW) (hx : OpOk w x) :
    Calls Try.prog 4 #[.int .i64 a, .slice A xs.length c, .agg #[.int .i64 x.kind, .int .i64 x.n, .string (str x.path), .slice x.B x.mm.length x.d]] w (Gives (.bool true) w) := by
  have HA := Lib.hid hA
  have HX := Lib.hid hx
  clear hA hx
  obtain ⟨kd, n, l, B, d, mm⟩ := x
  dsimp only
  obtain ⟨W, hW⟩ : ∃ W, W = w.alloc (.cells #[.int .i64 kd, .int .i64 n, .string (str l), .slice B mm.length d] 32) := ⟨_, rfl⟩
  have xW : Ext w W := by rw [hW]; (repeat (first | exact Ext.rfl' _ | assumption | refine Ext.dr ?_ | refine Ext.drN ?_ _ | refine Ext.al ?_ _ | refine Ext.st ?_ (by simp) _ | refine Ext.tr ?_ (by assumption)))
  have bx : ∀ w', Ext W w' → (w'.cell? ⟨w.heap.size, 0, none⟩ = some (.int .i64 kd) ∧ w'.cell? ⟨w.heap.size, 2, none⟩ = some (.string (str l)) ∧ w'.cell? ⟨w.heap.size, 3, none⟩ = some (.slice B mm.length d)) := fun w' e => by
    rw [hW] at e
    exact ⟨e.new 0 _ rfl, e.new 2 _ rfl, e.new 3 _ rfl⟩
  have BX := Lib.hid bx
  have HW := Lib.hid hW
  clear bx hW
  obtain ⟨sl, hsl⟩ : ∃ sl, sl = str l := ⟨_, rfl⟩
  rw [← hsl] at BX HW ⊢
  have HSL := Lib.hid hsl
  clear hsl
  have CP := Lib.hid (played_yes W a h0 h1 A c xs (HA.out.ext xW) hxs)
  have hxs1 := hxs
  obtain ⟨N, hN⟩ : ∃ N, N = xs.length := ⟨_, rfl⟩
  rw [← hN] at CP ⊢
  have HN := Lib.hid hN
  clear hN hxs
  go_enter Try.func4, Try.ntmps4
  go_wp2_with (first
    | (go_at_call 15; rw [← HW.out]; refine CP.out.mono ?_; rintro e w1 ⟨p, rfl, hp1⟩; have HP := Lib.hid hp1; clear hp1)
    | (go_at_call 9; refine (knows13_c _).mono ?_; rintro e w2 ⟨rfl, hx2⟩)
    | (go_at_call 16; obtain ⟨s, o, h1, hok, hv, st1⟩ := HP.out; refine (wList_t 4 _ o 1 p s (h1.ext hx2) hok).mono ?_; rintro e w3 ⟨v, o3, rfl, ⟨A0, c0, rfl, hs3, hn3⟩, st3⟩))
  have H3 : ApAt W w3 p s s (listW s) [] A0 c0 none 0 none 0 [] := ⟨o3, (h1.ext hx2).stp st3 (fun x => x) (fun x => x) (fun x => x), hs3, ⟨Sl.nil_ _ _ _ _ _, fun _ => rfl, Sl.nil_ _ _ _ _ _, fun _ => rfl, rfl, fun x hx => (by cases hx)⟩, st1.tr ((Stp.ext hx2).tr (st3.mono fun _ h => h.elim))⟩
  have hlm := list_len s
  have hfew := hok.few
  have hmem := fun l h => list_mem (s := s) (l := l) h
  obtain ⟨ks, hks⟩ : ∃ ks, ks = listW s := ⟨_, rfl⟩
  rw [← hks] at H3 hlm hmem ⊢
  obtain ⟨m, hm⟩ : ∃ m, m = ks.length := ⟨_, rfl⟩
  rw [← hm] at hlm ⊢
  have hm1 : m ≤ 1000 := by omega
  have HM := Lib.hid hm
  have HMEM := Lib.hid hmem
  have HOK := Lib.hid hok
  have HV := Lib.hid hv
  have H3 := Lib.hid H3
  clear hks hm hlm hfew hmem hok hv hs3 st1 st3 hn3 h1
  go_loopw [9, 10, 11] (fun v9 v10 v11 wr => ∃ (k : Nat) (A1 : Option Addr) (c1 : Nat) (A2 : Option Addr) (c2 : Nat) (fl : List FE), k ≤ m ∧ v9 = .slice A1 k c1 ∧ v10 = .slice A2 k c2 ∧ v11 = .int .i64 (k : Int) ∧ fl.length = k ∧ ApAt W wr p s s ks (ks.take k) A0 c0 A1 c1 A2 c2 fl) (fun _ _ i _ => m - (intOf i).toNat)
  case atStart => exact ⟨0, none, 0, none, 0, [], Nat.zero_le _, rfl, rfl, rfl, rfl, H3.out⟩
  case round =>
    obtain ⟨k, A1, c1, A2, c2, fl, hk, rfl, rfl, rfl, hfl, ⟨ok, hd, hn, ⟨f1, n1, f2, n2, hnm, hea⟩, hst⟩⟩ := hrel
    have HFL := Lib.hid hfl
    rw [hfl] at f1 f2
    clear hfl
    by_cases hkm : k < m
    · have hkl : k < ks.length := by rw [← HM.out]; exact hkm
      obtain ⟨b0, q0, rfl, hb0, hS⟩ := (hn.rd).text (k := k) hkl
      have a0 := hS.out wr (Ext.rfl' _)
      obtain ⟨f, hf⟩ := HMEM.out ks[k] (List.getElem_mem _)
      obtain ⟨nk, hnk⟩ : ∃ nk, nk = ks[k] := ⟨_, rfl⟩
      rw [← hnk] at a0 hf
      have hpl : nk.length ≤ 4096 := path_len (HOK.out.path _ (lk_mem hf))
      have CF := Lib.hid (wFile_some 7 wr ok 1 p s hd HOK.out nk (by omega) f hf)
      obtain ⟨nb, hnb⟩ : ∃ nb, nb = f.b.length := ⟨_, rfl⟩
      have hk0 : (0 : Int) ≤ (k : Int) := by omega
      have hk1 : (k : Int) < (m : Int) := by omega
      have F1 := Lib.hid f1
      have F2 := Lib.hid f2
      have HD := Lib.hid hd
      have HN := Lib.hid hn
      have HST := Lib.hid hst
      have HEA := Lib.hid hea
      have HNM := Lib.hid hnm
      have HF := Lib.hid hf
      have HNK := Lib.hid hnk
      clear f1 f2 hd hn hst hea hnm hf hnk hS hnb
      go_wp2_with (first
        | (go_at_call 12; refine CF.out.mono ?_; rintro e w6 ⟨v, o6, rfl, ⟨A6, c6, rfl, hs6, hn6⟩, st6⟩; have F16 := Lib.hid (F1.out.stp st6 (fun x => x)); have F26 := Lib.hid (F2.out.stp st6 (fun x => x)))
        | (at_builtin; refine wpL_put slt_file (.tmp 47) (.tmp 49) rfl rfl rfl rfl (F16.out.ext (by (repeat (first | exact Ext.rfl' _ | assumption | refine Ext.dr ?_ | refine Ext.drN ?_ _ | refine Ext.al ?_ _ | refine Ext.st ?_ (by simp) _ | refine Ext.tr ?_ (by assumption))))) n1 (Sl.src Try.underlying44 (n := 1) (rd_newG _ _ (by simp) [.string (str nk), .slice A6 f.b.length c6, .int .i64 f.mt] 35) (by simp) (by omega) (by simp [Value.oneCell']) _) (by omega) (by simp only [maxLen]; omega) ?_; intro A7 c7 w7 o7 hs7 st7 hn7)
        | (at_builtin; refine wpL_put slt_int13 (.tmp 51) (.tmp 53) rfl rfl rfl rfl (((F26.out.ext (by (repeat (first | exact Ext.rfl' _ | assumption | refine Ext.dr ?_ | refine Ext.drN ?_ _ | refine Ext.al ?_ _ | refine Ext.st ?_ (by simp) _ | refine Ext.tr ?_ (by assumption))))).stp st7 (by omega)).ext (by (repeat (first | exact Ext.rfl' _ | assumption | refine Ext.dr ?_ | refine Ext.drN ?_ _ | refine Ext.al ?_ _ | refine Ext.st ?_ (by simp) _ | refine Ext.tr ?_ (by assumption))))) n2 (Sl.src Try.underlying45 (n := 1) (rd_newG _ _ (by simp) [.int .i64 (f.ve : Int)] 3) (by simp) (by omega) (by simp [Value.oneCell']) _) (by omega) (by simp only [maxLen]; omega) ?_; intro A8 c8 w8 o8 hs8 st8 hn8))
      have stB : Stp (fun i => i = 5 ∨ i = 6) w6 o6 w8 o8 := (Stp.ext (by (repeat (first | exact Ext.rfl' _ | assumption | refine Ext.dr ?_ | refine Ext.drN ?_ _ | refine Ext.al ?_ _ | refine Ext.st ?_ (by simp) _ | refine Ext.tr ?_ (by assumption))))).tr ((st7.mono fun _ h => .inl h).tr ((Stp.ext (by (repeat (first | exact Ext.rfl' _ | assumption | refine Ext.dr ?_ | refine Ext.drN ?_ _ | refine Ext.al ?_ _ | refine Ext.st ?_ (by simp) _ | refine Ext.tr ?_ (by assumption))))).tr (st8.mono fun _ h => .inr h)))
      have stA : Stp (fun i => i = 5 ∨ i = 6) wr ok w8 o8 := (st6.mono fun _ h => h.elim).tr stB
      have e1 : (fl ++ [(⟨nk, A6, c6, f⟩ : FE)]).length = k + 1 := by rw [List.length_append, HFL.out]; rfl
      have hs7' : Sl w8 o8 5 3 A7 (k + 1) c7 (flC fl ++ [.string (str nk), .slice A6 f.b.length c6, .int .i64 f.mt]) := (hs7.ext (show Ext w7 _ by (repeat (first | exact Ext.rfl' _ | assumption | refine Ext.dr ?_ | refine Ext.drN ?_ _ | refine Ext.al ?_ _ | refine Ext.st ?_ (by simp) _ | refine Ext.tr ?_ (by assumption))))).stp st8 (by omega)
      refine ⟨⟨k + 1, A7, c7, A8, c8, fl ++ [⟨nk, A6, c6, f⟩], by omega, rfl, rfl, by go_num, e1, o8, HD.out.stp stA (by omega) (by omega) (by omega), HN.out.stp stA (by omega), ⟨?_, hn7, ?_, hn8, ?_, ?_⟩, HST.out.tr (stA.mono fun i hi => by omega)⟩, by simp [intOf]; omega⟩
      · rw [e1, flC_app]; exact hs7'
      · rw [e1, show vc (fl ++ [(⟨nk, A6, c6, f⟩ : FE)]) = vc fl ++ [.int .i64 (f.ve : Int)] from by simp [vc]]; exact hs8
      · rw [List.map_append, HNM.out, List.take_succ_eq_append_getElem hkl, ← HNK.out]; rfl
      · intro y hy
        rcases List.mem_append.1 hy with hy | hy
        · exact ⟨(HEA.out y hy).1.stp stA (by omega), (HEA.out y hy).2⟩
        · obtain rfl := List.mem_singleton.1 hy
          exact ⟨hs6.stp stB (by omega), HF.out⟩
    · obtain rfl : k = m := by omega
      have hap : ApAt W wr p s s ks ks A0 c0 A1 c1 A2 c2 fl := ⟨ok, hd, hn, ⟨by rw [HFL.out]; exact f1, n1, by rw [HFL.out]; exact f2, n2, by rw [hnm, HM.out, List.take_length], hea⟩, hst⟩
      have HAP := Lib.hid hap
      clear hap hd hn f1 n1 f2 n2 hnm hea hst
      have xwr : Ext W wr := by obtain ⟨o', _, _, _, hst'⟩ := HAP.out; exact hst'.toExt (fun _ _ => by simp)
      have q0 := (BX.out wr xwr).1
      have q2 := (BX.out wr xwr).2.1
      have q3 := (BX.out wr xwr).2.2
      have HFL2 := HFL
      by_cases ho : kd = 1
      · subst ho
        obtain ⟨ox, hd, hn, hkp, hst⟩ := HAP.out
        have CR := Lib.hid (wRemove_c wr ox 1 p s hd l (by have := HX.out.2.2.2; dsimp only at this; omega))
        rw [← HSL.out] at CR
        have HN := Lib.hid hn
        have HKP := Lib.hid hkp
        have HST := Lib.hid hst
        clear hd hn hkp hst
        go_wp2_with (first
          | (go_at_call 13; refine CR.out.mono ?_; rintro e w4 ⟨v, o4, rfl, ⟨rfl, h4⟩, st4⟩; have HAP2 : Hid (ApAt W w4 p (removeW s l).1 s ks ks A0 c0 A1 c1 A2 c2 fl) := Lib.hid ⟨o4, h4, HN.out.stp st4 (by unfold KW; omega), HKP.out.stp st4 (by unfold KW; omega) (by unfold KW; omega) (by unfold KW; omega), HST.out.tr (st4.mono fun i hi => by unfold KW at hi; omega)⟩))
        have h5 := Lib.hid (removeW_ok HOK.out l).1
        have HSAME : Hid (∀ l', l' ≠ l → lkM (removeW s l).1.L l' = lkM s.L l') := Lib.hid (fun l' hl' => by unfold removeW; split; exact lk_del_other _ hl'; rfl)
        obtain ⟨s9, hs9⟩ : ∃ s9, s9 = (removeW s l).1 := ⟨_, rfl⟩
        rw [← hs9] at HAP2 h5 HSAME
        clear hs9
        go_loopw [15] (fun v15 wq => ∃ (i : Nat), i ≤ k ∧ v15 = .int .i64 (i : Int) ∧ ApAt W wq p s9 s ks ks A0 c0 A1 c1 A2 c2 fl) (fun i _ => k - (intOf i).toNat)
        case atStart => exact ⟨0, Nat.zero_le _, rfl, HAP2.out⟩
        case round =>
          obtain ⟨i, hi, rfl, hapq⟩ := hrel
          by_cases hik : i < k
          · obtain ⟨oq, hd, hn, hkp, hst⟩ := hapq
            have hil : i < ks.length := by rw [← HM.out]; exact hik
            have xq : Ext W wr := hst.toExt (fun _ _ => by simp)
            have hlf : i < fl.length := by rw [HFL2.out]; exact hik
            obtain ⟨bN, qN, hA0, hbN, hS⟩ := (hn.rd).text (k := i) hil
            have a0 := hS.out wr (Ext.rfl' _)
            obtain ⟨nk, hnk⟩ : ∃ nk, nk = ks[i] := ⟨_, rfl⟩
            obtain ⟨y, hy⟩ : ∃ y, y = fl[i] := ⟨_, rfl⟩
            have hyl : y.l = nk := by
              have h1 := congrArg (fun L => L[i]?) hkp.names
              simp only [List.getElem?_map, List.getElem?_eq_getElem hlf, List.getElem?_eq_getElem hil, Option.map_some] at h1
              injection h1 with h1
              rw [hy, hnk]; exact h1
            have hye := hkp.each y (by rw [hy]; exact List.getElem_mem _)
            rw [← hnk] at a0
            obtain ⟨b1, g1, hA1, hb1, hc1⟩ := hkp.f1.rd.at_ (by rw [flC_len]; omega)
            obtain ⟨b2, g2, hA2, hb2, hc2⟩ := hkp.f2.rd.at_ (by rw [vc_len]; omega)
            have t0 := hc1 (i * 3) _ (by have := flC_at fl i 0 (by omega); rw [Nat.add_zero, List.getElem?_eq_getElem hlf, ← hy] at this; simpa [feC] using this)
            have t1 := hc1 (i * 3 + 1) _ (by have := flC_at fl i 1 (by omega); rw [List.getElem?_eq_getElem hlf, ← hy] at this; simpa [feC] using this)
            have t2 := hc1 (i * 3 + 2) _ (by have := flC_at fl i 2 (by omega); rw [List.getElem?_eq_getElem hlf, ← hy] at this; simpa [feC] using this)
            have t3 := hc2 i (.int .i64 (y.f.ve : Int)) (by simp [vc, hlf, hy])
            obtain ⟨nl, yA, yc, yf⟩ := y
            dsimp only at hyl hye t0 t1 t2 t3
            subst hyl
            subst hA0 hA1 hA2
            have hpl : nl.length ≤ 4096 := path_len (HOK.out.path _ (lk_mem hye.2))
            have q2 := (BX.out wr xq).2.1
            have hlW : w.heap.size < wr.heap.size := lt_of_cell q2
            obtain ⟨sn, hsn⟩ : ∃ sn, sn = str nl := ⟨_, rfl⟩
            rw [← Nat.add_assoc] at t1 t2
            have hk0 : (0 : Int) ≤ (i : Int) := by omega
            have hk1 : (i : Int) < (k : Int) := by omega
            have HYE := Lib.hid hye
            have HD := Lib.hid hd
            have HNq := Lib.hid hn
            have HKP := Lib.hid hkp
            have HST := Lib.hid hst
            have HY := Lib.hid hy
            have HNK := Lib.hid hnk
            by_cases hnl : nl = l
            · have CA := Lib.hid (wFile_any wr oq 1 p s9 hd h5.out nl (by omega))
              have hss : sn = sl := by rw [hsn, HSL.out, hnl]
              rw [← hsn] at a0 t0 CA
              subst hss
              clear hd hn hkp hst hy hnk hye hS hc1 hc2 hsn hnl
              go_wp2_with (first
                | (go_at_call 12; refine CA.out.mono ?_; rintro e w6 ⟨v, o6, rfl, ⟨s6, A6, n6, c6, m6, v6, e6, rfl⟩, st6⟩))
              have x6 := st6.noExt
              have u0 := fun x => ((x6.tr (show Ext w6 (w6.alloc x) by (repeat (first | exact Ext.rfl' _ | assumption | refine Ext.dr ?_ | refine Ext.drN ?_ _ | refine Ext.al ?_ _ | refine Ext.st ?_ (by simp) _ | refine Ext.tr ?_ (by assumption))))).cell (p := ⟨bN, qN + i, none⟩) hbN).trans a0
              have u2 := fun x => ((x6.tr (show Ext w6 (w6.alloc x) by (repeat (first | exact Ext.rfl' _ | assumption | refine Ext.dr ?_ | refine Ext.drN ?_ _ | refine Ext.al ?_ _ | refine Ext.st ?_ (by simp) _ | refine Ext.tr ?_ (by assumption))))).cell (p := ⟨w.heap.size, 2, none⟩) hlW).trans q2
              go_region
              go_wp2
              exact ⟨⟨i + 1, by omega, by go_num, ap_on HD.out HNq.out HKP.out HST.out (st6.tr (Stp.ext (show Ext w6 _ by (repeat (first | exact Ext.rfl' _ | assumption | refine Ext.dr ?_ | refine Ext.drN ?_ _ | refine Ext.al ?_ _ | refine Ext.st ?_ (by simp) _ | refine Ext.tr ?_ (by assumption))))))⟩, by simp [intOf]; omega⟩
            · have CF := wFile_some 8 wr oq 1 p s9 hd h5.out nl (by omega) yf (by rw [HSAME.out nl hnl]; exact hye.2)
              have e1 : ¬ sn.toList = sl.toList := by rw [hsn, HSL.out, str_tl, str_tl]; exact hnl
              have e2 : (sn.toList == sl.toList) = false := by rw [beq_eq_false_iff_ne]; exact e1
              rw [← hsn] at a0 t0 CF
              obtain ⟨n0, hn0⟩ : ∃ n0, n0 = yf.b.length := ⟨_, rfl⟩
              obtain ⟨m0, hm0⟩ : ∃ m0, m0 = yf.mt := ⟨_, rfl⟩
              obtain ⟨v0, hv0⟩ : ∃ v0, v0 = (yf.ve : Int) := ⟨_, rfl⟩
              have hyr := hye.1.rd
              rw [← hn0, ← hm0, ← hv0] at CF
              rw [← hn0] at t1
              rw [← hm0] at t2
              rw [← hv0] at t3
              have CF := Lib.hid CF
              have HN0 := Lib.hid hn0
              have HYR := Lib.hid hyr
              clear hd hn hkp hst hy hnk hye hS hc1 hc2 hsn hnl hn0 hm0 hv0 hyr
              go_wp2_with (first
                | (go_at_call 12; refine CF.out.mono ?_; rintro e w6 ⟨v, o6, rfl, ⟨A6, c6, rfl, hs6, hn6⟩, st6⟩))
              have x6 := st6.noExt
              have F : Hid (∀ w', Ext (w6.alloc (.cells #[.string sn, .slice A6 n0 c6, .int .i64 m0] 35)) w' → (w'.cell? ⟨bN, qN + i, none⟩ = some (.string sn) ∧ w'.cell? ⟨w.heap.size, 2, none⟩ = some (.string sl) ∧ w'.cell? ⟨w6.heap.size, 0, none⟩ = some (.string sn) ∧ w'.cell? ⟨w6.heap.size, 1, none⟩ = some (.slice A6 n0 c6) ∧ w'.cell? ⟨w6.heap.size, 2, none⟩ = some (.int .i64 m0) ∧ w'.cell? ⟨b1, g1 + i * 3, none⟩ = some (.string sn) ∧ w'.cell? ⟨b1, g1 + i * 3 + 1, none⟩ = some (.slice yA n0 yc) ∧ w'.cell? ⟨b1, g1 + i * 3 + 2, none⟩ = some (.int .i64 m0) ∧ w'.cell? ⟨b2, g2 + i, none⟩ = some (.int .i64 v0))) := Lib.hid (fun w' e => by
                have xx : Ext wr w' := x6.tr ((show Ext w6 _ by (repeat (first | exact Ext.rfl' _ | assumption | refine Ext.dr ?_ | refine Ext.drN ?_ _ | refine Ext.al ?_ _ | refine Ext.st ?_ (by simp) _ | refine Ext.tr ?_ (by assumption)))).tr e)
                exact ⟨(xx.cell (p := ⟨bN, qN + i, none⟩) hbN).trans a0, (xx.cell (p := ⟨w.heap.size, 2, none⟩) hlW).trans q2, e.new 0 _ rfl, e.new 1 _ rfl, e.new 2 _ rfl, (xx.cell (p := ⟨b1, g1 + i * 3, none⟩) hb1).trans t0, (xx.cell (p := ⟨b1, g1 + i * 3 + 1, none⟩) hb1).trans t1, (xx.cell (p := ⟨b1, g1 + i * 3 + 2, none⟩) hb1).trans t2, (xx.cell (p := ⟨b2, g2 + i, none⟩) hb2).trans t3⟩)
              have R1 := Lib.hid (hs6.rd.ext (show Ext w6 (w6.alloc (.cells #[.string sn, .slice A6 n0 c6, .int .i64 m0] 35)) by (repeat (first | exact Ext.rfl' _ | assumption | refine Ext.dr ?_ | refine Ext.drN ?_ _ | refine Ext.al ?_ _ | refine Ext.st ?_ (by simp) _ | refine Ext.tr ?_ (by assumption)))))
              have R2 := Lib.hid (HYR.out.ext (x6.tr (show Ext w6 (w6.alloc (.cells #[.string sn, .slice A6 n0 c6, .int .i64 m0] 35)) by (repeat (first | exact Ext.rfl' _ | assumption | refine Ext.dr ?_ | refine Ext.drN ?_ _ | refine Ext.al ?_ _ | refine Ext.st ?_ (by simp) _ | refine Ext.tr ?_ (by assumption))))))
              clear a0 q2 t0 t1 t2 t3
              go_region_held3 (fun w' => w'.cell? ⟨bN, qN + i, none⟩ = some (.string sn) ∧ w'.cell? ⟨w.heap.size, 2, none⟩ = some (.string sl) ∧ w'.cell? ⟨w6.heap.size, 0, none⟩ = some (.string sn) ∧ w'.cell? ⟨w6.heap.size, 1, none⟩ = some (.slice A6 n0 c6) ∧ w'.cell? ⟨w6.heap.size, 2, none⟩ = some (.int .i64 m0) ∧ w'.cell? ⟨b1, g1 + i * 3, none⟩ = some (.string sn) ∧ w'.cell? ⟨b1, g1 + i * 3 + 1, none⟩ = some (.slice yA n0 yc) ∧ w'.cell? ⟨b1, g1 + i * 3 + 2, none⟩ = some (.int .i64 m0) ∧ w'.cell? ⟨b2, g2 + i, none⟩ = some (.int .i64 v0)) ((apply F.out; (repeat (first | exact Ext.rfl' _ | assumption | refine Ext.dr ?_ | refine Ext.drN ?_ _ | refine Ext.al ?_ _ | refine Ext.st ?_ (by simp) _ | refine Ext.tr ?_ (by assumption))))) (first
                | (go_at_call 17; refine (same13_c sn yf.b A6 yA n0 c6 yc m0 HN0.out _ (R1.out.ext (by (repeat (first | exact Ext.rfl' _ | assumption | refine Ext.dr ?_ | refine Ext.drN ?_ _ | refine Ext.al ?_ _ | refine Ext.st ?_ (by simp) _ | refine Ext.tr ?_ (by assumption))))) (R2.out.ext (by (repeat (first | exact Ext.rfl' _ | assumption | refine Ext.dr ?_ | refine Ext.drN ?_ _ | refine Ext.al ?_ _ | refine Ext.st ?_ (by simp) _ | refine Ext.tr ?_ (by assumption)))))).mono ?_; rintro e w8 ⟨rfl, hx8⟩)
                | (go_at_call 8; refine (num13_c _ _).mono ?_; rintro e w9 ⟨rfl, rfl⟩))
              go_wp2
              exact ⟨⟨i + 1, by omega, by go_num, ap_on HD.out HNq.out HKP.out HST.out (st6.tr (Stp.ext (by (repeat (first | exact Ext.rfl' _ | assumption | refine Ext.dr ?_ | refine Ext.drN ?_ _ | refine Ext.al ?_ _ | refine Ext.st ?_ (by simp) _ | refine Ext.tr ?_ (by assumption))))))⟩, by simp [intOf]; omega⟩
          · obtain rfl : i = k := by omega
            obtain ⟨oq, _, _, _, hst⟩ := hapq
            go_wp2
            go_ret
            exact ⟨rfl, xW.tr (hst.toExt (fun _ _ => by simp))⟩
      · have k1 : (kd == 1) = false := by rw [beq_eq_false_iff_ne]; exact ho
        obtain ⟨ox, hd, hn, hkp, hst⟩ := HAP.out
        obtain ⟨hrB, hml, _, hpl⟩ := HX.out
        dsimp only at hrB hml hpl
        obtain ⟨A5, c5, w5, o5, hr5, hs5, st5, hn5⟩ := run_copy 8 wr.drew ox mm B mm.length d rfl (hrB.ext (xW.tr (xwr.tr (by (repeat (first | exact Ext.rfl' _ | assumption | refine Ext.dr ?_ | refine Ext.drN ?_ _ | refine Ext.al ?_ _ | refine Ext.st ?_ (by simp) _ | refine Ext.tr ?_ (by assumption))))))) hml 30
        have hr5 : (Builtin.append_ #[30, 30] 30 #[.slice (some ⟨wr.heap.size, 0, none⟩) 0 0, .slice B mm.length d]).run Try.prog (wr.alloc (.cells #[] 5)).drew = .ok (.slice A5 mm.length c5) w5 := hr5
        have stw : Stp (fun _ => False) wr ox w5 o5 := (Stp.ext (show Ext wr wr.drew by (repeat (first | exact Ext.rfl' _ | assumption | refine Ext.dr ?_ | refine Ext.drN ?_ _ | refine Ext.al ?_ _ | refine Ext.st ?_ (by simp) _ | refine Ext.tr ?_ (by assumption))))).tr st5
        have H5 := hd.stp stw (fun x => x) (fun x => x) (fun x => x)
        have CPH := Lib.hid (wPut_c w5 o5 1 p s H5 HOK.out l mm (by omega) A5 mm.length c5 rfl (by omega) hs5.rd hn5 (hs5.away (by omega)) (by have h1 := HV.out; have h2 := HN.out; omega))
        rw [← HSL.out] at CPH
        have STW : Hid (Stp (fun i => i ≠ 0) W (fun _ => 0) w5 o5) := Lib.hid (hst.tr (stw.mono fun _ h => h.elim))
        have X55 : Ext W w5 := STW.out.toExt (fun _ _ => by simp)
        have HN := Lib.hid (hn.stp stw (fun x => x))
        have HKP := Lib.hid (hkp.stp stw (fun x => x) (fun x => x) (fun x => x))
        clear hd hn hkp hst hs5 st5 stw H5 hrB ho
        go_wp2
        go_region_held3 (fun w' => w'.cell? ⟨w.heap.size, 0, none⟩ = some (.int .i64 kd) ∧ w'.cell? ⟨w.heap.size, 2, none⟩ = some (.string sl) ∧ w'.cell? ⟨w.heap.size, 3, none⟩ = some (.slice B mm.length d)) ((apply BX.out; (repeat (first | exact Ext.rfl' _ | assumption | refine Ext.dr ?_ | refine Ext.drN ?_ _ | refine Ext.al ?_ _ | refine Ext.st ?_ (by simp) _ | refine Ext.tr ?_ (by assumption))))) (first
          | (refine step_run (.tmp 65) (.tmp 67) rfl rfl rfl rfl hr5 ?_)
          | (go_at_call 11; refine CPH.out.mono ?_; rintro e w4 ⟨v, o4, rfl, ⟨rfl, h4⟩, st4⟩; have HAP2 : Hid (ApAt W w4 p (putW s l mm).1 s ks ks A0 c0 A1 c1 A2 c2 fl) := Lib.hid ⟨o4, h4, HN.out.stp st4 (by unfold KW; omega), HKP.out.stp st4 (by unfold KW; omega) (by unfold KW; omega) (by unfold KW; omega), STW.out.tr (st4.mono fun i hi => by unfold KW at hi; omega)⟩; have X6 : Ext W w4 := (by obtain ⟨o', _, _, _, hst'⟩ := HAP2.out; exact hst'.toExt (fun _ _ => by simp))))
        have h5 := Lib.hid (putW_ok HOK.out l mm).1
        have HSAME : Hid (∀ l', l' ≠ l → lkM (putW s l mm).1.L l' = lkM s.L l') := Lib.hid (fun l' hl' => by unfold putW; split; rfl; split; rfl; exact lk_put_other _ hl' _)
        obtain ⟨s9, hs9⟩ : ∃ s9, s9 = (putW s l mm).1 := ⟨_, rfl⟩
        rw [← hs9] at HAP2 h5 HSAME
        clear hs9
        go_wp2
        go_loopw [15] (fun v15 wq => ∃ (i : Nat), i ≤ k ∧ v15 = .int .i64 (i : Int) ∧ ApAt W wq p s9 s ks ks A0 c0 A1 c1 A2 c2 fl) (fun i _ => k - (intOf i).toNat)
        case atStart => exact ⟨0, Nat.zero_le _, rfl, HAP2.out⟩
        case round =>
          obtain ⟨i, hi, rfl, hapq⟩ := hrel
          by_cases hik : i < k
          · obtain ⟨oq, hd, hn, hkp, hst⟩ := hapq
            have hil : i < ks.length := by rw [← HM.out]; exact hik
            have xq : Ext W wr := hst.toExt (fun _ _ => by simp)
            have hlf : i < fl.length := by rw [HFL2.out]; exact hik
            obtain ⟨bN, qN, hA0, hbN, hS⟩ := (hn.rd).text (k := i) hil
            have a0 := hS.out wr (Ext.rfl' _)
            obtain ⟨nk, hnk⟩ : ∃ nk, nk = ks[i] := ⟨_, rfl⟩
            obtain ⟨y, hy⟩ : ∃ y, y = fl[i] := ⟨_, rfl⟩
            have hyl : y.l = nk := by
              have h1 := congrArg (fun L => L[i]?) hkp.names
              simp only [List.getElem?_map, List.getElem?_eq_getElem hlf, List.getElem?_eq_getElem hil, Option.map_some] at h1
              injection h1 with h1
              rw [hy, hnk]; exact h1
            have hye := hkp.each y (by rw [hy]; exact List.getElem_mem _)
            rw [← hnk] at a0
            obtain ⟨b1, g1, hA1, hb1, hc1⟩ := hkp.f1.rd.at_ (by rw [flC_len]; omega)
            obtain ⟨b2, g2, hA2, hb2, hc2⟩ := hkp.f2.rd.at_ (by rw [vc_len]; omega)
            have t0 := hc1 (i * 3) _ (by have := flC_at fl i 0 (by omega); rw [Nat.add_zero, List.getElem?_eq_getElem hlf, ← hy] at this; simpa [feC] using this)
            have t1 := hc1 (i * 3 + 1) _ (by have := flC_at fl i 1 (by omega); rw [List.getElem?_eq_getElem hlf, ← hy] at this; simpa [feC] using this)
            have t2 := hc1 (i * 3 + 2) _ (by have := flC_at fl i 2 (by omega); rw [List.getElem?_eq_getElem hlf, ← hy] at this; simpa [feC] using this)
            have t3 := hc2 i (.int .i64 (y.f.ve : Int)) (by simp [vc, hlf, hy])
            obtain ⟨nl, yA, yc, yf⟩ := y
            dsimp only at hyl hye t0 t1 t2 t3
            subst hyl
            subst hA0 hA1 hA2
            have hpl : nl.length ≤ 4096 := path_len (HOK.out.path _ (lk_mem hye.2))
            have q2 := (BX.out wr xq).2.1
            have hlW : w.heap.size < wr.heap.size := lt_of_cell q2
            obtain ⟨sn, hsn⟩ : ∃ sn, sn = str nl := ⟨_, rfl⟩
            rw [← Nat.add_assoc] at t1 t2
            have hk0 : (0 : Int) ≤ (i : Int) := by omega
            have hk1 : (i : Int) < (k : Int) := by omega
            have HYE := Lib.hid hye
            have HD := Lib.hid hd
            have HNq := Lib.hid hn
            have HKP := Lib.hid hkp
            have HST := Lib.hid hst
            have HY := Lib.hid hy
            have HNK := Lib.hid hnk
            by_cases hnl : nl = l
            · have CA := Lib.hid (wFile_any wr oq 1 p s9 hd h5.out nl (by omega))
              have hss : sn = sl := by rw [hsn, HSL.out, hnl]
              rw [← hsn] at a0 t0 CA
              subst hss
              clear hd hn hkp hst hy hnk hye hS hc1 hc2 hsn hnl
              go_wp2_with (first
                | (go_at_call 12; refine CA.out.mono ?_; rintro e w6 ⟨v, o6, rfl, ⟨s6, A6, n6, c6, m6, v6, e6, rfl⟩, st6⟩))
              have x6 := st6.noExt
              have u0 := fun x => ((x6.tr (show Ext w6 (w6.alloc x) by (repeat (first | exact Ext.rfl' _ | assumption | refine Ext.dr ?_ | refine Ext.drN ?_ _ | refine Ext.al ?_ _ | refine Ext.st ?_ (by simp) _ | refine Ext.tr ?_ (by assumption))))).cell (p := ⟨bN, qN + i, none⟩) hbN).trans a0
              have u2 := fun x => ((x6.tr (show Ext w6 (w6.alloc x) by (repeat (first | exact Ext.rfl' _ | assumption | refine Ext.dr ?_ | refine Ext.drN ?_ _ | refine Ext.al ?_ _ | refine Ext.st ?_ (by simp) _ | refine Ext.tr ?_ (by assumption))))).cell (p := ⟨w.heap.size, 2, none⟩) hlW).trans q2
              go_region
              go_wp2
              exact ⟨⟨i + 1, by omega, by go_num, ap_on HD.out HNq.out HKP.out HST.out (st6.tr (Stp.ext (show Ext w6 _ by (repeat (first | exact Ext.rfl' _ | assumption | refine Ext.dr ?_ | refine Ext.drN ?_ _ | refine Ext.al ?_ _ | refine Ext.st ?_ (by simp) _ | refine Ext.tr ?_ (by assumption))))))⟩, by simp [intOf]; omega⟩
            · have CF := wFile_some 8 wr oq 1 p s9 hd h5.out nl (by omega) yf (by rw [HSAME.out nl hnl]; exact hye.2)
              have e1 : ¬ sn.toList = sl.toList := by rw [hsn, HSL.out, str_tl, str_tl]; exact hnl
              have e2 : (sn.toList == sl.toList) = false := by rw [beq_eq_false_iff_ne]; exact e1
              rw [← hsn] at a0 t0 CF
              obtain ⟨n0, hn0⟩ : ∃ n0, n0 = yf.b.length := ⟨_, rfl⟩
              obtain ⟨m0, hm0⟩ : ∃ m0, m0 = yf.mt := ⟨_, rfl⟩
              obtain ⟨v0, hv0⟩ : ∃ v0, v0 = (yf.ve : Int) := ⟨_, rfl⟩
              have hyr := hye.1.rd
              rw [← hn0, ← hm0, ← hv0] at CF
              rw [← hn0] at t1
              rw [← hm0] at t2
              rw [← hv0] at t3
              have CF := Lib.hid CF
              have HN0 := Lib.hid hn0
              have HYR := Lib.hid hyr
              clear hd hn hkp hst hy hnk hye hS hc1 hc2 hsn hnl hn0 hm0 hv0 hyr
              go_wp2_with (first
                | (go_at_call 12; refine CF.out.mono ?_; rintro e w6 ⟨v, o6, rfl, ⟨A6, c6, rfl, hs6, hn6⟩, st6⟩))
              have x6 := st6.noExt
              have F : Hid (∀ w', Ext (w6.alloc (.cells #[.string sn, .slice A6 n0 c6, .int .i64 m0] 35)) w' → (w'.cell? ⟨bN, qN + i, none⟩ = some (.string sn) ∧ w'.cell? ⟨w.heap.size, 2, none⟩ = some (.string sl) ∧ w'.cell? ⟨w6.heap.size, 0, none⟩ = some (.string sn) ∧ w'.cell? ⟨w6.heap.size, 1, none⟩ = some (.slice A6 n0 c6) ∧ w'.cell? ⟨w6.heap.size, 2, none⟩ = some (.int .i64 m0) ∧ w'.cell? ⟨b1, g1 + i * 3, none⟩ = some (.string sn) ∧ w'.cell? ⟨b1, g1 + i * 3 + 1, none⟩ = some (.slice yA n0 yc) ∧ w'.cell? ⟨b1, g1 + i * 3 + 2, none⟩ = some (.int .i64 m0) ∧ w'.cell? ⟨b2, g2 + i, none⟩ = some (.int .i64 v0))) := Lib.hid (fun w' e => by
                have xx : Ext wr w' := x6.tr ((show Ext w6 _ by (repeat (first | exact Ext.rfl' _ | assumption | refine Ext.dr ?_ | refine Ext.drN ?_ _ | refine Ext.al ?_ _ | refine Ext.st ?_ (by simp) _ | refine Ext.tr ?_ (by assumption)))).tr e)
                exact ⟨(xx.cell (p := ⟨bN, qN + i, none⟩) hbN).trans a0, (xx.cell (p := ⟨w.heap.size, 2, none⟩) hlW).trans q2, e.new 0 _ rfl, e.new 1 _ rfl, e.new 2 _ rfl, (xx.cell (p := ⟨b1, g1 + i * 3, none⟩) hb1).trans t0, (xx.cell (p := ⟨b1, g1 + i * 3 + 1, none⟩) hb1).trans t1, (xx.cell (p := ⟨b1, g1 + i * 3 + 2, none⟩) hb1).trans t2, (xx.cell (p := ⟨b2, g2 + i, none⟩) hb2).trans t3⟩)
              have R1 := Lib.hid (hs6.rd.ext (show Ext w6 (w6.alloc (.cells #[.string sn, .slice A6 n0 c6, .int .i64 m0] 35)) by (repeat (first | exact Ext.rfl' _ | assumption | refine Ext.dr ?_ | refine Ext.drN ?_ _ | refine Ext.al ?_ _ | refine Ext.st ?_ (by simp) _ | refine Ext.tr ?_ (by assumption)))))
              have R2 := Lib.hid (HYR.out.ext (x6.tr (show Ext w6 (w6.alloc (.cells #[.string sn, .slice A6 n0 c6, .int .i64 m0] 35)) by (repeat (first | exact Ext.rfl' _ | assumption | refine Ext.dr ?_ | refine Ext.drN ?_ _ | refine Ext.al ?_ _ | refine Ext.st ?_ (by simp) _ | refine Ext.tr ?_ (by assumption))))))
              clear a0 q2 t0 t1 t2 t3
              go_region_held3 (fun w' => w'.cell? ⟨bN, qN + i, none⟩ = some (.string sn) ∧ w'.cell? ⟨w.heap.size, 2, none⟩ = some (.string sl) ∧ w'.cell? ⟨w6.heap.size, 0, none⟩ = some (.string sn) ∧ w'.cell? ⟨w6.heap.size, 1, none⟩ = some (.slice A6 n0 c6) ∧ w'.cell? ⟨w6.heap.size, 2, none⟩ = some (.int .i64 m0) ∧ w'.cell? ⟨b1, g1 + i * 3, none⟩ = some (.string sn) ∧ w'.cell? ⟨b1, g1 + i * 3 + 1, none⟩ = some (.slice yA n0 yc) ∧ w'.cell? ⟨b1, g1 + i * 3 + 2, none⟩ = some (.int .i64 m0) ∧ w'.cell? ⟨b2, g2 + i, none⟩ = some (.int .i64 v0)) ((apply F.out; (repeat (first | exact Ext.rfl' _ | assumption | refine Ext.dr ?_ | refine Ext.drN ?_ _ | refine Ext.al ?_ _ | refine Ext.st ?_ (by simp) _ | refine Ext.tr ?_ (by assumption))))) (first
                | (go_at_call 17; refine (same13_c sn yf.b A6 yA n0 c6 yc m0 HN0.out _ (R1.out.ext (by (repeat (first | exact Ext.rfl' _ | assumption | refine Ext.dr ?_ | refine Ext.drN ?_ _ | refine Ext.al ?_ _ | refine Ext.st ?_ (by simp) _ | refine Ext.tr ?_ (by assumption))))) (R2.out.ext (by (repeat (first | exact Ext.rfl' _ | assumption | refine Ext.dr ?_ | refine Ext.drN ?_ _ | refine Ext.al ?_ _ | refine Ext.st ?_ (by simp) _ | refine Ext.tr ?_ (by assumption)))))).mono ?_; rintro e w8 ⟨rfl, hx8⟩)
                | (go_at_call 8; refine (num13_c _ _).mono ?_; rintro e w9 ⟨rfl, rfl⟩))
              go_wp2
              exact ⟨⟨i + 1, by omega, by go_num, ap_on HD.out HNq.out HKP.out HST.out (st6.tr (Stp.ext (by (repeat (first | exact Ext.rfl' _ | assumption | refine Ext.dr ?_ | refine Ext.drN ?_ _ | refine Ext.al ?_ _ | refine Ext.st ?_ (by simp) _ | refine Ext.tr ?_ (by assumption))))))⟩, by simp [intOf]; omega⟩
          · obtain rfl : i = k := by omega
            obtain ⟨oq, _, _, _, hst⟩ := hapq
            go_wp2
            go_ret
            exact ⟨rfl, xW.tr (hst.toExt (fun _ _ => by simp))⟩
end Go.Proofs.Ytnakeigpelcajaa
