/-
The document's world: List. A path put where it belongs, into paths in order.
-/
import Derived.Test.YtllpffdjlhamkaaRw7
import Derived.Test.YtllpffdjlhamkaaWdA
import Derived.Deep.CutBlock
set_option linter.unusedVariables false
set_option linter.unusedSimpArgs false
namespace Go.Proofs.Ytllpffdjlhamkaa
open Go.RowKit Go.Maps Go.Sort

theorem ins_sorted {os : List (List UInt8)} (h : os.Pairwise fun a b => decide (a ≤ b) = true) {k : Nat} (hk : k ≤ os.length) {x : List UInt8} (h1 : ∀ j (hj : j < os.length), k ≤ j → x < os[j]) (h2 : ∀ q : 0 < k, ¬ x < os[k - 1]) :
    (os.take k ++ [x] ++ os.drop k).Pairwise fun a b => decide (a ≤ b) = true := by
  have hd : ∀ y ∈ os.drop k, x < y := by
    intro y hy
    obtain ⟨j, hj, rfl⟩ := List.getElem_of_mem hy
    rw [List.getElem_drop]
    exact h1 _ (by rw [List.length_drop] at hj; omega) (Nat.le_add_right _ _)
  have ht : ∀ y ∈ os.take k, y ≤ x := by
    intro y hy
    obtain ⟨j, hj, rfl⟩ := List.getElem_of_mem hy
    rw [List.length_take] at hj
    rw [List.getElem_take]
    have hk0 : 0 < k := by omega
    have hle : os[k - 1] ≤ x := h2 hk0
    by_cases e : j = k - 1
    · subst e; exact hle
    · have := (List.pairwise_iff_getElem.1 h) j (k - 1) (by omega) (by omega) (by omega)
      exact List.le_trans (by simpa using this) hle
  rw [List.append_assoc, List.pairwise_append]
  refine ⟨List.Pairwise.take h, List.pairwise_cons.2 ⟨fun y hy => by simpa using List.le_of_lt (hd y hy), List.Pairwise.drop h⟩, fun a ha b hb => ?_⟩
  have ha' := ht a ha
  rcases List.mem_cons.1 hb with rfl | hb
  · simpa using ha'
  · simpa using List.le_trans ha' (List.le_of_lt (hd b hb))
theorem ins_perm (os : List (List UInt8)) (k : Nat) (x : List UInt8) : (os.take k ++ [x] ++ os.drop k).Perm (x :: os) := by
  have : (os.take k ++ [x] ++ os.drop k).Perm (x :: (os.take k ++ os.drop k)) := by rw [List.append_assoc]; exact List.perm_middle
  rwa [List.take_append_drop] at this
theorem list_of {s : Wrl} {os : List (List UInt8)} (h : os.Pairwise fun a b => decide (a ≤ b) = true) (hp : os.Perm (s.L.map (·.1))) : os = listW s := by
  unfold listW
  rw [← mergeSort_of_perm hp]
  exact (List.mergeSort_of_pairwise h).symm
theorem sc_one8 (ls : List (List UInt8)) : ∀ u ∈ sc ls, u.oneCell' = true := by
  intro u hu
  obtain ⟨x, _, rfl⟩ := List.mem_map.1 hu
  rfl
theorem sc_drop8 (ls : List (List UInt8)) (k : Nat) : (sc ls).drop (k * 1) = sc (ls.drop k) := by rw [Nat.mul_one]; simp [sc, List.map_drop]
theorem sc_take8 (ls : List (List UInt8)) (k : Nat) : (sc ls).take (k * 1) = sc (ls.take k) := by rw [Nat.mul_one]; simp [sc, List.map_take]
/-- Where a path belongs. -/
def InsAt (w : World) (os : List (List UInt8)) (m : Nat) (x : List UInt8) (v : Value) (w' : World) : Prop :=
  ∃ q : Nat, q ≤ m ∧ v = .int .i64 (q : Int) ∧ (∀ j (hj : j < os.length), q ≤ j → x < os[j]) ∧ (∀ (_ : 0 < q) (hj : q - 1 < os.length), ¬ x < os[q - 1]) ∧ Ext w w'
set_option maxRecDepth 100000 in
set_option maxHeartbeats 4000000 in
theorem rwList_c (w : World) (o : Ow) (k p : Nat) (s : Wrl) (h : RwAt w o k p s) (hk : Wok s) :
    Calls Try.prog 25 #[.pointer (some ⟨p, 0, none⟩)] w (Ret (IsStrs (listW s)) w) := by
  obtain ⟨A, c, B, d, fl, hh, ha, na, hb, nb, hl, he⟩ := h.row
  have hfl : fl.length = s.L.length := by rw [← hl, List.length_map]
  have hfew := hk.few
  obtain ⟨n, hn⟩ : ∃ n, n = fl.length := ⟨_, rfl⟩
  rw [← hn] at hh hfl
  have HN := Lib.hid hn
  have HFL := Lib.hid hfl
  have hn1 : n ≤ 1000 := by omega
  have HA := Lib.hid ha.rd
  have HL := Lib.hid hl
  have HH := Lib.hid (fun w' (e : Ext w w') => (hh.ext e).c0)
  clear hn hfl hh ha hb nb he hl
  go_enter Try.func25, Try.ntmps25
  go_wp2
  go_loopw [3, 4] (fun v3 v4 wr => ∃ (m : Nat) (os : List (List UInt8)) (A' : Option Addr) (c' : Nat) (o' : Ow), m ≤ n ∧ v3 = .slice A' m c' ∧ v4 = .int .i64 (m : Int) ∧ os.length = m ∧ (os.Pairwise fun a b => decide (a ≤ b) = true) ∧ os.Perm ((s.L.take m).map (·.1)) ∧ Sl wr o' 1 1 A' m c' (sc os) ∧ (A' = none → c' = 0) ∧ Stp (fun i => i = 1) w (fun _ => 0) wr o') (fun _ i _ => n - (intOf i).toNat)
  case atStart => exact ⟨0, [], none, 0, fun _ => 0, Nat.zero_le _, rfl, rfl, rfl, List.Pairwise.nil, by simp, Sl.nil_ _ _ _ _ _, fun _ => rfl, Stp.rfl'⟩
  case round =>
    obtain ⟨m, os, A', c', o', hm, rfl, rfl, hos, hsort, hperm, hsl, hna, hst⟩ := hrel
    have hx := hst.toExt (fun _ _ => by omega)
    have c0 := HH.out wr hx
    have HOS := Lib.hid hos
    have HSORT := Lib.hid hsort
    have HPERM := Lib.hid hperm
    have HSL := Lib.hid hsl
    have HST := Lib.hid hst
    by_cases hmn : m < n
    · have hmf : m < fl.length := by rw [← HN.out]; exact hmn
      have hms : m < s.L.length := by rw [← HFL.out]; exact hmn
      obtain ⟨b, f, rfl, hbl, hc⟩ := (HA.out).at_ (by rw [flC_len]; omega)
      have t0w := hc (m * 3) _ (by have := flC_at fl m 0 (by omega); rw [Nat.add_zero, List.getElem?_eq_getElem hmf] at this; simpa [feC] using this)
      have t0 := (hx.cell (p := ⟨b, f + m * 3, none⟩) hbl).trans t0w
      have hpe : fl[m].l = s.L[m].1 := (fe_at HL.out hms).2.1
      obtain ⟨x, hxe⟩ : ∃ x, x = fl[m].l := ⟨_, rfl⟩
      rw [← hxe] at t0 t0w hpe
      have T0 := Lib.hid t0w
      have HPE := Lib.hid hpe
      have hk0 : (0 : Int) ≤ (m : Int) := by omega
      have hk1 : (m : Int) < (n : Int) := by omega
      clear hos hsort hperm hsl hst hc t0w hxe hpe
      go_upto_block 2 with (fail)
      go_cut [5] (fun v5 wq => InsAt wr os m x v5 wq)
      case first =>
        go_wp2
        go_loopw [5] (fun v5 wq => ∃ q : Nat, q ≤ m ∧ v5 = .int .i64 (q : Int) ∧ (∀ j (hj : j < os.length), q ≤ j → x < os[j]) ∧ Ext wr wq) (fun v5 _ => (intOf v5).toNat)
        case atStart => exact ⟨m, Nat.le_refl _, rfl, fun j hj h => by have := HOS.out; omega, by (repeat (first | exact Ext.rfl' _ | assumption | refine Ext.dr ?_ | refine Ext.drN ?_ _ | refine Ext.al ?_ _ | refine Ext.st ?_ (by simp) _ | refine Ext.tr ?_ (by assumption)))⟩
        case round =>
          obtain ⟨q, hq, rfl, hgt, hxq⟩ := hrel
          have HGT := Lib.hid hgt
          have c0q := HH.out _ (hx.tr hxq)
          have t0q := (hxq.cell (p := ⟨b, f + m * 3, none⟩) (Nat.lt_of_lt_of_le hbl hx.size)).trans t0
          have hq0 : (0 : Int) ≤ (q : Int) := by omega
          have hqm : (q : Int) ≤ (m : Int) := by omega
          clear hgt c0 t0
          by_cases hqz : 0 < q
          · have hqo : q - 1 < os.length := by rw [HOS.out]; omega
            obtain ⟨b2, f2, rfl, hbl2, hc2⟩ := (HSL.out.rd.ext hxq).at_ (by rw [sc_len]; omega)
            have y0 := hc2 (q - 1) _ (sc_at os (q - 1) hqo)
            obtain ⟨y, hy⟩ : ∃ y, y = os[q - 1] := ⟨_, rfl⟩
            rw [← hy] at y0
            have HY := Lib.hid hy
            have s1 : IntKind.i64.wrap ((q : Int) - 1) = (q : Int) - 1 := by rw [IntKind.wrap_i64]; omega
            have t1 : ((q : Int) - 1).toNat = q - 1 := by omega
            have i1 : (0 : Int) ≤ (q : Int) - 1 := by omega
            have i2 : (q : Int) - 1 < (m : Int) := by omega
            have i3 : (0 : Int) < (q : Int) := by omega
            clear hc2 hy
            by_cases hlt : x < y
            · have z1 : Op.bytesLess y x = false := by rw [bytesLess_eq]; exact decide_eq_false fun h => List.lt_irrefl _ (List.lt_trans hlt h)
              have z2 : (y == x) = false := by rw [beq_eq_false_iff_ne]; rintro rfl; exact List.lt_irrefl _ hlt
              have HLT := Lib.hid hlt
              clear hlt
              go_wp2
              go_quiet (fail)
              go_wp2
              go_roundw
              case rel => exact ⟨q - 1, by omega, by go_num, fun j hj h => by
                by_cases e : j = q - 1
                · subst e; rw [← HY.out]; exact HLT.out
                · exact HGT.out j hj (by omega), by (repeat (first | exact Ext.rfl' _ | assumption | refine Ext.dr ?_ | refine Ext.drN ?_ _ | refine Ext.al ?_ _ | refine Ext.st ?_ (by simp) _ | refine Ext.tr ?_ (by assumption)))⟩
              case measure => simp [intOf]; omega
            · have HLT := Lib.hid hlt
              by_cases hyx : y = x
              · have z1 : Op.bytesLess x x = false := by rw [bytesLess_eq]; exact decide_eq_false (List.lt_irrefl _)
                subst hyx
                clear hlt
                go_wp2
                go_quiet (fail)
                go_wp2_with fail
                go_meet
                exact ⟨q, hq, rfl, HGT.out, fun h hj => by rw [← HY.out]; exact HLT.out, by (repeat (first | exact Ext.rfl' _ | assumption | refine Ext.dr ?_ | refine Ext.drN ?_ _ | refine Ext.al ?_ _ | refine Ext.st ?_ (by simp) _ | refine Ext.tr ?_ (by assumption)))⟩
              · have z1 : Op.bytesLess y x = true := by rw [bytesLess_eq]; exact decide_eq_true (Classical.byContradiction fun h => hyx (List.le_antisymm hlt h))
                clear hlt hyx
                go_wp2
                go_quiet (fail)
                go_wp2_with fail
                go_meet
                exact ⟨q, hq, rfl, HGT.out, fun h hj => by rw [← HY.out]; exact HLT.out, by (repeat (first | exact Ext.rfl' _ | assumption | refine Ext.dr ?_ | refine Ext.drN ?_ _ | refine Ext.al ?_ _ | refine Ext.st ?_ (by simp) _ | refine Ext.tr ?_ (by assumption)))⟩
          · obtain rfl : q = 0 := by omega
            go_wp2
            go_quiet (fail)
            go_wp2_with fail
            go_meet
            exact ⟨0, hq, rfl, HGT.out, fun h => by omega, by (repeat (first | exact Ext.rfl' _ | assumption | refine Ext.dr ?_ | refine Ext.drN ?_ _ | refine Ext.al ?_ _ | refine Ext.st ?_ (by simp) _ | refine Ext.tr ?_ (by assumption)))⟩
      case rest =>
        obtain ⟨q, hq, rfl, hgt, hle, hxq⟩ := hcut
        have HGT := Lib.hid hgt
        have HLE := Lib.hid hle
        have hcap := HSL.out.le
        have SLC := Lib.hid (HSL.out.ext hxq)
        obtain ⟨Bz, hBz, hRz⟩ := cut_from 1 61 9 Try.underlying61 (fun _ => rfl) (sc os) A' m c' q (q : Int) rfl wc SLC.out.rd (by rw [sc_len, HOS.out]; omega) hq hcap
        have HRZ := Lib.hid (hRz _ SLC.out.rd)
        have hq0 : (0 : Int) ≤ (q : Int) := by omega
        have hqm : (q : Int) ≤ (m : Int) := by omega
        have hqc : (q : Int) ≤ (c' : Int) := by omega
        have hqc2 : q ≤ c' := by omega
        clear hgt hle hRz t0 c0
        go_wp2_with (first
          | (at_builtin; refine wpL_fresh slt_str (.tmp 38) (.tmp 41) rfl rfl (o := o') 2 rfl rfl (Sl.src Try.underlying61 (n := m - q) (A := Bz) (xs := sc (os.drop q)) (by rw [← sc_drop8]; exact HRZ.out.ext (by (repeat (first | exact Ext.rfl' _ | assumption | refine Ext.dr ?_ | refine Ext.drN ?_ _ | refine Ext.al ?_ _ | refine Ext.st ?_ (by simp) _ | refine Ext.tr ?_ (by assumption))))) (by rw [sc_len, List.length_drop, HOS.out]; omega) (by omega) (sc_one8 _) (c' - q)) (by omega) (by simp only [maxLen]; omega) ?_; intro A1 c1 w1 o1 hs1 st1 hn1))
        have st1' : Stp (fun _ => False) wc o' w1 o1 := (Stp.ext (show Ext wc (wc.alloc _) by (repeat (first | exact Ext.rfl' _ | assumption | refine Ext.dr ?_ | refine Ext.drN ?_ _ | refine Ext.al ?_ _ | refine Ext.st ?_ (by simp) _ | refine Ext.tr ?_ (by assumption))))).tr st1
        have x1 : Ext wc w1 := st1'.noExt
        have x9 : Ext w1 (w1.alloc (.cells #[.string (str x)] 9)).drew := by (repeat (first | exact Ext.rfl' _ | assumption | refine Ext.dr ?_ | refine Ext.drN ?_ _ | refine Ext.al ?_ _ | refine Ext.st ?_ (by simp) _ | refine Ext.tr ?_ (by assumption)))
        have SL9 := (((SLC.out.take q hq).stp st1' (fun x => x)).ext x9)
        rw [sc_take8] at SL9
        obtain ⟨A6, c6, w6, o6, hr6, hs6, st6, hn6⟩ := run_put slt_str (tx := 61) 61 (w := (w1.alloc (.cells #[.string (str x)] 9)).drew) (o := o1) SL9 hna (Sl.src Try.underlying61 (n := 1) (xs := [.string (str x)]) ((rd_newG w1 _ rfl [.string (str x)] 9).ext (by (repeat (first | exact Ext.rfl' _ | assumption | refine Ext.dr ?_ | refine Ext.drN ?_ _ | refine Ext.al ?_ _ | refine Ext.st ?_ (by simp) _ | refine Ext.tr ?_ (by assumption))))) (by simp) (by omega) (by simp [Value.oneCell']) 1) (by omega) (by simp only [maxLen]; omega)
        have st6' : Stp (fun i => i = 1) w1 o1 w6 o6 := (Stp.ext x9).tr (st6.mono fun _ h => h.2)
        obtain ⟨A7, c7, w7, o7, hr7, hs7, st7, hn7⟩ := run_put slt_str (tx := 61) 61 (w := w6) (o := o6) hs6 hn6 (Sl.src Try.underlying61 (n := m - q) (xs := sc (os.drop q)) (hs1.stp st6' (by omega)).rd (by rw [sc_len, List.length_drop, HOS.out]; omega) (by omega) (sc_one8 _) c1) (by omega) (by simp only [maxLen]; omega)
        rw [show q + 1 + (m - q) = m + 1 from by omega] at hr7 hs7
        have ST1 := (HST.out.tr ((Stp.ext hxq).tr (st1'.mono (L := fun i => i = 1) fun _ h => h.elim)))
        have ST6 := ST1.tr st6'
        have ST7 := ST6.tr (st7.mono (L := fun i => i = 1) fun _ h => h.2)
        have X1 : Ext w w1 := ST1.toExt (fun _ _ => by omega)
        have X6 : Ext w w6 := ST6.toExt (fun _ _ => by omega)
        have X7 : Ext w w7 := ST7.toExt (fun _ _ => by omega)
        have F : Hid (∀ w', Ext w w' → (w'.cell? ⟨p, 0, none⟩ = some (.slice (some ⟨b, f, none⟩) n c) ∧ w'.cell? ⟨b, f + m * 3, none⟩ = some (.string (str x)))) := Lib.hid fun w' e => ⟨HH.out w' e, (e.cell (p := ⟨b, f + m * 3, none⟩) hbl).trans T0.out⟩
        have HS7 := Lib.hid hs7
        have HT7 := Lib.hid ST7
        clear hBz HRZ hs7 st7 ST7
        go_region_held3 (fun w' => w'.cell? ⟨p, 0, none⟩ = some (.slice (some ⟨b, f, none⟩) n c) ∧ w'.cell? ⟨b, f + m * 3, none⟩ = some (.string (str x))) ((apply F.out; (repeat (first | exact Ext.rfl' _ | assumption | refine Ext.dr ?_ | refine Ext.drN ?_ _ | refine Ext.al ?_ _ | refine Ext.st ?_ (by simp) _ | refine Ext.tr ?_ (by assumption))))) (first
          | (refine step_run (.tmp 45) (.tmp 54) rfl rfl rfl rfl hr6 ?_)
          | (refine step_run (.tmp 55) (.tmp 56) rfl rfl rfl rfl hr7 ?_))
        clear hr6 hr7
        go_wp2
        go_roundw
        case rel =>
          refine ⟨m + 1, os.take q ++ [x] ++ os.drop q, A7, c7, o7, by omega, rfl, by go_num, by simp [HOS.out]; omega, ins_sorted HSORT.out (by rw [HOS.out]; exact hq) HGT.out (fun h => HLE.out h (by rw [HOS.out]; omega)), ?_, ?_, hn7, HT7.out⟩
          · refine (ins_perm os q x).trans ?_
            rw [List.take_succ_eq_append_getElem hms, List.map_append]
            refine (List.Perm.cons x HPERM.out).trans ?_
            rw [show x = s.L[m].1 from HPE.out]
            exact (List.perm_append_comm (l₁ := [s.L[m].1]))
          · have := HS7.out
            rw [sc_app, sc_app]; exact this
        case measure => simp [intOf]; omega
    · obtain rfl : m = n := by omega
      go_wp2
      go_ret
      exact Ret.mk ⟨A', c', by rw [← list_of (s := s) hsort (by rw [HFL.out, List.take_length] at hperm; exact hperm), hos]; rfl, by rw [← list_of (s := s) hsort (by rw [HFL.out, List.take_length] at hperm; exact hperm)]; exact hsl.rd, by rw [← list_of (s := s) hsort (by rw [HFL.out, List.take_length] at hperm; exact hperm), hos]; exact hsl.le⟩ hx
end Go.Proofs.Ytllpffdjlhamkaa
