/-
Static: the law StaticBelow, walked.
-/
import Derived.Test.YtemdgilifnhdpaaGreatDoorStU
import Derived.Test.YtemdgilifnhdpaaGreatDoorStV
import Derived.Test.YtemdgilifnhdpaaGreatDoorZat
set_option linter.unusedVariables false
set_option linter.unusedSimpArgs false
namespace Go.Proofs.YtemdgilifnhdpaaGreatDoor
open Go.RowKit

set_option maxRecDepth 100000 in
set_option maxHeartbeats 2000000 in
theorem snHas_c (a b : List UInt8) (ha : a.length ≤ 281474976710656) (hb : b.length ≤ 281474976710656) (w : World) : Calls Tryz.prog 21 #[.string (str a), .string (str b)] w fun e w' => e = .returned (.bool (decide (b <+: a))) ∧ w = w' := by
  have hza : (str a).size = a.length := str_size a
  have hzb : (str b).size = b.length := str_size b
  by_cases hl : b.length ≤ a.length
  · have hsl : (str a).extract 0 b.length = str (a.take b.length) := by
      apply ByteArray.ext
      apply Array.ext'
      simp [str]
    have hi : (b.length : Int) ≤ (a.length : Int) := by omega
    by_cases hp : b <+: a
    · have ht : a.take b.length = b := by obtain ⟨r, rfl⟩ := hp; simp
      rw [ht] at hsl
      rw [decide_eq_true hp]
      obtain ⟨sa, hsa⟩ : ∃ x, x = str a := ⟨_, rfl⟩
      obtain ⟨sb, hsb⟩ : ∃ x, x = str b := ⟨_, rfl⟩
      rw [← hsa] at hza hsl
      rw [← hsb] at hzb hsl
      rw [← hsa, ← hsb]
      obtain ⟨na, hna⟩ : ∃ x, x = a.length := ⟨_, rfl⟩
      obtain ⟨nb, hnb⟩ : ∃ x, x = b.length := ⟨_, rfl⟩
      rw [← hna] at hza hi
      rw [← hnb] at hzb hi hsl
      clear hsa hsb hl hp ht hna hnb
      go_enter Tryz.func21, Tryz.ntmps21
      go_wp2
      go_ret
      exact ⟨rfl, rfl⟩
    · have hn : ¬ a.take b.length = b := fun h => hp ⟨a.drop b.length, by have := List.take_append_drop b.length a; rw [h] at this; exact this⟩
      rw [decide_eq_false hp]
      obtain ⟨sa, hsa⟩ : ∃ x, x = str a := ⟨_, rfl⟩
      obtain ⟨sb, hsb⟩ : ∃ x, x = str b := ⟨_, rfl⟩
      obtain ⟨st, hst⟩ : ∃ x, x = str (a.take b.length) := ⟨_, rfl⟩
      have e1 : ¬ st.toList = sb.toList := by rw [hst, hsb, str_tl, str_tl]; exact hn
      have e2 : (st.toList == sb.toList) = false := by rw [beq_eq_false_iff_ne]; exact e1
      rw [← hsa, ← hst] at hsl
      rw [← hsa] at hza
      rw [← hsb] at hzb
      rw [← hsa, ← hsb]
      obtain ⟨na, hna⟩ : ∃ x, x = a.length := ⟨_, rfl⟩
      obtain ⟨nb, hnb⟩ : ∃ x, x = b.length := ⟨_, rfl⟩
      rw [← hna] at hza hi
      rw [← hnb] at hzb hi hsl
      clear hsa hsb hst hl hp hn hna hnb
      go_enter Tryz.func21, Tryz.ntmps21
      go_wp2
      go_ret
      exact ⟨rfl, rfl⟩
  · have hp : ¬ b <+: a := fun h => hl h.length_le
    have hi : ¬ (b.length : Int) ≤ (a.length : Int) := by omega
    rw [decide_eq_false hp]
    obtain ⟨sa, hsa⟩ : ∃ x, x = str a := ⟨_, rfl⟩
    obtain ⟨sb, hsb⟩ : ∃ x, x = str b := ⟨_, rfl⟩
    rw [← hsa] at hza
    rw [← hsb] at hzb
    rw [← hsa, ← hsb]
    obtain ⟨na, hna⟩ : ∃ x, x = a.length := ⟨_, rfl⟩
    obtain ⟨nb, hnb⟩ : ∃ x, x = b.length := ⟨_, rfl⟩
    rw [← hna] at hza hi
    rw [← hnb] at hzb hi
    clear hsa hsb hl hp hna hnb
    go_enter Tryz.func21, Tryz.ntmps21
    go_wp2
    go_ret
    exact ⟨rfl, rfl⟩
def lawLoc (root index : ByteArray) : Array Value := #[.string ⟨#[47]⟩, .int .i64 1, .string root, .string index, .int .i64 0, .int .i64 0, .string ⟨#[]⟩, .bool false, .int .i64 0, .int .i64 0, .int .i64 0, .string ⟨#[]⟩]
set_option maxRecDepth 100000 in
set_option maxHeartbeats 2000000 in
theorem lawLoc_c (r i : ByteArray) (w : World) : Calls Tryz.prog 10 #[.agg (lawLoc r i)] w (Gives (.agg (lawLoc r i)) w) := by
  unfold lawLoc
  go_enter Tryz.func10, Tryz.ntmps10
  go_wp2
  refine bodyPost_ret (v := .agg #[.string ⟨#[47]⟩, .int .i64 1, .string r, .string i, .int .i64 0, .int .i64 0, .string ⟨#[]⟩, .bool false, .int .i64 0, .int .i64 0, .int .i64 0, .string ⟨#[]⟩]) (by simp [results, Tryz.results10, go_sem]) rfl ⟨rfl, by (repeat (first | exact Ext.rfl' _ | assumption | refine Ext.dr ?_ | refine Ext.drN ?_ _ | refine Ext.al ?_ _ | refine Ext.st ?_ (by simp) _ | refine Ext.tr ?_ (by assumption)))⟩
theorem stServe_get (kw pw : Nat) (s : Wrl) (hk : Wok s) (root index path : List UInt8) (hp2 : root.length ≤ 140737488351232) (hp3 : index.length ≤ 140737488351232) (hp4 : path.length ≤ 140737488351232) (w : World) (o : Ow) (ho : ∀ b, b < w.heap.size → o b < 20) (hkw : kw < 17) (hw : WdAt w o kw pw s) (hM : Ev.MxE w) (hE : ErrR w) :
    Calls Tryz.prog 9 #[.pointer (some ⟨pw, 0, none⟩), .agg (lawLoc (str root) (str index)), .agg (reqC ⟨#[71, 69, 84]⟩ (.string ⟨#[]⟩) (.int .i64 0) none 0 0), .string (str path)] w (ServeTo w (serveS (findS s [47] root index path) 200 path)) := by
  cases hf : findS s [47] root index path with
  | inr n =>
    rw [← hf]
    exact stServe_not kw pw s hk [47] root index path (by simp) hp2 hp3 hp4 (.int .i64 0) (.string ⟨#[]⟩) (.bool false) (.int .i64 0) (.int .i64 0) (.int .i64 0) (.string ⟨#[]⟩) (.string ⟨#[]⟩) (.int .i64 0) none 0 0 w o ho hkw hw hM hE 200 n hf
  | inl nf =>
    obtain ⟨nm, f⟩ := nf
    rw [← hf]
    exact stServe_200 kw pw s hk [47] root index path (by simp) hp2 hp3 hp4 (.int .i64 0) (.string ⟨#[]⟩) (.bool false) (.int .i64 0) (.int .i64 0) (.int .i64 0) (.string ⟨#[]⟩) (.string ⟨#[]⟩) (.int .i64 0) none 0 0 w o ho hkw hw hM hE 200 nm f hf
      (fun w' _ => cdEval_no [] none 0 0 rfl (by decide) (by simp) ⟨rfl, rfl, rfl, rfl⟩ false true _ _ _ w' (Rd.nil_ _ _))
      (fun w' _ => cdInR_no [] none 0 0 rfl (by decide) (by simp) rfl false true _ _ _ w' (Rd.nil_ _ _))
      [] (by decide) (by decide) (fun w' _ => hValues_c [] [82, 97, 110, 103, 101] none 0 0 rfl (by decide) (by decide) (by simp) w' (Rd.nil_ _ _))
theorem Sl.low {w : World} {o : Ow} {k size n c : Nat} {A : Option Addr} {xs : List Value} (h : Sl w o k size A n c xs) (hk : k < 20) : Sl w (fun b => if o b < 20 then o b else 0) k size A n c xs := by
  refine ⟨h.len, h.le, h.max, ?_⟩
  rcases h.at_ with h0 | ⟨g, f, hA, ho, hl, hc, hr⟩
  · exact .inl h0
  · exact .inr ⟨g, f, hA, by show (if o g < 20 then o g else 0) = k; rw [ho, if_pos hk], hl, hc, hr⟩
theorem WdAt.low {w : World} {o : Ow} {k p : Nat} {s : Wrl} (h : WdAt w o k p s) (hk : k < 17) : WdAt w (fun b => if o b < 20 then o b else 0) k p s := by
  obtain ⟨mb, pl, hh, hm, hl, hi, hs⟩ := h.row
  exact ⟨by show (if o p < 20 then o p else 0) = k; rw [h.own, if_pos (by omega)], mb, pl, hh, by show (if o mb < 20 then o mb else 0) = k + 1; rw [hm, if_pos (by omega)], hl, hi, fun x hx => ⟨(hs x hx).1.low (by omega), (hs x hx).2⟩⟩
theorem low_lt (o : Ow) (b : Nat) : (if o b < 20 then o b else 0) < 20 := by split <;> omega
theorem find_code {s : Wrl} {pre root index path : List UInt8} {n : Int} (h : findS s pre root index path = .inr n) : n = 301 ∨ n = 400 ∨ n = 404 := by
  unfold findS at h
  split at h
  · rename_i n' ha
    injection h with h
    subst h
    unfold askS at ha
    split at ha
    · injection ha with ha; omega
    · split at ha
      · injection ha with ha; omega
      · split at ha
        · cases ha
        · split at ha
          · injection ha with ha; omega
          · cases ha
  · rename_i ha
    exfalso
    unfold askS at ha
    split at ha
    · cases ha
    · split at ha
      · cases ha
      · split at ha
        · injection ha with ha; cases ha
        · split at ha
          · cases ha
          · injection ha with ha; cases ha
  · split at h
    · cases h
    · split at h
      · injection h with h; omega
      · injection h with h; omega
set_option maxRecDepth 100000 in
set_option maxHeartbeats 8000000 in
theorem staticBelow_w (W : World) (hM : Ev.MxE W) (hE : ErrR W) (a : Int) (ha : -9223372036854775808 ≤ a ∧ a ≤ 9223372036854775807) (A : Option Addr) (c : Nat) (xs : List OpW) (hA : RdOpW W A xs) (hxs : xs.length ≤ 140737488351232) (root index path : List UInt8) (hp2 : root.length ≤ 140737488351232) (hp3 : index.length ≤ 140737488351232) (hp4 : path.length ≤ 140737488351232) (hr0 : root ≠ []) (hr1 : root.getLast? ≠ some 47) :
    Calls Tryz.prog 5 #[.int .i64 a, .slice A xs.length c, .string (str root), .string (str index), .string (str path)] W (Gives (.bool true) W) := by
  have CM := Lib.hid (made_c W a ha A c xs hA hxs)
  have HM := Lib.hid hM
  have HE := Lib.hid hE
  obtain ⟨N, hN⟩ : ∃ N, N = xs.length := ⟨_, rfl⟩
  rw [← hN] at CM ⊢
  clear hM hE hA hxs hN
  have hrn : root.length = root.dropLast.length + 1 := by
    cases root with
    | nil => exact absurd rfl hr0
    | cons x y => simp
  obtain ⟨m, hm⟩ : ∃ m : Nat, m = root.length - 1 := ⟨_, rfl⟩
  have hml : m < root.length := by omega
  obtain ⟨ch, hch⟩ : ∃ ch : UInt8, root[m]? = some ch := ⟨_, List.getElem?_eq_getElem hml⟩
  have hcn : ch ≠ 47 := fun h => hr1 (by rw [List.getLast?_eq_getElem?, ← hm, hch, h])
  obtain ⟨sr, hsr⟩ : ∃ x, x = str root := ⟨_, rfl⟩
  obtain ⟨si, hsi⟩ : ∃ x, x = str index := ⟨_, rfl⟩
  obtain ⟨sp, hsp⟩ : ∃ x, x = str path := ⟨_, rfl⟩
  have hz : sr.size = root.length := by rw [hsr]; exact str_size root
  have e1 : ¬ sr.toList = [] := by rw [hsr, str_tl]; exact hr0
  have e2 : (sr.toList == []) = false := by rw [beq_eq_false_iff_ne]; exact e1
  obtain ⟨L, hL⟩ : ∃ L : Nat, L = root.length := ⟨_, rfl⟩
  obtain ⟨cn, hcn2⟩ : ∃ cn : Int, cn = (ch.toNat : Int) := ⟨_, rfl⟩
  have hw1 : wrap64 ((L : Int) - 1) = (m : Int) := by unfold wrap64; omega
  have hidx : ∀ w, (Instr.index 9 (.string sr) (.int .i64 (m : Int))).run Tryz.prog w = .ok (.int .u8 cn) w := fun w => by
    rw [run_index_string w 9 sr .i64 (m : Int) Tryz.underlying9, dif_pos (by rw [hz]; omega)]
    subst hsr
    have : (str root)[((m : Int)).toNat]'(by rw [Int.toNat_natCast, str_size]; exact hml) = ch := by
      simp only [Int.toNat_natCast]
      rw [str_get _ _ (by rw [str_size]; exact hml)]
      have := List.getElem?_eq_getElem hml
      rw [hch] at this
      exact (Option.some.inj this).symm
    rw [this, hcn2]
  have hc47 : ¬ cn = 47 := fun h => hcn (by
    rw [hcn2] at h
    exact UInt8.toNat_inj.1 (by simpa using (by omega : ch.toNat = 47)))
  rw [← hL] at hz
  rw [← hsr, ← hsi, ← hsp]
  have HSR := Lib.hid hsr
  have HSI := Lib.hid hsi
  have HSP := Lib.hid hsp
  clear hsr hsi hsp hL hm hml hcn2 hch hcn hrn hr0
  go_enter Tryz.func5, Tryz.ntmps5
  go_upto_region 4 with (first
    | (go_at_call 16; refine CM.out.mono ?_; rintro e w1 ⟨p, r, s, o, rfl, hw, hok, hv, hst⟩; have hx1 : Ext W w1 := hst.toExt (fun _ _ => by simp); have CK := Lib.hid (snKnows_c w1 (mxExt HM.out hx1)))
    | (go_at_call 15; refine CK.out.mono ?_; rintro e w2 ⟨rfl, hx2⟩))
  go_upto_region 6 with (fail)
  have hx12 : Ext W w2 := hx1.tr hx2
  have HWL := Lib.hid ((hw.ext hx2).low (by omega : (1 : Nat) < 17))
  have HOK := Lib.hid hok
  have HX2 := Lib.hid hx12
  obtain ⟨sv, hsv⟩ : ∃ x, x = serveS (findS s [47] root index path) 200 path := ⟨_, rfl⟩
  have CL := lawLoc_c sr si
  unfold lawLoc at CL
  have CS := fun w' (e : Ext w2 w') => stServe_get 1 p s hok root index path hp2 hp3 hp4 w' _ (fun b _ => low_lt o b) (by omega) ((HWL.out).ext e) (mxExt HM.out (hx12.tr e)) (HE.out.ext (hx12.tr e))
  unfold lawLoc reqC at CS
  rw [← hsv, ← HSR.out, ← HSI.out, ← HSP.out] at CS
  have CL := Lib.hid CL
  have CS := Lib.hid CS
  have HSV := Lib.hid hsv
  clear hw hok hv hst hx1 hx2 CM CK hx12 hsv hidx hw1 hc47 e1 e2
  go_upto_region 7 with (first
    | (go_at_call 10; refine (CL.out _).mono ?_; rintro e w3 ⟨rfl, hx3⟩)
    | (go_at_call 9; refine (CS.out _ (by (repeat (first | exact Ext.rfl' _ | assumption | refine Ext.dr ?_ | refine Ext.drN ?_ _ | refine Ext.al ?_ _ | refine Ext.st ?_ (by simp) _ | refine Ext.tr ?_ (by assumption))))).mono ?_; rintro e w4 ⟨A4, c4, B4, d4, rfl, hx4, hr4, hb4⟩; unfold respV))
  obtain ⟨W5, hW5⟩ : ∃ X, X = w4.alloc (.cells #[.int .i64 sv.st, .slice A4 sv.fs.length c4, .slice B4 sv.n d4] 34) := ⟨_, rfl⟩
  have hr5 : W5.heap[w4.heap.size]? = some (.cells #[.int .i64 sv.st, .slice A4 sv.fs.length c4, .slice B4 sv.n d4] 34 (0, 0)) := by rw [hW5]; exact heap_alloc_new w4 _
  have hx45 : Ext w4 W5 := by rw [hW5]; (repeat (first | exact Ext.rfl' _ | assumption | refine Ext.dr ?_ | refine Ext.drN ?_ _ | refine Ext.al ?_ _ | refine Ext.st ?_ (by simp) _ | refine Ext.tr ?_ (by assumption)))
  have hx25 : Ext w2 W5 := Ext.tr (by (repeat (first | exact Ext.rfl' _ | assumption | refine Ext.dr ?_ | refine Ext.drN ?_ _ | refine Ext.al ?_ _ | refine Ext.st ?_ (by simp) _ | refine Ext.tr ?_ (by assumption)))) hx45
  rw [← hW5]
  have HR5 := Lib.hid (fun w' (e : Ext W5 w') => (show w'.cell? ⟨w4.heap.size, 0, none⟩ = some (.int .i64 sv.st) ∧ w'.cell? ⟨w4.heap.size, 2, none⟩ = some (.slice B4 sv.n d4) from by
    have r := (e.block _ (row_lt hr5)).trans hr5
    exact ⟨(row_facts r 0 _ rfl).1, (row_facts r 2 _ rfl).1⟩))
  have HX25 := Lib.hid hx25
  have HB5 := Lib.hid (fun b (h : sv.b = some b) => And.intro (hb4 b h).1 ((hb4 b h).2.ext hx45))
  obtain ⟨k0, k2⟩ := HR5.out W5 (Ext.rfl' _)
  clear hW5 hr5 hx45 hx25 hx4 hr4 hb4 CS CL
  cases hfs : findS s [47] root index path with
  | inr n =>
    have hst : sv.st = n := by rw [HSV.out, hfs]; rfl
    have hn := find_code hfs
    rw [hst] at k0
    have hn1 : ¬ n = 200 := by omega
    have hn2 : (300 : Int) ≤ n := by omega
    clear hfs HSV HB5 HR5 hst hn
    go_wp2_with (go_at_call 14; refine (snNum_s _ _).mono ?_; rintro e w8 ⟨rfl, rfl⟩)
    go_ret
    exact ⟨rfl, HX2.out.tr (HX25.out.tr (by (repeat (first | exact Ext.rfl' _ | assumption | refine Ext.dr ?_ | refine Ext.drN ?_ _ | refine Ext.al ?_ _ | refine Ext.st ?_ (by simp) _ | refine Ext.tr ?_ (by assumption)))))⟩
  | inl nf =>
    obtain ⟨nm, f⟩ := nf
    obtain ⟨hlk, hpre⟩ := find_below hr1 hfs
    have hst : sv.st = 200 := by rw [HSV.out, hfs]; rfl
    have hsn : sv.n = f.b.length := by rw [HSV.out, hfs]; rfl
    have hsb : sv.b = some f.b := by rw [HSV.out, hfs]; rfl
    obtain ⟨_, hrb⟩ := HB5.out _ hsb
    rw [hst] at k0
    obtain ⟨bn, hbn⟩ : ∃ x, x = sv.n := ⟨_, rfl⟩
    have hfbl : f.b.length ≤ 1048576 := HOK.out.size _ (lk_mem hlk)
    rw [← hbn] at k2 HR5
    obtain ⟨sb, hsb2⟩ : ∃ x, x = str f.b := ⟨_, rfl⟩
    have HCB := Lib.hid (fun w' (e : Ext W5 w') => (show (convert 22 9 (.slice B4 bn d4)).run Tryz.prog w' = .ok (.string sb) w' from by
      rw [hsb2]
      exact conv_bs 22 9 5 Tryz.underlying22 Tryz.underlying5 Tryz.underlying9 (hrb.ext e) bn d4 (by rw [hbn, hsn])))
    have HSB2 := Lib.hid hsb2
    have hmem : nm ∈ listW s := by
      unfold listW
      rw [(List.mergeSort_perm _ _).mem_iff]
      exact List.mem_map.2 ⟨_, lk_mem hlk, rfl⟩
    obtain ⟨j0, hj0, hjn⟩ := List.getElem_of_mem hmem
    obtain ⟨NL, hNL⟩ : ∃ x, x = (listW s).length := ⟨_, rfl⟩
    have hNL2 : NL ≤ 1000 := by rw [hNL, list_len]; exact HOK.out.few
    have CLi := Lib.hid (fun w' (e : Ext w2 w') => wList_c w' _ 1 p s (HWL.out.ext e) HOK.out)
    have HJ := Lib.hid (show ∃ h : j0 < (listW s).length, (listW s)[j0] = nm from ⟨hj0, hjn⟩)
    have HNL := Lib.hid hNL
    have HPRE := Lib.hid hpre
    have HLK := Lib.hid hlk
    have hj1 : j0 < NL := by rw [hNL]; exact hj0
    obtain ⟨sR, hsR⟩ : ∃ x, x = str (root ++ [47]) := ⟨_, rfl⟩
    have HSR2 := Lib.hid hsR
    have hcat : ∀ w, (Op.stringOp .add sr ⟨#[47]⟩).run Tryz.prog w = .ok (.string sR) w := fun w => by
      rw [HSR.out, cat_ok _ _ (by rw [str_size]; show _ + 1 ≤ _; omega), hsR]; simp
    clear hfs HSV HB5 hst hsn hsb hrb hbn hfbl hsb2 hmem hj0 hjn hNL hpre hlk hsR hr1
    go_upto_region 10 with (first
      | (go_at_call 14; refine (snNum_s _ _).mono ?_; rintro e w8 ⟨rfl, rfl⟩)
      | (go_at_call 19; refine (CLi.out _ (HX25.out.tr (by (repeat (first | exact Ext.rfl' _ | assumption | refine Ext.dr ?_ | refine Ext.drN ?_ _ | refine Ext.al ?_ _ | refine Ext.st ?_ (by simp) _ | refine Ext.tr ?_ (by assumption)))))).mono ?_; rintro e w6 ⟨v, rfl, ⟨A6, c6, rfl, hr6, hc6⟩, hx6⟩; rw [← HNL.out]))
    have HX6 := Lib.hid (show Ext W5 w6 from by (repeat (first | exact Ext.rfl' _ | assumption | refine Ext.dr ?_ | refine Ext.drN ?_ _ | refine Ext.al ?_ _ | refine Ext.st ?_ (by simp) _ | refine Ext.tr ?_ (by assumption))))
    have HR6 := Lib.hid hr6
    have hc6' : NL ≤ c6 := by rw [HNL.out]; exact hc6
    clear hr6 hc6 hx6
    go_wp2
    go_loopw [17] (fun v17 wr => ∃ k : Nat, k ≤ j0 ∧ v17 = .int .i64 (k : Int) ∧ Ext w6 wr) (fun i _ => NL - (intOf i).toNat)
    case atStart => exact ⟨0, Nat.zero_le _, rfl, Ext.rfl' _⟩
    case round =>
      obtain ⟨k, hk, rfl, hx⟩ := hrel
      have hkn : k < (listW s).length := by have := HNL.out; omega
      obtain ⟨b6, f6, rfl, hb6, hS6⟩ := HR6.out.text (k := k) hkn
      obtain ⟨nk, hnk⟩ : ∃ x, x = (listW s)[k] := ⟨_, rfl⟩
      rw [← hnk] at hS6
      obtain ⟨fk, hfk⟩ := list_mem (s := s) (l := nk) (by rw [hnk]; exact List.getElem_mem _)
      have hnkl : nk.length ≤ 140737488355328 := by
        have := path_len (HOK.out.path _ (lk_mem hfk))
        dsimp only at this; omega
      obtain ⟨sk, hsk⟩ : ∃ x, x = str nk := ⟨_, rfl⟩
      rw [← hsk] at hS6
      have g0 := hS6.out wr hx
      have hk0 : (0 : Int) ≤ (k : Int) := by omega
      have hk1 : (k : Int) < (NL : Int) := by omega
      have hx26 : Ext w2 wr := HX25.out.tr (HX6.out.tr hx)
      have CW := wFile_some 11 wr _ 1 p s (HWL.out.ext hx26) HOK.out nk (by omega) fk hfk
      have CH := snHas_c nk (root ++ [47]) (by omega) (by rw [List.length_append]; simp; omega)
      rw [← hsk] at CW CH
      rw [← HSR2.out] at CH
      obtain ⟨bk, hbk⟩ : ∃ x, x = fk.b.length := ⟨_, rfl⟩
      rw [← hbk] at CW
      obtain ⟨sbk, hsbk⟩ : ∃ x, x = str fk.b := ⟨_, rfl⟩
      have CW := Lib.hid CW
      have CV := Lib.hid (fun (w' : World) (o' : Ow) (A : Option Addr) (cc : Nat) (h : Sl w' o' 11 1 A bk cc (bc fk.b)) => (fun x => (show (convert 22 9 (.slice A bk cc)).run Tryz.prog (w'.alloc x) = .ok (.string sbk) (w'.alloc x) from by
        rw [hsbk]
        exact conv_bs 22 9 5 Tryz.underlying22 Tryz.underlying5 Tryz.underlying9 (h.rd.ext (by (repeat (first | exact Ext.rfl' _ | assumption | refine Ext.dr ?_ | refine Ext.drN ?_ _ | refine Ext.al ?_ _ | refine Ext.st ?_ (by simp) _ | refine Ext.tr ?_ (by assumption))))) bk cc hbk)))
      have HKK := Lib.hid (And.intro (show ∃ h : k < (listW s).length, nk = (listW s)[k] from ⟨hkn, hnk⟩) (And.intro hfk (And.intro hsbk hsk)))
      have hx56 : Ext W5 wr := HX6.out.tr hx
      have HX56 := Lib.hid hx56
      have HXR := Lib.hid (HX2.out.tr hx26)
      have HS6 := hS6
      clear hkn hnk hfk hnkl hsk hbk hsbk hx26 hx56
      obtain ⟨bh, hbh⟩ : ∃ x, x = decide (root ++ [47] <+: nk) := ⟨_, rfl⟩
      rw [← hbh] at CH
      have CH := Lib.hid CH
      have HBH := Lib.hid hbh
      clear hbh
      cases bh with
      | false =>
        have hkj : k + 1 ≤ j0 := by
          obtain ⟨hj, hjn⟩ := HJ.out
          rcases Nat.lt_or_ge k j0 with h | h
          · omega
          · exfalso
            obtain rfl : k = j0 := by omega
            obtain ⟨_, h0⟩ := HKK.out.1
            have h1 := HBH.out
            rw [h0, hjn, decide_eq_true HPRE.out] at h1
            cases h1
        go_wp2_with (first
          | (go_at_call 20; refine CW.out.mono ?_; rintro e w7 ⟨v, o7, rfl, ⟨A7, c7, rfl, hs7, hz7⟩, st7⟩; have x7 : Ext wr w7 := st7.noExt; have cv1 := CV.out _ _ _ _ hs7; have cv2 := fun x => HCB.out (w7.alloc x) (HX56.out.tr (x7.tr (by (repeat (first | exact Ext.rfl' _ | assumption | refine Ext.dr ?_ | refine Ext.drN ?_ _ | refine Ext.al ?_ _ | refine Ext.st ?_ (by simp) _ | refine Ext.tr ?_ (by assumption)))))); obtain ⟨y0, y2⟩ := HR5.out (w7.alloc (.cells #[.string sk, .slice A7 bk c7, .int .i64 fk.mt] 24)) (HX56.out.tr (x7.tr (by (repeat (first | exact Ext.rfl' _ | assumption | refine Ext.dr ?_ | refine Ext.drN ?_ _ | refine Ext.al ?_ _ | refine Ext.st ?_ (by simp) _ | refine Ext.tr ?_ (by assumption)))))); have z6 := fun x => HS6.out (w7.alloc x) (hx.tr (x7.tr (by (repeat (first | exact Ext.rfl' _ | assumption | refine Ext.dr ?_ | refine Ext.drN ?_ _ | refine Ext.al ?_ _ | refine Ext.st ?_ (by simp) _ | refine Ext.tr ?_ (by assumption)))))); clear hs7 hz7 st7)
          | (go_at_call 14; refine (snNum_s _ _).mono ?_; rintro e w8 ⟨rfl, rfl⟩)
          | (go_at_call 21; refine (CH.out _).mono ?_; rintro e w9 ⟨rfl, rfl⟩))
        go_roundw
        case rel => exact ⟨k + 1, hkj, by go_num, hx.tr (by (repeat (first | exact Ext.rfl' _ | assumption | refine Ext.dr ?_ | refine Ext.drN ?_ _ | refine Ext.al ?_ _ | refine Ext.st ?_ (by simp) _ | refine Ext.tr ?_ (by assumption))))⟩
        case measure => simp [intOf]; omega
      | true =>
        by_cases hbb : fk.b = f.b
        · obtain rfl : sbk = sb := by rw [HKK.out.2.2.1, hbb, HSB2.out]
          clear hbb
          go_wp2_with (first
            | (go_at_call 20; refine CW.out.mono ?_; rintro e w7 ⟨v, o7, rfl, ⟨A7, c7, rfl, hs7, hz7⟩, st7⟩; have x7 : Ext wr w7 := st7.noExt; have cv1 := CV.out _ _ _ _ hs7; have cv2 := fun x => HCB.out (w7.alloc x) (HX56.out.tr (x7.tr (by (repeat (first | exact Ext.rfl' _ | assumption | refine Ext.dr ?_ | refine Ext.drN ?_ _ | refine Ext.al ?_ _ | refine Ext.st ?_ (by simp) _ | refine Ext.tr ?_ (by assumption)))))); obtain ⟨y0, y2⟩ := HR5.out (w7.alloc (.cells #[.string sk, .slice A7 bk c7, .int .i64 fk.mt] 24)) (HX56.out.tr (x7.tr (by (repeat (first | exact Ext.rfl' _ | assumption | refine Ext.dr ?_ | refine Ext.drN ?_ _ | refine Ext.al ?_ _ | refine Ext.st ?_ (by simp) _ | refine Ext.tr ?_ (by assumption)))))); have z6 := fun x => HS6.out (w7.alloc x) (hx.tr (x7.tr (by (repeat (first | exact Ext.rfl' _ | assumption | refine Ext.dr ?_ | refine Ext.drN ?_ _ | refine Ext.al ?_ _ | refine Ext.st ?_ (by simp) _ | refine Ext.tr ?_ (by assumption)))))); clear hs7 hz7 st7)
            | (go_at_call 14; refine (snNum_s _ _).mono ?_; rintro e w8 ⟨rfl, rfl⟩)
            | (go_at_call 21; refine (CH.out _).mono ?_; rintro e w9 ⟨rfl, rfl⟩))
          go_ret
          exact ⟨rfl, HXR.out.tr (by (repeat (first | exact Ext.rfl' _ | assumption | refine Ext.dr ?_ | refine Ext.drN ?_ _ | refine Ext.al ?_ _ | refine Ext.st ?_ (by simp) _ | refine Ext.tr ?_ (by assumption))))⟩
        · have hkj : k + 1 ≤ j0 := by
            obtain ⟨hj, hjn⟩ := HJ.out
            rcases Nat.lt_or_ge k j0 with h | h
            · omega
            · exfalso
              obtain rfl : k = j0 := by omega
              obtain ⟨_, h0⟩ := HKK.out.1
              have h1 := HKK.out.2.1
              rw [h0, hjn, HLK.out] at h1
              exact hbb (by rw [← Option.some.inj h1])
          have f1 : ¬ sbk.toList = sb.toList := by rw [HKK.out.2.2.1, HSB2.out, str_tl, str_tl]; exact hbb
          have f2 : (sbk.toList == sb.toList) = false := by rw [beq_eq_false_iff_ne]; exact f1
          clear hbb
          go_wp2_with (first
            | (go_at_call 20; refine CW.out.mono ?_; rintro e w7 ⟨v, o7, rfl, ⟨A7, c7, rfl, hs7, hz7⟩, st7⟩; have x7 : Ext wr w7 := st7.noExt; have cv1 := CV.out _ _ _ _ hs7; have cv2 := fun x => HCB.out (w7.alloc x) (HX56.out.tr (x7.tr (by (repeat (first | exact Ext.rfl' _ | assumption | refine Ext.dr ?_ | refine Ext.drN ?_ _ | refine Ext.al ?_ _ | refine Ext.st ?_ (by simp) _ | refine Ext.tr ?_ (by assumption)))))); obtain ⟨y0, y2⟩ := HR5.out (w7.alloc (.cells #[.string sk, .slice A7 bk c7, .int .i64 fk.mt] 24)) (HX56.out.tr (x7.tr (by (repeat (first | exact Ext.rfl' _ | assumption | refine Ext.dr ?_ | refine Ext.drN ?_ _ | refine Ext.al ?_ _ | refine Ext.st ?_ (by simp) _ | refine Ext.tr ?_ (by assumption)))))); have z6 := fun x => HS6.out (w7.alloc x) (hx.tr (x7.tr (by (repeat (first | exact Ext.rfl' _ | assumption | refine Ext.dr ?_ | refine Ext.drN ?_ _ | refine Ext.al ?_ _ | refine Ext.st ?_ (by simp) _ | refine Ext.tr ?_ (by assumption)))))); clear hs7 hz7 st7)
            | (go_at_call 14; refine (snNum_s _ _).mono ?_; rintro e w8 ⟨rfl, rfl⟩)
            | (go_at_call 21; refine (CH.out _).mono ?_; rintro e w9 ⟨rfl, rfl⟩))
          go_roundw
          case rel => exact ⟨k + 1, hkj, by go_num, hx.tr (by (repeat (first | exact Ext.rfl' _ | assumption | refine Ext.dr ?_ | refine Ext.drN ?_ _ | refine Ext.al ?_ _ | refine Ext.st ?_ (by simp) _ | refine Ext.tr ?_ (by assumption))))⟩
          case measure => simp [intOf]; omega
set_option maxRecDepth 100000 in
set_option maxHeartbeats 8000000 in
theorem staticBelow_none (W : World) (hM : Ev.MxE W) (a : Int) (ha : -9223372036854775808 ≤ a ∧ a ≤ 9223372036854775807) (A : Option Addr) (c : Nat) (xs : List OpW) (hA : RdOpW W A xs) (hxs : xs.length ≤ 140737488351232) (si sp : ByteArray) :
    Calls Tryz.prog 5 #[.int .i64 a, .slice A xs.length c, .string (str []), .string si, .string sp] W (Gives (.bool true) W) := by
  have CM := Lib.hid (made_c W a ha A c xs hA hxs)
  have HM := Lib.hid hM
  obtain ⟨N, hN⟩ : ∃ N, N = xs.length := ⟨_, rfl⟩
  rw [← hN] at CM ⊢
  rw [show str [] = ⟨#[]⟩ from rfl]
  clear hM hA hxs hN
  go_enter Tryz.func5, Tryz.ntmps5
  go_wp2_with (first
    | (go_at_call 16; refine CM.out.mono ?_; rintro e w1 ⟨p, r, s, o, rfl, hw, hok, hv, hst⟩; have hx1 : Ext W w1 := hst.toExt (fun _ _ => by simp); have CK := Lib.hid (snKnows_c w1 (mxExt HM.out hx1)))
    | (go_at_call 15; refine CK.out.mono ?_; rintro e w2 ⟨rfl, hx2⟩))
  go_ret
  exact ⟨rfl, hx1.tr (by (repeat (first | exact Ext.rfl' _ | assumption | refine Ext.dr ?_ | refine Ext.drN ?_ _ | refine Ext.al ?_ _ | refine Ext.st ?_ (by simp) _ | refine Ext.tr ?_ (by assumption))))⟩
set_option maxRecDepth 100000 in
set_option maxHeartbeats 8000000 in
theorem staticBelow_slash (W : World) (hM : Ev.MxE W) (a : Int) (ha : -9223372036854775808 ≤ a ∧ a ≤ 9223372036854775807) (A : Option Addr) (c : Nat) (xs : List OpW) (hA : RdOpW W A xs) (hxs : xs.length ≤ 140737488351232) (root : List UInt8) (hp2 : root.length ≤ 140737488351232) (si sp : ByteArray) (hr0 : root ≠ []) (hr1 : root.getLast? = some 47) :
    Calls Tryz.prog 5 #[.int .i64 a, .slice A xs.length c, .string (str root), .string si, .string sp] W (Gives (.bool true) W) := by
  have CM := Lib.hid (made_c W a ha A c xs hA hxs)
  have HM := Lib.hid hM
  obtain ⟨N, hN⟩ : ∃ N, N = xs.length := ⟨_, rfl⟩
  rw [← hN] at CM ⊢
  clear hM hA hxs hN
  have hrn : root.length = root.dropLast.length + 1 := by
    cases root with
    | nil => exact absurd rfl hr0
    | cons x y => simp
  obtain ⟨m, hm⟩ : ∃ m : Nat, m = root.length - 1 := ⟨_, rfl⟩
  have hml : m < root.length := by omega
  have hch : root[m]? = some 47 := by rw [List.getLast?_eq_getElem?, ← hm] at hr1; exact hr1
  obtain ⟨sr, hsr⟩ : ∃ x, x = str root := ⟨_, rfl⟩
  have hz : sr.size = root.length := by rw [hsr]; exact str_size root
  have e1 : ¬ sr.toList = [] := by rw [hsr, str_tl]; exact hr0
  have e2 : (sr.toList == []) = false := by rw [beq_eq_false_iff_ne]; exact e1
  obtain ⟨L, hL⟩ : ∃ L : Nat, L = root.length := ⟨_, rfl⟩
  have hw1 : wrap64 ((L : Int) - 1) = (m : Int) := by unfold wrap64; omega
  have hidx : ∀ w, (Instr.index 9 (.string sr) (.int .i64 (m : Int))).run Tryz.prog w = .ok (.int .u8 47) w := fun w => by
    rw [run_index_string w 9 sr .i64 (m : Int) Tryz.underlying9, dif_pos (by rw [hz]; omega)]
    subst hsr
    have : (str root)[((m : Int)).toNat]'(by rw [Int.toNat_natCast, str_size]; exact hml) = 47 := by
      simp only [Int.toNat_natCast]
      rw [str_get _ _ (by rw [str_size]; exact hml)]
      have := List.getElem?_eq_getElem hml
      rw [hch] at this
      exact (Option.some.inj this).symm
    rw [this]; rfl
  rw [← hL] at hz
  rw [← hsr]
  clear hsr hL hm hml hch hrn hr0 hr1
  go_enter Tryz.func5, Tryz.ntmps5
  go_wp2_with (first
    | (go_at_call 16; refine CM.out.mono ?_; rintro e w1 ⟨p, r, s, o, rfl, hw, hok, hv, hst⟩; have hx1 : Ext W w1 := hst.toExt (fun _ _ => by simp); have CK := Lib.hid (snKnows_c w1 (mxExt HM.out hx1)); clear hw hok hv hst)
    | (go_at_call 15; refine CK.out.mono ?_; rintro e w2 ⟨rfl, hx2⟩))
  go_ret
  exact ⟨rfl, hx1.tr (by (repeat (first | exact Ext.rfl' _ | assumption | refine Ext.dr ?_ | refine Ext.drN ?_ _ | refine Ext.al ?_ _ | refine Ext.st ?_ (by simp) _ | refine Ext.tr ?_ (by assumption))))⟩
theorem StaticBelow_c (W : World) (hM : Ev.MxE W) (hE : ErrR W) (a : Int) (ha : -9223372036854775808 ≤ a ∧ a ≤ 9223372036854775807) (A : Option Addr) (c : Nat) (xs : List OpW) (hA : RdOpW W A xs) (hxs : xs.length ≤ 140737488351232) (root index path : List UInt8) (hp2 : root.length ≤ 140737488351232) (hp3 : index.length ≤ 140737488351232) (hp4 : path.length ≤ 140737488351232) :
    Calls Tryz.prog 5 #[.int .i64 a, .slice A xs.length c, .string (str root), .string (str index), .string (str path)] W (Gives (.bool true) W) := by
  by_cases h0 : root = []
  · subst h0; exact staticBelow_none W hM a ha A c xs hA hxs _ _
  · by_cases h1 : root.getLast? = some 47
    · exact staticBelow_slash W hM a ha A c xs hA hxs root hp2 _ _ h0 h1
    · exact staticBelow_w W hM hE a ha A c xs hA hxs root index path hp2 hp3 hp4 h0 h1
end Go.Proofs.YtemdgilifnhdpaaGreatDoor
