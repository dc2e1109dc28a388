/-
A world: Folder.
-/
import Derived.Test.YtllpffdjlhamkaaWd8
set_option linter.unusedVariables false
set_option linter.unusedSimpArgs false
namespace Go.Proofs.Ytllpffdjlhamkaa
open Go.RowKit

theorem pre47 (l : List UInt8) : Lib.hasPrefix l [47] = decide (l.head? = some 47) := by
  unfold Lib.hasPrefix
  cases l with
  | nil => rfl
  | cons a r =>
    rw [Bool.eq_iff_iff]
    simp [List.isPrefixOf]
    exact ⟨fun h => h.symm, fun h => h.symm⟩
theorem hasPre_iff (s p : List UInt8) : Lib.hasPrefix s p = decide (p <+: s) := by
  unfold Lib.hasPrefix; rw [Bool.eq_iff_iff, List.isPrefixOf_iff_prefix, decide_eq_true_eq]
theorem folder_no {s : Wrl} {l : List UInt8} (h : Lib.hasPrefix l [47] = false ∨ Lib.hasSuffix l [47] = false) : folderW s l = false := by
  unfold folderW
  rw [pre47, suf47] at h
  rcases h with h | h
  · rw [h]; rfl
  · have : decide (l.getLast? = some 47) = false := by rw [decide_eq_false_iff_not]; intro e; rw [e] at h; simp at h
    rw [this]; simp
theorem folder_in {s : Wrl} {l : List UInt8} (h1 : Lib.hasPrefix l [47] = true) (h2 : Lib.hasSuffix l [47] = true) : folderW s l = (decide (l = [47]) || s.L.any fun x => decide (l <+: x.1)) := by
  unfold folderW
  rw [pre47] at h1
  rw [suf47] at h2
  have : decide (l.getLast? = some 47) = true := by simpa using h2
  rw [h1, this]; rfl
set_option maxRecDepth 100000 in
set_option maxHeartbeats 4000000 in
theorem wFolder_c (w : World) (o : Ow) (k p : Nat) (s : Wrl) (h : WdAt w o k p s) (l : List UInt8) (hl : l.length ≤ 140737488355328) :
    Calls Try.prog 12 #[.pointer (some ⟨p, 0, none⟩), .string (str l)] w (Gives (.bool (folderW s l)) w) := by
  obtain ⟨mb, pl, hh, hm, hlt, hi, hs⟩ := h.row
  have c0 := hh.c0
  have HH := Lib.hid (fun w' (e : Ext w w') => hh.ext e)
  have HI := Lib.hid (fun w' (e : Ext w w') => World.isM.same hi (e.block mb hlt))
  have hl2 : (str l).size ≤ 9223372036854775807 := by rw [str_size]; omega
  have SP := fun w => Try.strings_HasPrefix (str l) ⟨#[47]⟩ w
  have SS := fun w => Try.strings_HasSuffix (str l) ⟨#[47]⟩ w hl2
  rw [str_data] at SP SS
  cases hp : Lib.hasPrefix l [47] with
  | false =>
    rw [hp] at SP
    have SP := Lib.hid SP
    have SS := Lib.hid SS
    rw [folder_no (.inl hp)]
    clear hp
    go_enter Try.func12, Try.ntmps12
    go_wp2_with (first
      | (go_at_call 27; refine (none_no p mb _ c0).mono ?_; rintro e w1 ⟨rfl, hx1⟩; have HX1 := Lib.hid hx1; have u0 := (HH.out w1 hx1).c0; have hi1 := HI.out w1 hx1)
      | (go_at_call_of 30 (Value.string ⟨#[47]⟩); refine (SP.out _).mono ?_; rintro e w2 ⟨rfl, rfl⟩)
      | (go_at_call 28; refine (SS.out _).mono ?_; rintro e w3 ⟨rfl, rfl⟩)
      | (at_range; refine wpL_mrange rfl _ 36 rfl 67 keyedS mapU rfl hi1 ?_; intro w4 hr4 hg4 hs4))
    go_ret
    exact ⟨rfl, by (repeat (first | exact Ext.rfl' _ | assumption | refine Ext.dr ?_ | refine Ext.drN ?_ _ | refine Ext.al ?_ _ | refine Ext.st ?_ (by simp) _ | refine Ext.tr ?_ (by assumption)))⟩
  | true =>
    rw [hp] at SP
    cases hq : Lib.hasSuffix l [47] with
    | false =>
      rw [hq] at SS
      have SP := Lib.hid SP
      have SS := Lib.hid SS
      rw [folder_no (.inr hq)]
      clear hp hq
      go_enter Try.func12, Try.ntmps12
      go_wp2_with (first
        | (go_at_call 27; refine (none_no p mb _ c0).mono ?_; rintro e w1 ⟨rfl, hx1⟩; have HX1 := Lib.hid hx1; have u0 := (HH.out w1 hx1).c0; have hi1 := HI.out w1 hx1)
        | (go_at_call_of 30 (Value.string ⟨#[47]⟩); refine (SP.out _).mono ?_; rintro e w2 ⟨rfl, rfl⟩)
        | (go_at_call 28; refine (SS.out _).mono ?_; rintro e w3 ⟨rfl, rfl⟩)
        | (at_range; refine wpL_mrange rfl _ 36 rfl 67 keyedS mapU rfl hi1 ?_; intro w4 hr4 hg4 hs4))
      go_ret
      exact ⟨rfl, by (repeat (first | exact Ext.rfl' _ | assumption | refine Ext.dr ?_ | refine Ext.drN ?_ _ | refine Ext.al ?_ _ | refine Ext.st ?_ (by simp) _ | refine Ext.tr ?_ (by assumption)))⟩
    | true =>
      rw [hq] at SS
      have SP := Lib.hid SP
      have SS := Lib.hid SS
      rw [folder_in hp hq]
      clear hp hq
      obtain ⟨R, hR⟩ : ∃ R, R = (decide (l = [47]) || s.L.any fun x => decide (l <+: x.1)) := ⟨_, rfl⟩
      rw [← hR]
      have HR := Lib.hid hR
      clear hR
      go_enter Try.func12, Try.ntmps12
      go_wp2_with (first
        | (go_at_call 27; refine (none_no p mb _ c0).mono ?_; rintro e w1 ⟨rfl, hx1⟩; have HX1 := Lib.hid hx1; have u0 := (HH.out w1 hx1).c0; have hi1 := HI.out w1 hx1)
        | (go_at_call_of 30 (Value.string ⟨#[47]⟩); refine (SP.out _).mono ?_; rintro e w2 ⟨rfl, rfl⟩)
        | (go_at_call 28; refine (SS.out _).mono ?_; rintro e w3 ⟨rfl, rfl⟩)
        | (at_range; refine wpL_mrange rfl _ 36 rfl 67 keyedS mapU rfl hi1 ?_; intro w4 hr4 hg4 hs4))
      have hx4 : Ext w w4 := HX1.out.gr hg4 (fun _ h => by cases h)
      have hlt3 : w.heap.size ≤ w3.heap.size := HX1.out.size
      obtain ⟨r, hr⟩ : ∃ r, r = w3.heap.size := ⟨_, rfl⟩
      rw [← hr] at hr4 hlt3 ⊢
      clear hr hg4 hs4
      have HX4 := Lib.hid hx4
      have HR4 := Lib.hid hr4
      clear hr4 hx4
      go_frame
      go_loopw [5] (fun _ wr => ∃ left cnt, World.rgM wr Try.prog 9 mb r (enc pl s.L) left cnt ∧ Ext w wr ∧ ∀ x ∈ s.L, left x.1 = false → ¬ l <+: x.1) (fun _ wr => wr.rangeLeft mb r)
      case atStart => exact ⟨_, _, HR4.out, HX4.out, fun x hx hl => by
        exfalso
        have : (lkM s.L x.1).isSome = true := by
          cases e : lkM s.L x.1 with
          | none => exact absurd rfl (lk_none_mem e x hx)
          | some _ => rfl
        rw [lk_enc] at hl
        simp [this] at hl⟩
      case round =>
        obtain ⟨left, cnt, hrg, hext, hno⟩ := hrel
        have HNO := Lib.hid hno
        clear hno
        go_wp2_with (first
          | (at_next; refine wpL_mnext rfl _ rfl keyedS Try.underlying9 rfl hrg ?_ ?_))
        · intro hz hall
          have hd : R = decide (l = [47]) := by
            rw [HR.out]
            have : (s.L.any fun x => decide (l <+: x.1)) = false := by
              rw [List.any_eq_false]
              intro x hx
              have := HNO.out x hx (hall x.1)
              simpa using this
            rw [this]; simp
          by_cases h47 : l = [47]
          · obtain rfl : R = true := by rw [hd]; simp [h47]
            have e47 : (str l) = ⟨#[47]⟩ := by rw [h47]; rfl
            clear hd h47 hz hall
            simp only [e47]
            go_wp2
            go_ret
            exact ⟨rfl, hext⟩
          · obtain rfl : R = false := by rw [hd]; simp [h47]
            have e1 : ¬ (str l).toList = [47] := by rw [str_tl]; exact h47
            obtain ⟨sl, hsl⟩ : ∃ sl, sl = str l := ⟨_, rfl⟩
            rw [← hsl] at e1 ⊢
            have e2 : (sl.toList == [47]) = false := by rw [beq_eq_false_iff_ne]; exact e1
            have e3 : ¬ sl.toList = (⟨#[47]⟩ : ByteArray).toList := by rw [show (⟨#[47]⟩ : ByteArray).toList = [47] from by rw [ByteArray.toList_eq]]; exact e1
            have e4 : (sl.toList == (⟨#[47]⟩ : ByteArray).toList) = false := by rw [beq_eq_false_iff_ne]; exact e3
            clear hd h47 hz hall hsl
            go_wp2
            go_ret
            exact ⟨rfl, hext⟩
        · intro l1 v w' cnt' hlf hlk hlm1 hrg' hlt' hg' hsz' hen
          have C := fun w => Try.strings_HasPrefix (str l1) (str l) w
          rw [str_data, str_data] at C
          have hmem : ∃ f, (l1, f) ∈ s.L := by
            rw [lk_enc] at hlk
            cases e : lkM s.L l1 with
            | none => rw [e] at hlk; cases hlk
            | some f => exact ⟨f, lk_mem e⟩
          have hx' : Ext w w' := hext.gr hg' (fun k h => by injection h with h; omega)
          have hen : (Instr.entry (.pointer (some ⟨r, 0, none⟩))).run Try.prog w' = .ok (.tuple #[.string (str l1), v]) w' := hen
          rw [show (⟨l1.toArray⟩ : ByteArray) = str l1 from rfl]
          have HLK := Lib.hid hlk
          clear hlk
          cases hpre : Lib.hasPrefix l1 l with
          | true =>
            rw [hpre] at C
            have hd : R = true := by
              rw [HR.out]
              obtain ⟨f, hf⟩ := hmem
              have : (s.L.any fun x => decide (l <+: x.1)) = true := by
                rw [List.any_eq_true]
                rw [hasPre_iff] at hpre
                exact ⟨_, hf, hpre⟩
              rw [this]; simp
            clear HR
            subst hd
            have C := Lib.hid C
            clear hpre
            go_wp2_with (go_at_call 30; refine (C.out _).mono ?_; rintro e w6 ⟨rfl, rfl⟩)
            go_ret
            exact ⟨rfl, hx'⟩
          | false =>
            rw [hpre] at C
            have C := Lib.hid C
            have HP := Lib.hid hpre
            clear hpre
            have HRG := Lib.hid hrg
            clear hrg
            go_wp2_with (go_at_call 30; refine (C.out _).mono ?_; rintro e w6 ⟨rfl, rfl⟩)
            go_roundw
            case rel => exact ⟨_, _, hrg', hx', fun x hx hl => by
              by_cases e : x.1 = l1
              · have := HP.out
                rw [hasPre_iff] at this
                rw [e]; simpa using this
              · exact HNO.out x hx (by simpa [e] using hl)⟩
            case measure => rw [hrg'.left_eq, HRG.out.left_eq]; omega
end Go.Proofs.Ytllpffdjlhamkaa
