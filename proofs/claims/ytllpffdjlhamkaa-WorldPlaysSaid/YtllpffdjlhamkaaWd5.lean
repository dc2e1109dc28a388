/-
A world: Put, where it is refused.
-/
import Derived.Test.YtllpffdjlhamkaaWd4
import Derived.Test.YtllpffdjlhamkaaCln
set_option linter.unusedVariables false
set_option linter.unusedSimpArgs false
namespace Go.Proofs.Ytllpffdjlhamkaa
open Go.RowKit

theorem suf47 (l : List UInt8) : Lib.hasSuffix l [47] = (l.getLast? == some 47) := by
  unfold Lib.hasSuffix
  rw [Bool.eq_iff_iff, List.isSuffixOf_iff_suffix, beq_iff_eq]
  constructor
  · rintro ⟨a, rfl⟩; simp
  · intro h
    have h0 : l ≠ [] := by intro e; subst e; simp at h
    refine ⟨l.dropLast, ?_⟩
    rw [List.getLast?_eq_some_getLast h0] at h
    injection h with h
    rw [← h]; exact List.dropLast_concat_getLast h0
set_option maxRecDepth 100000 in
set_option maxHeartbeats 4000000 in
theorem wPut_bad (p mb : Nat) (l : List UInt8) (hl : l.length ≤ 140737488355328) (B : Option Addr) (n d : Nat) (hp : pathF l = false) (w : World) (hc : w.cell? ⟨p, 0, none⟩ = some (.map (some mb))) :
    Calls Try.prog 9 #[.pointer (some ⟨p, 0, none⟩), .string (str l), .slice B n d] w (Gives (.int .i64 1) w) := by
  have HC := Lib.hid (fun w' (e : Ext w w') => (e.cell (p := ⟨p, 0, none⟩) (lt_of_cell hc)).trans hc)
  have hl2 : (str l).size ≤ 9223372036854775807 := by rw [str_size]; omega
  have C := fun w => Clean_c l hl w
  obtain ⟨x, ec, hxe⟩ : ∃ x ec, cleanL l = (x, ec) := ⟨_, _, rfl⟩
  rw [hxe] at C
  dsimp only at C
  obtain ⟨sc, hsc⟩ : ∃ sc, sc = str x := ⟨_, rfl⟩
  obtain ⟨sl, hsl⟩ : ∃ sl, sl = str l := ⟨_, rfl⟩
  have S := fun w => Try.strings_HasSuffix (str l) ⟨#[47]⟩ w hl2
  rw [← hsc] at C
  rw [← hsl] at C S ⊢
  by_cases h1 : ec = 0
  · subst h1
    by_cases h2 : x = l
    · subst h2
      have hsuf : Lib.hasSuffix sl.data.toList [47] = true := by
        unfold pathF at hp
        rw [hxe] at hp
        rw [hsl, str_data, suf47]
        simpa using hp
      rw [hsuf] at S
      obtain rfl : sl = sc := hsl.trans hsc.symm
      have C := Lib.hid C
      have S := Lib.hid S
      clear hxe hsuf hsc hsl hp
      go_enter Try.func9, Try.ntmps9
      go_wp2_with (first
        | (go_at_call 26; refine (C.out _).mono ?_; rintro e w1 ⟨rfl, hx1⟩; have c1 := HC.out w1 hx1)
        | (go_at_call 27; refine (none_no p mb _ c1).mono ?_; rintro e w2 ⟨rfl, hx2⟩)
        | (go_at_call 28; refine (S.out _).mono ?_; rintro e w3 ⟨rfl, rfl⟩))
      go_ret
      exact ⟨rfl, by (repeat (first | exact Ext.rfl' _ | assumption | refine Ext.dr ?_ | refine Ext.drN ?_ _ | refine Ext.al ?_ _ | refine Ext.st ?_ (by simp) _ | refine Ext.tr ?_ (by assumption)))⟩
    · have hne : ¬ sc.toList = sl.toList := by
        rw [hsc, hsl, str_tl, str_tl]; exact h2
      have hne2 : (sc.toList == sl.toList) = false := by rw [beq_eq_false_iff_ne]; exact hne
      have C := Lib.hid C
      clear hxe S hsc hsl hp h2
      go_enter Try.func9, Try.ntmps9
      go_wp2_with (first
        | (go_at_call 26; refine (C.out _).mono ?_; rintro e w1 ⟨rfl, hx1⟩; have c1 := HC.out w1 hx1)
        | (go_at_call 27; refine (none_no p mb _ c1).mono ?_; rintro e w2 ⟨rfl, hx2⟩)
        | (go_at_call 28; refine (S.out _).mono ?_; rintro e w3 ⟨rfl, rfl⟩))
      trace_state
      go_ret
      exact ⟨rfl, by (repeat (first | exact Ext.rfl' _ | assumption | refine Ext.dr ?_ | refine Ext.drN ?_ _ | refine Ext.al ?_ _ | refine Ext.st ?_ (by simp) _ | refine Ext.tr ?_ (by assumption)))⟩
  · have he : (ec != 0) = true := by rw [bne_iff_ne]; exact h1
    have he2 : (ec == 0) = false := by rw [beq_eq_false_iff_ne]; exact h1
    have C := Lib.hid C
    clear hxe S hsc hsl hp
    go_enter Try.func9, Try.ntmps9
    go_wp2_with (first
      | (go_at_call 26; refine (C.out _).mono ?_; rintro e w1 ⟨rfl, hx1⟩; have c1 := HC.out w1 hx1)
      | (go_at_call 27; refine (none_no p mb _ c1).mono ?_; rintro e w2 ⟨rfl, hx2⟩)
      | (go_at_call 28; refine (S.out _).mono ?_; rintro e w3 ⟨rfl, rfl⟩))
    go_ret
    exact ⟨rfl, by (repeat (first | exact Ext.rfl' _ | assumption | refine Ext.dr ?_ | refine Ext.drN ?_ _ | refine Ext.al ?_ _ | refine Ext.st ?_ (by simp) _ | refine Ext.tr ?_ (by assumption)))⟩
end Go.Proofs.Ytllpffdjlhamkaa
