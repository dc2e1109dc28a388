/-
The reference's Split; two lists of texts that are the same.
-/
import Derived.Test.YteklakibcboepaaDoorAsc10
set_option linter.unusedVariables false
set_option linter.unusedSimpArgs false
namespace Go.Proofs.YteklakibcboepaaDoor
open Go.RowKit

theorem splitL_at (sep : UInt8) (l : List UInt8) (f i : Nat) (hf : f ≤ i) (hi : l[i]? = some sep) (hn : ∀ j, f ≤ j → j < i → l[j]? ≠ some sep) :
    splitL sep (l.drop f) = (if trimL ((l.take i).drop f) = [] then [] else [trimL ((l.take i).drop f)]) ++ splitL sep (l.drop (i + 1)) := by
  have h := splitL_cut sep (l.drop f) (i - f) (by rw [List.getElem?_drop, Nat.add_sub_cancel' hf]; exact hi) (fun j hj => by rw [List.getElem?_drop]; exact hn _ (by omega) (by omega))
  rw [h, List.drop_take, List.drop_drop]
  rw [show f + (i - f + 1) = i + 1 from by omega]
theorem splitL_end (sep : UInt8) (l : List UInt8) (f : Nat) (hn : ∀ j, f ≤ j → j < l.length → l[j]? ≠ some sep) :
    splitL sep (l.drop f) = if trimL (l.drop f) = [] then [] else [trimL (l.drop f)] := by
  refine splitL_one sep _ (not_mem_of fun k => ?_)
  rw [List.getElem?_drop]
  rcases Nat.lt_or_ge (f + k) l.length with h | h
  · exact hn _ (by omega) h
  · rw [List.getElem?_eq_none h]; simp

/-- Where the loop stands. -/
def SplAt (sep : UInt8) (l : List UInt8) (acc : List (List UInt8)) (f i : Nat) : Prop :=
  (i ≤ l.length ∧ f ≤ i ∧ (∀ j, f ≤ j → j < i → l[j]? ≠ some sep) ∧ splitL sep l = acc ++ splitL sep (l.drop f)) ∨ (i = l.length + 1 ∧ splitL sep l = acc)

set_option maxRecDepth 100000 in
set_option maxHeartbeats 2000000 in
theorem rSplit_c (l : List UInt8) (sep : UInt8) (hs : l.length ≤ 1099511627776) (w : World) :
    Calls Tryd.prog 39 #[.string (str l), .int .u8 (sep.toNat : Int)] w (Ret (IsSlS (splitL sep l)) w) := by
  have hms : maxLen = 9223372036854775807 := rfl
  have htot := splitL_len sep l
  go_enter Tryd.func39, Tryd.ntmps39
  go_wp2
  go_loopw [5, 6, 7] (fun v f i wr => ∃ acc fn k, f = .int .i64 (fn : Nat) ∧ i = .int .i64 (k : Nat) ∧ SplAt sep l acc fn k ∧ wr.ownsRow w.heap.size 9 1 v acc.length (sc acc) ∧ Ext w wr) (fun _ _ i _ => l.length + 1 - (intOf i).toNat)
  case atStart => exact ⟨[], 0, 0, rfl, rfl, .inl ⟨Nat.zero_le _, Nat.le_refl _, fun j _ h => by omega, rfl⟩, World.ownsRow_nil _ _ _ _, Ext.rfl' _⟩
  case round =>
    obtain ⟨acc, f, k, rfl, rfl, hat, hown, hext⟩ := hrel
    rcases hat with ⟨hk, hf, hno, hinv⟩ | ⟨rfl, hinv⟩
    · have hacc : acc.length ≤ l.length + 1 := by
        have := congrArg List.length hinv; rw [List.length_append] at this; omega
      have HI := Lib.hid hinv
      have HN := Lib.hid hno
      have HO := Lib.hid hown
      clear hinv hown hno
      by_cases hlt : k < l.length
      · by_cases hc : l[k] = sep
        · have HS := Lib.hid (splitL_at sep l f k hf (by rw [List.getElem?_eq_getElem hlt, hc]) HN.out)
          have b1 : ((l[k].toNat : Int) != (sep.toNat : Int)) = false := by rw [hc]; simp
          clear hc
          by_cases hq : trimL ((l.take k).drop f) = []
          · have HQ := Lib.hid hq
            clear hq
            go_wp2_with (first
              | (go_at_call 36; refine (rTrim_c ((l.take k).drop f) (by simp only [List.length_drop, List.length_take]; omega) _).mono ?_; rintro e w2 ⟨rfl, hx2⟩; rw [HQ.out]))
            go_roundw
            case rel => exact ⟨acc, k + 1, k + 1, by try go_num, by try go_num, by have h1 := HS.out; rw [if_pos HQ.out] at h1; (exact .inl ⟨by omega, Nat.le_refl _, fun j h1 h2 => by omega, by rw [HI.out, h1]; simp⟩), own_ext HO.out (by (repeat (first | exact Ext.rfl' _ | assumption | refine Ext.dr ?_ | refine Ext.drN ?_ _ | refine Ext.al ?_ _ | refine Ext.st ?_ (by simp) _ | refine Ext.tr ?_ (by assumption)))), by (repeat (first | exact Ext.rfl' _ | assumption | refine Ext.dr ?_ | refine Ext.drN ?_ _ | refine Ext.al ?_ _ | refine Ext.st ?_ (by simp) _ | refine Ext.tr ?_ (by assumption)))⟩
            case measure => simp [intOf] <;> omega
          · obtain ⟨q, hq0⟩ : ∃ q, q = trimL ((l.take k).drop f) := ⟨_, rfl⟩
            have hqn : q.isEmpty = false := by
              cases hh : q with
              | nil => exact absurd (hq0.symm.trans hh) hq
              | cons _ _ => rfl
            have HQ := Lib.hid hq
            have HQ0 := Lib.hid hq0
            clear hq hq0
            go_wp2_with (first
              | (go_at_call 36; refine (rTrim_c ((l.take k).drop f) (by simp only [List.length_drop, List.length_take]; omega) _).mono ?_; rintro e w2 ⟨rfl, hx2⟩; rw [← HQ0.out])
              | (at_builtin; refine wpL_app slt_str (.tmp 33) (.tmp 35) rfl rfl rfl rfl (Ext.al (by (repeat (first | exact Ext.rfl' _ | assumption | refine Ext.dr ?_ | refine Ext.drN ?_ _ | refine Ext.al ?_ _ | refine Ext.st ?_ (by simp) _ | refine Ext.tr ?_ (by assumption)))) _) ((own_ext HO.out (by (repeat (first | exact Ext.rfl' _ | assumption | refine Ext.dr ?_ | refine Ext.drN ?_ _ | refine Ext.al ?_ _ | refine Ext.st ?_ (by simp) _ | refine Ext.tr ?_ (by assumption))))).alloc _) (by rfl) (new_cells w2 #[.string (str q)] 9) (by simp [Value.oneCell']) (by omega) (by simp only [maxLen]; omega) ?_; intro v' w' hown' hext' hgg; clear hgg))
            go_roundw
            case rel => exact ⟨acc ++ [q], k + 1, k + 1, by try go_num, by try go_num, by have h1 := HS.out; rw [if_neg HQ.out, ← HQ0.out] at h1; (exact .inl ⟨by omega, Nat.le_refl _, fun j h1 h2 => by omega, by rw [HI.out, h1]; simp⟩), by rw [sc_app, List.length_append]; exact hown', hext'⟩
            case measure => simp [intOf] <;> omega
        · have hb : l[k].toNat ≠ sep.toNat := fun h => hc (UInt8.toNat_inj.1 h)
          have b1 : ((l[k].toNat : Int) != (sep.toNat : Int)) = true := by rw [bne_iff_ne]; omega
          have HC := Lib.hid hc
          clear hc hb
          go_wp2
          go_roundw
          case rel =>
            refine ⟨acc, f, k + 1, rfl, by go_num, .inl ⟨by omega, by omega, fun j h1 h2 => ?_, HI.out⟩, HO.out, hext⟩
            rcases Nat.lt_or_ge j k with h | h
            · exact HN.out j h1 h
            · obtain rfl : j = k := by omega
              rw [List.getElem?_eq_getElem hlt]
              intro e
              exact HC.out (Option.some.inj e)
          case measure => simp [intOf]; omega
      · obtain rfl : k = l.length := by omega
        have HS := Lib.hid (splitL_end sep l f HN.out)
        by_cases hq : trimL (l.drop f) = []
        · have HQ := Lib.hid hq
          clear hq
          go_wp2_with (first
            | (go_at_call 36; refine (rTrim_c (l.drop f) (by simp only [List.length_drop, List.length_take]; omega) _).mono ?_; rintro e w2 ⟨rfl, hx2⟩; rw [HQ.out]))
          go_roundw
          case rel => exact ⟨acc, l.length + 1, l.length + 1, by try go_num, by try go_num, by have h1 := HS.out; rw [if_pos HQ.out] at h1; (exact .inr ⟨rfl, by rw [HI.out, h1]; try simp⟩), own_ext HO.out (by (repeat (first | exact Ext.rfl' _ | assumption | refine Ext.dr ?_ | refine Ext.drN ?_ _ | refine Ext.al ?_ _ | refine Ext.st ?_ (by simp) _ | refine Ext.tr ?_ (by assumption)))), by (repeat (first | exact Ext.rfl' _ | assumption | refine Ext.dr ?_ | refine Ext.drN ?_ _ | refine Ext.al ?_ _ | refine Ext.st ?_ (by simp) _ | refine Ext.tr ?_ (by assumption)))⟩
          case measure => simp [intOf] <;> omega
        · obtain ⟨q, hq0⟩ : ∃ q, q = trimL (l.drop f) := ⟨_, rfl⟩
          have hqn : q.isEmpty = false := by
            cases hh : q with
            | nil => exact absurd (hq0.symm.trans hh) hq
            | cons _ _ => rfl
          have HQ := Lib.hid hq
          have HQ0 := Lib.hid hq0
          clear hq hq0
          go_wp2_with (first
            | (go_at_call 36; refine (rTrim_c (l.drop f) (by simp only [List.length_drop, List.length_take]; omega) _).mono ?_; rintro e w2 ⟨rfl, hx2⟩; rw [← HQ0.out])
            | (at_builtin; refine wpL_app slt_str (.tmp 33) (.tmp 35) rfl rfl rfl rfl (Ext.al (by (repeat (first | exact Ext.rfl' _ | assumption | refine Ext.dr ?_ | refine Ext.drN ?_ _ | refine Ext.al ?_ _ | refine Ext.st ?_ (by simp) _ | refine Ext.tr ?_ (by assumption)))) _) ((own_ext HO.out (by (repeat (first | exact Ext.rfl' _ | assumption | refine Ext.dr ?_ | refine Ext.drN ?_ _ | refine Ext.al ?_ _ | refine Ext.st ?_ (by simp) _ | refine Ext.tr ?_ (by assumption))))).alloc _) (by rfl) (new_cells w2 #[.string (str q)] 9) (by simp [Value.oneCell']) (by omega) (by simp only [maxLen]; omega) ?_; intro v' w' hown' hext' hgg; clear hgg))
          go_roundw
          case rel => exact ⟨acc ++ [q], l.length + 1, l.length + 1, by try go_num, by try go_num, by have h1 := HS.out; rw [if_neg HQ.out, ← HQ0.out] at h1; (exact .inr ⟨rfl, by rw [HI.out, h1]; try simp⟩), by rw [sc_app, List.length_append]; exact hown', hext'⟩
          case measure => simp [intOf] <;> omega
    · have HI := Lib.hid hinv
      clear hinv
      obtain ⟨A', c', rfl, hcc, hcm, hr, _⟩ := Rd.of_own hown
      clear hown
      go_wp2
      go_ret
      exact Ret.is rfl (IsSlS.mk (by rw [HI.out]) (by rw [HI.out]; exact hr) hcm) hext
end Go.Proofs.YteklakibcboepaaDoor
