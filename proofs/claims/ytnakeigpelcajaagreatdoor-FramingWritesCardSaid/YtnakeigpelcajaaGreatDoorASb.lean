/-
Parts of a list: plain words, and the program's Split.
-/
import Derived.Test.YtnakeigpelcajaaGreatDoorASa
import Derived.Lib.IndexLaws
set_option linter.unusedVariables false
set_option linter.unusedSimpArgs false
/-
Parts of a list: plain words, and the program's Split.
-/
section
namespace Go.Proofs.YtnakeigpelcajaaGreatDoor
open Go.RowKit

/-- The cells of a list of texts. -/
def sc (ps : List (List UInt8)) : List Value := ps.map fun p => .string (str p)
@[simp] theorem sc_len (ps : List (List UInt8)) : (sc ps).length = ps.length := by simp [sc]
theorem sc_at (ps : List (List UInt8)) (k : Nat) (h : k < ps.length) : (sc ps)[k]? = some (.string (str ps[k])) := by simp [sc, h]
theorem sc_app (a b : List (List UInt8)) : sc (a ++ b) = sc a ++ sc b := by simp [sc]
/-- A slice of texts that reads as a list. -/
def IsSlS (ps : List (List UInt8)) (v : Value) (w : World) : Prop := ∃ A c, v = .slice A ps.length c ∧ Rd w A (sc ps) ∧ c ≤ maxLen
theorem IsSlS.mk {ps : List (List UInt8)} {w : World} {A : Option Addr} {n c : Nat} (hn : n = ps.length) (h : Rd w A (sc ps)) (hc : c ≤ maxLen) : IsSlS ps (.slice A n c) w := ⟨A, c, by rw [hn], h, hc⟩
theorem slt_str : SlT Tryz.prog 57 9 (.string ⟨#[]⟩) 1 16 := ⟨Tryz.underlying57, by kernel_rfl, rfl, by omega⟩

/-- A text, cut at each separator. -/
def pieces (sep : UInt8) : List UInt8 → List (List UInt8)
  | [] => [[]]
  | b :: t => if b = sep then [] :: pieces sep t else match pieces sep t with
    | [] => [[b]]
    | p :: ps => (b :: p) :: ps
def keepS (ps : List (List UInt8)) : List (List UInt8) := (ps.map trimL).filter fun p => !p.isEmpty
def splitL (sep : UInt8) (l : List UInt8) : List (List UInt8) := keepS (pieces sep l)
theorem pieces_len (sep : UInt8) : ∀ l, (pieces sep l).length ≤ l.length + 1
  | [] => by simp [pieces]
  | b :: t => by
    have ih := pieces_len sep t
    unfold pieces
    split
    · simp only [List.length_cons]; omega
    · split
      · simp only [List.length_cons, List.length_nil]; omega
      · rename_i h; rw [h] at ih; simp only [List.length_cons] at *; omega
theorem keepS_len (ps : List (List UInt8)) : (keepS ps).length ≤ ps.length := by
  unfold keepS; exact Nat.le_trans (List.length_filter_le _ _) (by simp)
theorem splitL_len (sep : UInt8) (l : List UInt8) : (splitL sep l).length ≤ l.length + 1 := Nat.le_trans (keepS_len _) (pieces_len sep l)
theorem pieces_one (sep : UInt8) : ∀ l : List UInt8, sep ∉ l → pieces sep l = [l]
  | [], _ => rfl
  | b :: t, h => by
    simp only [List.mem_cons, not_or] at h
    unfold pieces
    rw [if_neg (fun e => h.1 e.symm), pieces_one sep t h.2]
theorem pieces_cut (sep : UInt8) : ∀ (l r : List UInt8), sep ∉ l → pieces sep (l ++ sep :: r) = l :: pieces sep r
  | [], r, _ => by simp [pieces]
  | b :: t, r, h => by
    simp only [List.mem_cons, not_or] at h
    rw [List.cons_append, pieces, if_neg (fun e => h.1 e.symm), pieces_cut sep t r h.2]
theorem keepS_cons (p : List UInt8) (ps : List (List UInt8)) : keepS (p :: ps) = (if trimL p = [] then [] else [trimL p]) ++ keepS ps := by
  unfold keepS
  rw [List.map_cons, List.filter_cons]
  by_cases h : trimL p = []
  · simp [h]
  · rw [if_neg h, if_pos (by cases hh : trimL p <;> simp_all)]; rfl
theorem trim_nil : trimL [] = [] := by rw [trimL_eq]; rfl
theorem splitL_nil (sep : UInt8) : splitL sep [] = [] := by unfold splitL pieces; rw [keepS_cons, if_pos trim_nil]; rfl
theorem splitL_one (sep : UInt8) (l : List UInt8) (h : sep ∉ l) : splitL sep l = if trimL l = [] then [] else [trimL l] := by
  unfold splitL; rw [pieces_one sep l h, keepS_cons]; simp [keepS]
theorem splitL_cut (sep : UInt8) (l : List UInt8) (k : Nat) (hk : l[k]? = some sep) (hn : ∀ j, j < k → l[j]? ≠ some sep) :
    splitL sep l = (if trimL (l.take k) = [] then [] else [trimL (l.take k)]) ++ splitL sep (l.drop (k + 1)) := by
  obtain ⟨hl, hg⟩ := List.getElem?_eq_some_iff.1 hk
  have e : l = l.take k ++ sep :: l.drop (k + 1) := by
    conv => lhs; rw [← List.take_append_drop k l, List.drop_eq_getElem_cons hl, hg]
  have hm : sep ∉ l.take k := by
    intro h
    obtain ⟨j, hj, hj2⟩ := List.getElem_of_mem h
    simp only [List.length_take] at hj
    refine hn j (by omega) ?_
    rw [List.getElem_take] at hj2
    rw [List.getElem?_eq_getElem (by omega), hj2]
  unfold splitL
  conv => lhs; rw [e]
  rw [pieces_cut sep _ _ hm, keepS_cons]
theorem not_mem_of {l : List UInt8} {c : UInt8} (h : ∀ k : Nat, l[k]? ≠ some c) : c ∉ l := by
  intro hm
  obtain ⟨j, hj, hj2⟩ := List.getElem_of_mem hm
  exact h j (by rw [List.getElem?_eq_getElem hj, hj2])
theorem trim_len (l : List UInt8) : (trimL l).length ≤ l.length := by
  rw [trimL_eq, List.length_reverse]
  refine Nat.le_trans (List.dropWhile_suffix _).length_le ?_
  rw [List.length_reverse]
  exact (List.dropWhile_suffix _).length_le
theorem idx_cases (l : List UInt8) (c : UInt8) : (Lib.indexByte l c = -1 ∧ c ∉ l) ∨ ∃ k : Nat, Lib.indexByte l c = (k : Int) ∧ k < l.length ∧ l[k]? = some c ∧ ∀ j, j < k → l[j]? ≠ some c := by
  have h := Lib.indexByte_ge l c
  by_cases h0 : Lib.indexByte l c = -1
  · exact .inl ⟨h0, not_mem_of (Lib.indexByte_none h0)⟩
  · obtain ⟨k, hk⟩ : ∃ k : Nat, Lib.indexByte l c = (k : Int) := ⟨(Lib.indexByte l c).toNat, by omega⟩
    have := Lib.indexByte_some hk
    exact .inr ⟨k, hk, (List.getElem?_eq_some_iff.1 this.1).1, this.1, this.2⟩

set_option maxRecDepth 100000 in
set_option maxHeartbeats 2000000 in
theorem Split_c (l : List UInt8) (sep : UInt8) (hs : l.length ≤ 1099511627776) (w : World) :
    Calls Tryz.prog 42 #[.string (str l), .int .u8 (sep.toNat : Int)] w (Ret (IsSlS (splitL sep l)) w) := by
  have hms : maxLen = 9223372036854775807 := rfl
  have htot := splitL_len sep l
  go_enter Tryz.func42, Tryz.ntmps42
  go_wp2
  go_loopw [0, 5] (fun s v wr => ∃ acc l', s = .string (str l') ∧ splitL sep l = acc ++ splitL sep l' ∧ l'.length ≤ l.length ∧ wr.ownsRow w.heap.size 9 1 v acc.length (sc acc) ∧ Ext w wr) (fun s _ _ => strLen s)
  case atStart => exact ⟨[], l, rfl, rfl, Nat.le_refl _, World.ownsRow_nil _ _ _ _, Ext.rfl' _⟩
  case round =>
    obtain ⟨acc, l', rfl, hinv, hll, hown, hext⟩ := hrel
    have hacc : acc.length ≤ l.length + 1 := by
      have := congrArg List.length hinv; rw [List.length_append] at this; omega
    have HI := Lib.hid hinv
    clear hinv
    by_cases h0 : 0 < l'.length
    · have HO := Lib.hid hown
      clear hown
      have hu : (sep.toNat : Int).toNat.toUInt8 = sep := by simp
      rcases idx_cases l' sep with ⟨hi, hn⟩ | ⟨k, hi, hk, hk1, hk2⟩
      · have HS := Lib.hid (splitL_one sep l' hn)
        have HX := Lib.hid hi
        clear hi hn
        by_cases hq : trimL l' = []
        · have HQ := Lib.hid hq
          clear hq
          skip
          go_wp2_with (first
            | (go_at_call 44; refine (Tryz.strings_IndexByte _ _ _).mono ?_; rintro e w1 ⟨rfl, rfl⟩; rw [str_data, hu, HX.out])
            | (go_at_call 22; refine (Trim_c l' (by first | omega | (rw [List.length_take]; omega)) _).mono ?_; rintro e w2 ⟨rfl, hx2⟩; rw [HQ.out]))
          go_roundw
          case rel => exact ⟨acc, [], by try rfl, by rw [HI.out, HS.out, if_pos HQ.out]; simp [splitL_nil], by simp only [List.length_drop, List.length_nil]; omega, own_ext HO.out (by (repeat (first | exact Ext.rfl' _ | assumption | refine Ext.dr ?_ | refine Ext.drN ?_ _ | refine Ext.al ?_ _ | refine Ext.st ?_ (by simp) _ | refine Ext.tr ?_ (by assumption)))), by (repeat (first | exact Ext.rfl' _ | assumption | refine Ext.dr ?_ | refine Ext.drN ?_ _ | refine Ext.al ?_ _ | refine Ext.st ?_ (by simp) _ | refine Ext.tr ?_ (by assumption)))⟩
          case measure => first | (simp only [strLen, str_size]; exact h0) | (simp [strLen]; omega)
        · obtain ⟨q, hq0⟩ : ∃ q, q = trimL l' := ⟨_, rfl⟩
          have hqn : q.isEmpty = false := by
            cases hh : q with
            | nil => exact absurd (hq0.symm.trans hh) hq
            | cons _ _ => rfl
          have HQ := Lib.hid hq
          have HQ0 := Lib.hid hq0
          clear hq hq0
          skip
          go_wp2_with (first
            | (go_at_call 44; refine (Tryz.strings_IndexByte _ _ _).mono ?_; rintro e w1 ⟨rfl, rfl⟩; rw [str_data, hu, HX.out])
            | (go_at_call 22; refine (Trim_c l' (by first | omega | (rw [List.length_take]; omega)) _).mono ?_; rintro e w2 ⟨rfl, hx2⟩; rw [← HQ0.out])
            | (at_builtin; refine wpL_app slt_str (.tmp 28) (.tmp 30) rfl rfl rfl rfl (Ext.al (by (repeat (first | exact Ext.rfl' _ | assumption | refine Ext.dr ?_ | refine Ext.drN ?_ _ | refine Ext.al ?_ _ | refine Ext.st ?_ (by simp) _ | refine Ext.tr ?_ (by assumption)))) _) ((own_ext HO.out (by (repeat (first | exact Ext.rfl' _ | assumption | refine Ext.dr ?_ | refine Ext.drN ?_ _ | refine Ext.al ?_ _ | refine Ext.st ?_ (by simp) _ | refine Ext.tr ?_ (by assumption))))).alloc _) (by rfl) (new_cells w2 #[.string (str q)] 9) (by simp [Value.oneCell']) (by omega) (by simp only [maxLen]; omega) ?_; intro v' w' hown' hext' hgg; clear hgg))
          go_roundw
          case rel => exact ⟨acc ++ [q], [], by try rfl, by rw [HI.out, HS.out, if_neg HQ.out, ← HQ0.out]; simp [splitL_nil], by simp only [List.length_drop, List.length_nil]; omega, by rw [sc_app, List.length_append]; exact hown', hext'⟩
          case measure => first | (simp only [strLen, str_size]; exact h0) | (simp [strLen]; omega)
      · have HS := Lib.hid (splitL_cut sep l' k hk1 hk2)
        have HX := Lib.hid hi
        clear hi hk1 hk2
        by_cases hq : trimL (l'.take k) = []
        · have HQ := Lib.hid hq
          clear hq
          (go_wp2_with (go_at_call 44; refine (Tryz.strings_IndexByte _ _ _).mono ?_; rintro e w1 ⟨rfl, rfl⟩; rw [str_data, hu, HX.out]); go_quiet (fail))
          go_wp2_with (first
            | (go_at_call 44; refine (Tryz.strings_IndexByte _ _ _).mono ?_; rintro e w1 ⟨rfl, rfl⟩; rw [str_data, hu, HX.out])
            | (go_at_call 22; refine (Trim_c (l'.take k) (by first | omega | (rw [List.length_take]; omega)) _).mono ?_; rintro e w2 ⟨rfl, hx2⟩; rw [HQ.out]))
          go_roundw
          case rel => exact ⟨acc, l'.drop (k + 1), by try rfl, by rw [HI.out, HS.out, if_pos HQ.out]; simp [splitL_nil], by simp only [List.length_drop, List.length_nil]; omega, own_ext HO.out (by (repeat (first | exact Ext.rfl' _ | assumption | refine Ext.dr ?_ | refine Ext.drN ?_ _ | refine Ext.al ?_ _ | refine Ext.st ?_ (by simp) _ | refine Ext.tr ?_ (by assumption)))), by (repeat (first | exact Ext.rfl' _ | assumption | refine Ext.dr ?_ | refine Ext.drN ?_ _ | refine Ext.al ?_ _ | refine Ext.st ?_ (by simp) _ | refine Ext.tr ?_ (by assumption)))⟩
          case measure => first | (simp only [strLen, str_size]; exact h0) | (simp [strLen]; omega)
        · obtain ⟨q, hq0⟩ : ∃ q, q = trimL (l'.take k) := ⟨_, rfl⟩
          have hqn : q.isEmpty = false := by
            cases hh : q with
            | nil => exact absurd (hq0.symm.trans hh) hq
            | cons _ _ => rfl
          have HQ := Lib.hid hq
          have HQ0 := Lib.hid hq0
          clear hq hq0
          (go_wp2_with (go_at_call 44; refine (Tryz.strings_IndexByte _ _ _).mono ?_; rintro e w1 ⟨rfl, rfl⟩; rw [str_data, hu, HX.out]); go_quiet (fail))
          go_wp2_with (first
            | (go_at_call 44; refine (Tryz.strings_IndexByte _ _ _).mono ?_; rintro e w1 ⟨rfl, rfl⟩; rw [str_data, hu, HX.out])
            | (go_at_call 22; refine (Trim_c (l'.take k) (by first | omega | (rw [List.length_take]; omega)) _).mono ?_; rintro e w2 ⟨rfl, hx2⟩; rw [← HQ0.out])
            | (at_builtin; refine wpL_app slt_str (.tmp 28) (.tmp 30) rfl rfl rfl rfl (Ext.al (by (repeat (first | exact Ext.rfl' _ | assumption | refine Ext.dr ?_ | refine Ext.drN ?_ _ | refine Ext.al ?_ _ | refine Ext.st ?_ (by simp) _ | refine Ext.tr ?_ (by assumption)))) _) ((own_ext HO.out (by (repeat (first | exact Ext.rfl' _ | assumption | refine Ext.dr ?_ | refine Ext.drN ?_ _ | refine Ext.al ?_ _ | refine Ext.st ?_ (by simp) _ | refine Ext.tr ?_ (by assumption))))).alloc _) (by rfl) (new_cells w2 #[.string (str q)] 9) (by simp [Value.oneCell']) (by omega) (by simp only [maxLen]; omega) ?_; intro v' w' hown' hext' hgg; clear hgg))
          go_roundw
          case rel => exact ⟨acc ++ [q], l'.drop (k + 1), by try rfl, by rw [HI.out, HS.out, if_neg HQ.out, ← HQ0.out]; simp [splitL_nil], by simp only [List.length_drop, List.length_nil]; omega, by rw [sc_app, List.length_append]; exact hown', hext'⟩
          case measure => first | (simp only [strLen, str_size]; exact h0) | (simp [strLen]; omega)
    · have he : l' = [] := List.eq_nil_of_length_eq_zero (by omega)
      subst he
      rw [splitL_nil, List.append_nil] at HI
      obtain ⟨A', c', rfl, hcc, hcm, hr, _⟩ := Rd.of_own hown
      clear hown
      go_wp2
      go_ret
      exact Ret.is rfl (IsSlS.mk (by rw [HI.out]) (by rw [HI.out]; exact hr) hcm) hext
end Go.Proofs.YtnakeigpelcajaaGreatDoor
end

/-
The reference's Split; two lists of texts that are the same.
-/
section
namespace Go.Proofs.YtnakeigpelcajaaGreatDoor
open Go.RowKit

theorem splitL_at (sep : UInt8) (l : List UInt8) (f i : Nat) (hf : f ≤ i) (hi : l[i]? = some sep) (hn : ∀ j, f ≤ j → j < i → l[j]? ≠ some sep) :
    splitL sep (l.drop f) = (if trimL ((l.take i).drop f) = [] then [] else [trimL ((l.take i).drop f)]) ++ splitL sep (l.drop (i + 1)) := by
  have h := splitL_cut sep (l.drop f) (i - f) (by rw [List.getElem?_drop, Nat.add_sub_cancel' hf]; exact hi) (fun j hj => by rw [List.getElem?_drop]; exact hn _ (by omega) (by omega))
  rw [h, List.drop_take, List.drop_drop]
  rw [show f + (i - f + 1) = i + 1 from by omega]
theorem splitL_end (sep : UInt8) (l : List UInt8) (f : Nat) (hn : ∀ j, f ≤ j → j < l.length → l[j]? ≠ some sep) :
    splitL sep (l.drop f) = if trimL (l.drop f) = [] then [] else [trimL (l.drop f)] := by
  refine splitL_one sep _ (not_mem_of fun k => ?_)
  rw [List.getElem?_drop]
  rcases Nat.lt_or_ge (f + k) l.length with h | h
  · exact hn _ (by omega) h
  · rw [List.getElem?_eq_none h]; simp

/-- Where the loop stands. -/
def SplAt (sep : UInt8) (l : List UInt8) (acc : List (List UInt8)) (f i : Nat) : Prop :=
  (i ≤ l.length ∧ f ≤ i ∧ (∀ j, f ≤ j → j < i → l[j]? ≠ some sep) ∧ splitL sep l = acc ++ splitL sep (l.drop f)) ∨ (i = l.length + 1 ∧ splitL sep l = acc)

end Go.Proofs.YtnakeigpelcajaaGreatDoor
end

/-
Two lists of texts that are the same.
-/
section
namespace Go.Proofs.YtnakeigpelcajaaGreatDoor
open Go.RowKit

/-- Element k of a slice of texts, in every later world. -/
theorem Rd.text {w : World} {A : Option Addr} {ps : List (List UInt8)} (h : Rd w A (sc ps)) {k : Nat} (hk : k < ps.length) :
    ∃ b o, A = some ⟨b, o, none⟩ ∧ b < w.heap.size ∧ Hid (∀ w', Ext w w' → w'.cell? ⟨b, o + k, none⟩ = some (.string (str ps[k]))) := by
  obtain ⟨b, o, rfl, hb, _⟩ := h.at_ (by rw [sc_len]; omega)
  refine ⟨b, o, rfl, hb, fun w' e => ?_⟩
  obtain ⟨b', o', he, _, hc'⟩ := (h.ext e).at_ (by rw [sc_len]; omega)
  cases he
  exact hc' k _ (sc_at ps k hk)

end Go.Proofs.YtnakeigpelcajaaGreatDoor
end
