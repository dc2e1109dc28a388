/-
Several parts in one, read again: plain laws.
-/
import Derived.Test.YtllpffdjlhamkaaDoorMul7
import Derived.Test.YtllpffdjlhamkaaDoorNum3
import Derived.Carry
import Derived.Defers
import Derived.Recover
set_option linter.unusedVariables false
set_option linter.unusedSimpArgs false
/-
Several parts in one, read again: plain laws.
-/
section
namespace Go.Proofs.YtllpffdjlhamkaaDoor
open Go.RowKit

theorem index_first (a sep r : List UInt8) (h : ∀ j, j < a.length → Lib.occAt (a ++ (sep ++ r)) sep j = false) : Lib.index (a ++ (sep ++ r)) sep = (a.length : Int) := by
  have ho : Lib.occAt (a ++ (sep ++ r)) sep a.length = true := by
    unfold Lib.occAt
    rw [List.drop_left, List.isPrefixOf_iff_prefix]
    exact List.prefix_append _ _
  rcases Lib.index_spec (a ++ (sep ++ r)) sep with ⟨_, h2⟩ | ⟨i, h1, h2, h3, h4⟩
  · have := h2 a.length (by simp)
    rw [ho] at this; cases this
  · rw [h1]
    by_cases h5 : i < a.length
    · rw [h i h5] at h3; cases h3
    · by_cases h6 : a.length < i
      · have := h4 a.length h6
        rw [ho] at this; cases this
      · omega
theorem occ_get {l sep : List UInt8} {j : Nat} (h : Lib.occAt l sep j = true) : ∀ i, i < sep.length → l[j + i]? = sep[i]? := by
  intro i hi
  have := (occ_iff l sep j).1 h
  unfold standsAt at this
  rw [← this, List.getElem?_take_of_lt hi, List.getElem?_drop]
/-- A text whose first sign does not stand ahead of it. -/
theorem index_char (a t r : List UInt8) (x : UInt8) (h : x ∉ a) : Lib.index (a ++ ((x :: t) ++ r)) (x :: t) = (a.length : Int) := by
  refine index_first a (x :: t) r fun j hj => ?_
  rw [Bool.eq_false_iff]
  intro hc
  have := occ_get hc 0 (by simp)
  rw [Nat.add_zero, List.getElem?_append_left hj, List.getElem?_eq_getElem hj] at this
  simp at this
  exact h (this ▸ List.getElem_mem hj)
theorem cut_char (a t r : List UInt8) (x : UInt8) (h : x ∉ a) : Lib.cut (a ++ ((x :: t) ++ r)) (x :: t) = (a, r, true) := by
  unfold Lib.cut
  rw [index_char a t r x h, if_pos (by omega)]
  simp
/-- The mark behind a part. -/
theorem index_mark (body mark r : List UInt8) (h0 : 0 < mark.length) (h : ¬ HasW body mark) (h13 : (13 : UInt8) ∉ mark) (h10 : (10 : UInt8) ∉ mark) : Lib.index ((body ++ [13, 10]) ++ (mark ++ r)) mark = ((body.length + 2 : Nat) : Int) := by
  have e : (body ++ [13, 10] : List UInt8).length = body.length + 2 := by simp
  rw [← e]
  refine index_first (body ++ [13, 10]) mark r fun j hj => ?_
  rw [Bool.eq_false_iff]
  intro hc
  have hg := occ_get hc
  rw [e] at hj
  have at13 : ((body ++ [13, 10]) ++ (mark ++ r))[body.length]? = some 13 := by simp
  have at10 : ((body ++ [13, 10]) ++ (mark ++ r))[body.length + 1]? = some 10 := by
    rw [List.append_assoc, List.getElem?_append_right (by omega)]; simp
  by_cases hin : j + mark.length ≤ body.length
  · refine h ⟨j, hin, ?_⟩
    unfold standsAt
    refine List.ext_getElem? fun i => ?_
    by_cases hi : i < mark.length
    · rw [← hg i hi, List.getElem?_take_of_lt hi, List.getElem?_drop, List.append_assoc, List.getElem?_append_left (by omega)]
    · rw [List.getElem?_eq_none (by rw [List.length_take]; omega), List.getElem?_eq_none (by omega)]
  · by_cases hj2 : j ≤ body.length
    · have := hg (body.length - j) (by omega)
      rw [show j + (body.length - j) = body.length from by omega, at13] at this
      exact h13 (List.mem_of_getElem? this.symm)
    · have := hg 0 (by omega)
      rw [show j + 0 = body.length + 1 from by omega, at10] at this
      exact h10 (List.mem_of_getElem? this.symm)
theorem no_has (b mark : List UInt8) (h0 : 0 < mark.length) (h : ¬ HasW b mark) (x y : Nat) : ¬ HasW ((b.take y).drop x) mark := by
  rintro ⟨k, h1, h2⟩
  rw [List.length_drop, List.length_take] at h1
  refine h ⟨x + k, by omega, ?_⟩
  unfold standsAt at h2 ⊢
  rw [List.drop_drop, List.drop_take, List.take_take, Nat.min_eq_left (by omega)] at h2
  exact h2
theorem value_no13 {l : List UInt8} (h : valueOk l = true) : (13 : UInt8) ∉ l := by
  intro hm
  unfold valueOk at h
  have := List.all_eq_true.1 (Bool.and_eq_true_iff.1 h).1 13 hm
  simp [valB] at this
theorem alnum_no {l : List UInt8} (h : plainL l = true) (x : UInt8) (hx : alB x.toNat = false) : x ∉ l := by
  intro hm
  unfold plainL alL at h
  have := List.all_eq_true.1 (Bool.and_eq_true_iff.1 h).1 x hm
  rw [hx] at this; cases this
theorem mark_no (bd : List UInt8) (h : plainL bd = true) (x : UInt8) (hx : alB x.toNat = false) (h45 : x ≠ 45) : x ∉ ([45, 45] ++ bd) := by
  intro hm
  rcases List.mem_append.1 hm with h1 | h1
  · simp at h1; exact h45 h1
  · exact alnum_no h x hx h1
theorem digit_no (n : Nat) (x : UInt8) (hx : isDig 10 x = false) : x ∉ Lib.decDigits n := by
  intro hm
  have := List.all_eq_true.1 (decL_all n).1 x hm
  rw [hx] at this; cases this
/-- What stands behind the mark of a part. -/
def restM (b bd kd : List UInt8) : List (Int × Int) → List UInt8
  | [] => [45, 45, 13, 10]
  | p :: ps => (([13, 10] : List UInt8) ++ ctT) ++ (kd ++ ([13, 10] ++ ((crT ++ [98, 121, 116, 101, 115, 32]) ++ (Lib.decDigits p.1.toNat ++ ([45] ++ (Lib.decDigits (p.2.toNat - 1) ++ ([47] ++ (Lib.decDigits b.length ++ ([13, 10] ++ ([13, 10] ++ ((bodyM b p ++ [13, 10]) ++ (([45, 45] ++ bd) ++ restM b bd kd ps))))))))))))
theorem restM_cons (b bd kd : List UInt8) (p : Int × Int) (ps : List (Int × Int)) : restM b bd kd (p :: ps) = (([13, 10] : List UInt8) ++ ctT) ++ (kd ++ ([13, 10] ++ ((crT ++ [98, 121, 116, 101, 115, 32]) ++ (Lib.decDigits p.1.toNat ++ ([45] ++ (Lib.decDigits (p.2.toNat - 1) ++ ([47] ++ (Lib.decDigits b.length ++ ([13, 10] ++ ([13, 10] ++ ((bodyM b p ++ [13, 10]) ++ (([45, 45] ++ bd) ++ restM b bd kd ps)))))))))))) := rfl
/-- A part that may stand in one. -/
def goodP (n : Int) (p : Int × Int) : Prop := 0 ≤ p.1 ∧ p.1 < p.2 ∧ p.2 ≤ n
theorem crL_good (n : Nat) (p : Int × Int) (h : goodP n p) : crL p.1 p.2 (n : Int) = [98, 121, 116, 101, 115, 32] ++ (Lib.decDigits p.1.toNat ++ ([45] ++ (Lib.decDigits (p.2.toNat - 1) ++ ([47] ++ Lib.decDigits n)))) := by
  obtain ⟨h1, h2, h3⟩ := h
  obtain ⟨x, y⟩ := p
  dsimp only at h1 h2 h3 ⊢
  obtain ⟨X, rfl⟩ : ∃ X : Nat, x = (X : Int) := ⟨x.toNat, by omega⟩
  obtain ⟨Z, rfl⟩ : ∃ Z : Nat, y = ((Z + 1 : Nat) : Int) := ⟨y.toNat - 1, by omega⟩
  unfold crL
  rw [if_pos h2, show ((Z + 1 : Nat) : Int) - 1 = ((Z : Nat) : Int) from by omega, Lib.itoa_nonneg, Lib.itoa_nonneg, Lib.itoa_nonneg]
  simp
theorem full_rest (b bd kd : List UInt8) (ps : List (Int × Int)) (h : ∀ p ∈ ps, goodP b.length p) : fullM b bd kd ps = ([45, 45] ++ bd) ++ restM b bd kd ps := by
  unfold fullM prtsM
  induction ps with
  | nil => simp [restM, endM]
  | cons p ps ih =>
    have h1 := ih fun q hq => h q (List.mem_cons_of_mem _ hq)
    rw [List.flatMap_cons, List.append_assoc, h1]
    unfold partM headM preM
    rw [restM_cons, crL_good b.length p (h p (List.mem_cons_self ..))]
    simp [List.append_assoc]
end Go.Proofs.YtllpffdjlhamkaaDoor
end

/-
Several parts in one, read again: the reader of a text.
-/
section
namespace Go.Proofs.YtllpffdjlhamkaaDoor
open Go.RowKit

/-- A reader of a text. -/
def RdrAt (w : World) (o : Ow) (k g : Nat) (s : List UInt8) : Prop := o g = k ∧ w.heap[g]? = some (.cells #[.string (str s)] 55 (0, 0))
theorem RdrAt.stp {K : Nat → Prop} {w w' : World} {o o' : Ow} {k g : Nat} {s : List UInt8} (h : RdrAt w o k g s) (st : Stp K w o w' o') (hk : ¬ K k) : RdrAt w' o' k g s :=
  ⟨by rw [st.own g (row_lt h.2)]; exact h.1, (st.keep g (row_lt h.2) (by rw [h.1]; exact hk)).trans h.2⟩
theorem RdrAt.ext {w w' : World} {o : Ow} {k g : Nat} {s : List UInt8} (h : RdrAt w o k g s) (e : Ext w w') : RdrAt w' o k g s := h.stp (K := fun _ => False) (Stp.ext e) (fun x => x)
theorem RdrAt.set {w : World} {o : Ow} {k g : Nat} {s : List UInt8} (h : RdrAt w o k g s) (t : List UInt8) : RdrAt (w.setCell ⟨g, 0, none⟩ (.string (str t))) o k g t ∧ Stp (fun i => i = k) w o (w.setCell ⟨g, 0, none⟩ (.string (str t))) o :=
  ⟨⟨h.1, row_set h.2 0 _⟩, Stp.set g 0 _ fun _ => h.1⟩
theorem demand17_yes (w : World) : Calls Tryd.prog 26 #[.bool true] w fun r w' => r = .returned (.tuple #[]) ∧ w = w' := by
  go_enter Tryd.func26, Tryd.ntmps26
  go_wp2
  go_end0
  exact ⟨rfl, rfl⟩
theorem CutPrefix_c (p t : List UInt8) (w : World) : Calls Tryd.prog 33 #[.string (str (p ++ t)), .string (str p)] w fun e w' => e = .returned (.tuple #[.string (str t), .bool true]) ∧ w = w' := by
  refine (Tryd.strings_CutPrefix (str (p ++ t)) (str p) w).mono ?_
  rintro e w' ⟨rfl, rfl⟩
  have h : Lib.hasPrefix (p ++ t) p = true := by unfold Lib.hasPrefix; rw [List.isPrefixOf_iff_prefix]; exact List.prefix_append _ _
  refine ⟨?_, rfl⟩
  rw [str_data, str_data]
  unfold Lib.trimPrefix
  rw [h]
  simp [str]
theorem Cut2_c (a t r : List UInt8) (x : UInt8) (h : x ∉ a) (w : World) (hM : Mx w) (hs : (a ++ ((x :: t) ++ r)).length < 4294967281) :
    Calls Tryd.prog 34 #[.string (str (a ++ ((x :: t) ++ r))), .string (str (x :: t))] w (Gives (.tuple #[.string (str a), .string (str r), .bool true]) w) := by
  obtain ⟨m, hm⟩ := hM
  refine (Tryd.strings_Cut (str (a ++ ((x :: t) ++ r))) (str (x :: t)) m w (by rw [str_size]; exact hs) hm).mono ?_
  rintro e w' ⟨rfl, n, rfl⟩
  rw [str_data, str_data, cut_char a t r x h]
  exact ⟨rfl, by (repeat (first | exact Ext.rfl' _ | assumption | refine Ext.dr ?_ | refine Ext.drN ?_ _ | refine Ext.al ?_ _ | refine Ext.st ?_ (by simp) _ | refine Ext.tr ?_ (by assumption)))⟩
theorem IndexM_c (body mark r : List UInt8) (h0 : 0 < mark.length) (h : ¬ HasW body mark) (h13 : (13 : UInt8) ∉ mark) (h10 : (10 : UInt8) ∉ mark) (w : World) (hM : Mx w) (hs : ((body ++ [13, 10]) ++ (mark ++ r)).length < 4294967281) :
    Calls Tryd.prog 25 #[.string (str ((body ++ [13, 10]) ++ (mark ++ r))), .string (str mark)] w (Gives (.int .i64 ((body.length + 2 : Nat) : Int)) w) := by
  obtain ⟨m, hm⟩ := hM
  refine (Tryd.strings_Index (str ((body ++ [13, 10]) ++ (mark ++ r))) (str mark) m w (by rw [str_size]; exact hs) hm).mono ?_
  rintro e w' ⟨rfl, rfl⟩
  rw [str_data, str_data, index_mark body mark r h0 h h13 h10]
  exact ⟨rfl, by (repeat (first | exact Ext.rfl' _ | assumption | refine Ext.dr ?_ | refine Ext.drN ?_ _ | refine Ext.al ?_ _ | refine Ext.st ?_ (by simp) _ | refine Ext.tr ?_ (by assumption)))⟩
set_option maxRecDepth 100000 in
set_option maxHeartbeats 1000000 in
theorem need_c (k g : Nat) (p t : List UInt8) (sp : ByteArray) (hsp : sp = str p) (w : World) (o : Ow) (h : RdrAt w o k g (p ++ t)) :
    Calls Tryd.prog 22 #[.pointer (some ⟨g, 0, none⟩), .string sp] w (Turns (fun i => i = k) w o fun v w' o' => v = .tuple #[] ∧ RdrAt w' o' k g t) := by
  have c0 := (row_facts h.2 0 _ rfl).1
  have f0 := (row_facts h.2 0 _ rfl).2
  have C := fun w => CutPrefix_c p t w
  rw [← hsp] at C
  have C := Lib.hid C
  have H := Lib.hid h
  clear h hsp
  obtain ⟨s1, hs1⟩ : ∃ s, s = str (p ++ t) := ⟨_, rfl⟩
  rw [← hs1] at C c0
  have HS := Lib.hid hs1
  clear hs1
  go_enter Tryd.func22, Tryd.ntmps22
  go_wp2_with (first
    | (go_at_call 33; refine (C.out _).mono ?_; rintro e w1 ⟨rfl, rfl⟩)
    | (go_at_call 26; refine (demand17_yes _).mono ?_; rintro e w2 ⟨rfl, rfl⟩))
  go_end0
  exact Turns.mk o rfl ⟨rfl, (H.out.set t).1⟩ (H.out.set t).2
set_option maxRecDepth 100000 in
set_option maxHeartbeats 1000000 in
theorem upto_c (k g : Nat) (a t r : List UInt8) (x : UInt8) (hx : x ∉ a) (sp : ByteArray) (hsp : sp = str (x :: t)) (w : World) (o : Ow) (hM : Mx w) (h : RdrAt w o k g (a ++ ((x :: t) ++ r))) (hs : (a ++ ((x :: t) ++ r)).length < 4294967281) :
    Calls Tryd.prog 23 #[.pointer (some ⟨g, 0, none⟩), .string sp] w (Turns (fun i => i = k) w o fun v w' o' => v = .string (str a) ∧ RdrAt w' o' k g r) := by
  have c0 := (row_facts h.2 0 _ rfl).1
  have C := Cut2_c a t r x hx w hM hs
  rw [← hsp] at C
  have C := Lib.hid C
  have H := Lib.hid h
  clear h hsp
  obtain ⟨s1, hs1⟩ : ∃ s, s = str (a ++ ((x :: t) ++ r)) := ⟨_, rfl⟩
  rw [← hs1] at C c0
  have HS := Lib.hid hs1
  clear hs1 hs
  go_enter Tryd.func23, Tryd.ntmps23
  go_wp2_with (first
    | (go_at_call 34; refine C.out.mono ?_; rintro e w1 ⟨rfl, hx1⟩; have H1 := H.out.ext hx1; have c1 := (row_facts H1.2 0 _ rfl).1; have f1 := (row_facts H1.2 0 _ rfl).2; have H1 := Lib.hid H1)
    | (go_at_call 26; refine (demand17_yes _).mono ?_; rintro e w2 ⟨rfl, rfl⟩))
  go_ret
  exact Turns.mk o rfl ⟨rfl, (H1.out.set r).1⟩ ((Stp.ext hx1).tr (H1.out.set r).2)
set_option maxRecDepth 100000 in
set_option maxHeartbeats 1000000 in
theorem number17_c (k g n : Nat) (t r : List UInt8) (x : UInt8) (hx : isDig 10 x = false) (hn : n ≤ 1000000000000000000) (sp : ByteArray) (hsp : sp = str (x :: t)) (w : World) (o : Ow) (hM : Mx w) (hE : ErrR w) (hP : Pow w)
    (h : RdrAt w o k g (Lib.decDigits n ++ ((x :: t) ++ r))) (hs : (Lib.decDigits n ++ ((x :: t) ++ r)).length < 4294967281) (hE2 : ∀ w' o', Stp (fun i => i = k) w o w' o' → ErrR w') (hP2 : ∀ w' o', Stp (fun i => i = k) w o w' o' → Pow w') :
    Calls Tryd.prog 24 #[.pointer (some ⟨g, 0, none⟩), .string sp] w (Turns (fun i => i = k) w o fun v w' o' => v = .int .i64 (n : Int) ∧ RdrAt w' o' k g r) := by
  have hd : (Lib.decDigits n).length ≤ 140737488355328 := by simp only [List.length_append, List.length_cons] at hs; omega
  have CU := upto_c k g (Lib.decDigits n) t r x (digit_no n x hx) sp hsp w o hM h hs
  have CD := fun w hE => Decimal_c (Lib.decDigits n) hd w hE
  have hnum := num_dec n hn
  rw [Lib.itoa_nonneg] at hnum
  rw [hnum] at CD
  dsimp only at CD
  have CG := fun w hP => Digits_c' (n : Int) w hP (by omega) (by omega)
  rw [dec_nat] at CG
  obtain ⟨sd, hsd⟩ : ∃ s, s = str (Lib.decDigits n) := ⟨_, rfl⟩
  rw [← hsd] at CU CD CG
  have CU := Lib.hid CU
  have CD := Lib.hid CD
  have CG := Lib.hid CG
  have HE2 := Lib.hid hE2
  have HP2 := Lib.hid hP2
  clear h hsd hsp hs hnum hE2 hP2
  go_enter Tryd.func24, Tryd.ntmps24
  go_wp2_with (first
    | (go_at_call 23; refine CU.out.mono ?_; rintro e w1 ⟨v, o1, rfl, ⟨rfl, h1⟩, st1⟩; have H1 := Lib.hid h1; have ST1 := Lib.hid st1; clear h1 st1)
    | (go_at_call 35; refine (CD.out _ (HE2.out _ _ ST1.out)).mono ?_; rintro e w2 ⟨rfl, hx2⟩)
    | (go_at_call 18; refine (CG.out _ ((HP2.out _ _ ST1.out).ext hx2)).mono ?_; rintro e w3 ⟨rfl, hx3⟩)
    | (go_at_call 26; refine (demand17_yes _).mono ?_; rintro e w4 ⟨rfl, rfl⟩))
  go_ret
  exact Turns.mk o1 rfl ⟨rfl, H1.out.ext (hx2.tr hx3)⟩ (ST1.out.tr (Stp.ext (hx2.tr hx3)))
end Go.Proofs.YtllpffdjlhamkaaDoor
end

/-
Several parts in one, read again: Split's memory; its deferred closure, where nothing was given up.
-/
section
namespace Go.Proofs.YtllpffdjlhamkaaDoor
open Go.RowKit Go.Extern.Stop Go.Stop Go.Extern

set_option maxRecDepth 100000 in
theorem splitD_idle (p q r s : Addr) (w : World) :
    CallsD Tryd.prog 21 #[.pointer (some p), .pointer (some q), .pointer (some r), .pointer (some s)] .returning w fun e u' w' => e = .returned (.tuple #[]) ∧ u' = .returning ∧ w' = w := by
  refine callsD_of_wpS Tryd.func21 rfl fun c₀ cs hu => ?_
  apply wpS_seq
  apply wpS_region
  simp [wpOpsS, go_sem, recoverD, hu, Tryd.ntmps21, Exit.thenS]
  apply wpS_seq
  apply wpS_region
  simp [wpOpsS, go_sem, Exit.thenS]
  refine wpS_cond (t := false) (by simp [Act.eval, Array.replicate]) ?_
  simp only [Bool.false_eq_true, if_false]
  refine wpS_of_wp (wp_skip ?_)
  cases c₀
  simp_all [bodyPostS, results, Tryd.results21, Exit.thenS]
/-- Values that read as the parts' bytes. -/
def ValsP (w : World) (o : Ow) (b : List UInt8) (ps : List (Int × Int)) (vs : List Value) : Prop :=
  vs.length = ps.length ∧ ∀ i (h : i < ps.length), ∃ A c, vs[i]? = some (.slice A (bodyM b ps[i]).length c) ∧ Rd w A (bc (bodyM b ps[i])) ∧ ∀ a, A = some a → o a.block = 28 ∧ a.block < w.heap.size
theorem ValsP.stp {K : Nat → Prop} {w w' : World} {o o' : Ow} {b : List UInt8} {ps : List (Int × Int)} {vs : List Value} (h : ValsP w o b ps vs) (st : Stp K w o w' o') (hk : ¬ K 28) : ValsP w' o' b ps vs :=
  ⟨h.1, fun i hi => by
    obtain ⟨A, c, h1, h2, h3⟩ := h.2 i hi
    exact ⟨A, c, h1, h2.stp st (fun a ha _ => by rw [(h3 a ha).1]; exact hk), fun a ha => ⟨by rw [st.own _ (h3 a ha).2]; exact (h3 a ha).1, Nat.lt_of_lt_of_le (h3 a ha).2 st.size⟩⟩⟩
/-- A box of one value. -/
def BoxAt (w : World) (o : Ow) (k g : Nat) (v : Value) (t : TypeId) : Prop := o g = k ∧ w.heap[g]? = some (.cells #[v] t (0, 0))
theorem BoxAt.stp {K : Nat → Prop} {w w' : World} {o o' : Ow} {k g : Nat} {v : Value} {t : TypeId} (h : BoxAt w o k g v t) (st : Stp K w o w' o') (hk : ¬ K k) : BoxAt w' o' k g v t :=
  ⟨by rw [st.own g (row_lt h.2)]; exact h.1, (st.keep g (row_lt h.2) (by rw [h.1]; exact hk)).trans h.2⟩
theorem BoxAt.ext {w w' : World} {o : Ow} {k g : Nat} {v : Value} {t : TypeId} (h : BoxAt w o k g v t) (e : Ext w w') : BoxAt w' o k g v t := h.stp (K := fun _ => False) (Stp.ext e) (fun x => x)
theorem BoxAt.c {w : World} {o : Ow} {k g : Nat} {v : Value} {t : TypeId} (h : BoxAt w o k g v t) : w.cell? ⟨g, 0, none⟩ = some v := (row_facts h.2 0 _ rfl).1
theorem BoxAt.f {w : World} {o : Ow} {k g : Nat} {v : Value} {t : TypeId} (h : BoxAt w o k g v t) : w.frozen? ⟨g, 0, none⟩ = false := (row_facts h.2 0 _ rfl).2
theorem BoxAt.set {w : World} {o : Ow} {k g : Nat} {v : Value} {t : TypeId} (h : BoxAt w o k g v t) (u : Value) : BoxAt (w.setCell ⟨g, 0, none⟩ u) o k g u t ∧ Stp (fun i => i = k) w o (w.setCell ⟨g, 0, none⟩ u) o :=
  ⟨⟨h.1, row_set h.2 0 _⟩, Stp.set g 0 _ fun _ => h.1⟩
/-- Split, between two parts. -/
structure SpAt (w0 : World) (g g8 : Nat) (b : List UInt8) (ps : List (Int × Int)) (j : Nat) (r : List UInt8) (w : World) (o : Ow) (P : Option Addr) (cP : Nat) (L : Option Addr) (cL : Nat) (vs : List Value) : Prop where
  st : Stp (fun i => 20 ≤ i) w0 (fun _ => 0) w o
  b4 : BoxAt w o 21 g (.slice P j cP) 35
  b5 : BoxAt w o 22 (g + 1) (.slice L j cL) 25
  b6 : BoxAt w o 23 (g + 1 + 1) (.int .i64 (if j = 0 then 0 else (b.length : Int))) 3
  b7 : BoxAt w o 24 (g + 1 + 1 + 1) (.int .i64 0) 26
  rd : RdrAt w o 25 g8 r
  sp : Sl w o 26 1 P j cP vs
  np : P = none → cP = 0
  sl : Sl w o 27 2 L j cL (pc (ps.take j))
  nl : L = none → cL = 0
  vp : ValsP w o b (ps.take j) vs
theorem SpAt.stp {K : Nat → Prop} {w0 w w' : World} {o o' : Ow} {g g8 : Nat} {b : List UInt8} {ps : List (Int × Int)} {j : Nat} {r : List UInt8} {P L : Option Addr} {cP cL : Nat} {vs : List Value}
    (h : SpAt w0 g g8 b ps j r w o P cP L cL vs) (st : Stp K w o w' o') (hk : ∀ i, 21 ≤ i → i ≤ 28 → ¬ K i) (hk2 : ∀ i, K i → 20 ≤ i) : SpAt w0 g g8 b ps j r w' o' P cP L cL vs :=
  ⟨h.st.tr (st.mono hk2), h.b4.stp st (hk _ (by omega) (by omega)), h.b5.stp st (hk _ (by omega) (by omega)), h.b6.stp st (hk _ (by omega) (by omega)), h.b7.stp st (hk _ (by omega) (by omega)), h.rd.stp st (hk _ (by omega) (by omega)),
    h.sp.stp st (hk _ (by omega) (by omega)), h.np, h.sl.stp st (hk _ (by omega) (by omega)), h.nl, h.vp.stp st (hk _ (by omega) (by omega))⟩
/-- The reader alone went on. -/
theorem SpAt.read {w0 w w' : World} {o o' : Ow} {g g8 : Nat} {b : List UInt8} {ps : List (Int × Int)} {j : Nat} {r r' : List UInt8} {P L : Option Addr} {cP cL : Nat} {vs : List Value}
    (h : SpAt w0 g g8 b ps j r w o P cP L cL vs) (st : Stp (fun i => i = 25) w o w' o') (hr : RdrAt w' o' 25 g8 r') : SpAt w0 g g8 b ps j r' w' o' P cP L cL vs :=
  ⟨h.st.tr (st.mono fun i hi => by omega), h.b4.stp st (by omega), h.b5.stp st (by omega), h.b6.stp st (by omega), h.b7.stp st (by omega), hr,
    h.sp.stp st (by omega), h.np, h.sl.stp st (by omega), h.nl, h.vp.stp st (by omega)⟩
theorem SpAt.ext {w0 w w' : World} {o : Ow} {g g8 : Nat} {b : List UInt8} {ps : List (Int × Int)} {j : Nat} {r : List UInt8} {P L : Option Addr} {cP cL : Nat} {vs : List Value}
    (h : SpAt w0 g g8 b ps j r w o P cP L cL vs) (e : Ext w w') : SpAt w0 g g8 b ps j r w' o P cP L cL vs := h.stp (K := fun _ => False) (Stp.ext e) (fun _ _ _ x => x) (fun _ x => x.elim)
end Go.Proofs.YtllpffdjlhamkaaDoor
end
