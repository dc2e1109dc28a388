/-
A queue of bytes as a thing with memory of its own; the program's NewQueue, none, Len, Put.
-/
import Derived.Test.YtemdgilifnhdpaaGreatDoorProg
import Derived.Test.YtemdgilifnhdpaaGreatDoorZai
import Derived.Stop.LaidErr
import Derived.LaidLaws
import Derived.Test.YtemdgilifnhdpaaGreatDoorZaf
import Derived.Test.YtemdgilifnhdpaaGreatDoorZae
import Derived.Test.YtemdgilifnhdpaaGreatDoorZaa
import Derived.Maps.RangeWalk
import Derived.Maps.OwnSet
import Derived.Test.YtemdgilifnhdpaaGreatDoorZab
set_option linter.unusedVariables false
set_option linter.unusedSimpArgs false
section
namespace Go.Proofs.YtemdgilifnhdpaaGreatDoor
open Go.RowKit

structure QAt (T : TypeId) (w : World) (o : Ow) (k p : Nat) (l : List UInt8) (lim : Nat) : Prop where
  own : o p = k
  lo : 1 ≤ lim
  hi : lim ≤ 1048576
  le : l.length ≤ lim
  at_ : ∃ A c, w.heap[p]? = some (.cells #[.slice A l.length c, .int .i64 (lim : Int)] T (0, 0)) ∧ Sl w o (k + 1) 1 A l.length c (bc l) ∧ (A = none → c = 0)
def KQ (k : Nat) (i : Nat) : Prop := i = k ∨ i = k + 1
theorem QAt.put {T : TypeId} {w w' : World} {o o' : Ow} {k p lim n c : Nat} {l l' : List UInt8} {A : Option Addr} (h : QAt T w o k p l lim) (s : Stp (fun i => i = k + 1) w o w' o') (hl : l'.length ≤ lim) (hn : n = l'.length) (hs : Sl w' o' (k + 1) 1 A n c (bc l')) (ha : A = none → c = 0) :
    QAt T (w'.setCell ⟨p, 0, none⟩ (.slice A n c)) o' k p l' lim ∧ Stp (KQ k) w o (w'.setCell ⟨p, 0, none⟩ (.slice A n c)) o' := by
  subst hn
  obtain ⟨A0, c0, hh, _, _⟩ := h.at_
  have hp : o' p = k := by rw [s.own p (row_lt hh)]; exact h.own
  have hh' : w'.heap[p]? = _ := (s.keep p (row_lt hh) (by rw [h.own]; omega)).trans hh
  have st : Stp (fun i => i = k) w' o' (w'.setCell ⟨p, 0, none⟩ (.slice A l'.length c)) o' := Stp.set p 0 _ (fun _ => hp)
  exact ⟨⟨hp, h.lo, h.hi, hl, A, c, row_set hh' 0 _, hs.stp st (by omega), ha⟩, (s.mono fun i hi => .inr hi).tr (st.mono fun i hi => .inl hi)⟩
theorem QAt.stp {T : TypeId} {K : Nat → Prop} {w w' : World} {o o' : Ow} {k p lim : Nat} {l : List UInt8} (h : QAt T w o k p l lim) (s : Stp K w o w' o') (h0 : ¬ K k) (h1 : ¬ K (k + 1)) : QAt T w' o' k p l lim := by
  obtain ⟨A, c, hh, hs, hn⟩ := h.at_
  exact ⟨by rw [s.own p (row_lt hh)]; exact h.own, h.lo, h.hi, h.le, A, c, by rw [s.keep p (row_lt hh) (by rw [h.own]; exact h0)]; exact hh, hs.stp s h1, hn⟩
theorem QAt.ext {T : TypeId} {w w' : World} {o : Ow} {k p lim : Nat} {l : List UInt8} (h : QAt T w o k p l lim) (e : Ext w w') : QAt T w' o k p l lim := h.stp (K := fun _ => False) (Stp.ext e) (fun x => x) (fun x => x)

end Go.Proofs.YtemdgilifnhdpaaGreatDoor
end

section
namespace Go.Proofs.YtemdgilifnhdpaaGreatDoor
open Go.RowKit Go.ChangeShapes

theorem star_es : "*" ++ "errors.errorString" = "*errors.errorString" := by decide
theorem row_es (u : TypeId) (h : Tryz.prog.typeName? 3 u = some "*errors.errorString") : u = 300 :=
  typeName_ptr_named (nm := "errors.errorString") (by rw [star_es]; kernel_rfl) (by kernel_rfl) (by decide) u (by rw [star_es]; exact h)
theorem gErr_n : Tryz.prog.globalNamed "strconv.ErrRange" = some 7 := by kernel_rfl
theorem gErr_t : (Tryz.prog.globals[7]?).map (·.type) = some 198 := by kernel_rfl
theorem cells_es : Tryz.prog.cellsOf 302 = 1 := by kernel_rfl
theorem cells_str : Tryz.prog.cellsOf 9 = 1 := by kernel_rfl
theorem errR_of {text : List UInt8} {r : List (String × DataW Unit)} {W : World} (h : laidMet Tryz.prog (("strconv.ErrRange", .iface "*errors.errorString" (.ptr (.agg [.lit (.string text)]))) :: r) W) : ErrR W := by
  obtain ⟨a, s, hv, _⟩ := laid_sentinel h gErr_n gErr_t Tryz.underlying198 row_es Tryz.underlying300 Tryz.underlying302 rfl rfl Tryz.underlying9 cells_es cells_str
  exact ⟨_, _, World.var?_cell gErr_n hv 0⟩
end Go.Proofs.YtemdgilifnhdpaaGreatDoor
end

section
namespace Go.Proofs.YtemdgilifnhdpaaGreatDoor
open Go.RowKit

def decR (l : List UInt8) : List UInt8 × Int := match decL l with | some x => (x, 0) | none => ([], 40)
theorem decR_some {l x : List UInt8} (h : decL l = some x) : decR l = (x, 0) := by unfold decR; rw [h]
theorem decR_none {l : List UInt8} (h : decL l = none) : decR l = ([], 40) := by unfold decR; rw [h]
theorem dig_lt {b : UInt8} (h : isDig 16 b = true) : digV b < 16 := by
  unfold isDig at h; simp only [Bool.and_eq_true, decide_eq_true_eq] at h; exact h.2
theorem num_two (a b : UInt8) : numL 16 1152921504606846976 [a, b] = if isDig 16 (lowB a) = true ∧ isDig 16 (lowB b) = true then (((digV (lowB a) * 16 + digV (lowB b) : Nat) : Int), 0) else (0, 21) := by
  unfold numL lowL
  by_cases h : isDig 16 (lowB a) = true ∧ isDig 16 (lowB b) = true
  · have h1 := dig_lt h.1
    have h2 := dig_lt h.2
    rw [if_neg (by simp [h.1, h.2]), if_pos h]
    have e : valL 16 (List.map lowB [a, b]) = digV (lowB a) * 16 + digV (lowB b) := by simp [valL, valF]
    rw [e, if_pos (by omega)]
  · rw [if_pos (.inr (by simp only [List.map_cons, List.map_nil, List.all_cons, List.all_nil, Bool.and_true, Bool.and_eq_false_iff]; by_cases h1 : isDig 16 (lowB a) = true; exact .inr (by simpa using fun h2 => h ⟨h1, h2⟩); exact .inl (by simpa using h1))), if_neg h]

set_option maxRecDepth 100000 in
set_option maxHeartbeats 2000000 in
theorem uDecode_c (l : List UInt8) (hs : l.length ≤ 140737488351232) (w : World) (hE : ErrR w) :
    Calls Tryz.prog 95 #[.string (str l)] w (Gives (.tuple #[.string (str (decR l).1), .int .i64 (decR l).2]) w) := by
  have hms : maxLen = 9223372036854775807 := rfl
  have HE := Lib.hid hE
  clear hE
  go_enter Tryz.func95, Tryz.ntmps95
  go_wp2
  go_loopw [0, 4] (fun s v wr => ∃ acc l', s = .string (str l') ∧ decL l = (decL l').map (acc ++ ·) ∧ acc.length + l'.length ≤ l.length ∧ wr.ownsRow w.heap.size 5 1 v acc.length (bc acc) ∧ Ext w wr) (fun s _ _ => strLen s)
  case atStart => exact ⟨[], l, rfl, by simp, by simp, World.ownsRow_nil _ _ _ _, Ext.rfl' _⟩
  case round =>
    obtain ⟨acc, l', rfl, hinv, hll, hown, hext⟩ := hrel
    have HI := Lib.hid hinv
    have HO := Lib.hid hown
    clear hinv hown
    cases l' with
    | nil =>
      obtain ⟨A, c, rfl, hnc, hcm, hr, _⟩ := Rd.of_own HO.out
      have cv := conv_bs (P := Tryz.prog) 22 9 5 Tryz.underlying22 Tryz.underlying5 Tryz.underlying9 hr acc.length c rfl
      obtain ⟨s, hs2⟩ : ∃ s, s = str acc := ⟨_, rfl⟩
      rw [← hs2] at cv
      have HS := Lib.hid hs2
      have hemp : str ([] : List UInt8) = ⟨#[]⟩ := rfl
      rw [hemp]
      clear hs2 hr hemp
      go_wp2
      go_ret2
      exact ⟨ret_val (by rw [decR_some (x := acc) (by rw [HI.out]; simp [decL])]; show Value.tuple #[.string s, .int .i64 0] = _; rw [HS.out]), hext⟩
    | cons b t =>
      simp only [List.length_cons] at hll
      have h256 := UInt8.toNat_lt b
      by_cases hb : b = 37
      · subst hb
        by_cases h2 : t.length < 2
        · have hlt : decide ((t.length : Int) < 2) = true := by rw [decide_eq_true_eq]; omega
          have HB := Lib.hid (show decL l = none by rw [HI.out, dec_short _ h2]; rfl)
          go_wp2
          go_ret2
          exact ⟨ret_val (by rw [decR_none HB.out]; rfl), hext⟩
        · obtain ⟨a, t, rfl⟩ : ∃ a t', t = a :: t' := by cases t with | nil => simp at h2 | cons a t => exact ⟨a, t, rfl⟩
          obtain ⟨b, t, rfl⟩ : ∃ a t', t = a :: t' := by cases t with | nil => simp at h2 | cons a t => exact ⟨a, t, rfl⟩
          clear h2
          simp only [List.length_cons] at hll
          have h2 := num_two a b
          have CH := fun w hE => Hex_c [a, b] (by simp) w hE
          rw [h2] at CH
          have hlt : decide (((a :: b :: t).length : Int) < 2) = false := by rw [decide_eq_false_iff_not]; simp only [List.length_cons]; omega
          simp only [List.length_cons] at hlt
          by_cases hd : isDig 16 (lowB a) = true ∧ isDig 16 (lowB b) = true
          · rw [if_pos hd] at CH
            have d1 := dig_lt hd.1
            have d2 := dig_lt hd.2
            obtain ⟨n, hn⟩ : ∃ n : Nat, n = digV (lowB a) * 16 + digV (lowB b) := ⟨_, rfl⟩
            rw [← hn] at CH
            have hn2 : n < 256 := by omega
            have HS := Lib.hid (show decL l = (decL t).map ((acc ++ [UInt8.ofNat n]) ++ ·) by
              rw [HI.out, dec_pct, if_pos hd, ← hn]; simp [Option.map_map, Function.comp_def])
            have CH := Lib.hid CH
            have hbt : ((UInt8.ofNat n).toNat : Int) = (n : Int) := by rw [UInt8.toNat_ofNat']; omega
            have HBT := Lib.hid hbt
            clear hd hn h2 hbt d1 d2
            go_wp2_with (go_at_call 131; refine (CH.out _ (HE.out.ext (by (repeat (first | exact Ext.rfl' _ | assumption | refine Ext.dr ?_ | refine Ext.drN ?_ _ | refine Ext.al ?_ _ | refine Ext.st ?_ (by simp) _ | refine Ext.tr ?_ (by assumption)))))).mono ?_; rintro e w1 ⟨rfl, hx1⟩)
            go_quiet (fail)
            have hxq : Ext w (w1.drewN nq) := by (repeat (first | exact Ext.rfl' _ | assumption | refine Ext.dr ?_ | refine Ext.drN ?_ _ | refine Ext.al ?_ _ | refine Ext.st ?_ (by simp) _ | refine Ext.tr ?_ (by assumption)))
            go_wp2_with (at_builtin; refine wpL_app slt_u8 (.tmp 31) (.tmp 33) rfl rfl rfl rfl (hxq.al _) ((own_ext HO.out ((hx1.drN nq))).alloc _) (by rfl) (new_cells (w1.drewN nq) #[.int .u8 (n : Int)] 5) (by simp [Value.oneCell']) (by omega) (by simp only [maxLen]; omega) ?_; intro v' w' hown' hext' hgg; clear hgg)
            go_roundw
            case rel =>
              have hbc : bc [UInt8.ofNat n] = [.int .u8 (n : Int)] := by show [Value.int .u8 ((UInt8.ofNat n).toNat : Int)] = _; rw [HBT.out]
              exact ⟨acc ++ [UInt8.ofNat n], t, rfl, HS.out, by simp only [List.length_append, List.length_cons, List.length_nil]; omega, by rw [bc_app, List.length_append, hbc]; exact hown', hext'⟩
            case measure => simp [strLen]; try omega
          · rw [if_neg hd] at CH
            have HB := Lib.hid (show decL l = none by rw [HI.out, dec_pct, if_neg hd]; rfl)
            have CH := Lib.hid CH
            clear hd h2
            go_wp2_with (go_at_call 131; refine (CH.out _ (HE.out.ext (by (repeat (first | exact Ext.rfl' _ | assumption | refine Ext.dr ?_ | refine Ext.drN ?_ _ | refine Ext.al ?_ _ | refine Ext.st ?_ (by simp) _ | refine Ext.tr ?_ (by assumption)))))).mono ?_; rintro e w1 ⟨rfl, hx1⟩)
            go_ret2
            exact ⟨ret_val (by rw [decR_none HB.out]; rfl), by (repeat (first | exact Ext.rfl' _ | assumption | refine Ext.dr ?_ | refine Ext.drN ?_ _ | refine Ext.al ?_ _ | refine Ext.st ?_ (by simp) _ | refine Ext.tr ?_ (by assumption)))⟩
      · have hb1 : ((b.toNat : Int) == 37) = false := by
          rw [beq_eq_false_iff_ne]; intro h; exact hb (UInt8.toNat_inj.1 (by show b.toNat = 37; omega))
        have HS := Lib.hid (show decL l = (decL t).map ((acc ++ [b]) ++ ·) by
          rw [HI.out, dec_plain _ _ hb]; simp [Option.map_map, Function.comp_def])
        clear hb
        go_wp2_with (at_builtin; refine wpL_app slt_u8 (.tmp 31) (.tmp 33) rfl rfl rfl rfl (Ext.al (by (repeat (first | exact Ext.rfl' _ | assumption | refine Ext.dr ?_ | refine Ext.drN ?_ _ | refine Ext.al ?_ _ | refine Ext.st ?_ (by simp) _ | refine Ext.tr ?_ (by assumption)))) _) ((own_ext HO.out (by (repeat (first | exact Ext.rfl' _ | assumption | refine Ext.dr ?_ | refine Ext.drN ?_ _ | refine Ext.al ?_ _ | refine Ext.st ?_ (by simp) _ | refine Ext.tr ?_ (by assumption))))).alloc _) (by rfl) (new_cells wr #[.int .u8 (b.toNat : Int)] 5) (by simp [Value.oneCell']) (by omega) (by simp only [maxLen]; omega) ?_; intro v' w' hown' hext' hgg; clear hgg)
        go_roundw
        case rel => exact ⟨acc ++ [b], t, rfl, HS.out, by simp only [List.length_append, List.length_cons, List.length_nil]; omega, by rw [bc_app, List.length_append]; exact hown', hext'⟩
        case measure => simp [strLen]

end Go.Proofs.YtemdgilifnhdpaaGreatDoor
end

section
namespace Go.Proofs.YtemdgilifnhdpaaGreatDoor
open Go.RowKit

def resU (l : List UInt8) : List UInt8 × Int := match decL l with | some x => cleanL x | none => ([], 40)
theorem resU_some {l x : List UInt8} (h : decL l = some x) : resU l = cleanL x := by unfold resU; rw [h]
theorem resU_none {l : List UInt8} (h : decL l = none) : resU l = ([], 40) := by unfold resU; rw [h]
set_option maxRecDepth 100000 in
set_option maxHeartbeats 2000000 in
theorem uResolve_c (l : List UInt8) (hs : l.length ≤ 140737488351232) (w : World) (hE : ErrR w) :
    Calls Tryz.prog 59 #[.string (str l)] w (Gives (.tuple #[.string (str (resU l).1), .int .i64 (resU l).2]) w) := by
  have HE := Lib.hid hE
  clear hE
  cases hd : decL l with
  | none =>
    have CD := fun (w : World) (hE : ErrR w) => uDecode_c l hs w hE
    rw [decR_none hd] at CD
    rw [resU_none hd]
    have CD := Lib.hid CD
    clear hd
    go_enter Tryz.func59, Tryz.ntmps59
    go_wp2_with (go_at_call 95; refine (CD.out _ (HE.out.ext (by (repeat (first | exact Ext.rfl' _ | assumption | refine Ext.dr ?_ | refine Ext.drN ?_ _ | refine Ext.al ?_ _ | refine Ext.st ?_ (by simp) _ | refine Ext.tr ?_ (by assumption)))))).mono ?_; rintro e w1 ⟨rfl, hx1⟩)
    go_ret2
    exact ⟨rfl, by (repeat (first | exact Ext.rfl' _ | assumption | refine Ext.dr ?_ | refine Ext.drN ?_ _ | refine Ext.al ?_ _ | refine Ext.st ?_ (by simp) _ | refine Ext.tr ?_ (by assumption)))⟩
  | some x =>
    have hxl := dec_len l x hd
    have CD := fun (w : World) (hE : ErrR w) => uDecode_c l hs w hE
    rw [decR_some hd] at CD
    rw [resU_some hd]
    have CC := fun w => Clean_c x (by omega) w
    have CD := Lib.hid CD
    clear hd
    obtain ⟨r, hr⟩ : ∃ r, r = cleanL x := ⟨_, rfl⟩
    rw [← hr] at CC ⊢
    have CC := Lib.hid CC
    clear hr
    go_enter Tryz.func59, Tryz.ntmps59
    go_wp2_with (first
      | (go_at_call 95; refine (CD.out _ (HE.out.ext (by (repeat (first | exact Ext.rfl' _ | assumption | refine Ext.dr ?_ | refine Ext.drN ?_ _ | refine Ext.al ?_ _ | refine Ext.st ?_ (by simp) _ | refine Ext.tr ?_ (by assumption)))))).mono ?_; rintro e w1 ⟨rfl, hx1⟩)
      | (go_at_call 55; refine (CC.out _).mono ?_; rintro e w2 ⟨rfl, hx2⟩))
    go_ret2
    exact ⟨rfl, by (repeat (first | exact Ext.rfl' _ | assumption | refine Ext.dr ?_ | refine Ext.drN ?_ _ | refine Ext.al ?_ _ | refine Ext.st ?_ (by simp) _ | refine Ext.tr ?_ (by assumption)))⟩
end Go.Proofs.YtemdgilifnhdpaaGreatDoor
end

section
namespace Go.Proofs.YtemdgilifnhdpaaGreatDoor
open Go.RowKit
open Go.Maps (Keyed IsMap Tidy)
open Go.WideMaps (keyOf_string_mk)

def heldR (v : Value) : Option (DataW Value × List MemPlace) := some (.held v, [])
section
variable {α : Type}
def lkM (M : List (List UInt8 × α)) (l : List UInt8) : Option α := match M with | [] => none | (k, v) :: r => if k = l then some v else lkM r l
def putM (M : List (List UInt8 × α)) (l : List UInt8) (v : α) : List (List UInt8 × α) := match M with | [] => [(l, v)] | (k, u) :: r => if k = l then (k, v) :: r else (k, u) :: putM r l v
def delM (M : List (List UInt8 × α)) (l : List UInt8) : List (List UInt8 × α) := match M with | [] => [] | (k, u) :: r => if k = l then r else (k, u) :: delM r l

theorem lk_put_same (M : List (List UInt8 × α)) (l : List UInt8) (v : α) : lkM (putM M l v) l = some v := by
  induction M with
  | nil => simp [putM, lkM]
  | cons x r ih => obtain ⟨k, u⟩ := x; unfold putM; by_cases h : k = l <;> simp [h, lkM, ih]
theorem lk_put_other (M : List (List UInt8 × α)) {l l' : List UInt8} (h : l' ≠ l) (v : α) : lkM (putM M l v) l' = lkM M l' := by
  induction M with
  | nil => simp [putM, lkM, Ne.symm h]
  | cons x r ih =>
    obtain ⟨k, u⟩ := x; unfold putM
    by_cases hk : k = l
    · subst hk; simp [lkM, Ne.symm h]
    · simp only [hk, if_false, lkM, ih]
theorem put_len (M : List (List UInt8 × α)) (l : List UInt8) (v : α) : (putM M l v).length = if (lkM M l).isSome then M.length else M.length + 1 := by
  induction M with
  | nil => simp [putM, lkM]
  | cons x r ih =>
    obtain ⟨k, u⟩ := x; unfold putM
    by_cases hk : k = l
    · simp [hk, lkM]
    · simp only [hk, if_false, lkM, List.length_cons, ih]; split <;> rfl
theorem lk_mem {M : List (List UInt8 × α)} {l : List UInt8} {v : α} (h : lkM M l = some v) : (l, v) ∈ M := by
  induction M with
  | nil => cases h
  | cons x r ih =>
    obtain ⟨k, u⟩ := x; unfold lkM at h
    split at h
    · rename_i hk; injection h with h; subst hk; subst h; exact List.mem_cons_self ..
    · exact List.mem_cons_of_mem _ (ih h)
theorem mem_put {M : List (List UInt8 × α)} {l : List UInt8} {v : α} {x : List UInt8 × α} (h : x ∈ putM M l v) : x = (l, v) ∨ x ∈ M := by
  induction M with
  | nil => simp [putM] at h; exact .inl h
  | cons y r ih =>
    obtain ⟨k, u⟩ := y; unfold putM at h
    split at h
    · rename_i hk; subst hk
      rcases List.mem_cons.1 h with h | h
      · exact .inl h
      · exact .inr (List.mem_cons_of_mem _ h)
    · rcases List.mem_cons.1 h with h | h
      · exact .inr (h ▸ List.mem_cons_self ..)
      · rcases ih h with h | h
        · exact .inl h
        · exact .inr (List.mem_cons_of_mem _ h)
theorem mem_del {M : List (List UInt8 × α)} {l : List UInt8} {x : List UInt8 × α} (h : x ∈ delM M l) : x ∈ M := by
  induction M with
  | nil => exact h
  | cons y r ih =>
    obtain ⟨k, u⟩ := y; unfold delM at h
    split at h
    · exact List.mem_cons_of_mem _ h
    · rcases List.mem_cons.1 h with h | h
      · exact h ▸ List.mem_cons_self ..
      · exact List.mem_cons_of_mem _ (ih h)
def OneM (M : List (List UInt8 × α)) : Prop := M.Pairwise (fun p q => p.1 ≠ q.1)
theorem lk_none_of {M : List (List UInt8 × α)} {l : List UInt8} (h : ∀ x ∈ M, x.1 ≠ l) : lkM M l = none := by
  induction M with
  | nil => rfl
  | cons y r ih =>
    obtain ⟨k, u⟩ := y; unfold lkM
    rw [if_neg (h _ (List.mem_cons_self ..)), ih (fun x hx => h x (List.mem_cons_of_mem _ hx))]
theorem lk_none_mem {M : List (List UInt8 × α)} {l : List UInt8} (h : lkM M l = none) : ∀ x ∈ M, x.1 ≠ l := by
  induction M with
  | nil => intro x hx; cases hx
  | cons y r ih =>
    obtain ⟨k, u⟩ := y; unfold lkM at h
    split at h
    · cases h
    · rename_i hk
      intro x hx
      rcases List.mem_cons.1 hx with e | hx
      · subst e; exact hk
      · exact ih h x hx
theorem OneM.put {M : List (List UInt8 × α)} (h : OneM M) (l : List UInt8) (v : α) : OneM (putM M l v) := by
  induction M with
  | nil => simp [putM, OneM]
  | cons y r ih =>
    obtain ⟨k, u⟩ := y
    have h1 := List.pairwise_cons.1 h
    unfold putM
    split
    · exact List.pairwise_cons.2 ⟨h1.1, h1.2⟩
    · rename_i hk
      refine List.pairwise_cons.2 ⟨fun x hx => ?_, ih h1.2⟩
      rcases mem_put hx with e | hx
      · subst e; exact hk
      · exact h1.1 x hx
theorem OneM.del {M : List (List UInt8 × α)} (h : OneM M) (l : List UInt8) : OneM (delM M l) := by
  induction M with
  | nil => exact h
  | cons y r ih =>
    obtain ⟨k, u⟩ := y
    have h1 := List.pairwise_cons.1 h
    unfold delM
    split
    · exact h1.2
    · exact List.pairwise_cons.2 ⟨fun x hx => h1.1 x (mem_del hx), ih h1.2⟩
theorem lk_del_same {M : List (List UInt8 × α)} (h : OneM M) (l : List UInt8) : lkM (delM M l) l = none := by
  induction M with
  | nil => rfl
  | cons y r ih =>
    obtain ⟨k, u⟩ := y
    have h1 := List.pairwise_cons.1 h
    unfold delM
    split
    · rename_i hk; subst hk; exact lk_none_of (fun x hx => (h1.1 x hx).symm)
    · rename_i hk; unfold lkM; rw [if_neg hk]; exact ih h1.2
theorem lk_del_other (M : List (List UInt8 × α)) {l l' : List UInt8} (h : l' ≠ l) : lkM (delM M l) l' = lkM M l' := by
  induction M with
  | nil => rfl
  | cons y r ih =>
    obtain ⟨k, u⟩ := y
    unfold delM
    by_cases hk : k = l
    · subst hk; simp [lkM, Ne.symm h]
    · simp only [hk, if_false, lkM, ih]
theorem del_len (M : List (List UInt8 × α)) (l : List UInt8) : (delM M l).length + (if (lkM M l).isSome then 1 else 0) = M.length := by
  induction M with
  | nil => rfl
  | cons y r ih =>
    obtain ⟨k, u⟩ := y
    unfold delM lkM
    by_cases hk : k = l
    · simp [hk]
    · simp only [hk, if_false, List.length_cons]; omega

end
def World.isM (w : World) (P : Program) (k : TypeId) (b : Nat) (M : List (List UInt8 × Value)) : Prop :=
  ∃ D : DataW Value, w.ownsMap P k heldR b M.length D ∧ OneM M ∧ Maps.size D = M.length ∧ (∀ l, Maps.has D (.string l) = (lkM M l).isSome) ∧ ∀ l z, D.atKey (.string l) z = match lkM M l with | some v => .held v | none => z

variable {P : Program} {k : TypeId} {w : World} {b : Nat} {M : List (List UInt8 × Value)}

theorem World.isM_made (w : World) (P : Program) (k : TypeId) : World.isM (w.alloc (.map #[] 0)) P k w.heap.size [] :=
  ⟨.map [], World.ownsMap_made w P k heldR, List.Pairwise.nil, rfl, fun _ => rfl, fun _ _ => rfl⟩
theorem World.isM.kept {w' : World} {row : Option Nat} (h : World.isM w P k b M) (hg : w.grownBy w' row) (hne : some b ≠ row) : World.isM w' P k b M := by
  obtain ⟨D, h1, h2⟩ := h; exact ⟨D, h1.kept hg hne, h2⟩
theorem World.isM.lt (h : World.isM w P k b M) : b < w.heap.size := by obtain ⟨D, h1, _⟩ := h; exact h1.lt
theorem World.isM.one (h : World.isM w P k b M) : OneM M := by obtain ⟨D, _, h1, _⟩ := h; exact h1
theorem World.isM.same {w' : World} (h : World.isM w P k b M) (hb : w'.heap[b]? = w.heap[b]?) : World.isM w' P k b M := by
  obtain ⟨D, ⟨es, clock, h0, F, h1⟩, h2⟩ := h; exact ⟨D, ⟨es, clock, hb.trans h0, F, h1⟩, h2⟩
theorem World.isM.ext {w' : World} {B : Nat} (h : World.isM w P k b M) (hx : Below B w w') (hb : b < B) : World.isM w' P k b M := h.same (hx.block b hb)
theorem World.isM.put (h : World.isM w P k b M) (K : Keyed P k) {t e : TypeId} (ht : P.underlying t = some (.map k e)) (hs : P.underlying k = some .string) (hn : M.length < maxLen) {l : List UInt8} (hl : l.length ≤ maxLen) (v : Value) :
    ∃ w', (Instr.mapUpdate t (.map (some b)) (.string ⟨l.toArray⟩) v).run P w = .ok () w' ∧ World.isM w' P k b (putM M l v) ∧ w.mapTurned w' b := by
  obtain ⟨D, h1, h2, h3, h4, h5⟩ := h
  have hk : keyOf P k (.string ⟨l.toArray⟩) = some (.string l) := by rw [keyOf_string_mk hs (show l.toArray.size ≤ maxLen by simpa using hl)]
  obtain ⟨w', r, o, t⟩ := h1.store K ht hn hk (show heldR v = some (.held v, []) from rfl)
  have hsz : Maps.size (D.put (.string l) (.held v)) = (putM M l v).length := by rw [Maps.size_put (h1.tidy K), h4, put_len, h3]
  refine ⟨w', r, ⟨_, ?_, h2.put l v, hsz, fun l' => ?_, fun l' z => ?_⟩, t⟩
  · obtain ⟨es, clock, hb, F, hs', hD⟩ := o
    refine ⟨es, clock, hb, F, ?_, hD⟩
    rw [← hsz, hD]
    simp [Maps.size, length_sorted]
  · by_cases e : l' = l
    · subst e; rw [Maps.has_put_same h1.isMap (k := .string l') trivial, lk_put_same]; rfl
    · rw [Maps.has_put_other (by intro c; injection c with c; exact e c), lk_put_other M e]; exact h4 l'
  · by_cases e : l' = l
    · subst e; rw [Maps.atKey_put_same h1.isMap (k := .string l') trivial, lk_put_same]
    · rw [Maps.atKey_put_other (by intro c; injection c with c; exact e c), lk_put_other M e]; exact h5 l' z
theorem World.isM.del (h : World.isM w P k b M) (K : Keyed P k) {t e : TypeId} (ht : P.underlying t = some (.map k e)) (hs : P.underlying k = some .string) {l : List UInt8} (hl : l.length ≤ maxLen) (ty : TypeId) :
    ∃ w', (Builtin.delete_ #[t, k] ty #[.map (some b), .string ⟨l.toArray⟩]).run P w = .ok (.tuple #[]) w' ∧ World.isM w' P k b (delM M l) ∧ w.mapTurned w' b := by
  obtain ⟨D, h1, h2, h3, h4, h5⟩ := h
  have hk : keyOf P k (.string ⟨l.toArray⟩) = some (.string l) := by rw [keyOf_string_mk hs (show l.toArray.size ≤ maxLen by simpa using hl)]
  obtain ⟨w', r, o, t⟩ := h1.drop K ht hk ty
  have hsz : Maps.size (D.del (.string l)) = (delM M l).length := by
    have e1 := Maps.size_del (k := .string l) (h1.tidy K)
    have e2 := del_len M l
    rw [h4, h3] at e1
    omega
  refine ⟨w', r, ⟨_, ?_, h2.del l, hsz, fun l' => ?_, fun l' z => ?_⟩, t⟩
  · obtain ⟨es, clock, hb, F, hs', hD⟩ := o
    refine ⟨es, clock, hb, F, ?_, hD⟩
    rw [← hsz, hD]
    simp [Maps.size, length_sorted]
  · by_cases e : l' = l
    · subst e; rw [Maps.has_del_same, lk_del_same h2]; rfl
    · rw [Maps.has_del_other (by intro c; injection c with c; exact e c), lk_del_other M e]; exact h4 l'
  · by_cases e : l' = l
    · subst e; rw [Maps.atKey_del_same, lk_del_same h2]
    · rw [Maps.atKey_del_other (by intro c; injection c with c; exact e c), lk_del_other M e]; exact h5 l' z
theorem World.isM.look (h : World.isM w P k b M) (K : Keyed P k) {t e : TypeId} (ht : P.underlying t = some (.map k e)) (hs : P.underlying k = some .string) {z : Value} (hz : (zeroValue e).run P w = .ok z w) {l : List UInt8} (hl : l.length ≤ maxLen) :
    (Instr.lookup t (.map (some b)) (.string ⟨l.toArray⟩) true).run P w = .ok (.tuple #[(lkM M l).getD z, .bool (lkM M l).isSome]) w := by
  obtain ⟨D, h1, h2, h3, h4, h5⟩ := h
  have hk : keyOf P k (.string ⟨l.toArray⟩) = some (.string l) := by rw [keyOf_string_mk hs (show l.toArray.size ≤ maxLen by simpa using hl)]
  obtain ⟨v, ps, r, hv⟩ := h1.look_ok K ht hz (show heldR z = some (.held z, []) from rfl) hk
  rw [r, h4]
  have e : v = (lkM M l).getD z := by
    simp only [heldR, Option.some.injEq, Prod.mk.injEq, h5] at hv
    cases hm : lkM M l with
    | none => rw [hm] at hv; have := hv.1; injection this
    | some u => rw [hm] at hv; have := hv.1; injection this
  rw [e]
theorem World.isM.len (h : World.isM w P k b M) {t e : TypeId} (ht : P.underlying t = some (.map k e)) (ty : TypeId) : (Builtin.len_ #[t] ty #[.map (some b)]).run P w = .ok (.int .i64 M.length) w := by
  obtain ⟨D, h1, _, h3, _⟩ := h
  rw [h1.len ht ty, h3]

section
variable {ops : Array Oper} {rest : List Oper} {o : Oper} {a : Act} {Q : Exit → Act → World → Prop}
theorem wpL_look (hg : o.guard = none) (m x : Operand) (t : TypeId) (hop : o.op = Op.lookup t m x true) (e : TypeId) (K : Keyed P k) (ht : P.underlying t = some (.map k e)) (hs : P.underlying k = some .string) {z : Value} (hz : (zeroValue e).run P w = .ok z w)
    (hm : a.eval m = .map (some b)) (h : World.isM w P k b M) (l : List UInt8) (hl : l.length ≤ maxLen) (hx : a.eval x = .string ⟨l.toArray⟩)
    (hK : wpList P ops Q rest (a.put o.dst (.tuple #[(lkM M l).getD z, .bool (lkM M l).isSome])) w) : wpList P ops Q (o :: rest) a w := by
  refine wpList_plain hg fun K' hK' => ?_
  unfold Oper.wp
  simp [execOp, hop, hm, hx, h.look K ht hs hz hl, Result.andThen]
  exact hK' _ _ hK
theorem wpL_mdel (hg : o.guard = none) (m x : Operand) (t : TypeId) (hop : o.op = Op.call { callee := Callee.builtin Builtin.delete, args := #[m, x], argTypes := #[t, k] }) (e : TypeId) (K : Keyed P k) (ht : P.underlying t = some (.map k e)) (hs : P.underlying k = some .string)
    (hm : a.eval m = .map (some b)) (h : World.isM w P k b M) (l : List UInt8) (hl : l.length ≤ maxLen) (hx : a.eval x = .string ⟨l.toArray⟩)
    (hK : ∀ w', World.isM w' P k b (delM M l) → w.mapTurned w' b → wpList P ops Q rest (a.put o.dst (.tuple #[])) w') : wpList P ops Q (o :: rest) a w := by
  refine wpList_plain hg fun K' hK' => ?_
  obtain ⟨w', r, r1, r2⟩ := h.del K ht hs hl o.type
  unfold Oper.wp
  simp [execOp, hop, resolve, invoke, builtin, hm, hx, r, Result.andThen]
  exact hK' _ _ (hK w' r1 r2)
end
end Go.Proofs.YtemdgilifnhdpaaGreatDoor
end

section
namespace Go.Proofs.YtemdgilifnhdpaaGreatDoor
open Go.RowKit

section
variable {α β : Type}
theorem lk_map (f : List UInt8 → α → β) (M : List (List UInt8 × α)) (l : List UInt8) : lkM (M.map fun x => (x.1, f x.1 x.2)) l = (lkM M l).map (f l) := by
  induction M with
  | nil => rfl
  | cons x r ih =>
    obtain ⟨k, u⟩ := x
    simp only [List.map_cons, lkM]
    by_cases h : k = l
    · subst h; simp
    · simp [h, ih]
theorem del_map (f : List UInt8 → α → β) (M : List (List UInt8 × α)) (l : List UInt8) : delM (M.map fun x => (x.1, f x.1 x.2)) l = (delM M l).map fun x => (x.1, f x.1 x.2) := by
  induction M with
  | nil => rfl
  | cons x r ih =>
    obtain ⟨k, u⟩ := x
    simp only [List.map_cons, delM]
    by_cases h : k = l
    · simp [h]
    · simp [h, ih]
theorem map_keys {f g : List UInt8 → α → β} {M : List (List UInt8 × α)} (h : ∀ x ∈ M, f x.1 = g x.1) : (M.map fun x => (x.1, f x.1 x.2)) = M.map fun x => (x.1, g x.1 x.2) :=
  List.map_congr_left fun x hx => by rw [h x hx]
theorem put_map {f g : List UInt8 → α → β} {M : List (List UInt8 × α)} (h1 : OneM M) {l : List UInt8} (h : ∀ k, k ≠ l → f k = g k) (v : α) :
    putM (M.map fun x => (x.1, f x.1 x.2)) l (g l v) = (putM M l v).map fun x => (x.1, g x.1 x.2) := by
  induction M with
  | nil => rfl
  | cons x r ih =>
    obtain ⟨k, u⟩ := x
    have h2 := List.pairwise_cons.1 h1
    simp only [List.map_cons, putM]
    by_cases hk : k = l
    · subst hk
      simp only [if_true, List.map_cons]
      rw [map_keys (fun x hx => h x.1 (h2.1 x hx).symm)]
    · simp only [if_neg hk, List.map_cons, ih h2.2, h k hk]
theorem keys_map (f : List UInt8 → α → β) (M : List (List UInt8 × α)) : (M.map fun x => (x.1, f x.1 x.2)).map (·.1) = M.map (·.1) := by simp [List.map_map]
end

structure Fil where
  b : List UInt8
  mt : Int
  ve : Nat
structure Wrl where
  L : List (List UInt8 × Fil)
  now : Int
  ver : Nat
def wlast : Int := 253402300799
def pathF (l : List UInt8) : Bool := decide (cleanL l = (l, 0)) && !(l.getLast? == some 47)
def putW (s : Wrl) (l b : List UInt8) : Wrl × Int :=
  if pathF l = false then (s, 1) else
  if 1048576 < b.length ∨ ((lkM s.L l).isSome = false ∧ s.L.length = 1000) then (s, 6) else
  (⟨putM s.L l ⟨b, s.now, s.ver + 1⟩, s.now, s.ver + 1⟩, 0)
def removeW (s : Wrl) (l : List UInt8) : Wrl × Int := if (lkM s.L l).isSome then (⟨delM s.L l, s.now, s.ver⟩, 0) else (s, 3)
def tickW (s : Wrl) (n : Int) : Wrl × Int := if n < 0 then (s, 1) else (⟨s.L, s.now + min n (wlast - s.now), s.ver⟩, 0)
def folderW (s : Wrl) (l : List UInt8) : Bool := decide (l.head? = some 47) && decide (l.getLast? = some 47) && (decide (l = [47]) || s.L.any fun x => decide (l <+: x.1))
def listW (s : Wrl) : List (List UInt8) := (s.L.map (·.1)).mergeSort (fun x y => decide (x ≤ y))
def newW (now : Int) : Option Wrl := if now < 0 ∨ wlast < now then none else some ⟨[], now, 0⟩
structure Wok (s : Wrl) : Prop where
  one : OneM s.L
  few : s.L.length ≤ 1000
  now0 : 0 ≤ s.now
  now1 : s.now ≤ wlast
  path : ∀ x ∈ s.L, pathF x.1 = true
  size : ∀ x ∈ s.L, x.2.b.length ≤ 1048576
  mt : ∀ x ∈ s.L, x.2.mt ≤ s.now ∧ 0 ≤ x.2.mt
  ve : ∀ x ∈ s.L, x.2.ve ≤ s.ver

theorem newW_ok {now : Int} {s : Wrl} (h : newW now = some s) : Wok s ∧ s.L = [] ∧ s.now = now ∧ s.ver = 0 := by
  unfold newW at h
  split at h
  · cases h
  · rename_i hn
    injection h with h; subst h
    exact ⟨⟨List.Pairwise.nil, by simp, by simp; omega, by simp; omega, by simp, by simp, by simp, by simp⟩, rfl, rfl, rfl⟩
theorem putW_ok {s : Wrl} (h : Wok s) (l b : List UInt8) : Wok (putW s l b).1 ∧ (putW s l b).1.now = s.now ∧ s.ver ≤ (putW s l b).1.ver ∧ (putW s l b).1.ver ≤ s.ver + 1 := by
  unfold putW
  split
  · exact ⟨h, rfl, Nat.le_refl _, Nat.le_succ _⟩
  · rename_i hp
    split
    · exact ⟨h, rfl, Nat.le_refl _, Nat.le_succ _⟩
    · rename_i hb
      have hb1 : ¬ 1048576 < b.length := fun e => hb (.inl e)
      have hb2 : ¬ ((lkM s.L l).isSome = false ∧ s.L.length = 1000) := fun e => hb (.inr e)
      refine ⟨⟨h.one.put _ _, ?_, h.now0, h.now1, fun x hx => ?_, fun x hx => ?_, fun x hx => ?_, fun x hx => ?_⟩, rfl, Nat.le_succ _, Nat.le_refl _⟩
      · show (putM s.L l _).length ≤ 1000
        rw [put_len]
        have := h.few
        split
        · omega
        · rename_i hn
          have : s.L.length ≠ 1000 := fun e => hb2 ⟨by simpa using hn, e⟩
          omega
      · rcases mem_put hx with rfl | hx
        · simpa using hp
        · exact h.path x hx
      · rcases mem_put hx with rfl | hx
        · show b.length ≤ _; omega
        · exact h.size x hx
      · rcases mem_put hx with rfl | hx
        · exact ⟨Int.le_refl _, h.now0⟩
        · exact h.mt x hx
      · rcases mem_put hx with rfl | hx
        · exact Nat.le_refl _
        · exact Nat.le_succ_of_le (h.ve x hx)
theorem removeW_ok {s : Wrl} (h : Wok s) (l : List UInt8) : Wok (removeW s l).1 ∧ (removeW s l).1.now = s.now ∧ (removeW s l).1.ver = s.ver := by
  unfold removeW
  split
  · have hd := del_len s.L l
    exact ⟨⟨h.one.del _, by show (delM s.L l).length ≤ 1000; have := h.few; omega, h.now0, h.now1, fun x hx => h.path x (mem_del hx), fun x hx => h.size x (mem_del hx), fun x hx => h.mt x (mem_del hx), fun x hx => h.ve x (mem_del hx)⟩, rfl, rfl⟩
  · exact ⟨h, rfl, rfl⟩
theorem tickW_ok {s : Wrl} (h : Wok s) (n : Int) : Wok (tickW s n).1 ∧ s.now ≤ (tickW s n).1.now ∧ (tickW s n).1.ver = s.ver := by
  unfold tickW
  have h0 := h.now0
  have h1 := h.now1
  split
  · exact ⟨h, Int.le_refl _, rfl⟩
  · exact ⟨⟨h.one, h.few, by show (0 : Int) ≤ s.now + min n (wlast - s.now); omega, by show s.now + min n (wlast - s.now) ≤ wlast; omega, h.path, h.size, fun x hx => ⟨by have := (h.mt x hx).1; show _ ≤ s.now + min n (wlast - s.now); omega, (h.mt x hx).2⟩, h.ve⟩, by show s.now ≤ s.now + min n (wlast - s.now); omega, rfl⟩
end Go.Proofs.YtemdgilifnhdpaaGreatDoor
end
