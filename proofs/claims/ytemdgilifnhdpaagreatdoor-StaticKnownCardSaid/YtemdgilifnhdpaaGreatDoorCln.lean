/-
The program's Clean: a loop over the parts of a path.
-/
import Derived.Test.YtemdgilifnhdpaaGreatDoorZal
import Derived.Test.YtemdgilifnhdpaaGreatDoorZae
import Derived.Lib.Join
set_option linter.unusedVariables false
set_option linter.unusedSimpArgs false
namespace Go.Proofs.YtemdgilifnhdpaaGreatDoor
open Go.RowKit Go.Shelf

attribute [local go_sem] Oper.semAt_some

def leftOf (pre : List (List UInt8 × Bool)) : List (List UInt8) := (walkS [] (pre.map (·.1))).getD []
def lastDot (pre : List (List UInt8 × Bool)) : Bool := match pre.getLast? with | some x => x.2 && dotS x.1 | none => false

theorem own_take {w : World} {base e n c m : Nat} {A : Option Addr} {xs : List Value} (h : w.ownsRow base e 1 (.slice A n c) n xs) (hm : m ≤ n) (hn : 0 < n) : w.ownsRow base e 1 (.slice A m c) m (xs.take m) := by
  have hl := h.1
  refine ⟨by rw [List.length_take]; omega, .inr ?_⟩
  rcases h.2 with ⟨hv, h0⟩ | ⟨g, cap, cur, hv, hg, hh, hnc, hcm, hcs, hx⟩
  · omega
  · injection hv with e1 e2 e3
    subst e1; subst e3
    exact ⟨g, c, cur, rfl, hg, hh, by omega, hcm, hcs, by rw [← hx, List.take_take]; congr 1; omega⟩
theorem left_snoc (pre : List (List UInt8 × Bool)) (x : List UInt8 × Bool) (hw : walkS [] (pre.map (·.1)) = some (leftOf pre)) : walkS [] ((pre ++ [x]).map (·.1)) = walkS (leftOf pre) [x.1] := by
  rw [List.map_append, walk_app, hw]; rfl
theorem left_of {pre : List (List UInt8 × Bool)} {l : List (List UInt8)} (h : walkS [] (pre.map (·.1)) = some l) : leftOf pre = l := by unfold leftOf; rw [h]; rfl
theorem lastDot_snoc (pre : List (List UInt8 × Bool)) (x : List UInt8 × Bool) : lastDot (pre ++ [x]) = (x.2 && dotS x.1) := by unfold lastDot; rw [List.getLast?_append]; simp
theorem left_len : ∀ (ss left x : List (List UInt8)), walkS left ss = some x → x.length ≤ left.length + ss.length
  | [], left, x, h => by simp only [walkS, Option.some.injEq] at h; subst h; simp
  | s :: ss, left, x, h => by
    unfold walkS at h
    split at h
    · split at h
      · cases h
      · have := left_len ss _ x h
        rw [List.length_dropLast] at this
        simp only [List.length_cons]; omega
    · split at h
      · have := left_len ss _ x h
        simp only [List.length_cons]; omega
      · have := left_len ss _ x h
        simp only [List.length_append, List.length_cons, List.length_nil] at this ⊢; omega
theorem tot_cnt (ss : List (List UInt8)) : ss.length ≤ totS ss := by
  induction ss with
  | nil => exact Nat.le_refl _
  | cons s ss ih => rw [tot_cons]; simp only [List.length_cons]; omega
theorem segs_cnt (l : List UInt8) : (segsL l).length ≤ l.length + 1 := by have := tot_cnt (segsL l); rw [segs_len] at this; exact this
def ClI (w : World) (pre : List (List UInt8 × Bool)) (W : World) : Prop :=
  ((∃ v, Boxed W (w.heap.size + 1 + 1) 56 v ∧ W.ownsRow (w.heap.size + 1 + 1 + 1 + 1) 9 1 v (leftOf pre).length (sc (leftOf pre)) ∧ True) ∧ walkS [] (pre.map (·.1)) = some (leftOf pre) ∧
    Boxed W (w.heap.size + 1 + 1 + 1) 4 (.bool (lastDot pre)) ∧ Boxed W w.heap.size 9 (.string ⟨#[]⟩) ∧ Boxed W (w.heap.size + 1) 35 (.int .i64 0)) ∧ Below w.heap.size w W
def ClX (w : World) (c : Code) (pre : List (List UInt8 × Bool)) (W : World) : Prop :=
  ((c = .ret ∧ walkS [] (pre.map (·.1)) = none) ∧ Boxed W w.heap.size 9 (.string ⟨#[]⟩) ∧ Boxed W (w.heap.size + 1) 35 (.int .i64 40)) ∧ Below w.heap.size w W
theorem pure_own {β : Type} (p : β → Prop) : _root_.Go.Own (fun s (_ : World) => p s) := fun _ _ _ _ hs _ _ => hs
theorem own_and {β : Type} {I J : β → World → Prop} (h : _root_.Go.Own I) (k : _root_.Go.Own J) : _root_.Go.Own (fun s W => I s W ∧ J s W) := fun s A B row hs hg hr => ⟨h s A B row hs.1 hg hr, k s A B row hs.2 hg hr⟩
theorem ClI_own (w : World) (B : Nat) (hB : w.heap.size ≤ B) : OwnFrom B (ClI w) := by
  refine OwnFrom.and (_root_.Go.Own.from (own_and (holdsRow_own (w.heap.size + 1 + 1 + 1 + 1) (w.heap.size + 1 + 1) 56 9 1 (fun pre => (leftOf pre).length) (fun pre => sc (leftOf pre)) (fun _ _ => True)) (own_and (pure_own _) (own_and (boxed_own _ _ (fun pre => .bool (lastDot pre))) (own_and (boxed_own _ _ (fun _ => .string ⟨#[]⟩)) (boxed_own _ _ (fun _ => .int .i64 0)))))) _) (ownFrom_below (Nat.le_refl _) hB)
theorem ClX_own (w : World) (B : Nat) (hB : w.heap.size ≤ B) (c : Code) : OwnFrom B (ClX w c) := by
  refine OwnFrom.and (_root_.Go.Own.from (own_and (pure_own _) (own_and (boxed_own _ _ (fun _ => .string ⟨#[]⟩)) (boxed_own _ _ (fun _ => .int .i64 40)))) _) (ownFrom_below (Nat.le_refl _) hB)

theorem own_set {W : World} {B base k size : Nat} {e : TypeId} {v : Value} {xs : List Value} (u' : Value) (h : W.ownsRow base e size v k xs) (hlt : B < base) : (W.setCell ⟨B, 0, none⟩ u').ownsRow base e size v k xs :=
  h.kept (grownBy_setCell' W B u') (.inr (fun e => by have := (h.lt _ e).1; omega))
theorem own_mono {W : World} {base base' k size : Nat} {e : TypeId} {v : Value} {xs : List Value} (h : W.ownsRow base e size v k xs) (hb : base' ≤ base) : W.ownsRow base' e size v k xs := by
  refine ⟨h.1, ?_⟩
  rcases h.2 with h2 | ⟨g, cap, cur, hv, hg, r⟩
  · exact .inl h2
  · exact .inr ⟨g, cap, cur, hv, by omega, r⟩
theorem box_kept {W w1 : World} {B base k size : Nat} {t e : TypeId} {u v : Value} {xs : List Value} {tmp : Obj} (hb : Boxed W B t u) (h : W.ownsRow base e size v k xs) (hlt : B < base) (hg : (W.alloc tmp).grownBy w1 v.ownBlock) : Boxed w1 B t u :=
  (hb.alloc tmp).kept hg (fun e => by have := (h.lt _ e.symm).1; omega)
theorem cl_bad {w W : World} {B : Nat} {pre : List (List UInt8 × Bool)} (hR0 : Boxed W w.heap.size 9 (.string ⟨#[]⟩)) (hR1 : Boxed W (w.heap.size + 1) 35 (.int .i64 0)) (hB : Below w.heap.size w W) (h : walkS [] (pre.map fun x => x.1) = none) :
    KeepsFrom B W ((W.setCell ⟨w.heap.size, 0, none⟩ (.string ⟨#[]⟩)).setCell ⟨w.heap.size + 1, 0, none⟩ (.int .i64 40)) ∧ ClX w .ret pre ((W.setCell ⟨w.heap.size, 0, none⟩ (.string ⟨#[]⟩)).setCell ⟨w.heap.size + 1, 0, none⟩ (.int .i64 40)) :=
  ⟨((KeepsOthers.setCell W _ _).trans (KeepsOthers.setCell _ _ _)).from _, ⟨⟨rfl, h⟩, (hR0.set _).other (by omega) _, (hR1.other (by omega) _).set _⟩,
    (hB.setCell (p := ⟨w.heap.size, 0, none⟩) (Nat.le_refl _) _).setCell (p := ⟨w.heap.size + 1, 0, none⟩) (Nat.le_succ _) _⟩
theorem cl_go {w W W1 : World} {B : Nat} {pre : List (List UInt8 × Bool)} {f0 f : Bool} {L : List (List UInt8)} {v' : Value} (hk : KeepsOthers W W1) (hb : Below w.heap.size W W1)
    (hv : Boxed W1 (w.heap.size + 1 + 1) 56 v') (hrow : W1.ownsRow (w.heap.size + 1 + 1 + 1 + 1) 9 1 v' L.length (sc L)) (hF : Boxed W1 (w.heap.size + 1 + 1 + 1) 4 (.bool f0))
    (hR0 : Boxed W1 w.heap.size 9 (.string ⟨#[]⟩)) (hR1 : Boxed W1 (w.heap.size + 1) 35 (.int .i64 0)) (hB : Below w.heap.size w W) (h : walkS [] (pre.map fun x => x.1) = some L) (hf : f = lastDot pre) :
    KeepsFrom B W (W1.setCell ⟨w.heap.size + 1 + 1 + 1, 0, none⟩ (.bool f)) ∧ Below w.heap.size W (W1.setCell ⟨w.heap.size + 1 + 1 + 1, 0, none⟩ (.bool f)) ∧ ClI w pre (W1.setCell ⟨w.heap.size + 1 + 1 + 1, 0, none⟩ (.bool f)) := by
  have e := left_of h
  have hle : w.heap.size ≤ w.heap.size + 1 + 1 + 1 := by omega
  refine ⟨(hk.trans (KeepsOthers.setCell _ _ _)).from _, hb.setCell (p := ⟨w.heap.size + 1 + 1 + 1, 0, none⟩) hle _, ⟨⟨v', hv.other (by omega) _, ?_, trivial⟩, by rw [e]; exact h, ?_, hR0.other (by omega) _, hR1.other (by omega) _⟩, (hB.trans hb).setCell (p := ⟨w.heap.size + 1 + 1 + 1, 0, none⟩) hle _⟩
  · rw [e]; exact own_set _ hrow (by omega)
  · rw [← hf]; exact hF.set _
def joinS (ps : List (List UInt8)) : List UInt8 := (ps.flatMap fun s => 47 :: s).tail
theorem join_eq (ps : List (List UInt8)) : Lib.join ps [47] = joinS ps := by
  unfold joinS
  induction ps with
  | nil => rfl
  | cons s ps ih =>
    cases ps with
    | nil => simp [Lib.join]
    | cons t ps =>
      have e : Lib.join (s :: t :: ps) [47] = s ++ [47] ++ Lib.join (t :: ps) [47] := by simp [Lib.join]
      rw [e, ih]; simp
theorem join_len (ps : List (List UInt8)) : (joinS ps).length ≤ totS ps := by unfold joinS; rw [List.length_tail, tot_flat]; omega
theorem Join_c (ps : List (List UInt8)) (A : Option Addr) (n c : Nat) (hn : n = ps.length) (hnc : n ≤ c) (ht : totS ps ≤ 1099511627776) (w : World) (h : Rd w A (sc ps)) :
    Calls Tryz.prog 90 #[.slice A n c, .string ⟨#[47]⟩] w (Gives (.string (str (joinS ps))) w) := by
  subst hn
  by_cases h0 : ps = []
  · subst h0
    refine (Tryz.strings_Join_none A c _ w).mono ?_
    rintro e w' ⟨rfl, rfl⟩
    exact ⟨rfl, Ext.rfl' _⟩
  · obtain ⟨b, o, rfl, hb, hc⟩ := h.at_ (by rw [sc_len]; exact List.length_pos_iff.2 h0)
    have hm : (ps.map str).map (·.data.toList) = ps := by rw [List.map_map]; simp [Function.comp_def]
    have hc2 := tot_cnt ps
    have hj := join_len ps
    have K := Tryz.strings_Join b o c (ps.map str) ⟨#[47]⟩ w (fun j x hj => hc j _ (by rw [List.getElem?_map] at hj; unfold sc; rw [List.getElem?_map]; cases hp : ps[j]? with | none => rw [hp] at hj; cases hj | some y => rw [hp] at hj; simp at hj; simp [hj])) hb (by rw [List.length_map]; omega) (by rw [List.length_map]; exact hnc) (by rw [hm]; show (Lib.join ps [47]).length ≤ _; rw [join_eq]; omega)
    rw [hm, List.length_map] at K
    refine K.mono ?_
    rintro e w' ⟨rfl, hx⟩
    exact ⟨ret_val (by show Value.string (str (Lib.join ps [47])) = _; rw [join_eq]), hx⟩
theorem mark_fst (ss : List (List UInt8)) : (markS ss).map (fun x : List UInt8 × Bool => x.1) = ss := by
  induction ss with
  | nil => rfl
  | cons s ss ih =>
    cases ss with
    | nil => rfl
    | cons t ss => rw [mark_more s _ (by simp), List.map_cons, ih]
theorem mark_last (ss : List (List UInt8)) (h : ss ≠ []) : lastDot (markS ss) = dotS (ss.getLastD []) := by
  induction ss with
  | nil => exact absurd rfl h
  | cons s ss ih =>
    cases ss with
    | nil => simp [markS, lastDot]
    | cons t ss =>
      rw [mark_more s _ (by simp)]
      have h1 := ih (by simp)
      have h2 : markS (t :: ss) ≠ [] := by intro e; have := congrArg List.length e; rw [mark_len] at this; simp at this
      obtain ⟨m, hm⟩ : ∃ m, m = markS (t :: ss) := ⟨_, rfl⟩
      rw [← hm] at h1 h2 ⊢
      have e1 : lastDot ((s, false) :: m) = lastDot m := by unfold lastDot; cases m with | nil => exact absurd rfl h2 | cons a m => simp
      have e2 : (s :: t :: ss).getLastD [] = (t :: ss).getLastD [] := by simp
      rw [e1, h1, e2]
theorem walk_prefix {a b : List (List UInt8)} (h : a <+: b) (hw : walkS [] a = none) : walkS [] b = none := by
  obtain ⟨c, rfl⟩ := h
  rw [walk_app, hw]; rfl

set_option maxRecDepth 100000 in
set_option maxHeartbeats 2000000 in
theorem Clean_bad (l : List UInt8) (hs : l.length ≤ 140737488355328) (h : ¬ (l.head? = some 47 ∧ l.length ≤ 4096 ∧ 0 ∉ l)) (w : World) :
    Calls Tryz.prog 55 #[.string (str l)] w (Gives (.tuple #[.string ⟨#[]⟩, .int .i64 40]) w) := by
  by_cases h1 : l.head? = some 47
  · have P1 := Lib.hid (pre_yes h1)
    by_cases h2 : l.length ≤ 4096
    · have h3 : 0 ∈ l := Classical.byContradiction fun h3 => h ⟨h1, h2, h3⟩
      obtain ⟨z, hz, hz0⟩ := idx_yes h3
      have HZ := Lib.hid hz
      clear hz h1 h3 h
      go_enter Tryz.func55, Tryz.ntmps55
      go_wp2_with (first
        | (go_at_call 60; refine (HasPrefix_c _ _ _ P1.out _).mono ?_; rintro e w1 ⟨rfl, rfl⟩)
        | (go_at_call 88; refine (IndexByteS_c _ _ _ HZ.out _).mono ?_; rintro e w2 ⟨rfl, rfl⟩))
      exact bodyPost_ret (v := .tuple #[.string ⟨#[]⟩, .int .i64 40]) (by simp [results, Tryz.results55, go_sem]) rfl ⟨rfl, by (repeat (first | exact Ext.rfl' _ | assumption | refine Ext.dr ?_ | refine Ext.drN ?_ _ | refine Ext.al ?_ _ | refine Ext.st ?_ (by simp) _ | refine Ext.tr ?_ (by assumption)))⟩
    · have hlt : decide ((4096 : Int) < (l.length : Int)) = true := by rw [decide_eq_true_eq]; omega
      clear h1 h
      go_enter Tryz.func55, Tryz.ntmps55
      go_wp2_with (first
        | (go_at_call 60; refine (HasPrefix_c _ _ _ P1.out _).mono ?_; rintro e w1 ⟨rfl, rfl⟩))
      exact bodyPost_ret (v := .tuple #[.string ⟨#[]⟩, .int .i64 40]) (by simp [results, Tryz.results55, go_sem]) rfl ⟨rfl, by (repeat (first | exact Ext.rfl' _ | assumption | refine Ext.dr ?_ | refine Ext.drN ?_ _ | refine Ext.al ?_ _ | refine Ext.st ?_ (by simp) _ | refine Ext.tr ?_ (by assumption)))⟩
  · have P1 := Lib.hid (pre_no h1)
    clear h1 h
    go_enter Tryz.func55, Tryz.ntmps55
    go_wp2_with (first
      | (go_at_call 60; refine (HasPrefix_c _ _ _ P1.out _).mono ?_; rintro e w1 ⟨rfl, rfl⟩))
    exact bodyPost_ret (v := .tuple #[.string ⟨#[]⟩, .int .i64 40]) (by simp [results, Tryz.results55, go_sem]) rfl ⟨rfl, by (repeat (first | exact Ext.rfl' _ | assumption | refine Ext.dr ?_ | refine Ext.drN ?_ _ | refine Ext.al ?_ _ | refine Ext.st ?_ (by simp) _ | refine Ext.tr ?_ (by assumption)))⟩

theorem clean_res {T : Array Value} {W : World} {p q : Addr} {u v : Value} (h2 : T.getD 2 undef = .pointer (some p)) (h3 : T.getD 3 undef = .pointer (some q)) (hp : W.cell? p = some u) (hq : W.cell? q = some v) :
    (results Tryz.f55 T).run Tryz.prog W = .ok (.tuple #[u, v]) W := by
  have h2' : T[2]?.getD undef = .pointer (some p) := by simpa using h2
  have h3' : T[3]?.getD undef = .pointer (some q) := by simpa using h3
  simp [results, Tryz.results55, go_sem, h2, h3, h2', h3', hp, hq]
set_option maxRecDepth 100000 in
set_option maxHeartbeats 4000000 in
theorem Clean_in (s : List UInt8) (h2 : s.length ≤ 4095) (h0 : 0 ∉ (47 :: s)) (w : World) :
    CallsIn Fence.wide 8 Tryz.prog 55 #[.string (str (47 :: s))] w (Gives (.tuple #[.string (str (cleanL (47 :: s)).1), .int .i64 (cleanL (47 :: s)).2]) w) := by
  have P1 := Lib.hid (pre_yes (show (47 :: s).head? = some 47 from rfl))
  have P2 := Lib.hid (idx_no h0)
  obtain ⟨l, hl⟩ : ∃ l, l = 47 :: s := ⟨_, rfl⟩
  have hll : l.length = s.length + 1 := by rw [hl]; rfl
  rw [← hl] at P1 P2 ⊢
  have HL := Lib.hid hl
  have H0 := Lib.hid h0
  clear hl h0
  refine callsIn_of_wp_marks Tryz.func55 rfl trivial ?_ rfl
  simp only [Tryz.ntmps55, List.size_toArray, List.length_cons, List.length_nil, Nat.reduceAdd, Nat.reduceSub, Array.replicate_succ, Array.replicate_zero, List.push_toArray, List.append_toArray, List.nil_append, List.cons_append]
  have hlt : decide ((4096 : Int) < (l.length : Int)) = false := by rw [decide_eq_false_iff_not]; omega
  gi_wp2_with (first
    | (refine ⟨trivial, ?_⟩; gi_at_call 60; refine (callsIn_wide.2 (HasPrefix_c _ _ _ P1.out _)).mono ?_; rintro e w1 ⟨rfl, rfl⟩)
    | (refine ⟨trivial, ?_⟩; gi_at_call 88; refine (callsIn_wide.2 (IndexByteS_c _ _ _ P2.out _)).mono ?_; rintro e w1 ⟨rfl, rfl⟩)
    | (refine ⟨trivial, ?_⟩; gi_at_call 89; refine (callsIn_wide.2 (segments_c _ _)).mono ?_; rintro e w1 ⟨rfl, rfl⟩))
  obtain ⟨i0, hi, hz0, hz1, hz2⟩ := info_parts slt_str.2.1
  have b0 := Boxed.new w 9 (.string ⟨#[]⟩)
  have b1 := Boxed.new (w.alloc (.cells #[.string ⟨#[]⟩] 9)) 35 (.int .i64 0)
  have b2 := Boxed.new ((w.alloc (.cells #[.string ⟨#[]⟩] 9)).alloc (.cells #[.int .i64 0] 35)) 56 (.slice none 0 0)
  have b3 := Boxed.new (((w.alloc (.cells #[.string ⟨#[]⟩] 9)).alloc (.cells #[.int .i64 0] 35)).alloc (.cells #[.slice none 0 0] 56)) 4 (.bool false)
  have b4 := Boxed.new ((((w.alloc (.cells #[.string ⟨#[]⟩] 9)).alloc (.cells #[.int .i64 0] 35)).alloc (.cells #[.slice none 0 0] 56)).alloc (.cells #[.bool false] 4)) 9 (.string (str l))
  simp only [World.size_alloc] at b1 b2 b3 b4
  have hx0 : Ext w (((((w.alloc (.cells #[.string ⟨#[]⟩] 9)).alloc (.cells #[.int .i64 0] 35)).alloc (.cells #[.slice none 0 0] 56)).alloc (.cells #[.bool false] 4)).alloc (.cells #[.string (str l)] 9)) := by (repeat (first | exact Ext.rfl' _ | assumption | refine Ext.dr ?_ | refine Ext.drN ?_ _ | refine Ext.al ?_ _ | refine Ext.st ?_ (by simp) _ | refine Ext.tr ?_ (by assumption)))
  refine' wpIn_rangeFunc_ownG rfl (by omega) (gf := 121) (lb := #[.pointer (some ⟨w.heap.size + 1 + 1 + 1 + 1, 0, none⟩)]) rfl trivial (enters_of Tryz.func121 (by kernel_rfl) rfl)
    (seg_stops (w.heap.size + 1 + 1 + 1 + 1) w.heap.size s (by omega) _ (by simp) (by rw [← HL.out]; exact b4.cell)) belowK_t (belowK_b (by simp; omega)) (Below.refl _ _) (fun _ => rfl)
    (ClI w) (ClX w) (ClI_own w _ (by simp; omega)) (fun c => ClX_own w _ (by simp; omega) c)
    ⟨⟨⟨_, (b2.alloc _).alloc _, World.ownsRow_nil _ _ _ _, trivial⟩, rfl, b3.alloc _, ((((b0.alloc _).alloc _).alloc _).alloc _), (((b1.alloc _).alloc _).alloc _)⟩, hx0⟩ _ ?assign ?body ?done ?stop
  case assign =>
    intro lp x W K hK
    dsimp only [encS]
    gi_wp2
    exact hK
  case body =>
    rintro lp pre ⟨sg, last⟩ W ⟨⟨⟨v, hv, hrow, _⟩, hw, hF, hR0, hR1⟩, hB⟩ hlt
    have hc := hv.cell
    have hf := hv.frozen
    have hFc := hF.cell
    have hFf := hF.frozen
    have hR0c := hR0.cell
    have hR0f := hR0.frozen
    have hR1c := hR1.cell
    have hR1f := hR1.frozen
    have hll2 : (leftOf pre).length ≤ 5000 := by
      have h1 := left_len _ _ _ hw
      have h2 := segs_cnt s
      rw [List.length_map] at h1
      simp only [List.length_nil] at h1
      omega
    rcases (show sg = [46, 46] ∨ sg = [] ∨ sg = [46] ∨ (¬ sg = [46, 46] ∧ ¬ sg = [] ∧ ¬ sg = [46]) from by
      by_cases h1 : sg = [46, 46]
      · exact .inl h1
      · by_cases h2 : sg = []
        · exact .inr (.inl h2)
        · by_cases h3 : sg = [46]
          · exact .inr (.inr (.inl h3))
          · exact .inr (.inr (.inr ⟨h1, h2, h3⟩))) with rfl | rfl | rfl | ⟨n1, n2, n3⟩
    · have es : str [46, 46] = ⟨#[46, 46]⟩ := rfl
      try simp only [es]
      clear es
      by_cases h0 : leftOf pre = []
      · have hbad : walkS [] ((pre ++ [([46, 46], last)]).map fun x : List UInt8 × Bool => x.1) = none := by rw [left_snoc _ _ hw, h0]; rfl
        have HB := Lib.hid hbad
        rw [h0] at hrow
        obtain ⟨A, c, rfl, hnc, hcm, hr, _⟩ := Rd.of_own hrow
        clear hbad hw hrow h0 hr
        gi_wp2
        exact cl_bad hR0 hR1 hB HB.out
      · have hpos := List.length_pos_iff.2 h0
        have hgood : walkS [] ((pre ++ [([46, 46], last)]).map fun x : List UInt8 × Bool => x.1) = some (leftOf pre).dropLast := by rw [left_snoc _ _ hw]; simp [walkS, h0]
        obtain ⟨A, c, rfl, hnc, hcm, hr, _⟩ := Rd.of_own hrow
        obtain ⟨n, hn⟩ : ∃ n, n = (leftOf pre).length := ⟨_, rfl⟩
        have hrow2 := own_take hrow (m := n - 1) (by omega) (by omega)
        rw [← hn] at hpos hnc hc hll2 hv
        have HB := Lib.hid hgood
        have HN := Lib.hid hn
        have HR2 := Lib.hid hrow2
        clear hgood hw hrow h0 hr hn hrow2
        have e1 : ((n : Int) == 0) = false := by rw [beq_eq_false_iff_ne]; omega
        have e2 : IntKind.i64.wrap ((n : Int) - 1) = (n : Int) - 1 := by rw [IntKind.wrap_i64]; omega
        have e3 : (0 : Int) ≤ (n : Int) - 1 := by omega
        have e4 : (n : Int) - 1 ≤ (c : Int) := by omega
        have e5 : ((n : Int) - 1).toNat = n - 1 := by omega
        have hdl : (leftOf pre).dropLast.length = n - 1 := by rw [List.length_dropLast, HN.out]
        have hsc : (sc (leftOf pre)).take (n - 1) = sc (leftOf pre).dropLast := by rw [List.dropLast_eq_take, HN.out]; simp [sc]
        have HD := Lib.hid hdl
        have HS := Lib.hid hsc
        clear hdl hsc
        cases last
        all_goals gi_wp2
        all_goals exact cl_go (KeepsOthers.setCell W _ _) ((Below.refl _ W).setCell (p := ⟨w.heap.size + 1 + 1, 0, none⟩) (by show w.heap.size ≤ w.heap.size + 1 + 1; omega) _) (hv.set _) (by rw [HD.out, ← HS.out]; exact own_set _ HR2.out (by omega)) (hF.other (by omega) _) (hR0.other (by omega) _) (hR1.other (by omega) _) hB HB.out (by rw [lastDot_snoc]; rfl)
    · have es : str [] = ⟨#[]⟩ := rfl
      try simp only [es]
      clear es
      have hgood : walkS [] ((pre ++ [([], last)]).map fun x : List UInt8 × Bool => x.1) = some (leftOf pre) := by rw [left_snoc _ _ hw]; simp [walkS]
      obtain ⟨A, c, rfl, hnc, hcm, hr, _⟩ := Rd.of_own hrow
      obtain ⟨n, hn⟩ : ∃ n, n = (leftOf pre).length := ⟨_, rfl⟩
      rw [← hn] at hnc hc hll2 hv
      have HB := Lib.hid hgood
      have HN := Lib.hid hn
      have HR2 := Lib.hid hrow
      clear hgood hw hrow hr hn
      cases last
      all_goals gi_wp2
      all_goals exact cl_go (KeepsOthers.refl W) (Below.refl _ W) hv (by rw [HN.out]; exact HR2.out) hF hR0 hR1 hB HB.out (by rw [lastDot_snoc]; rfl)
    · have es : str [46] = ⟨#[46]⟩ := rfl
      try simp only [es]
      clear es
      have hgood : walkS [] ((pre ++ [([46], last)]).map fun x : List UInt8 × Bool => x.1) = some (leftOf pre) := by rw [left_snoc _ _ hw]; simp [walkS]
      obtain ⟨A, c, rfl, hnc, hcm, hr, _⟩ := Rd.of_own hrow
      obtain ⟨n, hn⟩ : ∃ n, n = (leftOf pre).length := ⟨_, rfl⟩
      rw [← hn] at hnc hc hll2 hv
      have HB := Lib.hid hgood
      have HN := Lib.hid hn
      have HR2 := Lib.hid hrow
      clear hgood hw hrow hr hn
      cases last
      all_goals gi_wp2
      all_goals exact cl_go (KeepsOthers.refl W) (Below.refl _ W) hv (by rw [HN.out]; exact HR2.out) hF hR0 hR1 hB HB.out (by rw [lastDot_snoc]; rfl)
    · have hgood : walkS [] ((pre ++ [(sg, last)]).map fun x : List UInt8 × Bool => x.1) = some (leftOf pre ++ [sg]) := by rw [left_snoc _ _ hw]; simp [walkS, n1, n2, n3]
      have hdot : dotS sg = false := by simp [dotS, n1, n2, n3]
      obtain ⟨sv, hsv⟩ : ∃ sv, sv = str sg := ⟨_, rfl⟩
      have k2 : sv.toList.isEmpty = false := by rw [hsv, Lib.toList_data]; cases sg with | nil => exact absurd rfl n2 | cons _ _ => rfl
      have ne : ∀ t : List UInt8, ¬ sg = t → (sv.toList == t) = false := fun t h => by
        rw [beq_eq_false_iff_ne, hsv, Lib.toList_data]; exact h
      have k3 := ne [46] n3
      have k4 := ne [46, 46] n1
      have k5 : ¬ sv.toList = [46] := by rw [hsv, Lib.toList_data]; exact n3
      have k6 : ¬ sv.toList = [46, 46] := by rw [hsv, Lib.toList_data]; exact n1
      clear ne
      obtain ⟨A, c, rfl, hnc, hcm, hr, _⟩ := Rd.of_own hrow
      obtain ⟨n, hn⟩ : ∃ n, n = (leftOf pre).length := ⟨_, rfl⟩
      have hl : (sc (leftOf pre ++ [sg])) = sc (leftOf pre) ++ [.string sv] := by rw [sc_app, hsv]; rfl
      rw [← hn] at hnc hc hll2 hv hrow
      try simp only [← hsv]
      have HB := Lib.hid hgood
      have HN := Lib.hid hn
      have HR2 := Lib.hid hrow
      have HL2 := Lib.hid hl
      have HDOT := Lib.hid hdot
      have HSV := Lib.hid hsv
      have hWs : w.heap.size + 1 + 1 + 1 + 1 ≤ W.heap.size := hF.lt
      clear hgood hw hrow hr hn hl hdot hsv n1 n2 n3
      gi_wp2_with (gi_at_builtin; refine wpListIn_append_own _ rfl _ _ 56 rfl (w.heap.size + 1 + 1 + 1 + 1) 9 i0 (.string ⟨#[]⟩) 1 16 Tryz.underlying56 hi hz0 hz1 hz2 rfl (by decide) _ _ _ rfl (HR2.out.alloc _) ⟨W.heap.size, 0, none⟩ 1 1 [.string sv] rfl rfl (cell_one_new _ _ _) (by simp [Value.oneCell']) (by unfold maxLen; omega) (by omega) (by simp; omega) ?_; intro v' w1 hown' hgrow _; obtain ⟨g', cap', rfl⟩ := ownsRow_succ hown'; obtain ⟨hv1, hv2, hr2, hk2, hb2⟩ := hv.appended (by decide) (own_mono HR2.out (by omega)) hB.size (by omega) (own_mono hown' (by omega)) hgrow; have hc1 := hv1.cell; have hf1 := hv1.frozen; have hF1 := box_kept hF HR2.out (by omega) hgrow; have hFc1 := hF1.cell; have hFf1 := hF1.frozen; have HR01 := box_kept hR0 HR2.out (by omega) hgrow; have HR11 := box_kept hR1 HR2.out (by omega) hgrow)
      all_goals exact cl_go hk2 hb2 hv2 (by rw [List.length_append, ← HN.out, HL2.out]; exact own_set _ hown' (by omega)) (hF1.other (by omega) _) (HR01.other (by omega) _) (HR11.other (by omega) _) hB HB.out (by rw [lastDot_snoc]; show _ = (last && dotS sg); rw [HDOT.out, Bool.and_false])
  case done =>
    rintro D ys W hD rfl ⟨⟨⟨v, hv, hrow, _⟩, hw, hF, hR0, hR1⟩, hB⟩ hK
    rw [mark_last _ (segs_ne s)] at hF
    rw [mark_fst] at hw
    obtain ⟨L, hL⟩ : ∃ L, L = leftOf (markS (segsL s)) := ⟨_, rfl⟩
    rw [← hL] at hrow hw
    obtain ⟨d, hd⟩ : ∃ d, d = dotS ((segsL s).getLastD []) := ⟨_, rfl⟩
    rw [← hd] at hF
    have hcl : cleanL (47 :: s) = (outS L d, 0) := by
      unfold cleanL
      rw [if_pos ⟨rfl, by simp; omega, H0.out⟩]
      show (match walkS [] (segsL s) with | none => ([], 40) | some left => (outS left (dotS ((segsL s).getLastD [])), (0 : Int))) = _
      rw [hw, ← hd]
    rw [← HL.out] at hcl
    have hmem : ∀ t ∈ segsL s, 47 ∉ t ∧ 0 ∉ t := fun t ht => ⟨segs_no _ t ht, fun h0 => H0.out (by simp [segs_sub _ t ht 0 h0])⟩
    have htot := (walk_ok _ [] L hmem (fun t ht => by cases ht) hw).2
    have e0 : totS [] = 0 := rfl
    rw [segs_len, e0] at htot
    obtain ⟨A, c, rfl, hnc, hcm, hr, _⟩ := Rd.of_own hrow
    have hc := hv.cell
    have hFc := hF.cell
    have hR0c := hR0.cell
    have hR0f := hR0.frozen
    have hR1c := hR1.cell
    have hR1f := hR1.frozen
    have HCL := Lib.hid hcl
    have hjl := join_len L
    have CJ := Lib.hid (Join_c L A L.length c rfl hnc (by omega) W hr)
    have hls : L.length ≤ 5000 := by have := tot_cnt L; omega
    have cc1 : ∀ w, (Op.stringOp .add ⟨#[47]⟩ (str (joinS L))).run Tryz.prog w = .ok (.string (str (47 :: joinS L))) w := by
      intro w
      rw [cat_ok _ _ (by have : ByteArray.size ⟨#[47]⟩ = 1 := rfl; rw [str_size]; omega)]; simp
    have cc2 : ∀ w, (Op.stringOp .add (str (47 :: joinS L)) ⟨#[47]⟩).run Tryz.prog w = .ok (.string (str (47 :: joinS L ++ [47]))) w := by
      intro w
      rw [cat_ok _ _ (by have : ByteArray.size ⟨#[47]⟩ = 1 := rfl; rw [str_size, List.length_cons]; omega)]; simp
    have hout : outS L d = if L ≠ [] ∧ d = true then 47 :: joinS L ++ [47] else 47 :: joinS L := by
      unfold outS joinS
      by_cases h0 : L = []
      · subst h0; simp
      · rw [if_neg h0]
        have : L.flatMap (fun s => 47 :: s) = 47 :: (L.flatMap fun s => 47 :: s).tail := by cases L with | nil => exact absurd rfl h0 | cons a L => simp
        cases d with
        | false => rw [if_neg (by simp), List.append_nil, if_neg (by simp)]; exact this
        | true => rw [if_pos rfl, if_pos ⟨h0, rfl⟩]; conv => lhs; rw [this]
    obtain ⟨jv, hjv⟩ : ∃ jv, jv = str (joinS L) := ⟨_, rfl⟩
    obtain ⟨j1, hj1⟩ : ∃ j1, j1 = str (47 :: joinS L) := ⟨_, rfl⟩
    obtain ⟨j2, hj2⟩ : ∃ j2, j2 = str (47 :: joinS L ++ [47]) := ⟨_, rfl⟩
    rw [← hjv] at cc1 CJ
    rw [← hj1] at cc1 cc2
    rw [← hj2] at cc2
    have HOUT := Lib.hid hout
    have HJ1 := Lib.hid hj1
    have HJ2 := Lib.hid hj2
    clear hout hj1 hj2 hjv hcl hw hrow hr hL hd
    have hRx : Boxed W w.heap.size 9 (.string ⟨#[]⟩) := hR0
    cases d with
    | true =>
      by_cases h0 : 0 < L.length
      · have hne : L ≠ [] := List.length_pos_iff.1 h0
        have h0' : decide ((0 : Int) < (L.length : Int)) = true := by rw [decide_eq_true_eq]; omega
        have HE := Lib.hid hne
        clear hne
        gi_wp2_with (refine ⟨trivial, ?_⟩; gi_at_call 90; refine (callsIn_wide.2 CJ.out).mono ?_; rintro e w1 ⟨rfl, hx1⟩; have F1 := (hF.kept (grown_ext hx1) (by simp)).cell; have V1 := (hv.kept (grown_ext hx1) (by simp)).cell; have R01 := hR0.kept (grown_ext hx1) (by simp); have R11 := hR1.kept (grown_ext hx1) (by simp); have r1 := R01.cell; have r2 := R01.frozen; have r3 := R11.cell; have r4 := R11.frozen)
        have hK1 : w1.heap[D]? = some (.deferred (some [])) := (hx1.block D (Array.getElem?_eq_some_iff.1 hK).1).trans hK
        have hK2 := ((KeepsOthers.setCell w1 ⟨w.heap.size, 0, none⟩ (.string j2)).trans (KeepsOthers.setCell _ ⟨w.heap.size + 1, 0, none⟩ (.int .i64 0))).same D _ hK1 rfl
        have B0 := (R01.set (.string j2)).other (B' := w.heap.size + 1) (by omega) (.int .i64 0)
        have B1 := (R11.other (B' := w.heap.size) (by omega) (.string j2)).set (.int .i64 0)
        have hc5 := cell_kept B0.cell (grownBy_putObj' _ D (.deferred none)) (fun r e => by cases e; exact ⟨_, hK2, rfl⟩)
        have hc6 := cell_kept B1.cell (grownBy_putObj' _ D (.deferred none)) (fun r e => by cases e; exact ⟨_, hK2, rfl⟩)
        refine ⟨by simp, .inl ⟨_, _, rfl, run_takeDeferred hK2, ?_⟩⟩
        refine ⟨.tuple #[.string j2, .int .i64 0], ?_, ret_val (by rw [HCL.out]; show _ = Value.tuple #[.string (str (outS L _)), .int .i64 0]; rw [HOUT.out, if_pos ⟨HE.out, by simp⟩, HJ2.out]), (((show Below w.heap.size w w1 from Below.trans hB (hx1.mono hB.size)).setCell (p := ⟨w.heap.size, 0, none⟩) (Nat.le_refl _) _).setCell (p := ⟨w.heap.size + 1, 0, none⟩) (Nat.le_succ _) _).trans (belowK_b (w := w) (Nat.le_refl _) _ D _ _ (by simp at hD; omega) hK2 rfl rfl)⟩
        exact clean_res rfl rfl hc5 hc6
      · have h0' : decide ((0 : Int) < (L.length : Int)) = false := by rw [decide_eq_false_iff_not]; omega
        have HE := Lib.hid h0
        clear h0
        gi_wp2_with (refine ⟨trivial, ?_⟩; gi_at_call 90; refine (callsIn_wide.2 CJ.out).mono ?_; rintro e w1 ⟨rfl, hx1⟩; have F1 := (hF.kept (grown_ext hx1) (by simp)).cell; have V1 := (hv.kept (grown_ext hx1) (by simp)).cell; have R01 := hR0.kept (grown_ext hx1) (by simp); have R11 := hR1.kept (grown_ext hx1) (by simp); have r1 := R01.cell; have r2 := R01.frozen; have r3 := R11.cell; have r4 := R11.frozen)
        have hK1 : w1.heap[D]? = some (.deferred (some [])) := (hx1.block D (Array.getElem?_eq_some_iff.1 hK).1).trans hK
        have hK2 := ((KeepsOthers.setCell w1 ⟨w.heap.size, 0, none⟩ (.string j1)).trans (KeepsOthers.setCell _ ⟨w.heap.size + 1, 0, none⟩ (.int .i64 0))).same D _ hK1 rfl
        have B0 := (R01.set (.string j1)).other (B' := w.heap.size + 1) (by omega) (.int .i64 0)
        have B1 := (R11.other (B' := w.heap.size) (by omega) (.string j1)).set (.int .i64 0)
        have hc5 := cell_kept B0.cell (grownBy_putObj' _ D (.deferred none)) (fun r e => by cases e; exact ⟨_, hK2, rfl⟩)
        have hc6 := cell_kept B1.cell (grownBy_putObj' _ D (.deferred none)) (fun r e => by cases e; exact ⟨_, hK2, rfl⟩)
        refine ⟨by simp, .inl ⟨_, _, rfl, run_takeDeferred hK2, ?_⟩⟩
        refine ⟨.tuple #[.string j1, .int .i64 0], ?_, ret_val (by rw [HCL.out]; show _ = Value.tuple #[.string (str (outS L _)), .int .i64 0]; rw [HOUT.out, if_neg (fun h => HE.out (List.length_pos_iff.2 h.1)), HJ1.out]), (((show Below w.heap.size w w1 from Below.trans hB (hx1.mono hB.size)).setCell (p := ⟨w.heap.size, 0, none⟩) (Nat.le_refl _) _).setCell (p := ⟨w.heap.size + 1, 0, none⟩) (Nat.le_succ _) _).trans (belowK_b (w := w) (Nat.le_refl _) _ D _ _ (by simp at hD; omega) hK2 rfl rfl)⟩
        exact clean_res rfl rfl hc5 hc6
    | false =>
      gi_wp2_with (refine ⟨trivial, ?_⟩; gi_at_call 90; refine (callsIn_wide.2 CJ.out).mono ?_; rintro e w1 ⟨rfl, hx1⟩; have F1 := (hF.kept (grown_ext hx1) (by simp)).cell; have V1 := (hv.kept (grown_ext hx1) (by simp)).cell; have R01 := hR0.kept (grown_ext hx1) (by simp); have R11 := hR1.kept (grown_ext hx1) (by simp); have r1 := R01.cell; have r2 := R01.frozen; have r3 := R11.cell; have r4 := R11.frozen)
      have hK1 : w1.heap[D]? = some (.deferred (some [])) := (hx1.block D (Array.getElem?_eq_some_iff.1 hK).1).trans hK
      have hK2 := ((KeepsOthers.setCell w1 ⟨w.heap.size, 0, none⟩ (.string j1)).trans (KeepsOthers.setCell _ ⟨w.heap.size + 1, 0, none⟩ (.int .i64 0))).same D _ hK1 rfl
      have B0 := (R01.set (.string j1)).other (B' := w.heap.size + 1) (by omega) (.int .i64 0)
      have B1 := (R11.other (B' := w.heap.size) (by omega) (.string j1)).set (.int .i64 0)
      have hc5 := cell_kept B0.cell (grownBy_putObj' _ D (.deferred none)) (fun r e => by cases e; exact ⟨_, hK2, rfl⟩)
      have hc6 := cell_kept B1.cell (grownBy_putObj' _ D (.deferred none)) (fun r e => by cases e; exact ⟨_, hK2, rfl⟩)
      refine ⟨by simp, .inl ⟨_, _, rfl, run_takeDeferred hK2, ?_⟩⟩
      refine ⟨.tuple #[.string j1, .int .i64 0], ?_, ret_val (by rw [HCL.out]; show _ = Value.tuple #[.string (str (outS L _)), .int .i64 0]; rw [HOUT.out, if_neg (fun h => by cases h.2), HJ1.out]), (((show Below w.heap.size w w1 from Below.trans hB (hx1.mono hB.size)).setCell (p := ⟨w.heap.size, 0, none⟩) (Nat.le_refl _) _).setCell (p := ⟨w.heap.size + 1, 0, none⟩) (Nat.le_succ _) _).trans (belowK_b (w := w) (Nat.le_refl _) _ D _ _ (by simp at hD; omega) hK2 rfl rfl)⟩
      exact clean_res rfl rfl hc5 hc6
  case stop =>
    rintro D c pre W hD hpre ⟨⟨⟨rfl, hw⟩, hR0, hR1⟩, hB⟩ hK
    have hcl : cleanL (47 :: s) = ([], 40) := by
      unfold cleanL
      rw [if_pos ⟨rfl, by simp; omega, H0.out⟩]
      show (match walkS [] (segsL s) with | none => ([], 40) | some left => (outS left (dotS ((segsL s).getLastD [])), (0 : Int))) = _
      have := walk_prefix (b := segsL s) (by rw [← mark_fst (segsL s)]; exact List.IsPrefix.map _ hpre) hw
      rw [this]
    rw [← HL.out] at hcl
    rw [hcl]
    clear hcl
    gi_wp2
    refine ⟨by simp, .inl ⟨_, _, rfl, run_takeDeferred hK, ?_⟩⟩
    have hc5 := cell_kept hR0.cell (grownBy_putObj' _ D (.deferred none)) (fun r e => by cases e; exact ⟨_, hK, rfl⟩)
    have hc6 := cell_kept hR1.cell (grownBy_putObj' _ D (.deferred none)) (fun r e => by cases e; exact ⟨_, hK, rfl⟩)
    refine ⟨.tuple #[.string ⟨#[]⟩, .int .i64 40], ?_, rfl, hB.trans (belowK_b (w := w) (Nat.le_refl _) W D _ _ (by simp at hD; omega) hK rfl rfl)⟩
    exact clean_res rfl rfl hc5 hc6
theorem Clean_c (l : List UInt8) (hs : l.length ≤ 140737488355328) (w : World) :
    Calls Tryz.prog 55 #[.string (str l)] w (Gives (.tuple #[.string (str (cleanL l).1), .int .i64 (cleanL l).2]) w) := by
  by_cases h : l.head? = some 47 ∧ l.length ≤ 4096 ∧ 0 ∉ l
  · obtain ⟨h1, h2, h3⟩ := h
    cases l with
    | nil => cases h1
    | cons b s =>
      obtain rfl : b = 47 := by simpa using h1
      exact callsIn_wide.1 (Clean_in s (by simpa using h2) h3 w)
  · have e : cleanL l = ([], 40) := by unfold cleanL; rw [if_neg h]
    rw [e]
    exact Clean_bad l hs h w
end Go.Proofs.YtemdgilifnhdpaaGreatDoor
