/-
The document's world in memory; New, Tick, find.
-/
import Derived.Test.YtemdgilifnhdpaaGreatDoorZat
import Derived.Test.YtemdgilifnhdpaaGreatDoorZas
import Derived.BigRegion
set_option linter.unusedVariables false
set_option linter.unusedSimpArgs false
section
namespace Go.Proofs.YtemdgilifnhdpaaGreatDoor
open Go.RowKit

section
variable {α : Type}
theorem lk_at {M : List (List UInt8 × α)} (h : OneM M) {i : Nat} (hi : i < M.length) : lkM M M[i].1 = some M[i].2 := lk_of_mem h (List.getElem_mem hi)
theorem put_at {M : List (List UInt8 × α)} (h : OneM M) {i : Nat} (hi : i < M.length) (v : α) : putM M M[i].1 v = M.set i (M[i].1, v) := by
  induction M generalizing i with
  | nil => simp at hi
  | cons x r ih =>
    obtain ⟨k, u⟩ := x
    have h1 := List.pairwise_cons.1 h
    cases i with
    | zero => simp [putM]
    | succ i =>
      have hi' : i < r.length := by simpa using hi
      have hne : ¬ k = r[i].1 := h1.1 r[i] (List.getElem_mem hi')
      simp only [List.getElem_cons_succ, putM, if_neg hne, List.set_cons_succ, ih h1.2 hi']
theorem put_end {M : List (List UInt8 × α)} {l : List UInt8} (h : lkM M l = none) (v : α) : putM M l v = M ++ [(l, v)] := by
  induction M with
  | nil => rfl
  | cons x r ih =>
    obtain ⟨k, u⟩ := x
    have hn := lk_none_mem h (k, u) (List.mem_cons_self ..)
    unfold lkM at h
    rw [if_neg hn] at h
    unfold putM
    rw [if_neg hn, ih h]; rfl
theorem del_at {M : List (List UInt8 × α)} (h : OneM M) {i : Nat} (hi : i < M.length) : delM M M[i].1 = M.take i ++ M.drop (i + 1) := by
  induction M generalizing i with
  | nil => simp at hi
  | cons x r ih =>
    obtain ⟨k, u⟩ := x
    have h1 := List.pairwise_cons.1 h
    cases i with
    | zero => simp [delM]
    | succ i =>
      have hi' : i < r.length := by simpa using hi
      have hne : ¬ k = r[i].1 := h1.1 r[i] (List.getElem_mem hi')
      simp only [List.getElem_cons_succ, delM, if_neg hne, List.take_succ_cons, List.drop_succ_cons, List.cons_append, ih h1.2 hi']
end
def FoundAt (L : List (List UInt8 × Fil)) (l : List UInt8) (r : Int) : Prop := (r = -1 ∧ lkM L l = none) ∨ ∃ i, ∃ h : i < L.length, r = (i : Int) ∧ L[i].1 = l
def Wrl.rcells (s : Wrl) (A : Option Addr) (c : Nat) (B : Option Addr) (d : Nat) (n : Nat) : Array Value := #[.slice A n c, .slice B n d, .int .i64 s.now, .int .i64 (s.ver : Int)]
def Rrow (w : World) (p : Nat) (s : Wrl) (A : Option Addr) (c : Nat) (B : Option Addr) (d : Nat) (n : Nat) : Prop := w.heap[p]? = some (.cells (s.rcells A c B d n) 153 (0, 0))
def feP (x : FE) : List UInt8 × Fil := (x.l, x.f)
def KR (k : Nat) : Nat → Prop := fun i => i = k ∨ i = k + 1 ∨ i = k + 2
structure RwAt (w : World) (o : Ow) (k p : Nat) (s : Wrl) : Prop where
  own : o p = k
  row : ∃ A c B d fl, Rrow w p s A c B d fl.length ∧ Sl w o (k + 1) 3 A fl.length c (flC fl) ∧ (A = none → c = 0) ∧ Sl w o (k + 2) 1 B fl.length d (vc fl) ∧ (B = none → d = 0) ∧ fl.map feP = s.L ∧ ∀ x ∈ fl, Sl w o (k + 3) 1 x.A x.f.b.length x.c (bc x.f.b)
section
variable {w w' : World} {o o' : Ow} {k p n : Nat} {s : Wrl} {A B : Option Addr} {c d : Nat}
theorem Rrow.c0 (h : Rrow w p s A c B d n) : w.cell? ⟨p, 0, none⟩ = some (.slice A n c) := (row_facts h 0 _ rfl).1
theorem Rrow.c1 (h : Rrow w p s A c B d n) : w.cell? ⟨p, 1, none⟩ = some (.slice B n d) := (row_facts h 1 _ rfl).1
theorem Rrow.c2 (h : Rrow w p s A c B d n) : w.cell? ⟨p, 2, none⟩ = some (.int .i64 s.now) := (row_facts h 2 _ rfl).1
theorem Rrow.c3 (h : Rrow w p s A c B d n) : w.cell? ⟨p, 3, none⟩ = some (.int .i64 (s.ver : Int)) := (row_facts h 3 _ rfl).1
theorem Rrow.fz (h : Rrow w p s A c B d n) (i : Nat) (hi : i < 4) : w.frozen? ⟨p, i, none⟩ = false := by
  obtain ⟨u, hu⟩ : ∃ u, (s.rcells A c B d n)[i]? = some u := ⟨(s.rcells A c B d n)[i]'(by simp [Wrl.rcells]; omega), by simp⟩
  exact (row_facts h i u hu).2
theorem Rrow.stp {K : Nat → Prop} (h : Rrow w p s A c B d n) (e : Stp K w o w' o') (hk : ¬ K (o p)) : Rrow w' p s A c B d n := (e.keep p (row_lt h) hk).trans h
theorem Rrow.ext (h : Rrow w p s A c B d n) (e : Ext w w') : Rrow w' p s A c B d n := (e.block p (row_lt h)).trans h
theorem RwAt.stp {K : Nat → Prop} (h : RwAt w o k p s) (st : Stp K w o w' o') (h0 : ¬ K k) (h1 : ¬ K (k + 1)) (h2 : ¬ K (k + 2)) (h3 : ¬ K (k + 3)) : RwAt w' o' k p s := by
  obtain ⟨A, c, B, d, fl, hh, ha, na, hb, nb, hl, he⟩ := h.row
  exact ⟨by rw [st.own p (row_lt hh)]; exact h.own, A, c, B, d, fl, hh.stp st (by rw [h.own]; exact h0), ha.stp st h1, na, hb.stp st h2, nb, hl, fun x hx => (he x hx).stp st h3⟩
theorem RwAt.ext (h : RwAt w o k p s) (e : Ext w w') : RwAt w' o k p s := h.stp (K := fun _ => False) (Stp.ext e) (fun x => x) (fun x => x) (fun x => x) (fun x => x)
theorem setR_stp (i : Nat) (u : Value) (h : o p = k) : Stp (KR k) w o (w.setCell ⟨p, i, none⟩ u) o := Stp.set p i u (fun _ => .inl h)
theorem RwAt.tick (h : RwAt w o k p s) (n : Int) : RwAt (w.setCell ⟨p, 2, none⟩ (.int .i64 n)) o k p ⟨s.L, n, s.ver⟩ := by
  obtain ⟨A, c, B, d, fl, hh, ha, na, hb, nb, hl, he⟩ := h.row
  have st : Stp (fun i => i = k) w o (w.setCell ⟨p, 2, none⟩ (.int .i64 n)) o := Stp.set p 2 _ (fun _ => h.own)
  exact ⟨h.own, A, c, B, d, fl, row_set hh 2 _, ha.stp st (by omega), na, hb.stp st (by omega), nb, hl, fun x hx => (he x hx).stp st (by omega)⟩
end
theorem RwAt.fresh (W : World) (o : Ow) (k : Nat) (now : Int) : RwAt (W.alloc (.cells #[.slice none 0 0, .slice none 0 0, .int .i64 now, .int .i64 0] 153)) (fun b => if b = W.heap.size then k else o b) k W.heap.size ⟨[], now, 0⟩ :=
  ⟨by simp, none, 0, none, 0, [], heap_alloc_new W _, Sl.nil_ _ _ _ _ _, fun _ => rfl, Sl.nil_ _ _ _ _ _, fun _ => rfl, rfl, fun x hx => by cases hx⟩
set_option maxRecDepth 100000 in
set_option maxHeartbeats 2000000 in
theorem rwNew_yes (k : Nat) (now : Int) (h0 : 0 ≤ now) (h1 : now ≤ 253402300799) (w : World) (o : Ow) :
    Calls Tryz.prog 42 #[.int .i64 now] w (Turns (fun _ => False) w o fun v w' o' => ∃ p, v = .pointer (some ⟨p, 0, none⟩) ∧ RwAt w' o' k p ⟨[], now, 0⟩) := by
  have a1 : ¬ now < 0 := by omega
  have a2 : ¬ 253402300799 < now := by omega
  go_enter Tryz.func42, Tryz.ntmps42
  go_wp2
  go_ret
  exact Turns.mk _ rfl ⟨_, rfl, RwAt.fresh w o k now⟩ (Stp.ext2 (by (repeat (first | exact Ext.rfl' _ | assumption | refine Ext.dr ?_ | refine Ext.drN ?_ _ | refine Ext.al ?_ _ | refine Ext.st ?_ (by simp) _ | refine Ext.tr ?_ (by assumption)))) (fun b hb => by rw [if_neg (by omega)]))
set_option maxRecDepth 100000 in
set_option maxHeartbeats 4000000 in
theorem rwTick_c (w : World) (o : Ow) (k p : Nat) (s : Wrl) (h : RwAt w o k p s) (hk : Wok s) (n : Int) (hn : n < 9223372036854775808) :
    Calls Tryz.prog 47 #[.pointer (some ⟨p, 0, none⟩), .int .i64 n] w (Turns (KR k) w o fun v w' o' => v = .int .i64 (tickW s n).2 ∧ RwAt w' o' k p (tickW s n).1) := by
  obtain ⟨A, c, B, d, fl, hh, _⟩ := h.row
  have c0 := hh.c2
  have f0 := hh.fz 2 (by omega)
  by_cases h0 : n < 0
  · have ht : tickW s n = (s, 1) := by unfold tickW; rw [if_pos h0]
    rw [ht]
    go_enter Tryz.func47, Tryz.ntmps47
    go_wp2
    go_ret
    exact Turns.mk o rfl ⟨rfl, h⟩ Stp.rfl'
  · have ht : tickW s n = (⟨s.L, s.now + min n (wlast - s.now), s.ver⟩, 0) := by unfold tickW; rw [if_neg h0]
    rw [ht]
    unfold wlast
    have b0 := hk.now0
    have b1 : s.now ≤ 253402300799 := hk.now1
    have h1 : IntKind.i64.wrap (253402300799 - s.now) = 253402300799 - s.now := by rw [IntKind.wrap_i64]; omega
    by_cases hc : 253402300799 - s.now < n
    · rw [show min n (253402300799 - s.now) = 253402300799 - s.now from by omega]
      have h2 : IntKind.i64.wrap (s.now + (253402300799 - s.now)) = s.now + (253402300799 - s.now) := by rw [IntKind.wrap_i64]; omega
      go_enter Tryz.func47, Tryz.ntmps47
      go_wp2
      go_region
      go_wp2
      go_ret
      try rw [show min n (253402300799 - s.now) = 253402300799 - s.now from by omega]
      exact Turns.mk o rfl ⟨rfl, (h.tick _).ext (Ext.dr (Ext.rfl' _))⟩ ((setR_stp 2 _ h.own).tr (Stp.ext (Ext.dr (Ext.rfl' _))))
    · rw [show min n (253402300799 - s.now) = n from by omega]
      have h2 : IntKind.i64.wrap (s.now + (n)) = s.now + (n) := by rw [IntKind.wrap_i64]; omega
      go_enter Tryz.func47, Tryz.ntmps47
      go_wp2
      go_region
      go_wp2
      go_ret
      try rw [show min n (253402300799 - s.now) = n from by omega]
      exact Turns.mk o rfl ⟨rfl, (h.tick _).ext (Ext.dr (Ext.rfl' _))⟩ ((setR_stp 2 _ h.own).tr (Stp.ext (Ext.dr (Ext.rfl' _))))
set_option maxRecDepth 100000 in
set_option maxHeartbeats 4000000 in
theorem rwfind_c (w : World) (o : Ow) (k p : Nat) (s : Wrl) (h : RwAt w o k p s) (hk : Wok s) (l : List UInt8) :
    Calls Tryz.prog 83 #[.pointer (some ⟨p, 0, none⟩), .string (str l)] w (Ret (fun v _ => ∃ r, v = .int .i64 r ∧ FoundAt s.L l r) w) := by
  obtain ⟨A, c, B, d, fl, hh, ha, na, hb, nb, hl, he⟩ := h.row
  have c0 := hh.c0
  have hfl : fl.length = s.L.length := by rw [← hl, List.length_map]
  have hfew := hk.few
  obtain ⟨n, hn⟩ : ∃ n, n = fl.length := ⟨_, rfl⟩
  rw [← hn] at c0 hfl
  have HN := Lib.hid hn
  have HFL := Lib.hid hfl
  have hn1 : n ≤ 1000 := by omega
  have HA := Lib.hid ha.rd
  have HL := Lib.hid hl
  clear hn hfl hh ha hb nb he hl
  obtain ⟨sl, hsl⟩ : ∃ sl, sl = str l := ⟨_, rfl⟩
  rw [← hsl]
  have HSL := Lib.hid hsl
  clear hsl
  go_enter Tryz.func83, Tryz.ntmps83
  go_wp2
  go_loopw [5] (fun i wr => ∃ m : Nat, m ≤ n ∧ i = .int .i64 (m : Int) ∧ (∀ j (hj : j < s.L.length), j < m → s.L[j].1 ≠ l) ∧ wr = w) (fun i _ => n - (intOf i).toNat)
  case atStart => exact ⟨0, Nat.zero_le _, rfl, fun j _ h => by omega, rfl⟩
  case round =>
    obtain ⟨m, hm, rfl, hno, rfl⟩ := hrel
    have HNO := Lib.hid hno
    clear hno
    by_cases hmn : m < n
    · have hmf : m < fl.length := by rw [← HN.out]; exact hmn
      have hms : m < s.L.length := by rw [← HFL.out]; exact hmn
      obtain ⟨b, f, rfl, hbl, hc⟩ := (HA.out).at_ (by rw [flC_len]; omega)
      have t0 := hc (m * 3) _ (by have := flC_at fl m 0 (by omega); rw [Nat.add_zero, List.getElem?_eq_getElem hmf] at this; simpa [feC] using this)
      have hpe : fl[m].l = s.L[m].1 := by
        have : s.L[m] = feP fl[m] := by
          have := congrArg (fun L => L[m]?) HL.out
          simp only [List.getElem?_map, List.getElem?_eq_getElem hmf, List.getElem?_eq_getElem hms, Option.map_some] at this
          injection this with this; exact this.symm
        rw [this]; rfl
      have hk0 : (0 : Int) ≤ (m : Int) := by omega
      have hk1 : (m : Int) < (n : Int) := by omega
      obtain ⟨sn, hsn⟩ : ∃ sn, sn = str fl[m].l := ⟨_, rfl⟩
      rw [← hsn] at t0
      clear hc
      by_cases heq : s.L[m].1 = l
      · have hss : sn = sl := by rw [hsn, HSL.out, hpe, heq]
        subst hss
        clear hsn
        go_wp2
        go_ret
        exact Ret.mk ⟨_, rfl, .inr ⟨m, hms, rfl, heq⟩⟩ (Ext.rfl' _)
      · have e1 : ¬ sn.toList = sl.toList := by rw [hsn, HSL.out, str_tl, str_tl, hpe]; exact heq
        have e2 : (sn.toList == sl.toList) = false := by rw [beq_eq_false_iff_ne]; exact e1
        clear hsn
        go_wp2
        go_roundw
        case rel => exact ⟨m + 1, by omega, by go_num, fun j hj hjm => by
          by_cases e : j = m
          · subst e; exact heq
          · exact HNO.out j hj (by omega), by first | rfl | trivial⟩
        case measure => simp [intOf]; omega
    · obtain rfl : m = n := by omega
      go_wp2
      go_ret
      exact Ret.mk ⟨_, rfl, .inl ⟨rfl, lk_none_of fun x hx => by
        obtain ⟨j, hj, rfl⟩ := List.getElem_of_mem hx
        exact HNO.out j hj (by rw [HFL.out]; exact hj)⟩⟩ (Ext.rfl' _)
end Go.Proofs.YtemdgilifnhdpaaGreatDoor
end

section
namespace Go.Proofs.YtemdgilifnhdpaaGreatDoor
open Go.RowKit

end Go.Proofs.YtemdgilifnhdpaaGreatDoor
end

section
namespace Go.Proofs.YtemdgilifnhdpaaGreatDoor
open Go.RowKit

theorem found_some {L : List (List UInt8 × Fil)} {l : List UInt8} {r : Int} {f : Fil} (h : FoundAt L l r) (h1 : OneM L) (hf : lkM L l = some f) : ∃ i, ∃ hi : i < L.length, r = (i : Int) ∧ L[i] = (l, f) := by
  rcases h with ⟨_, h⟩ | ⟨i, hi, hr, hl⟩
  · rw [hf] at h; cases h
  · refine ⟨i, hi, hr, ?_⟩
    have := lk_at h1 hi
    rw [hl, hf] at this
    injection this with this
    exact Prod.ext hl this.symm
theorem found_none {L : List (List UInt8 × Fil)} {l : List UInt8} {r : Int} (h : FoundAt L l r) (h1 : OneM L) (hf : lkM L l = none) : r = -1 := by
  rcases h with ⟨h, _⟩ | ⟨i, hi, hr, hl⟩
  · exact h
  · have := lk_at h1 hi
    rw [hl, hf] at this; cases this
theorem fe_at {fl : List FE} {L : List (List UInt8 × Fil)} (h : fl.map feP = L) {i : Nat} (hi : i < L.length) : ∃ hf : i < fl.length, fl[i].l = L[i].1 ∧ fl[i].f = L[i].2 := by
  have hf : i < fl.length := by rw [← h, List.length_map] at hi; exact hi
  refine ⟨hf, ?_⟩
  have := congrArg (fun L => L[i]?) h
  simp only [List.getElem?_map, List.getElem?_eq_getElem hf, List.getElem?_eq_getElem hi, Option.map_some] at this
  injection this with this
  rw [← this]; exact ⟨rfl, rfl⟩
end Go.Proofs.YtemdgilifnhdpaaGreatDoor
end

section
namespace Go.Proofs.YtemdgilifnhdpaaGreatDoor
open Go.RowKit

section
variable {w w' : World} {o o' : Ow} {k p size n c : Nat}
theorem Sl.setc {g f : Nat} {xs : List Value} (h : Sl w o k size (some ⟨g, f, none⟩) n c xs) (j : Nat) (hj : j < xs.length) (u : Value) :
    Sl (w.setCell ⟨g, f + j, none⟩ u) o k size (some ⟨g, f, none⟩) n c (xs.set j u) ∧ Stp (fun i => i = k) w o (w.setCell ⟨g, f + j, none⟩ u) o ∧ (∃ x, w.cell? ⟨g, f + j, none⟩ = some x) ∧ w.frozen? ⟨g, f + j, none⟩ = false := by
  have hl := h.len
  have hc := h.le
  rcases h.at_ with h0 | ⟨g', f', hA, ho, hg, hr, hm⟩
  · have hz : n = 0 := by omega
    rw [hz, Nat.zero_mul] at hl
    omega
  · cases hA
    have hjc : j < c * size := Nat.lt_of_lt_of_le hj (by rw [hl]; exact Nat.mul_le_mul_right _ hc)
    have hx := hr j xs[j] (List.getElem?_eq_getElem hj)
    have st : Stp (fun i => i = k) w o (w.setCell ⟨g, f + j, none⟩ u) o := Stp.set g (f + j) u (fun _ => ho)
    refine ⟨⟨by rw [List.length_set]; exact hl, hc, h.max, .inr ⟨g, f, rfl, ho, Nat.lt_of_lt_of_le hg st.size, fun i v hv => ?_, fun i hi => ?_⟩⟩, st, ⟨_, hx⟩, (hm j hjc).2⟩
    · by_cases hij : i = j
      · subst hij
        rw [List.getElem?_set_self hj] at hv
        injection hv with hv
        subst hv
        have := World.cell?_setCells_in g [u] (f + i) w (fun z hz => by
          simp at hz; subst hz; rw [Nat.add_zero, hx]; rfl) 0 (by simp)
        simpa [World.setCells] using this
      · rw [List.getElem?_set_ne (fun e => hij e.symm)] at hv
        have := World.cell?_setCells_out g [u] (f + j) w ⟨g, f + i, none⟩ (fun _ _ => by
          show f + i < f + j ∨ f + j + [u].length ≤ f + i
          simp; omega)
        rw [show w.setCell ⟨g, f + j, none⟩ u = w.setCells g (f + j) [u] from by simp [World.setCells], this]
        exact hr i v hv
    · have e : w.setCell ⟨g, f + j, none⟩ u = w.setCells g (f + j) [u] := by simp [World.setCells]
      rw [e]
      exact ⟨World.isSome_setCells _ _ _ _ _ (hm i hi).1, by rw [World.frozen?_setCells]; exact (hm i hi).2⟩
end
structure RwM (w : World) (o : Ow) (k p : Nat) (s : Wrl) (fl : List FE) (A : Option Addr) (c : Nat) (B : Option Addr) (d : Nat) : Prop where
  own : o p = k
  row : Rrow w p s A c B d fl.length
  fa : Sl w o (k + 1) 3 A fl.length c (flC fl)
  na : A = none → c = 0
  fb : Sl w o (k + 2) 1 B fl.length d (vc fl)
  nb : B = none → d = 0
  each : ∀ x ∈ fl, Sl w o (k + 3) 1 x.A x.f.b.length x.c (bc x.f.b)
section
variable {w w' : World} {o o' : Ow} {k p : Nat} {s : Wrl} {fl : List FE} {A B : Option Addr} {c d : Nat}
theorem RwAt.mem (h : RwAt w o k p s) : ∃ A c B d fl, RwM w o k p s fl A c B d ∧ fl.map feP = s.L := by
  obtain ⟨A, c, B, d, fl, hh, ha, na, hb, nb, hl, he⟩ := h.row
  exact ⟨A, c, B, d, fl, ⟨h.own, hh, ha, na, hb, nb, he⟩, hl⟩
theorem RwM.at_ (h : RwM w o k p s fl A c B d) {s' : Wrl} (h1 : s'.now = s.now) (h2 : s'.ver = s.ver) (hl : fl.map feP = s'.L) : RwAt w o k p s' :=
  ⟨h.own, A, c, B, d, fl, by have := h.row; unfold Rrow Wrl.rcells at *; rw [h1, h2]; exact this, h.fa, h.na, h.fb, h.nb, hl, h.each⟩
theorem RwM.stp {K : Nat → Prop} (h : RwM w o k p s fl A c B d) (st : Stp K w o w' o') (h0 : ¬ K k) (h1 : ¬ K (k + 1)) (h2 : ¬ K (k + 2)) (h3 : ¬ K (k + 3)) : RwM w' o' k p s fl A c B d :=
  ⟨by rw [st.own p (row_lt h.row)]; exact h.own, h.row.stp st (by rw [h.own]; exact h0), h.fa.stp st h1, h.na, h.fb.stp st h2, h.nb, fun x hx => (h.each x hx).stp st h3⟩
theorem RwM.ext (h : RwM w o k p s fl A c B d) (e : Ext w w') : RwM w' o k p s fl A c B d := h.stp (K := fun _ => False) (Stp.ext e) (fun x => x) (fun x => x) (fun x => x) (fun x => x)
theorem RwM.ver1 (h : RwM w o k p s fl A c B d) (v : Nat) (vi : Int) (hv : vi = (v : Int)) : RwM (w.setCell ⟨p, 3, none⟩ (.int .i64 vi)) o k p ⟨s.L, s.now, v⟩ fl A c B d ∧ Stp (KR k) w o (w.setCell ⟨p, 3, none⟩ (.int .i64 vi)) o := by
  subst hv
  have st : Stp (fun i => i = k) w o (w.setCell ⟨p, 3, none⟩ (.int .i64 (v : Int))) o := Stp.set p 3 _ (fun _ => h.own)
  exact ⟨⟨h.own, row_set h.row 3 _, h.fa.stp st (by omega), h.na, h.fb.stp st (by omega), h.nb, fun x hx => (h.each x hx).stp st (by omega)⟩, st.mono fun i hi => .inl hi⟩
theorem vc_set (fl : List FE) (i : Nat) (x : FE) : vc (fl.set i x) = (vc fl).set i (.int .i64 (x.f.ve : Int)) := by simp [vc, List.map_set]
theorem flC_set {fl : List FE} {i : Nat} (hi : i < fl.length) (x : FE) (hx : x.l = fl[i].l) : flC (fl.set i x) = ((flC fl).set (i * 3 + 1) (.slice x.A x.f.b.length x.c)).set (i * 3 + 2) (.int .i64 x.f.mt) := by
  refine List.ext_getElem? fun j => ?_
  have hj : j / 3 * 3 + j % 3 = j := by omega
  have e1 := flC_at (fl.set i x) (j / 3) (j % 3) (by omega)
  have e2 := flC_at fl (j / 3) (j % 3) (by omega)
  rw [hj] at e1 e2
  rw [e1]
  by_cases hq : j / 3 = i
  · rw [hq] at e2 ⊢
    rw [List.getElem?_set_self hi]
    have hr : j % 3 = 0 ∨ j % 3 = 1 ∨ j % 3 = 2 := by omega
    rw [List.getElem?_eq_getElem hi] at e2
    rcases hr with hr | hr | hr
    · rw [hr] at e2 ⊢
      rw [List.getElem?_set_ne (by omega), List.getElem?_set_ne (by omega), e2]
      simp [feC, hx]
    · rw [hr]
      rw [List.getElem?_set_ne (by omega), show j = i * 3 + 1 from by omega, List.getElem?_set_self (by rw [flC_len]; omega)]
      simp [feC]
    · rw [hr]
      rw [show j = i * 3 + 2 from by omega, List.getElem?_set_self (by rw [List.length_set, flC_len]; omega)]
      simp [feC]
  · rw [List.getElem?_set_ne (fun e => hq e.symm), List.getElem?_set_ne (by omega), List.getElem?_set_ne (by omega), e2]
theorem flC_body {fl : List FE} {i : Nat} (hi : i < fl.length) (A : Option Addr) (c : Nat) (b : List UInt8) : flC (fl.set i ⟨fl[i].l, A, c, ⟨b, fl[i].f.mt, fl[i].f.ve⟩⟩) = (flC fl).set (i * 3 + 1) (.slice A b.length c) := by
  rw [flC_set hi ⟨fl[i].l, A, c, ⟨b, fl[i].f.mt, fl[i].f.ve⟩⟩ rfl]
  refine List.ext_getElem? fun j => ?_
  by_cases h : j = i * 3 + 2
  · subst h
    rw [List.getElem?_set_self (by rw [List.length_set, flC_len]; omega), List.getElem?_set_ne (by omega), flC_at fl i 2 (by omega), List.getElem?_eq_getElem hi]
    simp [feC]
  · rw [List.getElem?_set_ne (fun e => h e.symm)]
theorem flC_mt {fl : List FE} {i : Nat} (hi : i < fl.length) (mt : Int) : flC (fl.set i ⟨fl[i].l, fl[i].A, fl[i].c, ⟨fl[i].f.b, mt, fl[i].f.ve⟩⟩) = (flC fl).set (i * 3 + 2) (.int .i64 mt) := by
  rw [flC_set hi ⟨fl[i].l, fl[i].A, fl[i].c, ⟨fl[i].f.b, mt, fl[i].f.ve⟩⟩ rfl]
  refine List.ext_getElem? fun j => ?_
  by_cases h : j = i * 3 + 2
  · subst h
    rw [List.getElem?_set_self (by rw [List.length_set, flC_len]; omega), List.getElem?_set_self (by rw [flC_len]; omega)]
  · rw [List.getElem?_set_ne (fun e => h e.symm), List.getElem?_set_ne (fun e => h e.symm)]
    by_cases h1 : j = i * 3 + 1
    · subst h1
      rw [List.getElem?_set_self (by rw [flC_len]; omega), flC_at fl i 1 (by omega), List.getElem?_eq_getElem hi]
      simp [feC]
    · rw [List.getElem?_set_ne (fun e => h1 e.symm)]
theorem flC_ve {fl : List FE} {i : Nat} (hi : i < fl.length) (ve : Nat) : flC (fl.set i ⟨fl[i].l, fl[i].A, fl[i].c, ⟨fl[i].f.b, fl[i].f.mt, ve⟩⟩) = flC fl := by
  rw [flC_set hi ⟨fl[i].l, fl[i].A, fl[i].c, ⟨fl[i].f.b, fl[i].f.mt, ve⟩⟩ rfl]
  refine List.ext_getElem? fun j => ?_
  by_cases h : j = i * 3 + 2
  · subst h
    rw [List.getElem?_set_self (by rw [List.length_set, flC_len]; omega), flC_at fl i 2 (by omega), List.getElem?_eq_getElem hi]
    simp [feC]
  · rw [List.getElem?_set_ne (fun e => h e.symm)]
    by_cases h1 : j = i * 3 + 1
    · subst h1
      rw [List.getElem?_set_self (by rw [flC_len]; omega), flC_at fl i 1 (by omega), List.getElem?_eq_getElem hi]
      simp [feC]
    · rw [List.getElem?_set_ne (fun e => h1 e.symm)]
theorem vc_keep {fl : List FE} {i : Nat} (hi : i < fl.length) (x : FE) (hx : x.f.ve = fl[i].f.ve) : vc (fl.set i x) = vc fl := by
  rw [vc_set, hx]
  refine List.ext_getElem? fun j => ?_
  by_cases h : j = i
  · subst h; rw [List.getElem?_set_self (by simpa using hi)]; simp [vc, hi]
  · rw [List.getElem?_set_ne (fun e => h e.symm)]
theorem mem_set' {fl : List FE} {i : Nat} {x y : FE} (h : y ∈ fl.set i x) : y = x ∨ y ∈ fl := (List.mem_or_eq_of_mem_set h).symm
theorem RwM.body {bA gA : Nat} (h : RwM w o k p s fl (some ⟨bA, gA, none⟩) c B d) {i : Nat} (hi : i < fl.length) {A5 : Option Addr} {c5 : Nat} {b : List UInt8} (hs : Sl w o (k + 3) 1 A5 b.length c5 (bc b)) :
    RwM (w.setCell ⟨bA, gA + (i * 3 + 1), none⟩ (.slice A5 b.length c5)) o k p s (fl.set i ⟨fl[i].l, A5, c5, ⟨b, fl[i].f.mt, fl[i].f.ve⟩⟩) (some ⟨bA, gA, none⟩) c B d ∧ Stp (KR k) w o (w.setCell ⟨bA, gA + (i * 3 + 1), none⟩ (.slice A5 b.length c5)) o ∧ (∃ x, w.cell? ⟨bA, gA + (i * 3 + 1), none⟩ = some x) ∧ w.frozen? ⟨bA, gA + (i * 3 + 1), none⟩ = false := by
  obtain ⟨h1, st, h3, h4⟩ := h.fa.setc (i * 3 + 1) (by rw [flC_len]; omega) (.slice A5 b.length c5)
  refine ⟨⟨h.own, ?_, ?_, fun h => (by cases h), ?_, h.nb, fun y hy => ?_⟩, st.mono fun i hi => .inr (.inl hi), h3, h4⟩
  · rw [List.length_set]; exact h.row.stp st (by rw [h.own]; omega)
  · rw [List.length_set, flC_body hi]; exact h1
  · rw [List.length_set, vc_keep hi ⟨fl[i].l, A5, c5, ⟨b, fl[i].f.mt, fl[i].f.ve⟩⟩ rfl]; exact h.fb.stp st (by omega)
  · rcases mem_set' hy with rfl | hy
    · exact hs.stp st (by omega)
    · exact (h.each y hy).stp st (by omega)
theorem RwM.mtime {bA gA : Nat} (h : RwM w o k p s fl (some ⟨bA, gA, none⟩) c B d) {i : Nat} (hi : i < fl.length) (mt : Int) :
    RwM (w.setCell ⟨bA, gA + (i * 3 + 2), none⟩ (.int .i64 mt)) o k p s (fl.set i ⟨fl[i].l, fl[i].A, fl[i].c, ⟨fl[i].f.b, mt, fl[i].f.ve⟩⟩) (some ⟨bA, gA, none⟩) c B d ∧ Stp (KR k) w o (w.setCell ⟨bA, gA + (i * 3 + 2), none⟩ (.int .i64 mt)) o ∧ (∃ x, w.cell? ⟨bA, gA + (i * 3 + 2), none⟩ = some x) ∧ w.frozen? ⟨bA, gA + (i * 3 + 2), none⟩ = false := by
  obtain ⟨h1, st, h3, h4⟩ := h.fa.setc (i * 3 + 2) (by rw [flC_len]; omega) (.int .i64 mt)
  refine ⟨⟨h.own, ?_, ?_, fun h => (by cases h), ?_, h.nb, fun y hy => ?_⟩, st.mono fun i hi => .inr (.inl hi), h3, h4⟩
  · rw [List.length_set]; exact h.row.stp st (by rw [h.own]; omega)
  · rw [List.length_set, flC_mt hi]; exact h1
  · rw [List.length_set, vc_keep hi ⟨fl[i].l, fl[i].A, fl[i].c, ⟨fl[i].f.b, mt, fl[i].f.ve⟩⟩ rfl]; exact h.fb.stp st (by omega)
  · rcases mem_set' hy with rfl | hy
    · exact (h.each fl[i] (List.getElem_mem hi)).stp st (by omega)
    · exact (h.each y hy).stp st (by omega)
theorem RwM.vers {bB gB : Nat} (h : RwM w o k p s fl A c (some ⟨bB, gB, none⟩) d) {i : Nat} (hi : i < fl.length) (ve : Nat) (vi : Int) (hv : vi = (ve : Int)) :
    RwM (w.setCell ⟨bB, gB + i, none⟩ (.int .i64 vi)) o k p s (fl.set i ⟨fl[i].l, fl[i].A, fl[i].c, ⟨fl[i].f.b, fl[i].f.mt, ve⟩⟩) A c (some ⟨bB, gB, none⟩) d ∧ Stp (KR k) w o (w.setCell ⟨bB, gB + i, none⟩ (.int .i64 vi)) o ∧ (∃ x, w.cell? ⟨bB, gB + i, none⟩ = some x) ∧ w.frozen? ⟨bB, gB + i, none⟩ = false := by
  subst hv
  obtain ⟨h1, st, h3, h4⟩ := h.fb.setc i (by rw [vc_len]; omega) (.int .i64 (ve : Int))
  refine ⟨⟨h.own, ?_, ?_, h.na, ?_, fun h => (by cases h), fun y hy => ?_⟩, st.mono fun i hi => .inr (.inr hi), h3, h4⟩
  · rw [List.length_set]; exact h.row.stp st (by rw [h.own]; omega)
  · rw [List.length_set, flC_ve hi]; exact h.fa.stp st (by omega)
  · rw [List.length_set, vc_set]; exact h1
  · rcases mem_set' hy with rfl | hy
    · exact (h.each fl[i] (List.getElem_mem hi)).stp st (by omega)
    · exact (h.each y hy).stp st (by omega)
end
end Go.Proofs.YtemdgilifnhdpaaGreatDoor
end
