/-
Two files are the same; the list of paths as a slice that is owned.
-/
import Derived.Test.YtemdgilifnhdpaaGreatDoorZav
import Derived.Test.YtemdgilifnhdpaaGreatDoorZae
import Derived.BigRegion
set_option linter.unusedVariables false
set_option linter.unusedSimpArgs false
section
namespace Go.Proofs.YtemdgilifnhdpaaGreatDoor
open Go.RowKit

theorem sl_own {w : World} {o : Ow} {base e n : Nat} {v : Value} {xs : List Value} (h : w.ownsRow base e 1 v n xs) (j : Nat) (ho : ∀ b, base ≤ b → b < w.heap.size → o b = j) : ∃ A c, v = .slice A n c ∧ Sl w o j 1 A n c xs ∧ (A = none → c = 0) := by
  have h0 := h
  obtain ⟨hl, hv | ⟨g, cap, cur, hv, hg, hh, hnc, hcm, hcs, hx⟩⟩ := h
  · obtain ⟨hv, hn⟩ := hv
    subst hn
    obtain rfl : xs = [] := List.eq_nil_of_length_eq_zero (by omega)
    exact ⟨none, 0, hv, Sl.nil_ _ _ _ _ _, fun _ => rfl⟩
  · refine ⟨some ⟨g, 0, none⟩, cap, hv, ⟨hl, hnc, hcm, .inr ⟨g, 0, rfl, ho g hg (row_lt hh), row_lt hh, fun i u hu => ?_, fun i hi => ?_⟩⟩, fun h => by cases h⟩
    · have := h0.cells (g := g) (by rw [hv]; rfl) i u hu
      rw [add_mk] at this
      exact this
    · have hi' : i < cur.size := by omega
      have := row_facts hh i cur[i] (by simp [hi'])
      rw [Nat.zero_add]
      exact ⟨by rw [this.1]; rfl, this.2⟩
set_option maxRecDepth 100000 in
set_option maxHeartbeats 4000000 in
theorem wList_t (j : Nat) (w : World) (o : Ow) (k p : Nat) (s : Wrl) (h : WdAt w o k p s) (hk : Wok s) :
    Calls Tryz.prog 19 #[.pointer (some ⟨p, 0, none⟩)] w (Turns (fun _ => False) w o fun v w' o' => ∃ A c, v = .slice A (listW s).length c ∧ Sl w' o' j 1 A (listW s).length c (sc (listW s)) ∧ (A = none → c = 0)) := by
  obtain ⟨mb, pl, hh, hm, hlt, hi, hs⟩ := h.row
  have c0 := hh.c0
  have HH := Lib.hid (fun w' (e : Ext w w') => hh.ext e)
  have HI := Lib.hid (fun w' (e : Ext w w') => World.isM.same hi (e.block mb hlt))
  have hlen := enc_len pl s.L
  have hfew := hk.few
  have hkeys : (enc pl s.L).map (·.1) = s.L.map (·.1) := keys_map (fun k v => entV k (pl k) v) s.L
  have KEYS := Lib.hid hkeys
  clear hkeys
  go_enter Tryz.func19, Tryz.ntmps19
  go_wp2_with (first
    | (go_at_call 49; refine (none_no p mb _ c0).mono ?_; rintro e w1 ⟨rfl, hx1⟩; have u0 := (HH.out w1 hx1).c0; obtain ⟨D, hD1, hD2, hD3⟩ := isM_keys (HI.out w1 hx1))
    | (go_at_call 51; refine (mKeys_c _ _).mono ?_; rintro e w2 ⟨rfl, rfl⟩)
    | (go_at_call 50; refine (slSorted_c mb _ D heldR _ hD1 (by rw [hD3]; simp only [maxLen]; omega) (by rw [hD3]; omega)).mono ?_; rintro e w3 ⟨v, rfl, hv, hx3⟩))
  go_ret
  rw [hD2, KEYS.out] at hv
  have hsz : w.heap.size ≤ (w1.alloc (.cells #[.map (some mb)] 44)).heap.size := (show Ext w (w1.alloc _) by (repeat (first | exact Ext.rfl' _ | assumption | refine Ext.dr ?_ | refine Ext.drN ?_ _ | refine Ext.al ?_ _ | refine Ext.st ?_ (by simp) _ | refine Ext.tr ?_ (by assumption)))).size
  obtain ⟨A, c, rfl, hr, hn⟩ := sl_own (o := fun b => if b < w.heap.size then o b else j) hv j (fun b hb _ => if_neg (by omega))
  exact Turns.mk _ rfl ⟨A, c, rfl, hr, hn⟩ (Stp.ext2 (by (repeat (first | exact Ext.rfl' _ | assumption | refine Ext.dr ?_ | refine Ext.drN ?_ _ | refine Ext.al ?_ _ | refine Ext.st ?_ (by simp) _ | refine Ext.tr ?_ (by assumption)))) (fun b hb => if_pos hb))
theorem path_len {l : List UInt8} (h : pathF l = true) : l.length ≤ 4096 := by
  have h1 := (path_ok h).1
  unfold cleanL at h1
  split at h1
  · rename_i h2; exact h2.2.1
  · injection h1 with _ h2; cases h2
theorem list_len (s : Wrl) : (listW s).length = s.L.length := by unfold listW; rw [List.length_mergeSort, List.length_map]
end Go.Proofs.YtemdgilifnhdpaaGreatDoor
end

section
namespace Go.Proofs.YtemdgilifnhdpaaGreatDoor
open Go.RowKit

def NoW (w : World) (q : Option Addr) : Prop := q = none ∨ ∃ p, q = some ⟨p, 0, none⟩ ∧ w.cell? ⟨p, 0, none⟩ = some (.map none)
theorem NoW.ext {w w' : World} {q : Option Addr} (h : NoW w q) (e : Ext w w') : NoW w' q := by
  rcases h with h | ⟨p, h, hc⟩
  · exact .inl h
  · exact .inr ⟨p, h, (e.cell (p := ⟨p, 0, none⟩) (lt_of_cell hc)).trans hc⟩
end Go.Proofs.YtemdgilifnhdpaaGreatDoor
end

section
namespace Go.Proofs.YtemdgilifnhdpaaGreatDoor
open Go.RowKit

end Go.Proofs.YtemdgilifnhdpaaGreatDoor
end

section
namespace Go.Proofs.YtemdgilifnhdpaaGreatDoor
open Go.RowKit

structure FE where
  l : List UInt8
  A : Option Addr
  c : Nat
  f : Fil
def feC (x : FE) : List Value := [.string (str x.l), .slice x.A x.f.b.length x.c, .int .i64 x.f.mt]
def flC (L : List FE) : List Value := L.flatMap feC
theorem flC_len (l : List FE) : (flC l).length = l.length * 3 := by induction l with | nil => rfl | cons x l ih => simp [flC, List.flatMap_cons, feC] at *; omega
theorem flC_app (a b : List FE) : flC (a ++ b) = flC a ++ flC b := by simp [flC]
theorem flC_at (l : List FE) (k i : Nat) (hi : i < 3) : (flC l)[k * 3 + i]? = l[k]?.bind fun x => (feC x)[i]? := by
  induction l generalizing k with
  | nil => simp [flC]
  | cons x l ih => cases k with
    | zero =>
      simp only [flC, List.flatMap_cons, Nat.zero_mul, Nat.zero_add, List.getElem?_cons_zero, Option.bind_some]
      rw [List.getElem?_append_left (by simp [feC]; omega)]
    | succ k =>
      have := ih k
      simp only [flC, List.flatMap_cons] at *
      rw [List.getElem?_append_right (by simp [feC]; omega), show (k + 1) * 3 + i - (feC x).length = k * 3 + i from by simp [feC]; omega, this]
      simp
theorem slt_file : SlT Tryz.prog 150 24 (.agg #[.string ⟨#[]⟩, .slice none 0 0, .int .i64 0]) 3 48 := ⟨Tryz.underlying150, by kernel_rfl, rfl, by omega⟩
theorem slt_int13 : SlT Tryz.prog 151 3 (.int .i64 0) 1 8 := ⟨Tryz.underlying151, by kernel_rfl, rfl, by omega⟩
def vc (l : List FE) : List Value := l.map fun x => .int .i64 (x.f.ve : Int)
@[simp] theorem vc_len (l : List FE) : (vc l).length = l.length := by simp [vc]
structure KeptAt (w : World) (o : Ow) (s : Wrl) (ks : List (List UInt8)) (A1 : Option Addr) (c1 : Nat) (A2 : Option Addr) (c2 : Nat) (fl : List FE) : Prop where
  f1 : Sl w o 5 3 A1 fl.length c1 (flC fl)
  n1 : A1 = none → c1 = 0
  f2 : Sl w o 6 1 A2 fl.length c2 (vc fl)
  n2 : A2 = none → c2 = 0
  names : fl.map (·.l) = ks
  each : ∀ x ∈ fl, Sl w o 7 1 x.A x.f.b.length x.c (bc x.f.b) ∧ lkM s.L x.l = some x.f
theorem KeptAt.stp {K : Nat → Prop} {w w' : World} {o o' : Ow} {s : Wrl} {ks : List (List UInt8)} {A1 A2 : Option Addr} {c1 c2 : Nat} {fl : List FE} (h : KeptAt w o s ks A1 c1 A2 c2 fl) (st : Stp K w o w' o') (h5 : ¬ K 5) (h6 : ¬ K 6) (h7 : ¬ K 7) : KeptAt w' o' s ks A1 c1 A2 c2 fl :=
  ⟨h.f1.stp st h5, h.n1, h.f2.stp st h6, h.n2, h.names, fun x hx => ⟨(h.each x hx).1.stp st h7, (h.each x hx).2⟩⟩
theorem rd_newG (w : World) (g : Nat) (hg : w.heap.size = g) (xs : List Value) (t : TypeId) : Rd (w.alloc (.cells xs.toArray t)) (some ⟨g, 0, none⟩) xs := by
  subst hg
  exact .inr ⟨_, 0, rfl, fun j u hu => by have := new_cells w xs.toArray t j u (by simpa using hu); rw [add_mk] at this; rw [Nat.zero_add]; rw [Nat.zero_add] at this; exact this⟩
end Go.Proofs.YtemdgilifnhdpaaGreatDoor
end

section
namespace Go.Proofs.YtemdgilifnhdpaaGreatDoor
open Go.RowKit

section
variable {α : Type}
theorem lk_at {M : List (List UInt8 × α)} (h : OneM M) {i : Nat} (hi : i < M.length) : lkM M M[i].1 = some M[i].2 := lk_of_mem h (List.getElem_mem hi)
theorem put_at {M : List (List UInt8 × α)} (h : OneM M) {i : Nat} (hi : i < M.length) (v : α) : putM M M[i].1 v = M.set i (M[i].1, v) := by
  induction M generalizing i with
  | nil => simp at hi
  | cons x r ih =>
    obtain ⟨k, u⟩ := x
    have h1 := List.pairwise_cons.1 h
    cases i with
    | zero => simp [putM]
    | succ i =>
      have hi' : i < r.length := by simpa using hi
      have hne : ¬ k = r[i].1 := h1.1 r[i] (List.getElem_mem hi')
      simp only [List.getElem_cons_succ, putM, if_neg hne, List.set_cons_succ, ih h1.2 hi']
theorem put_end {M : List (List UInt8 × α)} {l : List UInt8} (h : lkM M l = none) (v : α) : putM M l v = M ++ [(l, v)] := by
  induction M with
  | nil => rfl
  | cons x r ih =>
    obtain ⟨k, u⟩ := x
    have hn := lk_none_mem h (k, u) (List.mem_cons_self ..)
    unfold lkM at h
    rw [if_neg hn] at h
    unfold putM
    rw [if_neg hn, ih h]; rfl
theorem del_at {M : List (List UInt8 × α)} (h : OneM M) {i : Nat} (hi : i < M.length) : delM M M[i].1 = M.take i ++ M.drop (i + 1) := by
  induction M generalizing i with
  | nil => simp at hi
  | cons x r ih =>
    obtain ⟨k, u⟩ := x
    have h1 := List.pairwise_cons.1 h
    cases i with
    | zero => simp [delM]
    | succ i =>
      have hi' : i < r.length := by simpa using hi
      have hne : ¬ k = r[i].1 := h1.1 r[i] (List.getElem_mem hi')
      simp only [List.getElem_cons_succ, delM, if_neg hne, List.take_succ_cons, List.drop_succ_cons, List.cons_append, ih h1.2 hi']
end
def FoundAt (L : List (List UInt8 × Fil)) (l : List UInt8) (r : Int) : Prop := (r = -1 ∧ lkM L l = none) ∨ ∃ i, ∃ h : i < L.length, r = (i : Int) ∧ L[i].1 = l
def Wrl.rcells (s : Wrl) (A : Option Addr) (c : Nat) (B : Option Addr) (d : Nat) (n : Nat) : Array Value := #[.slice A n c, .slice B n d, .int .i64 s.now, .int .i64 (s.ver : Int)]
def Rrow (w : World) (p : Nat) (s : Wrl) (A : Option Addr) (c : Nat) (B : Option Addr) (d : Nat) (n : Nat) : Prop := w.heap[p]? = some (.cells (s.rcells A c B d n) 153 (0, 0))
def feP (x : FE) : List UInt8 × Fil := (x.l, x.f)
def KR (k : Nat) : Nat → Prop := fun i => i = k ∨ i = k + 1 ∨ i = k + 2
structure RwAt (w : World) (o : Ow) (k p : Nat) (s : Wrl) : Prop where
  own : o p = k
  row : ∃ A c B d fl, Rrow w p s A c B d fl.length ∧ Sl w o (k + 1) 3 A fl.length c (flC fl) ∧ (A = none → c = 0) ∧ Sl w o (k + 2) 1 B fl.length d (vc fl) ∧ (B = none → d = 0) ∧ fl.map feP = s.L ∧ ∀ x ∈ fl, Sl w o (k + 3) 1 x.A x.f.b.length x.c (bc x.f.b)
section
variable {w w' : World} {o o' : Ow} {k p n : Nat} {s : Wrl} {A B : Option Addr} {c d : Nat}
theorem Rrow.c0 (h : Rrow w p s A c B d n) : w.cell? ⟨p, 0, none⟩ = some (.slice A n c) := (row_facts h 0 _ rfl).1
theorem Rrow.c1 (h : Rrow w p s A c B d n) : w.cell? ⟨p, 1, none⟩ = some (.slice B n d) := (row_facts h 1 _ rfl).1
theorem Rrow.c2 (h : Rrow w p s A c B d n) : w.cell? ⟨p, 2, none⟩ = some (.int .i64 s.now) := (row_facts h 2 _ rfl).1
theorem Rrow.c3 (h : Rrow w p s A c B d n) : w.cell? ⟨p, 3, none⟩ = some (.int .i64 (s.ver : Int)) := (row_facts h 3 _ rfl).1
theorem Rrow.fz (h : Rrow w p s A c B d n) (i : Nat) (hi : i < 4) : w.frozen? ⟨p, i, none⟩ = false := by
  obtain ⟨u, hu⟩ : ∃ u, (s.rcells A c B d n)[i]? = some u := ⟨(s.rcells A c B d n)[i]'(by simp [Wrl.rcells]; omega), by simp⟩
  exact (row_facts h i u hu).2
theorem Rrow.stp {K : Nat → Prop} (h : Rrow w p s A c B d n) (e : Stp K w o w' o') (hk : ¬ K (o p)) : Rrow w' p s A c B d n := (e.keep p (row_lt h) hk).trans h
theorem Rrow.ext (h : Rrow w p s A c B d n) (e : Ext w w') : Rrow w' p s A c B d n := (e.block p (row_lt h)).trans h
theorem RwAt.stp {K : Nat → Prop} (h : RwAt w o k p s) (st : Stp K w o w' o') (h0 : ¬ K k) (h1 : ¬ K (k + 1)) (h2 : ¬ K (k + 2)) (h3 : ¬ K (k + 3)) : RwAt w' o' k p s := by
  obtain ⟨A, c, B, d, fl, hh, ha, na, hb, nb, hl, he⟩ := h.row
  exact ⟨by rw [st.own p (row_lt hh)]; exact h.own, A, c, B, d, fl, hh.stp st (by rw [h.own]; exact h0), ha.stp st h1, na, hb.stp st h2, nb, hl, fun x hx => (he x hx).stp st h3⟩
theorem RwAt.ext (h : RwAt w o k p s) (e : Ext w w') : RwAt w' o k p s := h.stp (K := fun _ => False) (Stp.ext e) (fun x => x) (fun x => x) (fun x => x) (fun x => x)
theorem setR_stp (i : Nat) (u : Value) (h : o p = k) : Stp (KR k) w o (w.setCell ⟨p, i, none⟩ u) o := Stp.set p i u (fun _ => .inl h)
theorem RwAt.tick (h : RwAt w o k p s) (n : Int) : RwAt (w.setCell ⟨p, 2, none⟩ (.int .i64 n)) o k p ⟨s.L, n, s.ver⟩ := by
  obtain ⟨A, c, B, d, fl, hh, ha, na, hb, nb, hl, he⟩ := h.row
  have st : Stp (fun i => i = k) w o (w.setCell ⟨p, 2, none⟩ (.int .i64 n)) o := Stp.set p 2 _ (fun _ => h.own)
  exact ⟨h.own, A, c, B, d, fl, row_set hh 2 _, ha.stp st (by omega), na, hb.stp st (by omega), nb, hl, fun x hx => (he x hx).stp st (by omega)⟩
end
theorem RwAt.fresh (W : World) (o : Ow) (k : Nat) (now : Int) : RwAt (W.alloc (.cells #[.slice none 0 0, .slice none 0 0, .int .i64 now, .int .i64 0] 153)) (fun b => if b = W.heap.size then k else o b) k W.heap.size ⟨[], now, 0⟩ :=
  ⟨by simp, none, 0, none, 0, [], heap_alloc_new W _, Sl.nil_ _ _ _ _ _, fun _ => rfl, Sl.nil_ _ _ _ _ _, fun _ => rfl, rfl, fun x hx => by cases hx⟩
set_option maxRecDepth 100000 in
set_option maxHeartbeats 2000000 in
theorem rwNew_yes (k : Nat) (now : Int) (h0 : 0 ≤ now) (h1 : now ≤ 253402300799) (w : World) (o : Ow) :
    Calls Tryz.prog 42 #[.int .i64 now] w (Turns (fun _ => False) w o fun v w' o' => ∃ p, v = .pointer (some ⟨p, 0, none⟩) ∧ RwAt w' o' k p ⟨[], now, 0⟩) := by
  have a1 : ¬ now < 0 := by omega
  have a2 : ¬ 253402300799 < now := by omega
  go_enter Tryz.func42, Tryz.ntmps42
  go_wp2
  go_ret
  exact Turns.mk _ rfl ⟨_, rfl, RwAt.fresh w o k now⟩ (Stp.ext2 (by (repeat (first | exact Ext.rfl' _ | assumption | refine Ext.dr ?_ | refine Ext.drN ?_ _ | refine Ext.al ?_ _ | refine Ext.st ?_ (by simp) _ | refine Ext.tr ?_ (by assumption)))) (fun b hb => by rw [if_neg (by omega)]))
set_option maxRecDepth 100000 in
set_option maxHeartbeats 4000000 in
theorem rwTick_c (w : World) (o : Ow) (k p : Nat) (s : Wrl) (h : RwAt w o k p s) (hk : Wok s) (n : Int) (hn : n < 9223372036854775808) :
    Calls Tryz.prog 47 #[.pointer (some ⟨p, 0, none⟩), .int .i64 n] w (Turns (KR k) w o fun v w' o' => v = .int .i64 (tickW s n).2 ∧ RwAt w' o' k p (tickW s n).1) := by
  obtain ⟨A, c, B, d, fl, hh, _⟩ := h.row
  have c0 := hh.c2
  have f0 := hh.fz 2 (by omega)
  by_cases h0 : n < 0
  · have ht : tickW s n = (s, 1) := by unfold tickW; rw [if_pos h0]
    rw [ht]
    go_enter Tryz.func47, Tryz.ntmps47
    go_wp2
    go_ret
    exact Turns.mk o rfl ⟨rfl, h⟩ Stp.rfl'
  · have ht : tickW s n = (⟨s.L, s.now + min n (wlast - s.now), s.ver⟩, 0) := by unfold tickW; rw [if_neg h0]
    rw [ht]
    unfold wlast
    have b0 := hk.now0
    have b1 : s.now ≤ 253402300799 := hk.now1
    have h1 : IntKind.i64.wrap (253402300799 - s.now) = 253402300799 - s.now := by rw [IntKind.wrap_i64]; omega
    by_cases hc : 253402300799 - s.now < n
    · rw [show min n (253402300799 - s.now) = 253402300799 - s.now from by omega]
      have h2 : IntKind.i64.wrap (s.now + (253402300799 - s.now)) = s.now + (253402300799 - s.now) := by rw [IntKind.wrap_i64]; omega
      go_enter Tryz.func47, Tryz.ntmps47
      go_wp2
      go_region
      go_wp2
      go_ret
      try rw [show min n (253402300799 - s.now) = 253402300799 - s.now from by omega]
      exact Turns.mk o rfl ⟨rfl, (h.tick _).ext (Ext.dr (Ext.rfl' _))⟩ ((setR_stp 2 _ h.own).tr (Stp.ext (Ext.dr (Ext.rfl' _))))
    · rw [show min n (253402300799 - s.now) = n from by omega]
      have h2 : IntKind.i64.wrap (s.now + (n)) = s.now + (n) := by rw [IntKind.wrap_i64]; omega
      go_enter Tryz.func47, Tryz.ntmps47
      go_wp2
      go_region
      go_wp2
      go_ret
      try rw [show min n (253402300799 - s.now) = n from by omega]
      exact Turns.mk o rfl ⟨rfl, (h.tick _).ext (Ext.dr (Ext.rfl' _))⟩ ((setR_stp 2 _ h.own).tr (Stp.ext (Ext.dr (Ext.rfl' _))))
set_option maxRecDepth 100000 in
set_option maxHeartbeats 4000000 in
theorem rwfind_c (w : World) (o : Ow) (k p : Nat) (s : Wrl) (h : RwAt w o k p s) (hk : Wok s) (l : List UInt8) :
    Calls Tryz.prog 83 #[.pointer (some ⟨p, 0, none⟩), .string (str l)] w (Ret (fun v _ => ∃ r, v = .int .i64 r ∧ FoundAt s.L l r) w) := by
  obtain ⟨A, c, B, d, fl, hh, ha, na, hb, nb, hl, he⟩ := h.row
  have c0 := hh.c0
  have hfl : fl.length = s.L.length := by rw [← hl, List.length_map]
  have hfew := hk.few
  obtain ⟨n, hn⟩ : ∃ n, n = fl.length := ⟨_, rfl⟩
  rw [← hn] at c0 hfl
  have HN := Lib.hid hn
  have HFL := Lib.hid hfl
  have hn1 : n ≤ 1000 := by omega
  have HA := Lib.hid ha.rd
  have HL := Lib.hid hl
  clear hn hfl hh ha hb nb he hl
  obtain ⟨sl, hsl⟩ : ∃ sl, sl = str l := ⟨_, rfl⟩
  rw [← hsl]
  have HSL := Lib.hid hsl
  clear hsl
  go_enter Tryz.func83, Tryz.ntmps83
  go_wp2
  go_loopw [5] (fun i wr => ∃ m : Nat, m ≤ n ∧ i = .int .i64 (m : Int) ∧ (∀ j (hj : j < s.L.length), j < m → s.L[j].1 ≠ l) ∧ wr = w) (fun i _ => n - (intOf i).toNat)
  case atStart => exact ⟨0, Nat.zero_le _, rfl, fun j _ h => by omega, rfl⟩
  case round =>
    obtain ⟨m, hm, rfl, hno, rfl⟩ := hrel
    have HNO := Lib.hid hno
    clear hno
    by_cases hmn : m < n
    · have hmf : m < fl.length := by rw [← HN.out]; exact hmn
      have hms : m < s.L.length := by rw [← HFL.out]; exact hmn
      obtain ⟨b, f, rfl, hbl, hc⟩ := (HA.out).at_ (by rw [flC_len]; omega)
      have t0 := hc (m * 3) _ (by have := flC_at fl m 0 (by omega); rw [Nat.add_zero, List.getElem?_eq_getElem hmf] at this; simpa [feC] using this)
      have hpe : fl[m].l = s.L[m].1 := by
        have : s.L[m] = feP fl[m] := by
          have := congrArg (fun L => L[m]?) HL.out
          simp only [List.getElem?_map, List.getElem?_eq_getElem hmf, List.getElem?_eq_getElem hms, Option.map_some] at this
          injection this with this; exact this.symm
        rw [this]; rfl
      have hk0 : (0 : Int) ≤ (m : Int) := by omega
      have hk1 : (m : Int) < (n : Int) := by omega
      obtain ⟨sn, hsn⟩ : ∃ sn, sn = str fl[m].l := ⟨_, rfl⟩
      rw [← hsn] at t0
      clear hc
      by_cases heq : s.L[m].1 = l
      · have hss : sn = sl := by rw [hsn, HSL.out, hpe, heq]
        subst hss
        clear hsn
        go_wp2
        go_ret
        exact Ret.mk ⟨_, rfl, .inr ⟨m, hms, rfl, heq⟩⟩ (Ext.rfl' _)
      · have e1 : ¬ sn.toList = sl.toList := by rw [hsn, HSL.out, str_tl, str_tl, hpe]; exact heq
        have e2 : (sn.toList == sl.toList) = false := by rw [beq_eq_false_iff_ne]; exact e1
        clear hsn
        go_wp2
        go_roundw
        case rel => exact ⟨m + 1, by omega, by go_num, fun j hj hjm => by
          by_cases e : j = m
          · subst e; exact heq
          · exact HNO.out j hj (by omega), by first | rfl | trivial⟩
        case measure => simp [intOf]; omega
    · obtain rfl : m = n := by omega
      go_wp2
      go_ret
      exact Ret.mk ⟨_, rfl, .inl ⟨rfl, lk_none_of fun x hx => by
        obtain ⟨j, hj, rfl⟩ := List.getElem_of_mem hx
        exact HNO.out j hj (by rw [HFL.out]; exact hj)⟩⟩ (Ext.rfl' _)
end Go.Proofs.YtemdgilifnhdpaaGreatDoor
end

section
namespace Go.Proofs.YtemdgilifnhdpaaGreatDoor
open Go.RowKit

end Go.Proofs.YtemdgilifnhdpaaGreatDoor
end

section
namespace Go.Proofs.YtemdgilifnhdpaaGreatDoor
open Go.RowKit

theorem found_some {L : List (List UInt8 × Fil)} {l : List UInt8} {r : Int} {f : Fil} (h : FoundAt L l r) (h1 : OneM L) (hf : lkM L l = some f) : ∃ i, ∃ hi : i < L.length, r = (i : Int) ∧ L[i] = (l, f) := by
  rcases h with ⟨_, h⟩ | ⟨i, hi, hr, hl⟩
  · rw [hf] at h; cases h
  · refine ⟨i, hi, hr, ?_⟩
    have := lk_at h1 hi
    rw [hl, hf] at this
    injection this with this
    exact Prod.ext hl this.symm
theorem found_none {L : List (List UInt8 × Fil)} {l : List UInt8} {r : Int} (h : FoundAt L l r) (h1 : OneM L) (hf : lkM L l = none) : r = -1 := by
  rcases h with ⟨h, _⟩ | ⟨i, hi, hr, hl⟩
  · exact h
  · have := lk_at h1 hi
    rw [hl, hf] at this; cases this
theorem fe_at {fl : List FE} {L : List (List UInt8 × Fil)} (h : fl.map feP = L) {i : Nat} (hi : i < L.length) : ∃ hf : i < fl.length, fl[i].l = L[i].1 ∧ fl[i].f = L[i].2 := by
  have hf : i < fl.length := by rw [← h, List.length_map] at hi; exact hi
  refine ⟨hf, ?_⟩
  have := congrArg (fun L => L[i]?) h
  simp only [List.getElem?_map, List.getElem?_eq_getElem hf, List.getElem?_eq_getElem hi, Option.map_some] at this
  injection this with this
  rw [← this]; exact ⟨rfl, rfl⟩
end Go.Proofs.YtemdgilifnhdpaaGreatDoor
end
