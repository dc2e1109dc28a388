/-
The document's world in memory; New, Tick, find.
-/
import Derived.Test.YtllpffdjlhamkaaWp3
import Derived.Test.YtllpffdjlhamkaaWd9
import Derived.BigRegion
set_option linter.unusedVariables false
set_option linter.unusedSimpArgs false
/-
The document's world in memory; New, Tick, find.
-/
section
namespace Go.Proofs.Ytllpffdjlhamkaa
open Go.RowKit

section
variable {α : Type}
theorem lk_at {M : List (List UInt8 × α)} (h : OneM M) {i : Nat} (hi : i < M.length) : lkM M M[i].1 = some M[i].2 := lk_of_mem h (List.getElem_mem hi)
theorem put_at {M : List (List UInt8 × α)} (h : OneM M) {i : Nat} (hi : i < M.length) (v : α) : putM M M[i].1 v = M.set i (M[i].1, v) := by
  induction M generalizing i with
  | nil => simp at hi
  | cons x r ih =>
    obtain ⟨k, u⟩ := x
    have h1 := List.pairwise_cons.1 h
    cases i with
    | zero => simp [putM]
    | succ i =>
      have hi' : i < r.length := by simpa using hi
      have hne : ¬ k = r[i].1 := h1.1 r[i] (List.getElem_mem hi')
      simp only [List.getElem_cons_succ, putM, if_neg hne, List.set_cons_succ, ih h1.2 hi']
theorem put_end {M : List (List UInt8 × α)} {l : List UInt8} (h : lkM M l = none) (v : α) : putM M l v = M ++ [(l, v)] := by
  induction M with
  | nil => rfl
  | cons x r ih =>
    obtain ⟨k, u⟩ := x
    have hn := lk_none_mem h (k, u) (List.mem_cons_self ..)
    unfold lkM at h
    rw [if_neg hn] at h
    unfold putM
    rw [if_neg hn, ih h]; rfl
theorem del_at {M : List (List UInt8 × α)} (h : OneM M) {i : Nat} (hi : i < M.length) : delM M M[i].1 = M.take i ++ M.drop (i + 1) := by
  induction M generalizing i with
  | nil => simp at hi
  | cons x r ih =>
    obtain ⟨k, u⟩ := x
    have h1 := List.pairwise_cons.1 h
    cases i with
    | zero => simp [delM]
    | succ i =>
      have hi' : i < r.length := by simpa using hi
      have hne : ¬ k = r[i].1 := h1.1 r[i] (List.getElem_mem hi')
      simp only [List.getElem_cons_succ, delM, if_neg hne, List.take_succ_cons, List.drop_succ_cons, List.cons_append, ih h1.2 hi']
end
/-- Where a path stands, or -1. -/
def FoundAt (L : List (List UInt8 × Fil)) (l : List UInt8) (r : Int) : Prop := (r = -1 ∧ lkM L l = none) ∨ ∃ i, ∃ h : i < L.length, r = (i : Int) ∧ L[i].1 = l
def Wrl.rcells (s : Wrl) (A : Option Addr) (c : Nat) (B : Option Addr) (d : Nat) (n : Nat) : Array Value := #[.slice A n c, .slice B n d, .int .i64 s.now, .int .i64 (s.ver : Int)]
def Rrow (w : World) (p : Nat) (s : Wrl) (A : Option Addr) (c : Nat) (B : Option Addr) (d : Nat) (n : Nat) : Prop := w.heap[p]? = some (.cells (s.rcells A c B d n) 42 (0, 0))
def feP (x : FE) : List UInt8 × Fil := (x.l, x.f)
/-- What a document's world is owned by: k its number, k + 1 its files' row, k + 2 its versions; k + 3 the files' bytes. -/
def KR (k : Nat) : Nat → Prop := fun i => i = k ∨ i = k + 1 ∨ i = k + 2
structure RwAt (w : World) (o : Ow) (k p : Nat) (s : Wrl) : Prop where
  own : o p = k
  row : ∃ A c B d fl, Rrow w p s A c B d fl.length ∧ Sl w o (k + 1) 3 A fl.length c (flC fl) ∧ (A = none → c = 0) ∧ Sl w o (k + 2) 1 B fl.length d (vc fl) ∧ (B = none → d = 0) ∧ fl.map feP = s.L ∧ ∀ x ∈ fl, Sl w o (k + 3) 1 x.A x.f.b.length x.c (bc x.f.b)
section
variable {w w' : World} {o o' : Ow} {k p n : Nat} {s : Wrl} {A B : Option Addr} {c d : Nat}
theorem Rrow.c0 (h : Rrow w p s A c B d n) : w.cell? ⟨p, 0, none⟩ = some (.slice A n c) := (row_facts h 0 _ rfl).1
theorem Rrow.c1 (h : Rrow w p s A c B d n) : w.cell? ⟨p, 1, none⟩ = some (.slice B n d) := (row_facts h 1 _ rfl).1
theorem Rrow.c2 (h : Rrow w p s A c B d n) : w.cell? ⟨p, 2, none⟩ = some (.int .i64 s.now) := (row_facts h 2 _ rfl).1
theorem Rrow.c3 (h : Rrow w p s A c B d n) : w.cell? ⟨p, 3, none⟩ = some (.int .i64 (s.ver : Int)) := (row_facts h 3 _ rfl).1
theorem Rrow.fz (h : Rrow w p s A c B d n) (i : Nat) (hi : i < 4) : w.frozen? ⟨p, i, none⟩ = false := by
  obtain ⟨u, hu⟩ : ∃ u, (s.rcells A c B d n)[i]? = some u := ⟨(s.rcells A c B d n)[i]'(by simp [Wrl.rcells]; omega), by simp⟩
  exact (row_facts h i u hu).2
theorem Rrow.stp {K : Nat → Prop} (h : Rrow w p s A c B d n) (e : Stp K w o w' o') (hk : ¬ K (o p)) : Rrow w' p s A c B d n := (e.keep p (row_lt h) hk).trans h
theorem Rrow.ext (h : Rrow w p s A c B d n) (e : Ext w w') : Rrow w' p s A c B d n := (e.block p (row_lt h)).trans h
theorem RwAt.stp {K : Nat → Prop} (h : RwAt w o k p s) (st : Stp K w o w' o') (h0 : ¬ K k) (h1 : ¬ K (k + 1)) (h2 : ¬ K (k + 2)) (h3 : ¬ K (k + 3)) : RwAt w' o' k p s := by
  obtain ⟨A, c, B, d, fl, hh, ha, na, hb, nb, hl, he⟩ := h.row
  exact ⟨by rw [st.own p (row_lt hh)]; exact h.own, A, c, B, d, fl, hh.stp st (by rw [h.own]; exact h0), ha.stp st h1, na, hb.stp st h2, nb, hl, fun x hx => (he x hx).stp st h3⟩
theorem RwAt.ext (h : RwAt w o k p s) (e : Ext w w') : RwAt w' o k p s := h.stp (K := fun _ => False) (Stp.ext e) (fun x => x) (fun x => x) (fun x => x) (fun x => x)
theorem setR_stp (i : Nat) (u : Value) (h : o p = k) : Stp (KR k) w o (w.setCell ⟨p, i, none⟩ u) o := Stp.set p i u (fun _ => .inl h)
theorem RwAt.tick (h : RwAt w o k p s) (n : Int) : RwAt (w.setCell ⟨p, 2, none⟩ (.int .i64 n)) o k p ⟨s.L, n, s.ver⟩ := by
  obtain ⟨A, c, B, d, fl, hh, ha, na, hb, nb, hl, he⟩ := h.row
  have st : Stp (fun i => i = k) w o (w.setCell ⟨p, 2, none⟩ (.int .i64 n)) o := Stp.set p 2 _ (fun _ => h.own)
  exact ⟨h.own, A, c, B, d, fl, row_set hh 2 _, ha.stp st (by omega), na, hb.stp st (by omega), nb, hl, fun x hx => (he x hx).stp st (by omega)⟩
end
theorem RwAt.fresh (W : World) (o : Ow) (k : Nat) (now : Int) : RwAt (W.alloc (.cells #[.slice none 0 0, .slice none 0 0, .int .i64 now, .int .i64 0] 42)) (fun b => if b = W.heap.size then k else o b) k W.heap.size ⟨[], now, 0⟩ :=
  ⟨by simp, none, 0, none, 0, [], heap_alloc_new W _, Sl.nil_ _ _ _ _ _, fun _ => rfl, Sl.nil_ _ _ _ _ _, fun _ => rfl, rfl, fun x hx => by cases hx⟩
set_option maxRecDepth 100000 in
set_option maxHeartbeats 2000000 in
theorem rwNew_yes (k : Nat) (now : Int) (h0 : 0 ≤ now) (h1 : now ≤ 253402300799) (w : World) (o : Ow) :
    Calls Try.prog 5 #[.int .i64 now] w (Turns (fun _ => False) w o fun v w' o' => ∃ p, v = .pointer (some ⟨p, 0, none⟩) ∧ RwAt w' o' k p ⟨[], now, 0⟩) := by
  have a1 : ¬ now < 0 := by omega
  have a2 : ¬ 253402300799 < now := by omega
  go_enter Try.func5, Try.ntmps5
  go_wp2
  go_ret
  exact Turns.mk _ rfl ⟨_, rfl, RwAt.fresh w o k now⟩ (Stp.ext2 (by (repeat (first | exact Ext.rfl' _ | assumption | refine Ext.dr ?_ | refine Ext.drN ?_ _ | refine Ext.al ?_ _ | refine Ext.st ?_ (by simp) _ | refine Ext.tr ?_ (by assumption)))) (fun b hb => by rw [if_neg (by omega)]))
set_option maxRecDepth 100000 in
set_option maxHeartbeats 2000000 in
theorem rwNew_no (now : Int) (h : now < 0 ∨ 253402300799 < now) (w : World) : Calls Try.prog 5 #[.int .i64 now] w (Gives (.pointer none) w) := by
  by_cases a1 : now < 0
  · go_enter Try.func5, Try.ntmps5
    go_wp2
    go_ret
    exact ⟨rfl, by (repeat (first | exact Ext.rfl' _ | assumption | refine Ext.dr ?_ | refine Ext.drN ?_ _ | refine Ext.al ?_ _ | refine Ext.st ?_ (by simp) _ | refine Ext.tr ?_ (by assumption)))⟩
  · have a2 : 253402300799 < now := by omega
    go_enter Try.func5, Try.ntmps5
    go_wp2
    go_ret
    exact ⟨rfl, by (repeat (first | exact Ext.rfl' _ | assumption | refine Ext.dr ?_ | refine Ext.drN ?_ _ | refine Ext.al ?_ _ | refine Ext.st ?_ (by simp) _ | refine Ext.tr ?_ (by assumption)))⟩
set_option maxRecDepth 100000 in
set_option maxHeartbeats 4000000 in
theorem rwTick_c (w : World) (o : Ow) (k p : Nat) (s : Wrl) (h : RwAt w o k p s) (hk : Wok s) (n : Int) (hn : n < 9223372036854775808) :
    Calls Try.prog 18 #[.pointer (some ⟨p, 0, none⟩), .int .i64 n] w (Turns (KR k) w o fun v w' o' => v = .int .i64 (tickW s n).2 ∧ RwAt w' o' k p (tickW s n).1) := by
  obtain ⟨A, c, B, d, fl, hh, _⟩ := h.row
  have c0 := hh.c2
  have f0 := hh.fz 2 (by omega)
  by_cases h0 : n < 0
  · have ht : tickW s n = (s, 1) := by unfold tickW; rw [if_pos h0]
    rw [ht]
    go_enter Try.func18, Try.ntmps18
    go_wp2
    go_ret
    exact Turns.mk o rfl ⟨rfl, h⟩ Stp.rfl'
  · have ht : tickW s n = (⟨s.L, s.now + min n (wlast - s.now), s.ver⟩, 0) := by unfold tickW; rw [if_neg h0]
    rw [ht]
    unfold wlast
    have b0 := hk.now0
    have b1 : s.now ≤ 253402300799 := hk.now1
    have h1 : IntKind.i64.wrap (253402300799 - s.now) = 253402300799 - s.now := by rw [IntKind.wrap_i64]; omega
    by_cases hc : 253402300799 - s.now < n
    · rw [show min n (253402300799 - s.now) = 253402300799 - s.now from by omega]
      have h2 : IntKind.i64.wrap (s.now + (253402300799 - s.now)) = s.now + (253402300799 - s.now) := by rw [IntKind.wrap_i64]; omega
      go_enter Try.func18, Try.ntmps18
      go_wp2
      go_region
      go_wp2
      go_ret
      try rw [show min n (253402300799 - s.now) = 253402300799 - s.now from by omega]
      exact Turns.mk o rfl ⟨rfl, (h.tick _).ext (Ext.dr (Ext.rfl' _))⟩ ((setR_stp 2 _ h.own).tr (Stp.ext (Ext.dr (Ext.rfl' _))))
    · rw [show min n (253402300799 - s.now) = n from by omega]
      have h2 : IntKind.i64.wrap (s.now + (n)) = s.now + (n) := by rw [IntKind.wrap_i64]; omega
      go_enter Try.func18, Try.ntmps18
      go_wp2
      go_region
      go_wp2
      go_ret
      try rw [show min n (253402300799 - s.now) = n from by omega]
      exact Turns.mk o rfl ⟨rfl, (h.tick _).ext (Ext.dr (Ext.rfl' _))⟩ ((setR_stp 2 _ h.own).tr (Stp.ext (Ext.dr (Ext.rfl' _))))
set_option maxRecDepth 100000 in
set_option maxHeartbeats 4000000 in
theorem rwfind_c (w : World) (o : Ow) (k p : Nat) (s : Wrl) (h : RwAt w o k p s) (hk : Wok s) (l : List UInt8) :
    Calls Try.prog 32 #[.pointer (some ⟨p, 0, none⟩), .string (str l)] w (Ret (fun v _ => ∃ r, v = .int .i64 r ∧ FoundAt s.L l r) w) := by
  obtain ⟨A, c, B, d, fl, hh, ha, na, hb, nb, hl, he⟩ := h.row
  have c0 := hh.c0
  have hfl : fl.length = s.L.length := by rw [← hl, List.length_map]
  have hfew := hk.few
  obtain ⟨n, hn⟩ : ∃ n, n = fl.length := ⟨_, rfl⟩
  rw [← hn] at c0 hfl
  have HN := Lib.hid hn
  have HFL := Lib.hid hfl
  have hn1 : n ≤ 1000 := by omega
  have HA := Lib.hid ha.rd
  have HL := Lib.hid hl
  clear hn hfl hh ha hb nb he hl
  obtain ⟨sl, hsl⟩ : ∃ sl, sl = str l := ⟨_, rfl⟩
  rw [← hsl]
  have HSL := Lib.hid hsl
  clear hsl
  go_enter Try.func32, Try.ntmps32
  go_wp2
  go_loopw [5] (fun i wr => ∃ m : Nat, m ≤ n ∧ i = .int .i64 (m : Int) ∧ (∀ j (hj : j < s.L.length), j < m → s.L[j].1 ≠ l) ∧ wr = w) (fun i _ => n - (intOf i).toNat)
  case atStart => exact ⟨0, Nat.zero_le _, rfl, fun j _ h => by omega, rfl⟩
  case round =>
    obtain ⟨m, hm, rfl, hno, rfl⟩ := hrel
    have HNO := Lib.hid hno
    clear hno
    by_cases hmn : m < n
    · have hmf : m < fl.length := by rw [← HN.out]; exact hmn
      have hms : m < s.L.length := by rw [← HFL.out]; exact hmn
      obtain ⟨b, f, rfl, hbl, hc⟩ := (HA.out).at_ (by rw [flC_len]; omega)
      have t0 := hc (m * 3) _ (by have := flC_at fl m 0 (by omega); rw [Nat.add_zero, List.getElem?_eq_getElem hmf] at this; simpa [feC] using this)
      have hpe : fl[m].l = s.L[m].1 := by
        have : s.L[m] = feP fl[m] := by
          have := congrArg (fun L => L[m]?) HL.out
          simp only [List.getElem?_map, List.getElem?_eq_getElem hmf, List.getElem?_eq_getElem hms, Option.map_some] at this
          injection this with this; exact this.symm
        rw [this]; rfl
      have hk0 : (0 : Int) ≤ (m : Int) := by omega
      have hk1 : (m : Int) < (n : Int) := by omega
      obtain ⟨sn, hsn⟩ : ∃ sn, sn = str fl[m].l := ⟨_, rfl⟩
      rw [← hsn] at t0
      clear hc
      by_cases heq : s.L[m].1 = l
      · have hss : sn = sl := by rw [hsn, HSL.out, hpe, heq]
        subst hss
        clear hsn
        go_wp2
        go_ret
        exact Ret.mk ⟨_, rfl, .inr ⟨m, hms, rfl, heq⟩⟩ (Ext.rfl' _)
      · have e1 : ¬ sn.toList = sl.toList := by rw [hsn, HSL.out, str_tl, str_tl, hpe]; exact heq
        have e2 : (sn.toList == sl.toList) = false := by rw [beq_eq_false_iff_ne]; exact e1
        clear hsn
        go_wp2
        go_roundw
        case rel => exact ⟨m + 1, by omega, by go_num, fun j hj hjm => by
          by_cases e : j = m
          · subst e; exact heq
          · exact HNO.out j hj (by omega), by first | rfl | trivial⟩
        case measure => simp [intOf]; omega
    · obtain rfl : m = n := by omega
      go_wp2
      go_ret
      exact Ret.mk ⟨_, rfl, .inl ⟨rfl, lk_none_of fun x hx => by
        obtain ⟨j, hj, rfl⟩ := List.getElem_of_mem hx
        exact HNO.out j hj (by rw [HFL.out]; exact hj)⟩⟩ (Ext.rfl' _)
end Go.Proofs.Ytllpffdjlhamkaa
end

/-
The document's world: Folder.
-/
section
namespace Go.Proofs.Ytllpffdjlhamkaa
open Go.RowKit

theorem folder_nil {s : Wrl} : folderW s [] = false := by unfold folderW; rfl
theorem folder_head {s : Wrl} {l : List UInt8} (h : l.head? ≠ some 47) : folderW s l = false := by
  unfold folderW
  rw [show decide (l.head? = some 47) = false from decide_eq_false h]; rfl
theorem folder_last {s : Wrl} {l : List UInt8} (h : l.getLast? ≠ some 47) : folderW s l = false := by
  unfold folderW
  rw [show decide (l.getLast? = some 47) = false from decide_eq_false h]; simp
theorem folder_both {s : Wrl} {l : List UInt8} (h1 : l.head? = some 47) (h2 : l.getLast? = some 47) : folderW s l = (decide (l = [47]) || s.L.any fun x => decide (l <+: x.1)) := by
  unfold folderW
  rw [h1, h2]; rfl
set_option maxRecDepth 100000 in
set_option maxHeartbeats 4000000 in
theorem rwFolder_c (w : World) (o : Ow) (k p : Nat) (s : Wrl) (h : RwAt w o k p s) (hk : Wok s) (l : List UInt8) (hl : l.length ≤ 140737488355328) :
    Calls Try.prog 21 #[.pointer (some ⟨p, 0, none⟩), .string (str l)] w (Gives (.bool (folderW s l)) w) := by
  by_cases hn : l = []
  · subst hn
    rw [folder_nil, show str ([] : List UInt8) = ⟨#[]⟩ from rfl]
    go_enter Try.func21, Try.ntmps21
    go_wp2
    go_ret
    exact ⟨rfl, Ext.rfl' _⟩
  have e1 : l.isEmpty = false := by rw [List.isEmpty_eq_false_iff]; exact hn
  have e2 : (str l).toList.isEmpty = false := by rw [Lib.toList_data]; exact e1
  have hl0 : 0 < l.length := List.length_pos_iff.2 hn
  have i0 : (0 : Int) < (l.length : Int) := by omega
  have s1 : IntKind.i64.wrap ((l.length : Int) - 1) = (l.length : Int) - 1 := by rw [IntKind.wrap_i64]; omega
  have t1 : ((l.length : Int) - 1).toNat = l.length - 1 := by omega
  have i1 : (0 : Int) ≤ (l.length : Int) - 1 := by omega
  have i2 : (l.length : Int) - 1 < (l.length : Int) := by omega
  have i3 : l.length - 1 < l.length := by omega
  have hhead : l.head? = some l[0] := by rw [List.head?_eq_getElem?, List.getElem?_eq_getElem hl0]
  have hlast : l.getLast? = some l[l.length - 1] := by rw [List.getLast?_eq_getElem?, List.getElem?_eq_getElem i3]
  by_cases hh : l.head? = some 47
  · have hb : ((l[0].toNat : Int) != 47) = false := by
      rw [hhead] at hh
      rw [Option.some.inj hh]; rfl
    by_cases hg : l.getLast? = some 47
    · have hc : ((l[l.length - 1].toNat : Int) != 47) = false := by
        rw [hlast] at hg
        rw [Option.some.inj hg]; rfl
      rw [folder_both hh hg]
      obtain ⟨A, c, B, d, fl, hr, ha, na, hb', nb, hfe, he⟩ := h.row
      have c0 := hr.c0
      have hfl : fl.length = s.L.length := by rw [← hfe, List.length_map]
      have hfew := hk.few
      obtain ⟨n, hn1⟩ : ∃ n, n = fl.length := ⟨_, rfl⟩
      rw [← hn1] at c0 hfl
      have HN := Lib.hid hn1
      have HFL := Lib.hid hfl
      have hn2 : n ≤ 1000 := by omega
      have HA := Lib.hid ha.rd
      have HL := Lib.hid hfe
      clear hn1 hfl hr ha hb' nb he hfe hhead hlast hh hg
      obtain ⟨R, hR⟩ : ∃ R, R = (decide (l = [47]) || s.L.any fun x => decide (l <+: x.1)) := ⟨_, rfl⟩
      rw [← hR]
      have HR := Lib.hid hR
      clear hR
      go_enter Try.func21, Try.ntmps21
      go_wp2
      go_loopw [5] (fun i wr => ∃ m : Nat, m ≤ n ∧ i = .int .i64 (m : Int) ∧ (∀ j (hj : j < s.L.length), j < m → ¬ l <+: s.L[j].1) ∧ wr = w) (fun i _ => n - (intOf i).toNat)
      case atStart => exact ⟨0, Nat.zero_le _, rfl, fun j _ h => by omega, rfl⟩
      case round =>
        obtain ⟨m, hm, rfl, hno, rfl⟩ := hrel
        have HNO := Lib.hid hno
        clear hno
        by_cases hmn : m < n
        · have hmf : m < fl.length := by rw [← HN.out]; exact hmn
          have hms : m < s.L.length := by rw [← HFL.out]; exact hmn
          obtain ⟨b, f, rfl, hbl, hcc⟩ := (HA.out).at_ (by rw [flC_len]; omega)
          have t0 := hcc (m * 3) _ (by have := flC_at fl m 0 (by omega); rw [Nat.add_zero, List.getElem?_eq_getElem hmf] at this; simpa [feC] using this)
          have hpe : fl[m].l = s.L[m].1 := by
            have : s.L[m] = feP fl[m] := by
              have := congrArg (fun L => L[m]?) HL.out
              simp only [List.getElem?_map, List.getElem?_eq_getElem hmf, List.getElem?_eq_getElem hms, Option.map_some] at this
              injection this with this; exact this.symm
            rw [this]; rfl
          have hk0 : (0 : Int) ≤ (m : Int) := by omega
          have hk1 : (m : Int) < (n : Int) := by omega
          have hpl : fl[m].l.length ≤ 4096 := by rw [hpe]; exact path_len (hk.path _ (List.getElem_mem hms))
          obtain ⟨x, hx⟩ : ∃ x, x = fl[m].l := ⟨_, rfl⟩
          rw [← hx] at t0 hpe hpl
          clear hcc hx
          by_cases hle : l.length ≤ x.length
          · have q1 : (l.length : Int) ≤ (x.length : Int) := by omega
            have hex : (str x).extract 0 l.length = str (x.take l.length) := by rw [str_extract, List.drop_zero]
            by_cases hpre : l <+: x
            · have htk : x.take l.length = l := (List.prefix_iff_eq_take.1 hpre).symm
              rw [htk] at hex
              have hd : R = true := by
                rw [HR.out]
                have : (s.L.any fun x => decide (l <+: x.1)) = true := List.any_eq_true.2 ⟨_, List.getElem_mem hms, by rw [← hpe]; exact decide_eq_true hpre⟩
                rw [this]; simp
              clear HR
              subst hd
              clear hpre htk hpe
              go_wp2
              go_ret
              exact ⟨rfl, Ext.rfl' _⟩
            · have htk : ¬ x.take l.length = l := fun e => hpre (List.prefix_iff_eq_take.2 e.symm)
              obtain ⟨y, hy⟩ : ∃ y, y = x.take l.length := ⟨_, rfl⟩
              rw [← hy] at hex htk
              have htk2 : ¬ (str y).toList = (str l).toList := by rw [str_tl, str_tl]; exact htk
              have htk3 : ((str y).toList == (str l).toList) = false := by rw [beq_eq_false_iff_ne]; exact htk2
              have htk4 : (y == l) = false := by rw [beq_eq_false_iff_ne]; exact htk
              have HPE := Lib.hid hpe
              clear hy hpe
              go_wp2
              go_roundw
              case rel => exact ⟨m + 1, by omega, by go_num, fun j hj hjm => by
                by_cases e : j = m
                · subst e; rw [← HPE.out]; exact hpre
                · exact HNO.out j hj (by omega), by first | rfl | trivial⟩
              case measure => simp [intOf]; omega
          · have q1 : ¬ (l.length : Int) ≤ (x.length : Int) := by omega
            have HPE := Lib.hid hpe
            clear hpe
            go_wp2
            go_roundw
            case rel => exact ⟨m + 1, by omega, by go_num, fun j hj hjm => by
              by_cases e : j = m
              · subst e; rw [← HPE.out]; exact fun h => hle h.length_le
              · exact HNO.out j hj (by omega), by first | rfl | trivial⟩
            case measure => simp [intOf]; omega
        · obtain rfl : m = n := by omega
          have hd : R = decide (l = [47]) := by
            rw [HR.out]
            have : (s.L.any fun x => decide (l <+: x.1)) = false := by
              rw [List.any_eq_false]
              intro x hx
              obtain ⟨j, hj, rfl⟩ := List.getElem_of_mem hx
              have := HNO.out j hj (by rw [HFL.out]; exact hj)
              simpa using this
            rw [this]; simp
          by_cases h47 : l = [47]
          · obtain rfl : R = true := by rw [hd]; simp [h47]
            have e47 : (str l) = ⟨#[47]⟩ := by rw [h47]; rfl
            clear hd h47
            simp only [e47]
            go_wp2
            go_ret
            exact ⟨rfl, Ext.rfl' _⟩
          · obtain rfl : R = false := by rw [hd]; simp [h47]
            have z1 : ¬ (str l).toList = (⟨#[47]⟩ : ByteArray).toList := by rw [str_tl, show (⟨#[47]⟩ : ByteArray).toList = [47] from by rw [ByteArray.toList_eq]]; exact h47
            have z2 : ((str l).toList == (⟨#[47]⟩ : ByteArray).toList) = false := by rw [beq_eq_false_iff_ne]; exact z1
            have z3 : (l == [47]) = false := by rw [beq_eq_false_iff_ne]; exact h47
            clear hd
            go_wp2
            go_ret
            exact ⟨rfl, Ext.rfl' _⟩
    · have hc : ((l[l.length - 1].toNat : Int) != 47) = true := by
        rw [bne_iff_ne]; intro e
        rw [hlast] at hg
        exact hg (congrArg some (UInt8.toNat_inj.1 (by show l[l.length - 1].toNat = 47; omega)))
      rw [folder_last hg]
      clear hhead hlast hg hh
      go_enter Try.func21, Try.ntmps21
      go_wp2
      go_ret
      exact ⟨rfl, Ext.rfl' _⟩
  · have hb : ((l[0].toNat : Int) != 47) = true := by
      rw [bne_iff_ne]; intro e
      rw [hhead] at hh
      exact hh (congrArg some (UInt8.toNat_inj.1 (by show l[0].toNat = 47; omega)))
    rw [folder_head hh]
    clear hhead hlast hh
    go_enter Try.func21, Try.ntmps21
    go_wp2
    go_ret
    exact ⟨rfl, Ext.rfl' _⟩
end Go.Proofs.Ytllpffdjlhamkaa
end

/-
The document's world: File.
-/
section
namespace Go.Proofs.Ytllpffdjlhamkaa
open Go.RowKit

theorem found_some {L : List (List UInt8 × Fil)} {l : List UInt8} {r : Int} {f : Fil} (h : FoundAt L l r) (h1 : OneM L) (hf : lkM L l = some f) : ∃ i, ∃ hi : i < L.length, r = (i : Int) ∧ L[i] = (l, f) := by
  rcases h with ⟨_, h⟩ | ⟨i, hi, hr, hl⟩
  · rw [hf] at h; cases h
  · refine ⟨i, hi, hr, ?_⟩
    have := lk_at h1 hi
    rw [hl, hf] at this
    injection this with this
    exact Prod.ext hl this.symm
theorem found_none {L : List (List UInt8 × Fil)} {l : List UInt8} {r : Int} (h : FoundAt L l r) (h1 : OneM L) (hf : lkM L l = none) : r = -1 := by
  rcases h with ⟨h, _⟩ | ⟨i, hi, hr, hl⟩
  · exact h
  · have := lk_at h1 hi
    rw [hl, hf] at this; cases this
theorem fe_at {fl : List FE} {L : List (List UInt8 × Fil)} (h : fl.map feP = L) {i : Nat} (hi : i < L.length) : ∃ hf : i < fl.length, fl[i].l = L[i].1 ∧ fl[i].f = L[i].2 := by
  have hf : i < fl.length := by rw [← h, List.length_map] at hi; exact hi
  refine ⟨hf, ?_⟩
  have := congrArg (fun L => L[i]?) h
  simp only [List.getElem?_map, List.getElem?_eq_getElem hf, List.getElem?_eq_getElem hi, Option.map_some] at this
  injection this with this
  rw [← this]; exact ⟨rfl, rfl⟩
set_option maxRecDepth 100000 in
set_option maxHeartbeats 4000000 in
theorem rwFile_none (w : World) (o : Ow) (k p : Nat) (s : Wrl) (h : RwAt w o k p s) (hk : Wok s) (l : List UInt8) (hf : lkM s.L l = none) :
    Calls Try.prog 19 #[.pointer (some ⟨p, 0, none⟩), .string (str l)] w (Gives (.tuple #[.agg #[.string ⟨#[]⟩, .slice none 0 0, .int .i64 0], .int .i64 0, .int .i64 3]) w) := by
  have HR := Lib.hid (fun w' (e : Ext w w') => rwfind_c w' o k p s (h.ext e) hk l)
  have HF := Lib.hid hf
  clear hf
  go_enter Try.func19, Try.ntmps19
  go_wp2_with (first
    | (go_at_call 32; refine (HR.out _ (by (repeat (first | exact Ext.rfl' _ | assumption | refine Ext.dr ?_ | refine Ext.drN ?_ _ | refine Ext.al ?_ _ | refine Ext.st ?_ (by simp) _ | refine Ext.tr ?_ (by assumption))))).mono ?_; rintro e w1 ⟨v, rfl, ⟨r, rfl, hF⟩, hx1⟩; obtain rfl := found_none hF hk.one HF.out; have r0 := hx1.new 0 _ rfl; have r1 := hx1.new 1 _ rfl; have r2 := hx1.new 2 _ rfl; have f0 := hx1.newfr 0; have f1 := hx1.newfr 1; have f2 := hx1.newfr 2))
  refine bodyPost_ret (v := .tuple #[.agg #[.string ⟨#[]⟩, .slice none 0 0, .int .i64 0], .int .i64 0, .int .i64 3]) (by simp [results, Try.results19, go_sem, r0, r1, r2]) rfl ?_
  exact ⟨rfl, by (repeat (first | exact Ext.rfl' _ | assumption | refine Ext.dr ?_ | refine Ext.drN ?_ _ | refine Ext.al ?_ _ | refine Ext.st ?_ (by simp) _ | refine Ext.tr ?_ (by assumption)))⟩
set_option maxRecDepth 100000 in
set_option maxHeartbeats 4000000 in
theorem rwFile_some (j : Nat) (w : World) (o : Ow) (k p : Nat) (s : Wrl) (h : RwAt w o k p s) (hk : Wok s) (l : List UInt8) (f : Fil) (hf : lkM s.L l = some f) :
    Calls Try.prog 19 #[.pointer (some ⟨p, 0, none⟩), .string (str l)] w (Turns (fun _ => False) w o fun v w' o' => ∃ A c, v = .tuple #[.agg #[.string (str l), .slice A f.b.length c, .int .i64 f.mt], .int .i64 (f.ve : Int), .int .i64 0] ∧ Sl w' o' j 1 A f.b.length c (bc f.b) ∧ (A = none → c = 0)) := by
  have hsz := hk.size _ (lk_mem hf)
  dsimp only at hsz
  have HR := Lib.hid (fun w' (e : Ext w w') => rwfind_c w' o k p s (h.ext e) hk l)
  obtain ⟨A, c, B, d, fl, hh, ha, na, hb, nb, hl, he⟩ := h.row
  have hfl : fl.length = s.L.length := by rw [← hl, List.length_map]
  obtain ⟨N, hN⟩ : ∃ N, N = fl.length := ⟨_, rfl⟩
  rw [← hN] at hh hfl
  -- where it stands
  have hpos : ∃ i, ∃ hi : i < s.L.length, s.L[i] = (l, f) := by
    obtain ⟨i, hi, e⟩ := List.getElem_of_mem (lk_mem hf)
    exact ⟨i, hi, e⟩
  have FS : Hid (∀ r, FoundAt s.L l r → ∃ i : Nat, r = (i : Int) ∧ i < N ∧ ∃ hf : i < fl.length, fl[i].l = l ∧ fl[i].f = f) := Lib.hid (fun r hr => by
    obtain ⟨i, hi, rfl, hil⟩ := found_some hr hk.one hf
    obtain ⟨hfi, h1, h2⟩ := fe_at hl hi
    rw [hil] at h1 h2
    exact ⟨i, rfl, by rw [hfl]; exact hi, hfi, h1, h2⟩)
  have HH := Lib.hid (fun w' (e : Ext w w') => hh.ext e)
  have HA := Lib.hid (fun w' (e : Ext w w') => ha.rd.ext e)
  have HB := Lib.hid (fun w' (e : Ext w w') => hb.rd.ext e)
  have HE := Lib.hid he
  obtain ⟨n0, hn0⟩ : ∃ n0, n0 = f.b.length := ⟨_, rfl⟩
  obtain ⟨m0, hm0⟩ : ∃ m0, m0 = f.mt := ⟨_, rfl⟩
  obtain ⟨v0, hv0⟩ : ∃ v0, v0 = (f.ve : Int) := ⟨_, rfl⟩
  rw [← hn0, ← hm0, ← hv0]
  have HN0 := Lib.hid hn0
  have HM0 := Lib.hid hm0
  have HV0 := Lib.hid hv0
  have hnb : n0 ≤ 140737488351232 := by omega
  clear hh ha hb he hl hf hfl hN hpos hn0 hm0 hv0 hsz
  go_enter Try.func19, Try.ntmps19
  go_wp2_with (first
    | (go_at_call 32; refine (HR.out _ (by (repeat (first | exact Ext.rfl' _ | assumption | refine Ext.dr ?_ | refine Ext.drN ?_ _ | refine Ext.al ?_ _ | refine Ext.st ?_ (by simp) _ | refine Ext.tr ?_ (by assumption))))).mono ?_; rintro e w1 ⟨v, rfl, ⟨r, rfl, hF⟩, hx1⟩; obtain ⟨i, rfl, hiN, hif, hi1, hi2⟩ := FS.out r hF; have hx2 : Ext w w1 := (show Ext w (w.alloc _) by (repeat (first | exact Ext.rfl' _ | assumption | refine Ext.dr ?_ | refine Ext.drN ?_ _ | refine Ext.al ?_ _ | refine Ext.st ?_ (by simp) _ | refine Ext.tr ?_ (by assumption)))).tr hx1; have c0 := (HH.out w1 hx2).c0; obtain ⟨b1, g1, rfl, hb1, hc1⟩ := (HA.out w1 hx2).at_ (by rw [flC_len]; omega); obtain ⟨b2, g2, rfl, hb2, hc2⟩ := (HB.out w1 hx2).at_ (by rw [vc_len]; omega); have t0 := hc1 (i * 3) _ (by have := flC_at fl i 0 (by omega); rw [Nat.add_zero, List.getElem?_eq_getElem hif] at this; simpa [feC] using this); have t1 := hc1 (i * 3 + 1) _ (by have := flC_at fl i 1 (by omega); rw [List.getElem?_eq_getElem hif] at this; simpa [feC] using this); have t2 := hc1 (i * 3 + 2) _ (by have := flC_at fl i 2 (by omega); rw [List.getElem?_eq_getElem hif] at this; simpa [feC] using this); have t3 := hc2 i (.int .i64 (fl[i].f.ve : Int)) (by simp [vc, hif]); rw [hi1] at t0; rw [hi2, ← HN0.out] at t1; rw [hi2, ← HM0.out] at t2; rw [hi2, ← HV0.out] at t3; rw [← Nat.add_assoc] at t1 t2; have HYR := Lib.hid ((HE.out fl[i] (List.getElem_mem _)).rd.ext hx2); rw [hi2] at HYR; obtain ⟨yA, hyA⟩ : ∃ yA, yA = fl[i].A := ⟨_, rfl⟩; obtain ⟨yc, hyc⟩ : ∃ yc, yc = fl[i].c := ⟨_, rfl⟩; rw [← hyA, ← hyc] at t1; rw [← hyA] at HYR; have hk0 : (0 : Int) ≤ (i : Int) := (by omega); have hk1 : (i : Int) < (N : Int) := (by omega); have hng : ¬ (i : Int) < 0 := (by omega); obtain ⟨_, _, e2, hb2w, _⟩ := (HB.out w (Ext.rfl' w)).at_ (by rw [vc_len]; omega); cases e2; clear hc1 hc2 hi1 hi2 hyA hyc hF)
    | (at_builtin; refine wpL_fresh slt_u8 (.tmp 22) (.tmp 24) rfl rfl (o := fun b => if b = w1.heap.size then j + 1 else if b = w.heap.size then j + 2 else o b) j rfl rfl (Sl.src Try.underlying32 (HYR.out.ext (by (repeat (first | exact Ext.rfl' _ | assumption | refine Ext.dr ?_ | refine Ext.drN ?_ _ | refine Ext.al ?_ _ | refine Ext.st ?_ (by simp) _ | refine Ext.tr ?_ (by assumption))))) (by rw [bc_len, HN0.out]; simp) (by omega) (bc_one _) yc) (by omega) (by simp only [maxLen]; omega) ?_; intro A5 c5 w5 o5 hs5 st5 hn5; have x5 : Ext (w1.alloc (.cells #[.string (str l), .slice yA n0 yc, .int .i64 m0] 46)) w5 := (show Ext _ _ by (repeat (first | exact Ext.rfl' _ | assumption | refine Ext.dr ?_ | refine Ext.drN ?_ _ | refine Ext.al ?_ _ | refine Ext.st ?_ (by simp) _ | refine Ext.tr ?_ (by assumption)))).tr st5.noExt; have r0 := x5.new 0 _ rfl; have r1 := x5.new 1 _ rfl; have r2 := x5.new 2 _ rfl; have f1 := x5.newfr 1))
  have hlt1 : w.heap.size < w1.heap.size := Nat.lt_of_lt_of_le (by simp) hx1.size
  have hx9 : Ext (w.alloc (.cells #[.string ⟨#[]⟩, .slice none 0 0, .int .i64 0] 46)) w5 := (hx1.tr (show Ext w1 (w1.alloc _) by (repeat (first | exact Ext.rfl' _ | assumption | refine Ext.dr ?_ | refine Ext.drN ?_ _ | refine Ext.al ?_ _ | refine Ext.st ?_ (by simp) _ | refine Ext.tr ?_ (by assumption))))).tr x5
  have hh5 : w5.heap[w1.heap.size]? = some (.cells #[.string (str l), .slice yA n0 yc, .int .i64 m0] 46 (0, 0)) := (x5.block _ (by simp)).trans (heap_alloc_new w1 _)
  have hr5 : w5.heap[w.heap.size]? = some (.cells #[.string ⟨#[]⟩, .slice none 0 0, .int .i64 0] 46 (0, 0)) := (hx9.block _ (by simp)).trans (heap_alloc_new w _)
  have hh6 := row_set hh5 1 (.slice A5 n0 c5)
  have oX : o5 w1.heap.size = j + 1 := by rw [st5.own _ (by simp; omega)]; simp
  have oR : o5 w.heap.size = j + 2 := by rw [st5.own _ (by simp; omega)]; simp [Nat.ne_of_lt hlt1]
  have oo : ∀ b, b < w.heap.size → o5 b = o b := fun b hb => by
    rw [st5.own b (by simp; omega), if_neg (by omega), if_neg (by omega)]
  have st6 : Stp (fun i => i = j + 1) w5 o5 (w5.setCell ⟨w1.heap.size, 1, none⟩ (.slice A5 n0 c5)) o5 := Stp.set _ 1 _ (fun _ => oX)
  have hr6 := (st6.keep w.heap.size (row_lt hr5) (by rw [oR]; omega)).trans hr5
  have hs6 := hs5.stp st6 (by omega)
  have x6 : Ext w (w5.setCell ⟨w1.heap.size, 1, none⟩ (.slice A5 n0 c5)) := Ext.st ((show Ext w (w.alloc _) by (repeat (first | exact Ext.rfl' _ | assumption | refine Ext.dr ?_ | refine Ext.drN ?_ _ | refine Ext.al ?_ _ | refine Ext.st ?_ (by simp) _ | refine Ext.tr ?_ (by assumption)))).tr hx9) (by show w.heap.size ≤ w1.heap.size; omega) _
  have x16 : Ext w1 (w5.setCell ⟨w1.heap.size, 1, none⟩ (.slice A5 n0 c5)) := Ext.st ((show Ext w1 (w1.alloc _) by (repeat (first | exact Ext.rfl' _ | assumption | refine Ext.dr ?_ | refine Ext.drN ?_ _ | refine Ext.al ?_ _ | refine Ext.st ?_ (by simp) _ | refine Ext.tr ?_ (by assumption)))).tr x5) (Nat.le_refl _) _
  have p1 := (HH.out _ x6).c1
  have hpw : p < w.heap.size := row_lt (HH.out w (Ext.rfl' w))
  have z3 := (x16.cell (p := ⟨b2, g2 + i, none⟩) hb2).trans t3
  obtain ⟨W7, hW7⟩ : ∃ W7, W7 = w5.setCell ⟨w1.heap.size, 1, none⟩ (.slice A5 n0 c5) := ⟨_, rfl⟩
  rw [← hW7] at hh6 hr6 hs6 x6 x16 p1 z3 ⊢
  obtain ⟨XN, hXN⟩ : ∃ XN, XN = w1.heap.size := ⟨_, rfl⟩
  obtain ⟨RN, hRN⟩ : ∃ RN, RN = w.heap.size := ⟨_, rfl⟩
  rw [← hXN, ← hRN] at hlt1
  rw [← hXN] at hh6
  rw [← hRN] at hr6 oR hb2w hpw
  have hRN2 : w.heap.size ≤ RN := Nat.le_of_eq hRN.symm
  rw [← hXN, ← hRN]
  have g0 := (row_facts hh6 0 _ rfl).1
  have g1' := (row_facts hh6 1 _ rfl).1
  have g2' := (row_facts hh6 2 _ rfl).1
  obtain ⟨k00, k01⟩ := row_facts hr6 0 _ rfl
  obtain ⟨k10, k11⟩ := row_facts hr6 1 _ rfl
  obtain ⟨k20, k21⟩ := row_facts hr6 2 _ rfl
  have hne : ¬ XN = RN := by omega
  have hne2 : ¬ RN = XN := by omega
  have hne3 : ¬ p = RN := by omega
  have hne4 : ¬ b2 = RN := by omega
  have hne5 : ¬ RN = p := by omega
  have hne6 : ¬ RN = b2 := by omega
  clear r0 r1 r2 f1 hW7 hh5 hr5 st6 hx9 hXN hRN oX t0 t1 t2 t3 c0 x16
  go_region
  have sa : Stp (fun i => i = j + 2) W7 o5 (W7.setCell ⟨RN, 0, none⟩ (.string (str l))) o5 := Stp.set _ 0 _ (fun _ => oR)
  have sb : Stp (fun i => i = j + 2) _ o5 ((W7.setCell ⟨RN, 0, none⟩ (.string (str l))).setCell ⟨RN, 1, none⟩ (.slice A5 n0 c5)) o5 := Stp.set _ 1 _ (fun _ => oR)
  have sc : Stp (fun i => i = j + 2) _ o5 (((W7.setCell ⟨RN, 0, none⟩ (.string (str l))).setCell ⟨RN, 1, none⟩ (.slice A5 n0 c5)).setCell ⟨RN, 2, none⟩ (.int .i64 m0)) o5 := Stp.set _ 2 _ (fun _ => oR)
  have hs9 := hs6.stp ((sa.tr sb).tr sc) (by omega)
  have xa := Ext.st (Ext.st (Ext.st x6 (p := ⟨RN, 0, none⟩) hRN2 (.string (str l))) (p := ⟨RN, 1, none⟩) hRN2 (.slice A5 n0 c5)) (p := ⟨RN, 2, none⟩) hRN2 (.int .i64 m0)
  have y := row_set (row_set (row_set hr6 0 (.string (str l))) 1 (.slice A5 n0 c5)) 2 (.int .i64 m0)
  obtain ⟨W8, hW8⟩ : ∃ W8, W8 = ((W7.setCell ⟨RN, 0, none⟩ (.string (str l))).setCell ⟨RN, 1, none⟩ (.slice A5 n0 c5)).setCell ⟨RN, 2, none⟩ (.int .i64 m0) := ⟨_, rfl⟩
  rw [← hW8] at y hs9 xa ⊢
  have y0 := (row_facts y 0 _ rfl).1
  have y1 := (row_facts y 1 _ rfl).1
  have y2 := (row_facts y 2 _ rfl).1
  clear hW8 y sa sb sc
  go_wp2
  refine bodyPost_ret (v := .tuple #[.agg #[.string (str l), .slice A5 n0 c5, .int .i64 m0], .int .i64 v0, .int .i64 0]) (by simp [results, Try.results19, go_sem, y0, y1, y2]) rfl ?_
  exact Turns.mk o5 rfl ⟨A5, c5, rfl, hs9.ext (by (repeat (first | exact Ext.rfl' _ | assumption | refine Ext.dr ?_ | refine Ext.drN ?_ _ | refine Ext.al ?_ _ | refine Ext.st ?_ (by simp) _ | refine Ext.tr ?_ (by assumption)))), hn5⟩ (Stp.ext2 (Ext.dr xa) oo)
end Go.Proofs.Ytllpffdjlhamkaa
end
