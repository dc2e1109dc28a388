/-
What must come of a world, whatever is asked: knows.
-/
import Derived.Test.YtemdgilifnhdpaaGreatDoorZas
import Derived.Lib.SlBytesConst
import Derived.Test.YtemdgilifnhdpaaGreatDoorShelfI
import Derived.Test.YtemdgilifnhdpaaGreatDoorZak
import Derived.Test.YtemdgilifnhdpaaGreatDoorZad
import Derived.Test.YtemdgilifnhdpaaGreatDoorZae
set_option linter.unusedVariables false
set_option linter.unusedSimpArgs false
section
namespace Go.Proofs.YtemdgilifnhdpaaGreatDoor
open Go.RowKit

end Go.Proofs.YtemdgilifnhdpaaGreatDoor
end

section
namespace Go.Proofs.YtemdgilifnhdpaaGreatDoor
open Go.RowKit

structure OpW where
  kind : Int
  n : Int
  path : List UInt8
  B : Option Addr
  d : Nat
  mm : List UInt8
def opW (x : OpW) : List Value := [.int .i64 x.kind, .int .i64 x.n, .string (str x.path), .slice x.B x.mm.length x.d]
def opsW (l : List OpW) : List Value := l.flatMap opW
theorem opsW_len (l : List OpW) : (opsW l).length = l.length * 4 := by induction l with | nil => rfl | cons x l ih => simp [opsW, List.flatMap_cons, opW] at *; omega
theorem opsW_at (l : List OpW) (k i : Nat) (hi : i < 4) : (opsW l)[k * 4 + i]? = l[k]?.bind fun x => (opW x)[i]? := by
  induction l generalizing k with
  | nil => simp [opsW]
  | cons x l ih => cases k with
    | zero =>
      simp only [opsW, List.flatMap_cons, Nat.zero_mul, Nat.zero_add, List.getElem?_cons_zero, Option.bind_some]
      rw [List.getElem?_append_left (by simp [opW]; omega)]
    | succ k =>
      have := ih k
      simp only [opsW, List.flatMap_cons] at *
      rw [List.getElem?_append_right (by simp [opW]; omega), show (k + 1) * 4 + i - (opW x).length = k * 4 + i from by simp [opW]; omega, this]
      simp
def OpOk (w : World) (x : OpW) : Prop := Rd w x.B (bc x.mm) ∧ x.mm.length ≤ 140737488351232 ∧ (-9223372036854775808 ≤ x.n ∧ x.n ≤ 9223372036854775807) ∧ x.path.length ≤ 140737488351232
structure RdOpW (w : World) (A : Option Addr) (l : List OpW) : Prop where
  rd : Rd w A (opsW l)
  each : ∀ x ∈ l, OpOk w x
theorem RdOpW.ext {w w' : World} {A : Option Addr} {l : List OpW} (h : RdOpW w A l) (e : Ext w w') : RdOpW w' A l := ⟨h.rd.ext e, fun x hx => ⟨(h.each x hx).1.ext e, (h.each x hx).2⟩⟩
theorem RdOpW.row {w : World} {A : Option Addr} {l : List OpW} (h : RdOpW w A l) {k : Nat} (hk : k < l.length) :
    ∃ b f, A = some ⟨b, f, none⟩ ∧ b < w.heap.size ∧ (w.cell? ⟨b, f + k * 4, none⟩ = some (.int .i64 l[k].kind) ∧ w.cell? ⟨b, f + k * 4 + 1, none⟩ = some (.int .i64 l[k].n) ∧ w.cell? ⟨b, f + k * 4 + 2, none⟩ = some (.string (str l[k].path)) ∧ w.cell? ⟨b, f + k * 4 + 3, none⟩ = some (.slice l[k].B l[k].mm.length l[k].d)) := by
  obtain ⟨b, f, hA, hb, hc⟩ := h.rd.at_ (by rw [opsW_len]; omega)
  have g := fun i hi => opsW_at l k i hi
  rw [List.getElem?_eq_getElem hk] at g
  refine ⟨b, f, hA, hb, ?_, ?_, ?_, ?_⟩
  · exact hc (k * 4) _ (by have := g 0 (by omega); simpa [opW] using this)
  · rw [Nat.add_assoc]; exact hc (k * 4 + 1) _ (by have := g 1 (by omega); simpa [opW] using this)
  · rw [Nat.add_assoc]; exact hc (k * 4 + 2) _ (by have := g 2 (by omega); simpa [opW] using this)
  · rw [Nat.add_assoc]; exact hc (k * 4 + 3) _ (by have := g 3 (by omega); simpa [opW] using this)
theorem RdOpW.cells {w : World} {b f : Nat} {l : List OpW} (h : RdOpW w (some ⟨b, f, none⟩) l) {k : Nat} (hk : k < l.length) :
    (w.cell? ⟨b, f + k * 4, none⟩ = some (.int .i64 l[k].kind) ∧ w.cell? ⟨b, f + k * 4 + 1, none⟩ = some (.int .i64 l[k].n) ∧ w.cell? ⟨b, f + k * 4 + 2, none⟩ = some (.string (str l[k].path)) ∧ w.cell? ⟨b, f + k * 4 + 3, none⟩ = some (.slice l[k].B l[k].mm.length l[k].d)) := by
  obtain ⟨b', f', he, _, h⟩ := h.row hk
  cases he
  exact h
theorem run_copy (k : Nat) (W : World) (o : Ow) (l : List UInt8) (B : Option Addr) (n d : Nat) (hn : n = l.length) (hB : Rd W B (bc l)) (hb : n ≤ 140737488351232) (ty : TypeId) :
    ∃ A' c' w' o', (Builtin.append_ #[22, 22] ty #[.slice (some ⟨W.heap.size, 0, none⟩) 0 0, .slice B n d]).run Tryz.prog (W.alloc (.cells #[] 5)) = .ok (.slice A' n c') w' ∧ Sl w' o' k 1 A' n c' (bc l) ∧ Stp (fun _ => False) W o w' o' ∧ (A' = none → c' = 0) := by
  obtain ⟨A', c', w', o', hr, h1, h2, h3⟩ := run_put slt_u8 (tx := 22) ty (w := W.alloc (.cells #[] 5)) (o := fun b => if b < W.heap.size then o b else 0) (Sl.nil_ _ _ k 1 (some ⟨W.heap.size, 0, none⟩)) (fun h => by cases h) (Sl.src Tryz.underlying22 (hB.ext (by (repeat (first | exact Ext.rfl' _ | assumption | refine Ext.dr ?_ | refine Ext.drN ?_ _ | refine Ext.al ?_ _ | refine Ext.st ?_ (by simp) _ | refine Ext.tr ?_ (by assumption))))) (n := n) (by simp [hn]) (by omega) (bc_one _) d) (by omega) (by simp only [maxLen]; omega)
  rw [Nat.zero_add] at hr h1
  exact ⟨A', c', w', o', hr, h1, (Stp.ext2 (by (repeat (first | exact Ext.rfl' _ | assumption | refine Ext.dr ?_ | refine Ext.drN ?_ _ | refine Ext.al ?_ _ | refine Ext.st ?_ (by simp) _ | refine Ext.tr ?_ (by assumption)))) (fun b hb => if_pos hb)).tr (h2.mono fun _ hi => by omega), h3⟩
theorem step_run {P : Program} {ops : Array Oper} {o : Oper} {a : Act} {K : Act → World → Prop} {Q : Exit → Act → World → Prop} {E : Prop} (s x : Operand) {t tx : TypeId}
    (ho : o.op = .call { callee := .builtin .append, args := #[s, x], argTypes := #[t, tx] }) (hgd : o.guard = none) {sv xv v' : Value} {w w' : World} (hs : a.eval s = sv) (hx : a.eval x = xv)
    (hr : (Builtin.append_ #[t, tx] o.type #[sv, xv]).run P w = .ok v' w') (h : K (a.put o.dst v') w') : if Region.wanted o (yielded ops a.tmps) = true then Oper.wp P o a w K Q else E := by
  have hw : Region.wanted o (yielded ops a.tmps) = true := by simp [Region.wanted, hgd]
  rw [if_pos hw]
  unfold Oper.wp execOp
  simp only [ho, resolve, invoke, builtin, Sem.run_bind, Sem.run_pure, Result.andThen_ok, List.map_toArray, List.map_cons, List.map_nil, hs, hx, hr]
  exact h
end Go.Proofs.YtemdgilifnhdpaaGreatDoor
end

section
namespace Go.Proofs.YtemdgilifnhdpaaGreatDoor
open Go.RowKit

end Go.Proofs.YtemdgilifnhdpaaGreatDoor
end

section
namespace Go.Proofs.YtemdgilifnhdpaaGreatDoor
open Go.RowKit Go.Maps Go.Sort Go.Shelf

theorem sortsW (m : Nat) : AnyZ.SortsIn Tryz.prog Tryz.sortedW_ren Fence.wide m :=
  ⟨fun blk off cap ss W hH hblk hsz => callsIn_wide.2 (AnyM.slices_Sort_string Tryz.sortW blk off cap ss W hH hblk hsz),
   fun p cap W => callsIn_wide.2 (AnyM.slices_Sort_string_none Tryz.sortW p cap W)⟩
theorem mKeys_c (mb : Option Nat) (W : World) : Calls Tryz.prog 51 #[.map mb] W fun e w' => e = .returned (.func (.func 86) #[] #[.pointer (some ⟨W.heap.size, 0, none⟩)]) ∧ w' = W.alloc (.cells #[.map mb] 44) :=
  (callsIn_wide (n := 5)).1 (AnyZ.keys_in Tryz.keysW Fence.wide 5 trivial rfl mb W)
def KeysSorted (w : World) (ks : List (List UInt8)) (e : Ending) (w' : World) : Prop := ∃ v, e = .returned v ∧ w'.ownsRow w.heap.size 9 1 v ks.length (ks.map encStr) ∧ Ext w w'
set_option maxHeartbeats 1000000 in
theorem slSorted_c {H : Type} (b nn : Nat) (D0 : DataW H) (R : Value → Option (DataW H × List MemPlace)) (w : World) (hown : w.ownsMap Tryz.prog 9 R b nn D0) (hmax : Maps.size D0 ≤ maxLen) (hbytes : Maps.size D0 * 16 ≤ 140737488355328) :
    Calls Tryz.prog 50 #[.func (.func 86) #[] #[.pointer (some ⟨w.heap.size, 0, none⟩)]] (w.alloc (.cells #[.map (some b)] 44)) (KeysSorted (w.alloc (.cells #[.map (some b)] 44)) ((strKeys D0).mergeSort (fun x y => decide (x ≤ y)))) := by
  have hbl := hown.lt
  have hseq : SeqGives Fence.wide 2 Tryz.prog 86 #[.pointer (some ⟨w.heap.size, 0, none⟩)] encStr (fun ss => ss.Perm (strKeys D0)) (Maps.size D0) (w.alloc (.cells #[.map (some b)] 44)) :=
    AnyZ.keys_gives (ρ := Tryz.keysW_ren) { Tryz.keysW with } Fence.wide _ trivial rfl (by omega) w.heap.size b nn D0 _ (by simp) (by simp) (by
      obtain ⟨es, clock, hb, Ft, hs, hD⟩ := hown
      exact ⟨es, clock, (Below.heap_alloc _ _ b hbl).trans hb, Ft, hs, hD⟩)
  refine ((callsIn_wide (n := 5)).1 (AnyZ.sorted_in Tryz.sortedW Fence.wide 5 trivial trivial trivial trivial rfl (by omega) (sortsW _) (enters_of Tryz.func85 (by kernel_rfl) rfl) 86 #[.pointer (some ⟨w.heap.size, 0, none⟩)] trivial (enters_of Tryz.func86 (by kernel_rfl) rfl) _ _ hmax hbytes _ hseq)).mono ?_
  rintro e w' ⟨v, ss, rfl, hS, hrow, _, hb⟩
  have e1 : ss.mergeSort (fun x y => decide (x ≤ y)) = (strKeys D0).mergeSort (fun x y => decide (x ≤ y)) := mergeSort_of_perm hS
  refine ⟨v, rfl, ?_, hb⟩
  rw [← e1]
  have e2 : (ss.mergeSort (fun x y => decide (x ≤ y))).length = ss.length := List.length_mergeSort ss
  rw [e2]
  exact hrow
theorem isM_keys {w : World} {b : Nat} {M : List (List UInt8 × Value)} (h : World.isM w Tryz.prog 9 b M) :
    ∃ D : DataW Value, w.ownsMap Tryz.prog 9 heldR b M.length D ∧ (strKeys D).mergeSort (fun x y => decide (x ≤ y)) = (M.map (·.1)).mergeSort (fun x y => decide (x ≤ y)) ∧ Maps.size D = M.length := by
  obtain ⟨D, h1, h2, h3, h4, _⟩ := h
  refine ⟨D, h1, ?_, h3⟩
  have hc : Collected D (fun _ => false) (M.map (·.1)) := by
    refine ⟨List.pairwise_map.2 h2, fun x => ?_⟩
    rw [h4]
    constructor
    · intro hx
      obtain ⟨y, hy, rfl⟩ := List.mem_map.1 hx
      refine ⟨?_, rfl⟩
      cases e : lkM M y.1 with
      | none => exact absurd rfl (lk_none_mem e y hy)
      | some _ => rfl
    · rintro ⟨hx, _⟩
      cases e : lkM M x with
      | none => rw [e] at hx; cases hx
      | some v => exact List.mem_map.2 ⟨_, lk_mem e, rfl⟩
  exact (mergeSort_of_perm (hc.perm h1 keyedS Tryz.underlying9 (fun _ => rfl))).symm
end Go.Proofs.YtemdgilifnhdpaaGreatDoor
end

section
namespace Go.Proofs.YtemdgilifnhdpaaGreatDoor
open Go.RowKit

def IsStrs (l : List (List UInt8)) (v : Value) (w : World) : Prop := ∃ A c, v = .slice A l.length c ∧ Rd w A (sc l) ∧ l.length ≤ c
set_option maxRecDepth 100000 in
set_option maxHeartbeats 4000000 in
theorem wList_c (w : World) (o : Ow) (k p : Nat) (s : Wrl) (h : WdAt w o k p s) (hk : Wok s) :
    Calls Tryz.prog 19 #[.pointer (some ⟨p, 0, none⟩)] w (Ret (IsStrs (listW s)) w) := by
  obtain ⟨mb, pl, hh, hm, hlt, hi, hs⟩ := h.row
  have c0 := hh.c0
  have HH := Lib.hid (fun w' (e : Ext w w') => hh.ext e)
  have HI := Lib.hid (fun w' (e : Ext w w') => World.isM.same hi (e.block mb hlt))
  have hlen := enc_len pl s.L
  have hfew := hk.few
  have hkeys : (enc pl s.L).map (·.1) = s.L.map (·.1) := keys_map (fun k v => entV k (pl k) v) s.L
  have KEYS := Lib.hid hkeys
  clear hkeys
  go_enter Tryz.func19, Tryz.ntmps19
  go_wp2_with (first
    | (go_at_call 49; refine (none_no p mb _ c0).mono ?_; rintro e w1 ⟨rfl, hx1⟩; have u0 := (HH.out w1 hx1).c0; obtain ⟨D, hD1, hD2, hD3⟩ := isM_keys (HI.out w1 hx1))
    | (go_at_call 51; refine (mKeys_c _ _).mono ?_; rintro e w2 ⟨rfl, rfl⟩)
    | (go_at_call 50; refine (slSorted_c mb _ D heldR _ hD1 (by rw [hD3]; simp only [maxLen]; omega) (by rw [hD3]; omega)).mono ?_; rintro e w3 ⟨v, rfl, hv, hx3⟩))
  go_ret
  rw [hD2, KEYS.out] at hv
  obtain ⟨A, c, rfl, hc, _, hr, _⟩ := Rd.of_own hv
  exact Ret.mk ⟨A, c, rfl, hr, hc⟩ (by (repeat (first | exact Ext.rfl' _ | assumption | refine Ext.dr ?_ | refine Ext.drN ?_ _ | refine Ext.al ?_ _ | refine Ext.st ?_ (by simp) _ | refine Ext.tr ?_ (by assumption))))
end Go.Proofs.YtemdgilifnhdpaaGreatDoor
end

section
namespace Go.Proofs.YtemdgilifnhdpaaGreatDoor
open Go.RowKit

theorem list_mem {s : Wrl} {l : List UInt8} (h : l ∈ listW s) : ∃ f, lkM s.L l = some f := by
  have h1 : l ∈ s.L.map (·.1) := (List.mergeSort_perm _ _).mem_iff.1 h
  obtain ⟨x, hx, rfl⟩ := List.mem_map.1 h1
  cases e : lkM s.L x.1 with
  | none => exact absurd rfl (lk_none_mem e x hx)
  | some f => exact ⟨f, rfl⟩
theorem path_len {l : List UInt8} (h : pathF l = true) : l.length ≤ 4096 := by
  have h1 := (path_ok h).1
  unfold cleanL at h1
  split at h1
  · rename_i h2; exact h2.2.1
  · injection h1 with _ h2; cases h2
theorem list_len (s : Wrl) : (listW s).length = s.L.length := by unfold listW; rw [List.length_mergeSort, List.length_map]
end Go.Proofs.YtemdgilifnhdpaaGreatDoor
end

section
namespace Go.Proofs.YtemdgilifnhdpaaGreatDoor
open Go.RowKit

def NoW (w : World) (q : Option Addr) : Prop := q = none ∨ ∃ p, q = some ⟨p, 0, none⟩ ∧ w.cell? ⟨p, 0, none⟩ = some (.map none)
theorem NoW.ext {w w' : World} {q : Option Addr} (h : NoW w q) (e : Ext w w') : NoW w' q := by
  rcases h with h | ⟨p, h, hc⟩
  · exact .inl h
  · exact .inr ⟨p, h, (e.cell (p := ⟨p, 0, none⟩) (lt_of_cell hc)).trans hc⟩
end Go.Proofs.YtemdgilifnhdpaaGreatDoor
end

section
namespace Go.Proofs.YtemdgilifnhdpaaGreatDoor
open Go.RowKit

end Go.Proofs.YtemdgilifnhdpaaGreatDoor
end

section
namespace Go.Proofs.YtemdgilifnhdpaaGreatDoor
open Go.RowKit

structure FE where
  l : List UInt8
  A : Option Addr
  c : Nat
  f : Fil
def feC (x : FE) : List Value := [.string (str x.l), .slice x.A x.f.b.length x.c, .int .i64 x.f.mt]
def flC (L : List FE) : List Value := L.flatMap feC
theorem flC_len (l : List FE) : (flC l).length = l.length * 3 := by induction l with | nil => rfl | cons x l ih => simp [flC, List.flatMap_cons, feC] at *; omega
theorem flC_app (a b : List FE) : flC (a ++ b) = flC a ++ flC b := by simp [flC]
theorem flC_at (l : List FE) (k i : Nat) (hi : i < 3) : (flC l)[k * 3 + i]? = l[k]?.bind fun x => (feC x)[i]? := by
  induction l generalizing k with
  | nil => simp [flC]
  | cons x l ih => cases k with
    | zero =>
      simp only [flC, List.flatMap_cons, Nat.zero_mul, Nat.zero_add, List.getElem?_cons_zero, Option.bind_some]
      rw [List.getElem?_append_left (by simp [feC]; omega)]
    | succ k =>
      have := ih k
      simp only [flC, List.flatMap_cons] at *
      rw [List.getElem?_append_right (by simp [feC]; omega), show (k + 1) * 3 + i - (feC x).length = k * 3 + i from by simp [feC]; omega, this]
      simp
theorem slt_file : SlT Tryz.prog 150 24 (.agg #[.string ⟨#[]⟩, .slice none 0 0, .int .i64 0]) 3 48 := ⟨Tryz.underlying150, by kernel_rfl, rfl, by omega⟩
theorem slt_int13 : SlT Tryz.prog 151 3 (.int .i64 0) 1 8 := ⟨Tryz.underlying151, by kernel_rfl, rfl, by omega⟩
def vc (l : List FE) : List Value := l.map fun x => .int .i64 (x.f.ve : Int)
@[simp] theorem vc_len (l : List FE) : (vc l).length = l.length := by simp [vc]
structure KeptAt (w : World) (o : Ow) (s : Wrl) (ks : List (List UInt8)) (A1 : Option Addr) (c1 : Nat) (A2 : Option Addr) (c2 : Nat) (fl : List FE) : Prop where
  f1 : Sl w o 5 3 A1 fl.length c1 (flC fl)
  n1 : A1 = none → c1 = 0
  f2 : Sl w o 6 1 A2 fl.length c2 (vc fl)
  n2 : A2 = none → c2 = 0
  names : fl.map (·.l) = ks
  each : ∀ x ∈ fl, Sl w o 7 1 x.A x.f.b.length x.c (bc x.f.b) ∧ lkM s.L x.l = some x.f
theorem KeptAt.stp {K : Nat → Prop} {w w' : World} {o o' : Ow} {s : Wrl} {ks : List (List UInt8)} {A1 A2 : Option Addr} {c1 c2 : Nat} {fl : List FE} (h : KeptAt w o s ks A1 c1 A2 c2 fl) (st : Stp K w o w' o') (h5 : ¬ K 5) (h6 : ¬ K 6) (h7 : ¬ K 7) : KeptAt w' o' s ks A1 c1 A2 c2 fl :=
  ⟨h.f1.stp st h5, h.n1, h.f2.stp st h6, h.n2, h.names, fun x hx => ⟨(h.each x hx).1.stp st h7, (h.each x hx).2⟩⟩
theorem rd_newG (w : World) (g : Nat) (hg : w.heap.size = g) (xs : List Value) (t : TypeId) : Rd (w.alloc (.cells xs.toArray t)) (some ⟨g, 0, none⟩) xs := by
  subst hg
  exact .inr ⟨_, 0, rfl, fun j u hu => by have := new_cells w xs.toArray t j u (by simpa using hu); rw [add_mk] at this; rw [Nat.zero_add]; rw [Nat.zero_add] at this; exact this⟩
end Go.Proofs.YtemdgilifnhdpaaGreatDoor
end
