/-
A text's builder that is a struct's only field: beside which other blocks of the call stand.
-/
import Derived.Test.YtmnohicojefhfaaGreatDoorShelf
import Derived.Test.YtmnohicojefhfaaGreatDoorBytes
import Derived.Lib.Builder
import Derived.Lib.AppendStr
import Derived.Lib.UnsafeStr
import Derived.Lib.Walk
import Derived.Laws.Externs
import Derived.Test.YtmnohicojefhfaaGreatDoorOWa
set_option linter.unusedVariables false
set_option linter.unusedSimpArgs false
section
namespace Go.Proofs.YtmnohicojefhfaaGreatDoor
open Go.RowKit

theorem bld_sizeW : ∃ j, Tryz.prog.info? 104 = some j ∧ j.size = 2 := by
 have h : (Tryz.prog.info? 104).map (·.size) = some 2 := by kernel_rfl
 obtain ⟨j, hj, hs⟩ := Option.map_eq_some_iff.1 h
 exact ⟨j, hj, hs⟩
theorem bld_liesW : liesAt Tryz.prog Tryz.prog.depth 106 (2 / Tryz.prog.cellsOf 106) 0 104 1 = true := by kernel_rfl
set_option maxRecDepth 100000 in
set_option maxHeartbeats 1000000 in
theorem check_freshW (b : Nat) (w : World) (h0 : w.cell? ⟨b, 0, none⟩ = some (.pointer none)) (hsh : w.shape? b = some (106, 2)) (hfz : w.frozen? ⟨b, 0, none⟩ = false) :
  Calls Tryz.prog 129 #[.pointer (some ⟨b, 0, none⟩)] w fun e w' => e = .returned (.tuple #[]) ∧ w' = w.setCell ⟨b, 0, none⟩ (.pointer (some ⟨b, 0, none⟩)) := by
 obtain ⟨j, hj, hjs⟩ := bld_sizeW
 have HJ := Lib.hid hj
 have HS := Lib.hid hjs
 have HH := Lib.hid hsh
 clear hj hjs hsh
 go_enter Tryz.func129, Tryz.ntmps129
 go_wp2
 rw [Lib.run_to_unsafe w ⟨b, 0, none⟩ Tryz.underlying101 Tryz.underlying201 HJ.out (by rw [HS.out]; decide) HH.out (Nat.zero_lt_succ 1)]
 simp only [Result.andThen]
 rw [Oper.upon_value]
 go_wp2
 rw [run_callFunc_extern Tryz.func160 (by kernel_rfl) (by kernel_rfl) (by kernel_rfl) (e := Extern.AbiNoEscape.same) (by kernel_rfl)]
 rw [Lib.run_noEscape]
 simp only [Result.andThen]
 rw [Oper.upon_value]
 go_wp2
 rw [Lib.run_from_unsafe w ⟨b, 0, none⟩ Tryz.underlying201 Tryz.underlying101 HJ.out HH.out bld_liesW]
 simp only [Result.andThen]
 rw [Oper.upon_value]
 go_wp2
 go_end0
 exact ⟨rfl, rfl⟩
set_option maxRecDepth 100000 in
set_option maxHeartbeats 1000000 in
theorem check_usedW (b : Nat) (w : World) (h0 : w.cell? ⟨b, 0, none⟩ = some (.pointer (some ⟨b, 0, none⟩))) :
  Calls Tryz.prog 129 #[.pointer (some ⟨b, 0, none⟩)] w fun e w' => e = .returned (.tuple #[]) ∧ w' = w := by
 obtain ⟨j, hj, hjs⟩ := bld_sizeW
 have HJ := Lib.hid hj
 clear hj hjs
 go_enter Tryz.func129, Tryz.ntmps129
 go_wp2
 rw [Lib.run_neq_ptr_same w _ Tryz.underlying101 HJ.out]
 go_wp2
 go_end0
 exact ⟨rfl, rfl⟩
end Go.Proofs.YtmnohicojefhfaaGreatDoor
end

section
namespace Go.Proofs.YtmnohicojefhfaaGreatDoor
open Go.RowKit

def Shp (e : TypeId) (w : World) (A : Option Addr) : Prop := ∀ a, A = some a → a.off = 0 ∧ a.spot = none ∧ ∃ sz, w.shape? a.block = some (e, sz)
theorem shape_setCell (w : World) (a : Addr) (u : Value) (b : Nat) : (w.setCell a u).shape? b = w.shape? b := by
 unfold World.shape? World.setCell
 simp only [Array.getElem?_modify]
 by_cases h : a.block = b
 ·subst h
  simp only [if_true]
  cases hw : w.heap[a.block]? with
  | none => rfl
  | some x =>
   cases x with
   | cells c e fz =>
    simp only [Option.map_some]
    split
    ·rfl
    ·simp
   | _ => rfl
 ·simp only [h, if_false]
theorem shape_setCells (g : Nat) : ∀ (vs : List Value) (f : Nat) (w : World) (b : Nat), (w.setCells g f vs).shape? b = w.shape? b := by
 intro vs
 induction vs with
 | nil => intro f w b; rfl
 | cons v r ih => intro f w b; rw [World.setCells, ih, shape_setCell]
theorem Shp.cells {e : TypeId} {w : World} {A : Option Addr} (h : Shp e w A) (g f : Nat) (vs : List Value) : Shp e (w.setCells g f vs) A := fun a ha => by
 obtain ⟨h1, h2, sz, h3⟩ := h a ha
 exact ⟨h1, h2, sz, (shape_setCells g vs f w a.block).trans h3⟩
theorem Shp.set {e : TypeId} {w : World} {A : Option Addr} (h : Shp e w A) (p : Addr) (u : Value) : Shp e (w.setCell p u) A := fun a ha => by
 obtain ⟨h1, h2, sz, h3⟩ := h a ha
 exact ⟨h1, h2, sz, (shape_setCell w p u a.block).trans h3⟩
theorem Shp.new (w : World) (cs : Array Value) (e : TypeId) : Shp e (w.alloc (.cells cs e)) (some ⟨w.heap.size, 0, none⟩) := fun a ha => by
 cases ha
 refine ⟨rfl, rfl, cs.size, ?_⟩
 have h := heap_alloc_new w (.cells cs e)
 unfold World.shape?
 rw [h]
section
variable {P : Program} {t e : TypeId} {z : Value} {size bytes : Nat}
theorem run_putS (hT : SlT P t e z size bytes) {w : World} {o : Ow} {k n c m : Nat} {A : Option Addr} {xs news : List Value} {x : Value} {tx : TypeId} (ty : TypeId)
  (hs : Sl w o k size A n c xs) (hna : A = none → c = 0) (src : Src P size tx x m news w) (hbytes : (n + m) * bytes ≤ 140737488355328) (h63 : n + m ≤ maxLen) :
  ∃ A' c' w' o', (Builtin.append_ #[t, tx] ty #[.slice A n c, x]).run P w = .ok (.slice A' (n + m) c') w' ∧ Sl w' o' k size A' (n + m) c' (xs ++ news) ∧ Stp (fun i => 0 < c ∧ i = k) w o w' o' ∧ (A' = none → c' = 0) ∧ ((0 < c → Shp e w A) → (0 < c' → Shp e w' A')) := by
 obtain ⟨ht, hi0, hz, hsz⟩ := hT
 obtain ⟨i, hi, h2, h3, h4⟩ := info_parts hi0
 subst h3
 subst h4
 have hnl := src.newsLen
 have hsmall : n + m ≤ 9223372036854775807 := by simp only [maxLen] at h63; omega
 have hL : (xs ++ news).length = (n + m) * i.size := by rw [List.length_append, hs.len, hnl, Nat.add_mul]
 by_cases hroom : n + m ≤ c
 ·rcases Nat.eq_zero_or_pos c with h0 | hcp
  ·obtain rfl : m = 0 := by omega
   obtain rfl : n = 0 := by omega
   obtain rfl : news = [] := List.eq_nil_of_length_eq_zero (by simpa using hnl)
   refine ⟨A, c, w, o, run_append_nothing (P := P) w t tx ty e i ht hi A 0 c (by omega) x src, ?_, Stp.rfl', hna, fun h => h⟩
   simpa using hs
  rcases hs.at_ with h0 | ⟨g, f, rfl, ho, hg, hc, hr⟩
  ·omega
  ·have hbd : ∀ j, j < news.length → n * i.size + j < c * i.size := fun j hj => by
    have : (n + m) * i.size ≤ c * i.size := Nat.mul_le_mul_right _ hroom
    rw [Nat.add_mul] at this; omega
   have hsome : ∀ j, j < news.length → (w.cell? ⟨g, f + n * i.size + j, none⟩).isSome = true := fun j hj => by rw [Nat.add_assoc]; exact (hr _ (hbd j hj)).1
   have hfr : ∀ j, j < news.length → w.frozen? ⟨g, f + n * i.size + j, none⟩ = false := fun j hj => by rw [Nat.add_assoc]; exact (hr _ (hbd j hj)).2
   have hkb := World.keptBut_setCells g (may := fun p => p.block = g) news (f + n * i.size) w (fun _ _ => rfl)
   refine ⟨_, _, _, o, run_append_room_src (P := P) w t tx ty e i ht hi g f n c x m news src hroom hsome hfr, ⟨hL, hroom, hs.max, .inr ⟨g, f, rfl, ho, Nat.lt_of_lt_of_le hg hkb.size, fun j u hu => ?_, fun j hj => ⟨World.isSome_setCells _ _ _ _ _ (hr j hj).1, ?_⟩⟩⟩,
    ⟨hkb.1, tape_setCells _ _ _ _, hkb.2.1, hkb.size, fun _ _ => rfl, fun b hb hn => World.heap_setCells_other w g _ news hb (fun e => hn (by rw [e]; exact ⟨hcp, ho⟩))⟩, (fun e => by cases e), (fun h hc => (h hc).cells _ _ _)⟩
   ·by_cases hj : j < xs.length
    ·rw [World.cell?_setCells_out g _ _ _ _ (fun _ _ => Or.inl (by show f + j < f + n * i.size; rw [← hs.len]; omega))]
     exact hc j u (by rw [List.getElem?_append_left hj] at hu; exact hu)
    ·rw [List.getElem?_append_right (by omega)] at hu
     obtain ⟨ht', hu'⟩ := List.getElem?_eq_some_iff.1 hu
     have := World.cell?_setCells_in g news (f + n * i.size) w hsome (j - xs.length) ht'
     rw [show f + n * i.size + (j - xs.length) = f + j by rw [← hs.len]; omega] at this
     rw [this, hu']
   ·rw [World.frozen?_setCells]; exact (hr j hj).2
 ·have hold : (Builtin.firstCells i.size n (.slice A n c)).run P w.drew = .ok xs.toArray w.drew := by
   rcases hs.at_ with h0 | ⟨g, f, rfl, ho, hg, hc, hr⟩
   ·have := hs.le; have := hs.len
    obtain rfl : n = 0 := by omega
    obtain rfl : xs = [] := List.eq_nil_of_length_eq_zero (by omega)
    cases A with
    | none => exact run_firstCells_none w.drew i.size 0 0 c
    | some a' => exact run_firstCells_some w.drew i.size 0 a' 0 c [] (by simp) (by intro _ _ h'; simp at h')
   ·exact run_firstCells_some w.drew i.size n ⟨g, f, none⟩ n c xs hs.len (fun j u hu => by rw [add_mk]; exact hc j u hu)
  have hrun := run_append_grow_src (P := P) w t tx ty e i z ht hi h2 A n c xs hold x m news src (by omega) (by omega) (growslice_fits (by omega) hbytes)
  have hge := grownCap_ge w (n + m) c e
  have hcm := grownCap_le_maxLen w (n + m) c e h63
  refine ⟨_, _, _, fun b => if b < w.heap.size then o b else k, hrun, ⟨hL, hge, hcm, .inr ⟨w.heap.size, 0, rfl, by simp, by simp, fun j u hu => ?_, fun j hj => ⟨?_, ?_⟩⟩⟩, ⟨rfl, rfl, rfl, by simp, fun b hb => by simp [hb], fun b hb _ => Below.heap_alloc w.drew _ b hb⟩, (fun e => by cases e), (fun _ _ => Shp.new w.drew _ _)⟩
  ·have e1 : (w.drew.alloc (.cells ((xs ++ news).toArray ++ Builtin.zeroCells z.cells (grownCap w (n + m) c e - (n + m))) e)).cell? ⟨w.heap.size, 0 + j, none⟩ = _ := World.cell?_alloc_new w.drew _ _ (0 + j)
   rw [e1, Nat.zero_add, Array.getElem?_append_left (by simp only [List.size_toArray]; exact (List.getElem?_eq_some_iff.1 hu).1), List.getElem?_toArray, hu]
  ·have e1 : (w.drew.alloc (.cells ((xs ++ news).toArray ++ Builtin.zeroCells z.cells (grownCap w (n + m) c e - (n + m))) e)).cell? ⟨w.heap.size, 0 + j, none⟩ = _ := World.cell?_alloc_new w.drew _ _ (0 + j)
   rw [e1]
   have hsz' : ((xs ++ news).toArray ++ Builtin.zeroCells z.cells (grownCap w (n + m) c e - (n + m))).size = grownCap w (n + m) c e * i.size := by
    rw [Array.size_append, List.size_toArray, hL, size_zeroCells, hz, ← Nat.add_mul]
    congr 1
    omega
   rw [Array.getElem?_eq_getElem (by rw [hsz', Nat.zero_add]; exact hj)]
   rfl
  ·exact World.frozen?_alloc_new w.drew _ _ (0 + j)

end
theorem wpL_run {P : Program} {ops : Array Oper} {rest : List Oper} {op : Oper} {a : Act} {Q : Exit → Act → World → Prop} (s x : Operand) {t tx : TypeId}
  (ho : op.op = .call { callee := .builtin .append, args := #[s, x], argTypes := #[t, tx] }) (hg : op.guard = none) {w w' : World} {sv xv v' : Value} (hs : a.eval s = sv) (hx : a.eval x = xv)
  (hr : (Builtin.append_ #[t, tx] op.type #[sv, xv]).run P w = .ok v' w') (h : wpList P ops Q rest (a.put op.dst v') w') : wpList P ops Q (op :: rest) a w := by
 refine wpList_plain hg fun K hK => ?_
 unfold Oper.wp execOp
 simp only [ho, resolve, invoke, builtin, Sem.run_bind, Sem.run_pure, Result.andThen_ok, List.map_toArray, List.map_cons, List.map_nil, hs, hx, hr]
 exact hK _ _ h
structure BwAt (w : World) (o : Ow) (k b : Nat) (l : List UInt8) : Prop where
 own : o b = k
 at_ : ∃ p A c, (p = .pointer none ∨ p = .pointer (some ⟨b, 0, none⟩)) ∧ w.heap[b]? = some (.cells #[p, .slice A l.length c] 106 (0, 0)) ∧ Sl w o (k + 1) 1 A l.length c (bc l) ∧ (A = none → c = 0) ∧ (0 < c → Shp 5 w A)
def KW (k : Nat) : Nat → Prop := fun i => i = k ∨ i = k + 1
theorem Stp.shape {K : Nat → Prop} {w w' : World} {o o' : Ow} (s : Stp K w o w' o') {b : Nat} (hb : b < w.heap.size) (hk : ¬ K (o b)) : w'.shape? b = w.shape? b := by
 unfold World.shape?
 rw [s.keep b hb hk]
theorem BwAt.stp {K : Nat → Prop} {w w' : World} {o o' : Ow} {k b : Nat} {l : List UInt8} (h : BwAt w o k b l) (s : Stp K w o w' o') (h1 : ¬ K k) (h2 : ¬ K (k + 1)) : BwAt w' o' k b l := by
 obtain ⟨p, A, c, hp, hr, hs, hn, hsh⟩ := h.at_
 refine ⟨(s.own b (row_lt hr)).trans h.own, p, A, c, hp, (s.keep b (row_lt hr) (by rw [h.own]; exact h1)).trans hr, hs.stp s h2, hn, fun hc a ha => ?_⟩
 obtain ⟨q1, q2, sz, q3⟩ := hsh hc a ha
 rcases hs.at_ with h0 | ⟨g, f, hA, ho, hg, _⟩
 ·omega
 ·rw [hA] at ha
  cases ha
  exact ⟨q1, q2, sz, (s.shape hg (by rw [ho]; exact h2)).trans q3⟩
theorem BwAt.ext {w w' : World} {o : Ow} {k b : Nat} {l : List UInt8} (h : BwAt w o k b l) (e : Ext w w') : BwAt w' o k b l := h.stp (K := fun _ => False) (Stp.ext e) (fun x => x) (fun x => x)
set_option maxRecDepth 100000 in
set_option maxHeartbeats 2000000 in
theorem bwWrite_c (k b : Nat) (l m : List UInt8) (w : World) (o : Ow) (h : BwAt w o k b l) (hl : l.length + m.length ≤ 140737488355328) :
  Calls Tryz.prog 85 #[.pointer (some ⟨b, 0, none⟩), .string (str m)] w fun e w' => ∃ o', e = .returned (.tuple #[.int .i64 (m.length : Int), .nilIface]) ∧ BwAt w' o' k b (l ++ m) ∧ Stp (KW k) w o w' o' := by
 obtain ⟨p, A, c, hp, hr, hs, hn, hsh⟩ := h.at_
 have hob := h.own
 have hms : maxLen = 9223372036854775807 := rfl
 have CK : Hid (Calls Tryz.prog 129 #[.pointer (some ⟨b, 0, none⟩)] w fun e w1 => e = .returned (.tuple #[]) ∧ ∃ p, p = .pointer (some ⟨b, 0, none⟩) ∧ w1.heap[b]? = some (.cells #[p, .slice A l.length c] 106 (0, 0)) ∧ Stp (KW k) w o w1 o ∧ Sl w1 o (k + 1) 1 A l.length c (bc l) ∧ (0 < c → Shp 5 w1 A)) := by
  refine Lib.hid ?_
  rcases hp with rfl | rfl
  ·refine (check_freshW b w (row_facts hr 0 _ rfl).1 (by unfold World.shape?; rw [hr]; rfl) (row_facts hr 0 _ rfl).2).mono ?_
   rintro e w1 ⟨rfl, rfl⟩
   have st : Stp (fun i => i = k) w o (w.setCell ⟨b, 0, none⟩ (.pointer (some ⟨b, 0, none⟩))) o := Stp.set b 0 _ (fun _ => hob)
   exact ⟨rfl, _, rfl, row_set hr 0 _, st.mono (fun i hi => .inl hi), hs.stp st (by omega), fun hc => (hsh hc).set _ _⟩
  ·refine (check_usedW b w (row_facts hr 0 _ rfl).1).mono ?_
   rintro e w1 ⟨rfl, rfl⟩
   exact ⟨rfl, _, rfl, hr, Stp.rfl', hs, hsh⟩
 have hsm : (str m).size = m.length := str_size m
 have HOB := Lib.hid hob
 clear h hr hs hsh hp hob
 go_enter Tryz.func85, Tryz.ntmps85
 go_wp2_with (go_at_call 129; refine CK.out.mono ?_)
 rintro e w1 ⟨rfl, p, rfl, hr1, st1, hs1, hsh1⟩
 obtain ⟨A', c', w2, o2, hrun, hs2, st2, hn2, hshf⟩ := run_putS slt_u8 (tx := 9) 102 hs1 hn (Src.ofString w1 Tryz.underlying9 (str m)) (by rw [hsm]; omega) (by rw [hsm, hms]; omega)
 rw [hsm] at hrun hs2
 have c1 := (row_facts hr1 1 _ rfl).1
 have hlt := row_lt hr1
 have hr2 := (st2.keep b hlt (by rw [HOB.out]; omega)).trans hr1
 have d1 := row_facts hr2 1 _ rfl
 have st3 : Stp (fun i => i = k) w2 o2 (w2.setCell ⟨b, 1, none⟩ (.slice A' (l.length + m.length) c')) o2 := Stp.set b 1 _ (fun _ => (st2.own b hlt).trans HOB.out)
 have HR : Hid (BwAt (w2.setCell ⟨b, 1, none⟩ (.slice A' (l.length + m.length) c')) o2 k b (l ++ m)) := Lib.hid ⟨(st2.own b hlt).trans HOB.out, _, A', c', .inr rfl, by rw [List.length_append]; exact row_set hr2 1 _, by
  have := hs2.stp st3 (by omega)
  rw [List.length_append, bc_app]
  simpa [bc, byteCells, str] using this, hn2, fun hc => (hshf hsh1 hc).set _ _⟩
 have HST : Hid (Stp (KW k) w o (w2.setCell ⟨b, 1, none⟩ (.slice A' (l.length + m.length) c')) o2) := Lib.hid ((st1.tr (st2.mono fun i hi => .inr hi.2)).tr (st3.mono fun i hi => .inl hi))
 clear hr1 hr2 hs1 hs2 hsh1 hshf st1 st2 st3 hn hn2
 go_wp2_with (at_builtin; refine wpL_run (.tmp 12) (.tmp 13) rfl rfl rfl rfl hrun ?_)
 go_ret2
 exact ⟨o2, rfl, HR.out, HST.out⟩
end Go.Proofs.YtmnohicojefhfaaGreatDoor
end
