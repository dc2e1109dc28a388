/-
A configuration as an argument of a row: what it is in memory; how much it weighs.
-/
import Derived.Test.YtmnohicojefhfaaGreatDoorCh11
import Derived.Test.YtmnohicojefhfaaGreatDoorCIa
import Derived.Test.YtmnohicojefhfaaGreatDoorONa
import Derived.Test.YtmnohicojefhfaaGreatDoorRows
import Derived.SizedLaws
import Derived.WideKeyArgs
import Derived.Deep.SlicePairs
import Derived.Deep.Slices
import Derived.Test.YtmnohicojefhfaaGreatDoorCFj
import Derived.Test.YtmnohicojefhfaaGreatDoorCFa
import Derived.Test.YtmnohicojefhfaaGreatDoorUHa
import Derived.Lib.LaidTab
set_option linter.unusedVariables false
set_option linter.unusedSimpArgs false
section
namespace Go.Proofs.YtmnohicojefhfaaGreatDoor
open Go.RowKit Go.ChangeShapes Go.WideShapes Go.Deep

theorem spot_noneT {W : World} {a : Addr} {u : Value} (h : W.cell? a = some u) : a.spot = none := by
 unfold World.cell? at h
 cases hsp : a.spot with
 | none => rfl
 | some z => simp only [hsp, Option.isSome_some, if_true] at h; split at h <;> cases h
theorem rd_ofT {W : World} {a : Addr} {xs : List Value} (h : ∀ i u, xs[i]? = some u → W.cell? (a.add i) = some u) : Rd W (some a) xs := by
 cases xs with
 | nil => exact .inl rfl
 | cons x xs =>
  have h1 := h 0 x rfl
  have hs := spot_noneT h1
  obtain ⟨b, f, sp⟩ := a
  have hs : sp = none := by simpa [Addr.add] using hs
  subst hs
  exact .inr ⟨b, f, rfl, fun i u hu => by have := h i u hu; rwa [add_mk] at this⟩
theorem okWide_structT {P : Program} {W : World} {r : Reach} {b0 : Nat} {t : TypeId} {fs : Array Field} {v : Value} (ht : P.underlying t = some (.struct fs)) (h : Value.okWide P W r b0 t v) : ∃ cs, v = .agg cs := by
 unfold Value.okWide at h
 rw [ht] at h
 cases v with
 | agg cs => exact ⟨cs, rfl⟩
 | _ => simp_all
section
variable {H : Type} {enc : TypeId × Value → H} {W : World} {base : Nat}
theorem bulk_oneT (d : DataW H) : 1 ≤ Rows.uptoBulk d := by
 cases d with
 | lit l => cases l <;> simp [Rows.uptoBulk]
 | _ => simp [Rows.uptoBulk]
theorem bulk_allT : ∀ l : List (DataW H), l.length ≤ Rows.uptoBulkAll l
 | [] => by simp
 | d :: l => by
  have h1 := bulk_oneT d
  have h2 := bulk_allT l
  simp only [Rows.uptoBulkAll, List.length_cons]; omega
theorem bulk_memT : ∀ (l : List (DataW H)) (d : DataW H), d ∈ l → Rows.uptoBulk d ≤ Rows.uptoBulkAll l
 | [], _, h => by cases h
 | x :: l, d, h => by
  simp only [Rows.uptoBulkAll]
  rcases List.mem_cons.1 h with rfl | h
  ·omega
  ·have := bulk_memT l d h
   omega
theorem slice_rows {α : Type} (row : α → List Value) (Q : α → Nat → Prop) (hQ : ∀ x m n, Q x m → m ≤ n → Q x n) (x0 : α) {P : Program} {t e : TypeId} {K fuel : Nat} {cs : List Value} {y : DataW H × List MemPlace} (ht : P.underlying t = some (.slice e)) (ce : P.cellsOf e = K) (hK : ∀ x, (row x).length = K) (hp : 0 < K)
  (hel : ∀ (fuel : Nat) (cs : List Value) (y : DataW H × List MemPlace), DataW.trod enc P W 0 (fun _ => true) true fuel e cs = some y → ∃ x, cs = row x ∧ Q x (Rows.uptoBulk y.1))
  (hf : DataW.trod enc P W 0 (fun _ => true) true fuel t cs = some y) :
  ∃ A c xs, cs = [.slice A (List.length xs) c] ∧ Rd W A (xs.flatMap row) ∧ xs.length ≤ Rows.uptoBulk y.1 ∧ ∀ x ∈ xs, Q x (Rows.uptoBulk y.1) := by
 rcases open_slice ht hf with ⟨hcs, hx⟩ | ⟨a, len, cap, m, n, D, Pl, hcs, _, hlc, hcm, hm, hx, hi⟩
 ·exact ⟨none, 0, [], hcs, .inl rfl, Nat.zero_le _, fun x hx => (by cases hx)⟩
 ·simp only [if_true] at hm
  subst hm
  subst hx
  have each : ∀ i, ∃ x : α, i < len → Q x (Rows.uptoBulk (D i)) ∧ ∀ k, k < K → W.cell? (a.add (i * K + k)) = (row x)[k]? := fun i => by
   by_cases hil : i < len
   ·obtain ⟨cs', g1, g2⟩ := hi i (by omega)
    rw [ce] at g1
    obtain ⟨_, hl3, hcell⟩ := World.cells?_some g1
    obtain ⟨x, rfl, hq⟩ := hel _ _ _ g2
    refine ⟨x, fun _ => ⟨hq, fun k hk => ?_⟩⟩
    have e := hcell k hk
    rw [add_add] at e
    exact e
   ·exact ⟨x0, fun h => absurd h hil⟩
  obtain ⟨X, hX⟩ := Classical.axiomOfChoice each
  refine ⟨some a, m, (List.range len).map X, by rw [hcs]; simp, ?_, ?_, fun x hx => ?_⟩
  ·refine rd_ofT fun i u hu => ?_
   have hlen : i < len * K := by
    have := (List.getElem?_eq_some_iff.1 hu).1
    rw [fm_len row K hK] at this
    simpa using this
   have hdm : i / K * K + i % K = i := by rw [Nat.mul_comm]; exact Nat.div_add_mod i K
   have hil : i / K < len := Nat.div_lt_of_lt_mul (by rw [Nat.mul_comm]; exact hlen)
   have hmk : i % K < K := Nat.mod_lt _ hp
   have h1 := fm_at row K hK (l := (List.range len).map X) (k := i / K) (by simpa using hil) (i % K) hmk
   rw [hdm] at h1
   have h2 := (hX (i / K) hil).2 (i % K) hmk
   rw [hdm] at h2
   rw [h2, ← hu, h1]
   simp
  ·simp only [Rows.uptoBulk, List.length_map, List.length_range]
   have := bulk_allT ((List.range len).map D)
   simp at this
   omega
  ·obtain ⟨i, hil, rfl⟩ := List.mem_map.1 hx
   refine hQ _ _ _ (hX i (List.mem_range.1 hil)).1 ?_
   simp only [Rows.uptoBulk]
   have := bulk_memT ((List.range len).map D) (D i) (List.mem_map.2 ⟨i, hil, rfl⟩)
   omega
theorem bd_str (s : List UInt8) : s.length ≤ Rows.uptoBulk (DataW.lit (.string s) : DataW H) := by simp [Rows.uptoBulk]
set_option maxRecDepth 100000 in
theorem open_names {fuel : Nat} {cs : List Value} {y : DataW H × List MemPlace} (hf : DataW.trod enc Tryz.prog W 0 (fun _ => true) true fuel 55 cs = some y) :
  ∃ A c xs, cs = [.slice A (List.length xs) c] ∧ Rd W A (strC xs) ∧ xs.length ≤ Rows.uptoBulk y.1 ∧ ∀ x ∈ xs, x.length ≤ Rows.uptoBulk y.1 := by
 obtain ⟨A, c, xs, h1, h2, h3, h4⟩ := slice_rows (fun x : List UInt8 => [.string (str x)]) (fun x n => x.length ≤ n) (fun _ _ _ h1 h2 => by omega) [] Tryz.underlying55 (by kernel_rfl : Tryz.prog.cellsOf 9 = 1) (fun _ => rfl) (by omega) (fun fuel cs y h => by
  obtain ⟨s0, q0, r0, z0⟩ := DataW.trod_string Tryz.underlying9 h
  refine ⟨s0.data.toList, by rw [q0]; simp, ?_⟩
  rw [r0]
  exact bd_str _) hf
 exact ⟨A, c, xs, h1, by rw [strC_fm]; exact h2, h3, h4⟩
set_option maxRecDepth 100000 in
theorem open_peer {fuel : Nat} {cs : List Value} {y : DataW H × List MemPlace} (h : DataW.trod enc Tryz.prog W 0 (fun _ => true) true fuel 85 cs = some y) : ∃ x : Pe14, cs = peV x ∧ I64 x.id := by
 obtain ⟨ys, k, hk, hxy, hcl, hxl, hfs⟩ := DataW.trod_struct Tryz.underlying85 h
 have ci : Tryz.prog.cellsOf 3 = 1 := by kernel_rfl
 rw [(by kernel_rfl : Tryz.prog.cellsOf 85 = 2)] at hcl
 match ys, hxl, cs, hcl with
 | [y0, y1], _, [v0, v1], _ =>
  have t0 := hfs 0 _ rfl
  have t1 := hfs 1 _ rfl
  simp [ci] at t0 t1
  obtain ⟨n0, q0, r0, z0⟩ := DataW.trod_int Tryz.underlying3 t0
  obtain ⟨n1, q1, r1, z1⟩ := DataW.trod_int Tryz.underlying3 t1
  simp only [List.cons.injEq, and_true] at q0 q1
  subst q0 q1
  exact ⟨⟨n0, n1⟩, rfl, z0⟩
structure UpB (W : World) (x : Up14 × Hd) (n : Nat) : Prop where
 name : x.1.name.length ≤ n
 peers : x.1.peers.length ≤ n
 ids : ∀ p ∈ x.1.peers, I64 p.id
 rd : Rd W x.2.1 (x.1.peers.flatMap peV)
set_option maxRecDepth 100000 in
theorem open_up {fuel : Nat} {cs : List Value} {y : DataW H × List MemPlace} (h : DataW.trod enc Tryz.prog W 0 (fun _ => true) true fuel 84 cs = some y) : ∃ x : Up14 × Hd, cs = upV x ∧ UpB W x (Rows.uptoBulk y.1) := by
 obtain ⟨ys, k, hk, hxy, hcl, hxl, hfs⟩ := DataW.trod_struct Tryz.underlying84 h
 have ci : Tryz.prog.cellsOf 3 = 1 := by kernel_rfl
 have cs1 : Tryz.prog.cellsOf 9 = 1 := by kernel_rfl
 have cp : Tryz.prog.cellsOf 82 = 1 := by kernel_rfl
 rw [(by kernel_rfl : Tryz.prog.cellsOf 84 = 4)] at hcl
 match ys, hxl, cs, hcl with
 | [y0, y1, y2, y3], _, [v0, v1, v2, v3], _ =>
  have t0 := hfs 0 _ rfl
  have t1 := hfs 1 _ rfl
  have t2 := hfs 2 _ rfl
  have t3 := hfs 3 _ rfl
  simp [ci, cs1, cp] at t0 t1 t2 t3
  obtain ⟨s0, q0, r0, z0⟩ := DataW.trod_string Tryz.underlying9 t0
  obtain ⟨A, c, xs, q1, hrd, hl, hq⟩ := slice_rows peV (fun x _ => I64 x.id) (fun _ _ _ h _ => h) ⟨0, 0⟩ Tryz.underlying82 (by kernel_rfl : Tryz.prog.cellsOf 85 = 2) (fun _ => rfl) (by omega) (fun fuel cs y h => open_peer h) t1
  obtain ⟨n2, q2, r2, z2⟩ := DataW.trod_int Tryz.underlying3 t2
  obtain ⟨n3, q3, r3, z3⟩ := DataW.trod_int Tryz.underlying3 t3
  simp only [List.cons.injEq, and_true] at q0 q1 q2 q3
  subst q0 q1 q2 q3
  refine ⟨(⟨s0.data.toList, xs, n2, n3⟩, (A, c)), by simp [upV], ?_⟩
  have e0 : Rows.uptoBulk y0.1 = Rows.uptoBulk (DataW.lit (.string s0.data.toList) : DataW H) := by rw [r0]
  have e1 := bd_str (H := H) s0.data.toList
  rw [← e0] at e1
  have hd : y.1 = .agg [y0.1, y1.1, y2.1, y3.1] := by rw [hxy]; rfl
  have hb : Rows.uptoBulk y0.1 ≤ Rows.uptoBulk y.1 ∧ Rows.uptoBulk y1.1 ≤ Rows.uptoBulk y.1 := by
   rw [hd]
   simp only [Rows.uptoBulk, Rows.uptoBulkAll]
   constructor <;> omega
  exact ⟨by show s0.data.toList.length ≤ _; omega, by show xs.length ≤ _; omega, hq, hrd⟩
structure LoB (x : Lo14) (n : Nat) : Prop where
 pre : x.pre.length ≤ n
 root : x.root.length ≤ n
 index : x.index.length ≤ n
 up : x.up.length ≤ n
 goal : x.goal.length ≤ n
set_option maxRecDepth 100000 in
theorem open_lo {fuel : Nat} {cs : List Value} {y : DataW H × List MemPlace} (h : DataW.trod enc Tryz.prog W 0 (fun _ => true) true fuel 90 cs = some y) : ∃ x : Lo14, cs = loV x ∧ LoB x (Rows.uptoBulk y.1) := by
 obtain ⟨ys, k, hk, hxy, hcl, hxl, hfs⟩ := DataW.trod_struct Tryz.underlying90 h
 have ci : Tryz.prog.cellsOf 3 = 1 := by kernel_rfl
 have cs1 : Tryz.prog.cellsOf 9 = 1 := by kernel_rfl
 have cb : Tryz.prog.cellsOf 4 = 1 := by kernel_rfl
 rw [(by kernel_rfl : Tryz.prog.cellsOf 90 = 12)] at hcl
 match ys, hxl, cs, hcl with
 | [y0, y1, y2, y3, y4, y5, y6, y7, y8, y9, ya, yb], _, [v0, v1, v2, v3, v4, v5, v6, v7, v8, v9, va, vb], _ =>
  have t0 := hfs 0 _ rfl
  have t1 := hfs 1 _ rfl
  have t2 := hfs 2 _ rfl
  have t3 := hfs 3 _ rfl
  have t4 := hfs 4 _ rfl
  have t5 := hfs 5 _ rfl
  have t6 := hfs 6 _ rfl
  have t7 := hfs 7 _ rfl
  have t8 := hfs 8 _ rfl
  have t9 := hfs 9 _ rfl
  have ta := hfs 10 _ rfl
  have tb := hfs 11 _ rfl
  simp [ci, cs1, cb] at t0 t1 t2 t3 t4 t5 t6 t7 t8 t9 ta tb
  obtain ⟨s0, q0, r0, z0⟩ := DataW.trod_string Tryz.underlying9 t0
  obtain ⟨n1, q1, r1, z1⟩ := DataW.trod_int Tryz.underlying3 t1
  obtain ⟨s2, q2, r2, z2⟩ := DataW.trod_string Tryz.underlying9 t2
  obtain ⟨s3, q3, r3, z3⟩ := DataW.trod_string Tryz.underlying9 t3
  obtain ⟨n4, q4, r4, z4⟩ := DataW.trod_int Tryz.underlying3 t4
  obtain ⟨n5, q5, r5, z5⟩ := DataW.trod_int Tryz.underlying3 t5
  obtain ⟨s6, q6, r6, z6⟩ := DataW.trod_string Tryz.underlying9 t6
  obtain ⟨b7, q7, r7⟩ := DataW.trod_bool Tryz.underlying4 t7
  obtain ⟨n8, q8, r8, z8⟩ := DataW.trod_int Tryz.underlying3 t8
  obtain ⟨n9, q9, r9, z9⟩ := DataW.trod_int Tryz.underlying3 t9
  obtain ⟨na, qa, ra, za⟩ := DataW.trod_int Tryz.underlying3 ta
  obtain ⟨sb, qb, rb, zb⟩ := DataW.trod_string Tryz.underlying9 tb
  simp only [List.cons.injEq, and_true] at q0 q1 q2 q3 q4 q5 q6 q7 q8 q9 qa qb
  subst q0 q1 q2 q3 q4 q5 q6 q7 q8 q9 qa qb
  have hd : y.1 = .agg [y0.1, y1.1, y2.1, y3.1, y4.1, y5.1, y6.1, y7.1, y8.1, y9.1, ya.1, yb.1] := by rw [hxy]; rfl
  have e0 : s0.data.toList.length ≤ Rows.uptoBulk y0.1 := by rw [r0]; exact bd_str _
  have e2 : s2.data.toList.length ≤ Rows.uptoBulk y2.1 := by rw [r2]; exact bd_str _
  have e3 : s3.data.toList.length ≤ Rows.uptoBulk y3.1 := by rw [r3]; exact bd_str _
  have e6 : s6.data.toList.length ≤ Rows.uptoBulk y6.1 := by rw [r6]; exact bd_str _
  have eb : sb.data.toList.length ≤ Rows.uptoBulk yb.1 := by rw [rb]; exact bd_str _
  have hb : Rows.uptoBulk y0.1 + Rows.uptoBulk y2.1 + Rows.uptoBulk y3.1 + Rows.uptoBulk y6.1 + Rows.uptoBulk yb.1 ≤ Rows.uptoBulk y.1 := by
   rw [hd]
   simp only [Rows.uptoBulk, Rows.uptoBulkAll]
   omega
  refine ⟨⟨s0.data.toList, n1, s2.data.toList, s3.data.toList, n4, n5, s6.data.toList, b7, n8, n9, na, sb.data.toList⟩, by simp [loV], ?_, ?_, ?_, ?_, ?_⟩
  ·show s0.data.toList.length ≤ _; omega
  ·show s2.data.toList.length ≤ _; omega
  ·show s3.data.toList.length ≤ _; omega
  ·show s6.data.toList.length ≤ _; omega
  ·show sb.data.toList.length ≤ _; omega
structure SrB (W : World) (x : Sr14 × Hd × Hd) (n : Nat) : Prop where
 nl : x.1.names.length ≤ n
 ll : x.1.locs.length ≤ n
 names : ∀ m ∈ x.1.names, m.length ≤ n
 locs : ∀ l ∈ x.1.locs, LoB l n
 rdn : Rd W x.2.1.1 (strC x.1.names)
 rdl : Rd W x.2.2.1 (x.1.locs.flatMap loV)
theorem LoB.mono (x : Lo14) (m n : Nat) (h : LoB x m) (l : m ≤ n) : LoB x n := ⟨Nat.le_trans h.pre l, Nat.le_trans h.root l, Nat.le_trans h.index l, Nat.le_trans h.up l, Nat.le_trans h.goal l⟩
set_option maxRecDepth 100000 in
theorem open_sr {fuel : Nat} {cs : List Value} {y : DataW H × List MemPlace} (h : DataW.trod enc Tryz.prog W 0 (fun _ => true) true fuel 88 cs = some y) : ∃ x : Sr14 × Hd × Hd, cs = srV x ∧ SrB W x (Rows.uptoBulk y.1) := by
 obtain ⟨ys, k, hk, hxy, hcl, hxl, hfs⟩ := DataW.trod_struct Tryz.underlying88 h
 have cn : Tryz.prog.cellsOf 55 = 1 := by kernel_rfl
 have cb : Tryz.prog.cellsOf 4 = 1 := by kernel_rfl
 have cl : Tryz.prog.cellsOf 86 = 1 := by kernel_rfl
 rw [(by kernel_rfl : Tryz.prog.cellsOf 88 = 3)] at hcl
 match ys, hxl, cs, hcl with
 | [y0, y1, y2], _, [v0, v1, v2], _ =>
  have t0 := hfs 0 _ rfl
  have t1 := hfs 1 _ rfl
  have t2 := hfs 2 _ rfl
  simp [cn, cb, cl] at t0 t1 t2
  obtain ⟨A, c, xs, q0, hrd, hl, hq⟩ := open_names t0
  obtain ⟨b1, q1, r1⟩ := DataW.trod_bool Tryz.underlying4 t1
  obtain ⟨B, d, ls, q2, hrl, hm, hq2⟩ := slice_rows loV LoB LoB.mono lo0 Tryz.underlying86 (by kernel_rfl : Tryz.prog.cellsOf 90 = 12) (fun _ => rfl) (by omega) (fun fuel cs y h => open_lo h) t2
  simp only [List.cons.injEq, and_true] at q0 q1 q2
  subst q0 q1 q2
  have hd : y.1 = .agg [y0.1, y1.1, y2.1] := by rw [hxy]; rfl
  have hb : Rows.uptoBulk y0.1 + Rows.uptoBulk y2.1 ≤ Rows.uptoBulk y.1 := by
   rw [hd]
   simp only [Rows.uptoBulk, Rows.uptoBulkAll]
   omega
  refine ⟨(⟨xs, b1, ls⟩, (A, c), (B, d)), rfl, ?_, ?_, fun m hm => ?_, fun l hl => LoB.mono _ _ _ (hq2 l hl) (by omega), hrd, hrl⟩
  ·show xs.length ≤ _; omega
  ·show ls.length ≤ _; omega
  ·have := hq m hm; omega
theorem UpB.mono (x : Up14 × Hd) (m n : Nat) (h : UpB W x m) (l : m ≤ n) : UpB W x n := ⟨Nat.le_trans h.name l, Nat.le_trans h.peers l, h.ids, h.rd⟩
theorem SrB.mono (x : Sr14 × Hd × Hd) (m n : Nat) (h : SrB W x m) (l : m ≤ n) : SrB W x n := ⟨Nat.le_trans h.nl l, Nat.le_trans h.ll l, fun k hk => Nat.le_trans (h.names k hk) l, fun k hk => LoB.mono _ _ _ (h.locs k hk) l, h.rdn, h.rdl⟩
structure CfM (c : Cf14) (n : Nat) : Prop where
 ul : c.ups.length ≤ n
 sl : c.srvs.length ≤ n
 name : ∀ u ∈ c.ups, u.name.length ≤ n
 peers : ∀ u ∈ c.ups, u.peers.length ≤ n
 ids : ∀ u ∈ c.ups, ∀ p ∈ u.peers, I64 p.id
 nl : ∀ s ∈ c.srvs, s.names.length ≤ n
 ll : ∀ s ∈ c.srvs, s.locs.length ≤ n
 names : ∀ s ∈ c.srvs, ∀ m ∈ s.names, m.length ≤ n
 locs : ∀ s ∈ c.srvs, ∀ l ∈ s.locs, LoB l n
set_option maxRecDepth 100000 in
theorem open_cfg {v : Value} {d : DataW H} {p : List MemPlace} (hval : Value.okWide Tryz.prog W .any base 32 v) (h : DataW.Trod enc Tryz.prog W 0 (fun _ => true) true 32 v d p) :
  ∃ c U UA uc S SA sc, v = cfV c UA uc SA sc ∧ CfR W c U UA S SA ∧ CfM c (Rows.uptoBulk d) := by
 obtain ⟨cs, rfl⟩ := okWide_structT Tryz.underlying32 hval
 obtain ⟨fuel, hf⟩ := h
 obtain ⟨ys, k, hk, hxy, hcl, hxl, hfs⟩ := DataW.trod_struct Tryz.underlying32 hf
 have ci : Tryz.prog.cellsOf 3 = 1 := by kernel_rfl
 have cu : Tryz.prog.cellsOf 29 = 1 := by kernel_rfl
 have cv : Tryz.prog.cellsOf 30 = 1 := by kernel_rfl
 rw [(by kernel_rfl : Tryz.prog.cellsOf 32 = 6)] at hcl
 have hcl2 : cs.toList.length = 6 := by simpa [Value.cells] using hcl
 have hce : (Value.cells (.agg cs)).toList = cs.toList := by simp [Value.cells]
 obtain ⟨w0, w1, w2, w3, w4, w5, hcs⟩ : ∃ w0 w1 w2 w3 w4 w5, cs.toList = [w0, w1, w2, w3, w4, w5] := by
  match hcl3 : cs.toList, hcl2 with
  | [w0, w1, w2, w3, w4, w5], _ => exact ⟨_, _, _, _, _, _, rfl⟩
 rw [hce, hcs] at hfs
 match ys, hxl with
 | [y0, y1, y2, y3, y4, y5], _ =>
  have t0 := hfs 0 _ rfl
  have t1 := hfs 1 _ rfl
  have t2 := hfs 2 _ rfl
  have t3 := hfs 3 _ rfl
  have t4 := hfs 4 _ rfl
  have t5 := hfs 5 _ rfl
  simp [ci, cu, cv] at t0 t1 t2 t3 t4 t5
  obtain ⟨n0, q0, r0, z0⟩ := DataW.trod_int Tryz.underlying3 t0
  obtain ⟨n1, q1, r1, z1⟩ := DataW.trod_int Tryz.underlying3 t1
  obtain ⟨n2, q2, r2, z2⟩ := DataW.trod_int Tryz.underlying3 t2
  obtain ⟨n3, q3, r3, z3⟩ := DataW.trod_int Tryz.underlying3 t3
  obtain ⟨UA, uc, U, q4, hrU, hul, hqU⟩ := slice_rows upV (UpB W) UpB.mono (⟨[], [], 0, 0⟩, (none, 0)) Tryz.underlying29 (by kernel_rfl : Tryz.prog.cellsOf 84 = 4) (fun _ => rfl) (by omega) (fun fuel cs y h => open_up h) t4
  obtain ⟨SA, sc, S, q5, hrS, hsl, hqS⟩ := slice_rows srV (SrB W) SrB.mono (⟨[], false, []⟩, (none, 0), (none, 0)) Tryz.underlying30 (by kernel_rfl : Tryz.prog.cellsOf 88 = 3) (fun _ => rfl) (by omega) (fun fuel cs y h => open_sr h) t5
  simp only [List.cons.injEq, and_true] at q0 q1 q2 q3 q4 q5
  subst q0 q1 q2 q3 q4 q5
  have hd : d = .agg [y0.1, y1.1, y2.1, y3.1, y4.1, y5.1] := (Prod.mk.inj hxy).1
  have hb : Rows.uptoBulk y4.1 + Rows.uptoBulk y5.1 ≤ Rows.uptoBulk d := by
   rw [hd]
   simp only [Rows.uptoBulk, Rows.uptoBulkAll]
   omega
  refine ⟨⟨n0, n1, n2, n3, U.map (·.1), S.map (·.1)⟩, U, UA, uc, S, SA, sc, ?_, ⟨rfl, rfl, hrU, hrS, fun x hx => (hqU x hx).rd, fun x hx => (hqS x hx).rdn, fun x hx => (hqS x hx).rdl⟩, ?_, ?_, ?_, ?_, ?_, ?_, ?_, ?_, ?_⟩
  ·unfold cfV
   rw [List.length_map, List.length_map]
   congr 1
   apply Array.toList_inj.1
   rw [hcs]
  ·show (U.map _).length ≤ _; rw [List.length_map]; omega
  ·show (S.map _).length ≤ _; rw [List.length_map]; omega
  all_goals
   intro u hu
   obtain ⟨x, hx, rfl⟩ := List.mem_map.1 hu
  ·have := (hqU x hx).name; omega
  ·have := (hqU x hx).peers; omega
  ·exact (hqU x hx).ids
  ·have := (hqS x hx).nl; omega
  ·have := (hqS x hx).ll; omega
  ·intro m hm; have := (hqS x hx).names m hm; omega
  ·intro l hl; exact LoB.mono _ _ _ ((hqS x hx).locs l hl) (by omega)
end
end Go.Proofs.YtmnohicojefhfaaGreatDoor
end

section
namespace Go.Proofs.YtmnohicojefhfaaGreatDoor
open Go.RowKit

theorem CfM.up {c : Cf14} {m n : Nat} (h : CfM c m) (l : m ≤ n) : CfM c n :=
 ⟨Nat.le_trans h.ul l, Nat.le_trans h.sl l, fun u hu => Nat.le_trans (h.name u hu) l, fun u hu => Nat.le_trans (h.peers u hu) l, h.ids, fun s hs => Nat.le_trans (h.nl s hs) l, fun s hs => Nat.le_trans (h.ll s hs) l, fun s hs k hk => Nat.le_trans (h.names s hs k hk) l, fun s hs k hk => LoB.mono _ _ _ (h.locs s hs k hk) l⟩
theorem ows_of {c : Cf14} (h : CfM c 1048576) : OwS c :=
 ⟨by have := h.ul; omega, by have := h.sl; omega, fun u hu => by have := h.peers u hu; omega, fun s hs => by have := h.nl s hs; omega, fun s hs => by have := h.ll s hs; omega⟩
theorem cfs_of {c : Cf14} (h : CfM c 1048576) : CfS c := by
 refine ⟨by have := h.ul; omega, by have := h.sl; omega, fun u hu => ⟨by have := h.name u hu; omega, by have := h.peers u hu; omega, h.ids u hu⟩, fun s hs => ⟨by have := h.nl s hs; omega, by have := h.ll s hs; omega, fun n hn => by have := h.names s hs n hn; omega, fun l hl => ?_⟩, ?_⟩
 ·have := h.locs s hs l hl
  exact ⟨by have := this.pre; omega, by have := this.root; omega, by have := this.index; omega, by have := this.goal; omega⟩
 ·have h1 := flat_bd c.srvs (·.names) 1048576 (fun s hs => h.nl s hs)
  have h2 : c.srvs.length * 1048576 ≤ 1048576 * 1048576 := Nat.mul_le_mul_right _ h.sl
  omega
end Go.Proofs.YtmnohicojefhfaaGreatDoor
end

section
namespace Go.Proofs.YtmnohicojefhfaaGreatDoor
open Go.RowKit

set_option maxRecDepth 100000 in
theorem num14_c (x : Int) (w : World) : Calls Tryz.prog 13 #[.int .i64 x] w fun e w' => e = .returned (.int .i64 x) ∧ w = w' := by
 go_enter Tryz.func13, Tryz.ntmps13
 go_wp2
 go_ret
 exact ⟨rfl, rfl⟩
theorem cParse_A (w : World) (hE : ErrR w) : Calls Tryz.prog 9 #[.string (str knA14)] w
  fun e w' => Ext w w' ∧ ∃ UA uc sc g f, w'.cell? ⟨g, f + 1, none⟩ = some (.bool true) ∧ e = .returned (.tuple #[.agg #[.int .i64 75, .int .i64 65536, .int .i64 0, .int .i64 1000, .slice UA 0 uc, .slice (some ⟨g, f, none⟩) 1 sc], .int .i64 0, .int .i64 0]) := by
 refine (cParse_c knA14 (by decide) w hE).mono ?_
 rintro e w' ⟨v, rfl, ⟨cv, rfl, ⟨U, UA, uc, S, SA, sc, rfl, hR⟩, _, _⟩, hx⟩
 have h1 := kn_A14.1
 have h2 := kn_A14.2
 have hS := hR.hS
 have hr := hR.srvs
 rw [h1] at hS
 obtain ⟨x, rfl⟩ : ∃ x, S = [x] := by
  cases S with
  | nil => cases hS
  | cons x r => cases r with
   | nil => exact ⟨x, rfl⟩
   | cons y r => simp at hS
 have hx1 : x.1.dflt = true := by
  simp only [List.map_cons, List.map_nil, List.cons.injEq, and_true] at hS
  rw [hS]
 refine ⟨hx, ?_⟩
 rcases hr with hr | ⟨g, f, rfl, hc⟩
 ·simp [srV] at hr
 ·refine ⟨UA, uc, sc, g, f, ?_, ?_⟩
  ·have := hc 1 (.bool x.1.dflt) (by simp [srV])
   rw [hx1] at this
   exact this
  ·rw [show (parseC knA14).2.1 = 0 from by rw [h2], show (parseC knA14).2.2 = 0 from by rw [h2], h1]
   rfl
theorem cParse_B (w : World) (hE : ErrR w) : Calls Tryz.prog 9 #[.string (str knB14)] w
  fun e w' => Ext w w' ∧ ∃ (k1 k2 k3 k4 : Int) (A B : Option Addr) (n c m d : Nat), e = .returned (.tuple #[.agg #[.int .i64 k1, .int .i64 k2, .int .i64 k3, .int .i64 k4, .slice A n c, .slice B m d], .int .i64 2, .int .i64 60]) := by
 refine (cParse_c knB14 (by decide) w hE).mono ?_
 rintro e w' ⟨v, rfl, ⟨cv, rfl, ⟨U, UA, uc, S, SA, sc, rfl, hR⟩, _, _⟩, hx⟩
 have h2 := kn_B14
 refine ⟨hx, (parseC knB14).1.keep, (parseC knB14).1.body, (parseC knB14).1.store, (parseC knB14).1.conns, UA, SA, (parseC knB14).1.ups.length, uc, (parseC knB14).1.srvs.length, sc, ?_⟩
 rw [show (parseC knB14).2.1 = 2 from by rw [h2], show (parseC knB14).2.2 = 60 from by rw [h2]]
 rfl
set_option maxRecDepth 100000 in
set_option maxHeartbeats 2000000 in
theorem knows14_c (w : World) (hE : ErrR w) : Calls Tryz.prog 14 #[] w (Gives (.bool true) w) := by
 have CA := Lib.hid (cParse_A w hE)
 have CB := Lib.hid (fun w' (hx : Ext w w') => cParse_B w' (hE.ext hx))
 rw [show str knA14 = ⟨#[115, 101, 114, 118, 101, 114, 32, 123, 32, 100, 101, 102, 97, 117, 108, 116, 59, 32, 108, 111, 99, 97, 116, 105, 111, 110, 32, 47, 32, 123, 32, 114, 111, 111, 116, 32, 47, 102, 105, 108, 101, 115, 59, 32, 125, 32, 125]⟩ from rfl] at CA
 rw [show str knB14 = ⟨#[10, 102, 111, 111, 59]⟩ from rfl] at CB
 clear hE
 go_enter Tryz.func14, Tryz.ntmps14
 go_upto_region 2 with (go_at_call 9; refine CA.out.mono ?_; rintro e w1 ⟨hx1, UA, uc, sc, g, f, hc, rfl⟩)
 have b0 := new_at w1 #[.int .i64 75, .int .i64 65536, .int .i64 0, .int .i64 1000, .slice UA 0 uc, .slice (some ⟨g, f, none⟩) 1 sc] 25 0 _ rfl
 have b5 := new_at w1 #[.int .i64 75, .int .i64 65536, .int .i64 0, .int .i64 1000, .slice UA 0 uc, .slice (some ⟨g, f, none⟩) 1 sc] 25 5 _ rfl
 obtain ⟨W2, hW2⟩ : ∃ W, W = w1.alloc (.cells #[.int .i64 75, .int .i64 65536, .int .i64 0, .int .i64 1000, .slice UA 0 uc, .slice (some ⟨g, f, none⟩) 1 sc] 25) := ⟨_, rfl⟩
 have hx2 : Ext w1 W2 := by rw [hW2]; exact (Ext.rfl' _).al _
 have hc2 := (hx2.cell (lt_of_cell hc)).trans hc
 rw [← hW2] at b0 b5 ⊢
 clear hW2 hc
 go_upto_region 3 with (go_at_call 9; refine (CB.out _ (hx1.tr hx2)).mono ?_; rintro e w3 ⟨hx3, k1, k2, k3, k4, A, B, n, c, m, d, rfl⟩)
 obtain ⟨W4, hW4⟩ : ∃ W, W = w3.alloc (.cells #[.int .i64 k1, .int .i64 k2, .int .i64 k3, .int .i64 k4, .slice A n c, .slice B m d] 25) := ⟨_, rfl⟩
 have hx4 : Ext W2 W4 := by rw [hW4]; exact hx3.al _
 have c0 := (hx4.cell (lt_of_cell b0)).trans b0
 have c5 := (hx4.cell (lt_of_cell b5)).trans b5
 have cc := (hx4.cell (lt_of_cell hc2)).trans hc2
 rw [← hW4]
 clear hW4 b0 b5 hc2
 go_wp2_with (go_at_call 13; refine (num14_c _ _).mono ?_; rintro e w5 ⟨rfl, rfl⟩)
 go_ret
 exact ⟨rfl, by (repeat first | exact Ex0 | assumption | refine Ex1 ?_ | refine Ex2 ?_ | refine Ex3 ?_ | refine Ex4 ?_ | refine Ex5 ?_)⟩
end Go.Proofs.YtmnohicojefhfaaGreatDoor
end

section
namespace Go.Proofs.YtmnohicojefhfaaGreatDoor
open Go.RowKit Go.ChangeShapes

theorem tPow : (Tryz.prog.globals[1]?).map (·.type) = some 245 := by kernel_rfl
theorem cells20 : Tryz.prog.cellsOf 245 = 20 := by kernel_rfl
theorem cells_u64 : Tryz.prog.cellsOf 203 = 1 := by kernel_rfl
theorem pow_of {W : World} {rest : List (String × DataW Unit)} (h : laidMet Tryz.prog (("internal/strconv.uint64pow10", Lib.tabData .u64 Lib.pow10Tab) :: rest) W) : Pow W :=
 Lib.tabIs_of_head gPow tPow Tryz.underlying245 Tryz.underlying203 cells_u64 cells20 h
end Go.Proofs.YtmnohicojefhfaaGreatDoor
end
