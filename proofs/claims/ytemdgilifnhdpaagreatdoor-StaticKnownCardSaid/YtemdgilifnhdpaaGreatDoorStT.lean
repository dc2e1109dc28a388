/-
Static: what is served for a path (Serve), without a range.
-/
import Derived.Test.YtemdgilifnhdpaaGreatDoorStS
import Derived.Test.YtemdgilifnhdpaaGreatDoorZas
import Derived.ScopeJumps
set_option linter.unusedVariables false
set_option linter.unusedSimpArgs false
namespace Go.Proofs.YtemdgilifnhdpaaGreatDoor
open Go.RowKit

theorem wp_scope_hop {P : Program} {a : Act} {w : World} {Q : Exit → Act → World → Prop} {c rest : Code} (l : Nat) (hf : findLabel c l = some rest)
    (h : c.wp P (Exit.jump l (fun a w => rest.wp P (Exit.noGoto Q) a w) Q) a w) : (Code.scope c).wp P Q a w := by
  refine wp_scope_jumps l (fun a w => rest.wp P (Exit.noGoto Q) a w) (fun _ _ => 0) hf h (fun a w hJ => wp_mono hJ (fun e a w hq => ?_))
  cases e <;> first | exact hq | exact hq.elim
set_option maxRecDepth 100000 in
set_option maxHeartbeats 1000000 in
theorem stRanged_no (fv : Array Value) (pa : Value) (A : Option Addr) (n c : Nat) (hn : n ≠ 1) (hb : n ≤ 8796093022206) (w : World) : Calls Tryz.prog 34 #[.agg fv, pa, .slice A n c] w (Gives (.bool false) w) := by
  have h1 : ¬ (n : Int) = 1 := by omega
  go_enter Tryz.func34, Tryz.ntmps34
  go_wp2
  go_ret
  exact ⟨rfl, by (repeat (first | exact Ext.rfl' _ | assumption | refine Ext.dr ?_ | refine Ext.drN ?_ _ | refine Ext.al ?_ _ | refine Ext.st ?_ (by simp) _ | refine Ext.tr ?_ (by assumption)))⟩
theorem no_empty {s : Wrl} (hk : Wok s) : lkM s.L [] = none := by
  cases h : lkM s.L [] with
  | none => rfl
  | some f =>
    have := hk.path _ (lk_mem h)
    simp [pathF, cleanL] at this
theorem powOf {w : World} (h : Ev.MxE w) : Pow w := by
  unfold Pow Lib.TabIs World.var?
  rw [gPow]
  simp only [Option.bind_some, h.1]
theorem tagL_len (n mt ve : Int) : (tagL n mt ve).length ≤ 1000 := by
  unfold tagL
  have h1 := hex_sz n
  have h2 := hex_sz mt
  have h3 := hex_sz ve
  simp only [List.length_append, List.length_cons, List.length_nil]
  omega
theorem find_some {s : Wrl} {pre root index path nm : List UInt8} {f : Fil} (h : findS s pre root index path = .inl (nm, f)) : lkM s.L nm = some f := by
  unfold findS at h
  split at h
  · cases h
  · cases h
  · split at h
    · rename_i hf
      injection h with h
      obtain ⟨rfl, rfl⟩ := Prod.mk.inj h
      exact hf
    · split at h <;> cases h
theorem find_len {s : Wrl} {pre root index path nm : List UInt8} {f : Fil} (hk : Wok s) (h : findS s pre root index path = .inl (nm, f)) : nm.length ≤ 140737488355328 := by
  have := path_len (hk.path _ (lk_mem (find_some h)))
  dsimp only at this; omega
structure Srv where
  st : Int
  fs : List Fld
  n : Nat
  b : Option (List UInt8)
def plainS (n : Int) (fs : List Fld) : Srv := ⟨n, fs ++ [lenF ((rsnS n).length + 1)], (rsnS n).length + 1, none⟩
def serveS (fr : (List UInt8 × Fil) ⊕ Int) (ev : Int) (path : List UInt8) : Srv :=
  match fr with
  | .inr n => plainS n (plainF n path)
  | .inl (nm, f) =>
    if ev = 412 then plainS 412 [ctF] else
    if ev = 304 then ⟨304, [([69, 84, 97, 103], [34] ++ tagL f.b.length f.mt (f.ve : Int) ++ [34]), ([76, 97, 115, 116, 45, 77, 111, 100, 105, 102, 105, 101, 100], fmtD f.mt)], 0, some []⟩ else
    ⟨200, fullF (mimeL nm) (tagL f.b.length f.mt (f.ve : Int)) f.mt ++ [lenF f.b.length], f.b.length, some f.b⟩
def ServeTo (w : World) (S : Srv) (e : Ending) (w' : World) : Prop :=
  ∃ A c B d, e = .returned (.tuple #[respV S.st S.fs.length A c (.slice B S.n d), .int .i64 0]) ∧ Ext w w' ∧ Rd w' A (fc S.fs) ∧ (∀ b, S.b = some b → b.length = S.n ∧ Rd w' B (bc b))
theorem three_al (w : World) (x y z : Obj) : (((w.alloc x).alloc y).alloc z).heap[w.heap.size]? = some x ∧ (((w.alloc x).alloc y).alloc z).heap[w.heap.size + 1]? = some y ∧ (((w.alloc x).alloc y).alloc z).heap[w.heap.size + 1 + 1]? = some z := by
  have h0 := heap_alloc_new w x
  have h1 := heap_alloc_new (w.alloc x) y
  have h2 := heap_alloc_new ((w.alloc x).alloc y) z
  rw [World.size_alloc] at h1
  rw [World.size_alloc, World.size_alloc] at h2
  exact ⟨((Ext.al (Ext.al (Ext.rfl' _) _) _).block _ (row_lt h0)).trans h0, ((Ext.al (Ext.rfl' _) _).block _ (row_lt h1)).trans h1, h2⟩
def reqC (M : ByteArray) (t : Value) (mi : Value) (A : Option Addr) (n c : Nat) : Array Value := #[.string M, t, mi, .slice A n c]
set_option maxRecDepth 100000 in
set_option maxHeartbeats 8000000 in
theorem stServe_not (kw pw : Nat) (s : Wrl) (hk : Wok s) (pre root index path : List UInt8) (hp1 : pre.length ≤ 140737488351232) (hp2 : root.length ≤ 140737488351232) (hp3 : index.length ≤ 140737488351232) (hp4 : path.length ≤ 140737488351232) (a4 : Value) (a6 a7 a8 a9 a10 a11 : Value) (t mi : Value) (A : Option Addr) (n c : Nat) (w : World) (o : Ow) (ho : ∀ b, b < w.heap.size → o b < 20) (hkw : kw < 17) (hw : WdAt w o kw pw s) (hM : Ev.MxE w) (hE : ErrR w) (ev : Int) (nn : Int) (hfr : findS s pre root index path = .inr nn) :
    Calls Tryz.prog 9 #[.pointer (some ⟨pw, 0, none⟩), .agg (locC pre root index 1 a4 0 a6 a7 a8 a9 a10 a11), .agg (reqC ⟨#[71, 69, 84]⟩ t mi A n c), .string (str path)] w (ServeTo w (serveS (findS s pre root index path) ev path)) := by
  rw [hfr]
  have HFR := Lib.hid hfr
  clear hfr
  obtain ⟨W3, hW3⟩ : ∃ X, X = ((w.alloc (.cells (locC pre root index 1 a4 0 a6 a7 a8 a9 a10 a11) 39)).alloc (.cells (reqC ⟨#[71, 69, 84]⟩ t mi A n c) 27)).alloc (.cells #[.int .i64 0, .slice none 0 0, .slice none 0 0] 34) := ⟨_, rfl⟩
  have hx3 : Ext w W3 := by rw [hW3]; (repeat (first | exact Ext.rfl' _ | assumption | refine Ext.dr ?_ | refine Ext.drN ?_ _ | refine Ext.al ?_ _ | refine Ext.st ?_ (by simp) _ | refine Ext.tr ?_ (by assumption)))
  obtain ⟨hr1, hr2, hr4⟩ := three_al w (.cells (locC pre root index 1 a4 0 a6 a7 a8 a9 a10 a11) 39) (.cells (reqC ⟨#[71, 69, 84]⟩ t mi A n c) 27) (.cells #[.int .i64 0, .slice none 0 0, .slice none 0 0] 34)
  rw [← hW3] at hr1 hr2 hr4
  have HX3 := Lib.hid hx3
  have HR1 := Lib.hid hr1
  have HR2 := Lib.hid hr2
  have HR4 := Lib.hid hr4
  have HW := Lib.hid hw
  have HMX := Lib.hid hM
  have HER := Lib.hid hE
  have HO := Lib.hid ho
  have HOK := Lib.hid hk
  have CF0 := Lib.hid (fun w' (e : Ext w w') => (show Calls Tryz.prog 20 #[.pointer (some ⟨pw, 0, none⟩), .string ⟨#[]⟩] w' (Gives (.tuple #[.agg #[.string ⟨#[]⟩, .slice none 0 0, .int .i64 0], .int .i64 0, .int .i64 3]) w') from wFile_none w' o kw pw s (hw.ext e) [] (by simp) (no_empty hk)))
  have HW3 := Lib.hid hW3
  clear hw hM hE ho hk hW3 hr1 hr2 hr4 hx3
  unfold locC at HW3 HR1 ⊢
  unfold reqC at HW3 HR2 ⊢
  go_enter Tryz.func9, Tryz.ntmps9
  go_wp2
  refine wp_scope_hop 0 (by rfl) ?_
  go_upto_region 1 with (fail)
  rw [← HW3.out]
  have c1 := (row_facts HR1.out 1 _ rfl).1
  go_upto_region 9 with (first
    | (go_at_call 20; refine (CF0.out _ (HX3.out.tr (by (repeat (first | exact Ext.rfl' _ | assumption | refine Ext.dr ?_ | refine Ext.drN ?_ _ | refine Ext.al ?_ _ | refine Ext.st ?_ (by simp) _ | refine Ext.tr ?_ (by assumption)))))).mono ?_; rintro e w1 ⟨rfl, hx1⟩; have hx31 : Ext W3 w1 := (by (repeat (first | exact Ext.rfl' _ | assumption | refine Ext.dr ?_ | refine Ext.drN ?_ _ | refine Ext.al ?_ _ | refine Ext.st ?_ (by simp) _ | refine Ext.tr ?_ (by assumption))))))
  obtain ⟨P, hP⟩ : ∃ P, P = w1.heap.size + 1 := ⟨_, rfl⟩
  obtain ⟨q, hq⟩ : ∃ q, q = w1.heap.size + 1 + 1 := ⟨_, rfl⟩
  obtain ⟨W9, hW9⟩ : ∃ X, X = ((w1.alloc (.cells #[.string ⟨#[]⟩, .slice none 0 0, .int .i64 0] 24)).alloc (.cells #[.slice none 0 0, .int .i64 0, .slice none 0 0, .bool false] 77)).alloc (.cells #[.bool false, .string ⟨#[]⟩, .int .i64 0, .bool false] 80) := ⟨_, rfl⟩
  obtain ⟨_, rp, rq⟩ := three_al w1 (.cells #[.string ⟨#[]⟩, .slice none 0 0, .int .i64 0] 24) (.cells #[.slice none 0 0, .int .i64 0, .slice none 0 0, .bool false] 77) (.cells #[.bool false, .string ⟨#[]⟩, .int .i64 0, .bool false] 80)
  rw [← hW9, ← hP] at rp
  rw [← hW9, ← hq] at rq
  rw [← hq, ← hP, ← hW9]
  have hx19 : Ext w1 W9 := by rw [hW9]; (repeat (first | exact Ext.rfl' _ | assumption | refine Ext.dr ?_ | refine Ext.drN ?_ _ | refine Ext.al ?_ _ | refine Ext.st ?_ (by simp) _ | refine Ext.tr ?_ (by assumption)))
  have hx9 : Ext w W9 := HX3.out.tr (hx31.tr hx19)
  have hz := HX3.out.size
  have hz1 := hx31.size
  have hz3 := row_lt HR4.out
  obtain ⟨o9, ho9⟩ : ∃ o9 : Ow, o9 = fun b => if b < w.heap.size then o b else if b = P then 20 else if b = q then 31 else 30 := ⟨_, rfl⟩
  have S9 : Stp (fun _ => False) w o W9 o9 := Stp.ext2 hx9 (fun b hb => by rw [ho9]; exact if_pos hb)
  have oP : o9 P = 20 := by rw [ho9]; show (if P < w.heap.size then o P else if P = P then 20 else if P = q then 31 else 30) = 20; rw [if_neg (by omega), if_pos rfl]
  have oq : o9 q = 31 := by rw [ho9]; show (if q < w.heap.size then o q else if q = P then 20 else if q = q then 31 else 30) = 31; rw [if_neg (by omega), if_neg (by omega), if_pos rfl]
  have oX : ∀ b, w.heap.size ≤ b → b < P → o9 b = 30 := fun b h1 h2 => by rw [ho9]; show (if b < w.heap.size then o b else if b = P then 20 else if b = q then 31 else 30) = 30; rw [if_neg (by omega), if_neg (by omega), if_neg (by omega)]
  have AN9 : AnAt W9 o9 20 P [] 0 (.slice none 0 0) false none 0 := ⟨oP, rp, Sl.nil_ _ _ _ _ _, fun _ => rfl⟩
  have x39 : Ext W3 W9 := hx31.tr hx19
  have L9 := (x39.block _ (row_lt HR1.out)).trans HR1.out
  have R9 := (x39.block _ (row_lt HR2.out)).trans HR2.out
  have Z9 := (x39.block _ (row_lt HR4.out)).trans HR4.out
  have HB := Lib.hid (fun K w' o' (hK : ¬ K 30) (hK1 : ¬ K 31) (t : Stp K W9 o9 w' o') => And.intro ((t.keep _ (row_lt L9) (by rw [oX _ (by omega) (by omega)]; exact hK)).trans L9) (And.intro ((t.keep _ (row_lt R9) (by rw [oX _ (by omega) (by omega)]; exact hK)).trans R9) (And.intro ((t.keep _ (row_lt Z9) (by rw [oX _ (by omega) (by omega)]; exact hK)).trans Z9) ((t.keep _ (row_lt rq) (by rw [oq]; exact hK1)).trans rq))))
  have HBO := Lib.hid (fun K w' o' (t : Stp K W9 o9 w' o') => And.intro ((t.own _ (row_lt Z9)).trans (oX _ (by omega) (by omega))) (And.intro ((t.own _ (row_lt rq)).trans oq) ((t.own _ (row_lt R9)).trans (oX _ (by omega) (by omega)))))
  have HX9 := Lib.hid (fun w' o' K (hK : ∀ i, K i → 20 ≤ i) (t : Stp K W9 o9 w' o') => (show Ext w w' from ((S9.mono (L := K) (fun _ h => h.elim)).tr t).toExt (fun b hb hk => by have := HO.out b hb; have := hK _ hk; omega)))
  have CF := Lib.hid (stFind_c 20 P kw pw s HOK.out pre root index path hp1 hp2 hp3 hp4 1 a4 0 a6 a7 a8 a9 a10 a11 W9 o9 AN9 (HW.out.stp S9 (fun x => x) (fun x => x) (fun x => x)) (fun w' o' t => mxExt HMX.out (HX9.out w' o' _ (fun i hi => by omega) t)) (HER.out.ext hx9))
  have HWD := Lib.hid (fun K w' o' (h0 : ¬ K kw) (h1 : ¬ K (kw + 1)) (h2 : ¬ K (kw + 2)) (t : Stp K W9 o9 w' o') => (HW.out.stp S9 (fun x => x) (fun x => x) (fun x => x)).stp t h0 h1 h2)
  have HAN := Lib.hid AN9
  have hPz : P < W9.heap.size := row_lt rp
  have hPw : w.heap.size < P := by omega
  clear hP hq hW9 rp rq hx19 hx9 hz hz1 hz3 ho9 S9 oP oq oX AN9 x39 L9 R9 Z9 hx31 hx1 c1
  unfold locC at CF
  obtain ⟨e1, e2, e3, e4⟩ := HB.out (fun _ => False) W9 o9 (fun x => x) (fun x => x) Stp.rfl'
  have u0 := (row_facts e2 0 _ rfl).1
  have v0 := (row_facts e1 0 _ rfl).1
  have v1 := (row_facts e1 1 _ rfl).1
  have v2 := (row_facts e1 2 _ rfl).1
  have v3 := (row_facts e1 3 _ rfl).1
  have v4 := (row_facts e1 4 _ rfl).1
  have v5 := (row_facts e1 5 _ rfl).1
  have v6 := (row_facts e1 6 _ rfl).1
  have v7 := (row_facts e1 7 _ rfl).1
  have v8 := (row_facts e1 8 _ rfl).1
  have v9 := (row_facts e1 9 _ rfl).1
  have v10 := (row_facts e1 10 _ rfl).1
  have v11 := (row_facts e1 11 _ rfl).1
  clear e1 e2 e3 e4
  go_upto_region 23 with (first
    | (go_at_call 29; go_loud (refine CF.out.mono ?_; rintro e w10 ⟨v, o10, rfl, st10, hf10⟩; rw [HFR.out] at hf10; obtain ⟨rfl, A1, c1, B1, d1, hn1⟩ := hf10)))
  have T10 := Lib.hid (st10.mono (L := fun i => i = 20 ∨ i = 21) fun _ h => h)
  have HN1 := Lib.hid hn1
  have hfl : (plainF nn path).length ≤ 2 := by unfold plainF; split <;> simp
  have HM10 := Lib.hid (mxExt HMX.out (HX9.out _ _ _ (fun i hi => by omega) st10))
  have CP := Lib.hid (stResp_whole 20 P (plainF nn path) (by omega) nn B1 _ d1 (by have := rsn_len nn; omega) A1 c1 w10 o10 (powOf HM10.out) hn1)
  clear hn1 st10 hfl
  go_step3
  refine And.intro (rfl : (0 : Nat) = 0) ?_
  show Code.wp _ _ _ _ _
  obtain ⟨rn, hrn⟩ : ∃ x, x = (rsnS nn).length + 1 := ⟨_, rfl⟩
  rw [← hrn] at CP
  obtain ⟨fn, hfn⟩ : ∃ x, x = (plainF nn path).length := ⟨_, rfl⟩
  unfold respV at CP
  have CP := Lib.hid (CP.out.mono (fun e w' (h : _) => (show ∃ o' A' c', e = .returned (.agg #[.int .i64 nn, .slice A' (fn + 1) c', .slice B1 rn d1]) ∧ AnAt w' o' 20 P (plainF nn path ++ [lenF rn]) nn (.slice B1 rn d1) false A' c' ∧ Stp (fun i => i = 20 ∨ i = 21) w10 o10 w' o' from by rw [hfn]; exact h)))
  have HRN := Lib.hid hrn
  have HFN := Lib.hid hfn
  clear hrn hfn
  go_upto_region 24 with (first
    | (go_at_call 37; refine CP.out.mono ?_; rintro e w11 ⟨o11, A2, c2, rfl, hn2, st11⟩))
  have T11 := Lib.hid ((T10.out.tr st11).mono (L := KFull 20) (fun i h => by unfold KFull; omega))
  have HE := Lib.hid (show w11.heap[w.heap.size + 1]? = some (.cells #[.string ⟨#[71, 69, 84]⟩, t, mi, .slice A n c] 27 (0, 0)) ∧ w11.heap[w.heap.size + 1 + 1]? = some (.cells #[.int .i64 0, .slice none 0 0, .slice none 0 0] 34 (0, 0)) ∧ o11 (w.heap.size + 1 + 1) = 30 from by
    obtain ⟨_, e2, e3, _⟩ := HB.out _ _ _ (by unfold KFull; omega) (by unfold KFull; omega) T11.out
    exact ⟨e2, e3, (HBO.out _ _ _ T11.out).1⟩)
  have HXX := Lib.hid (fun w' o' (t : Stp (fun i => i = 30) w11 o11 w' o') => HX9.out _ _ (fun i => i = 30 ∨ KFull 20 i) (fun i hi => by unfold KFull at hi; omega) ((T11.out.mono (L := fun i => i = 30 ∨ KFull 20 i) fun _ h => .inr h).tr (t.mono fun _ h => .inl h)))
  obtain ⟨W12, hW12⟩ : ∃ X, X = w11.alloc (.cells #[.int .i64 nn, .slice A2 (fn + 1) c2, .slice B1 rn d1] 34) := ⟨_, rfl⟩
  have hr16 : W12.heap[w11.heap.size]? = some (.cells #[.int .i64 nn, .slice A2 (fn + 1) c2, .slice B1 rn d1] 34 (0, 0)) := by rw [hW12]; exact heap_alloc_new w11 _
  have TB : Stp (fun i => i = 30) w11 o11 W12 (fun b => if b < w11.heap.size then o11 b else 30) := Stp.ext2 (by rw [hW12]; (repeat (first | exact Ext.rfl' _ | assumption | refine Ext.dr ?_ | refine Ext.drN ?_ _ | refine Ext.al ?_ _ | refine Ext.st ?_ (by simp) _ | refine Ext.tr ?_ (by assumption)))) (fun b hb => if_pos hb)
  have TE : Ext w11 W12 := by rw [hW12]; (repeat (first | exact Ext.rfl' _ | assumption | refine Ext.dr ?_ | refine Ext.drN ?_ _ | refine Ext.al ?_ _ | refine Ext.st ?_ (by simp) _ | refine Ext.tr ?_ (by assumption)))
  obtain ⟨o12, ho12⟩ : ∃ x : Ow, x = fun b => if b < w11.heap.size then o11 b else 30 := ⟨_, rfl⟩
  rw [← ho12] at TB
  rw [← hW12]
  have e2 := (TE.block _ (row_lt HE.out.1)).trans HE.out.1
  have e3 := (TE.block _ (row_lt HE.out.2.1)).trans HE.out.2.1
  have oZ := (TB.own _ (row_lt HE.out.2.1)).trans HE.out.2.2
  have u0 := (row_facts e2 0 _ rfl).1
  obtain ⟨z0, g0⟩ := row_facts e3 0 _ rfl
  obtain ⟨z1, g1⟩ := row_facts e3 1 _ rfl
  obtain ⟨z2, g2⟩ := row_facts e3 2 _ rfl
  have y0 := (row_facts hr16 0 _ rfl).1
  have y1 := (row_facts hr16 1 _ rfl).1
  have y2 := (row_facts hr16 2 _ rfl).1
  have TS := fun (a b c : Value) => (show Stp (fun i => i = 30) W12 o12 (((W12.setCell ⟨w.heap.size + 1 + 1, 0, none⟩ a).setCell ⟨w.heap.size + 1 + 1, 1, none⟩ b).setCell ⟨w.heap.size + 1 + 1, 2, none⟩ c) o12 from (Stp.set _ 0 _ (fun _ => oZ)).tr ((Stp.set _ 1 _ (fun _ => oZ)).tr (Stp.set _ 2 _ (fun _ => oZ))))
  have ez := fun (a b c : Value) => row_set (row_set (row_set e3 0 a) 1 b) 2 c
  have hne : ¬ w11.heap.size = w.heap.size + 1 + 1 := fun h => by
    have := row_lt HE.out.2.1
    omega
  have HTS := Lib.hid TS
  have HEZ := Lib.hid ez
  have HTB := Lib.hid TB
  clear hW12 hr16 TB ho12 e2 e3 oZ TS ez TE
  go_wp2
  have q0 := (row_facts (HEZ.out (.int .i64 nn) (.slice A2 (fn + 1) c2) (.slice B1 rn d1)) 0 _ rfl).1
  have q1 := (row_facts (HEZ.out (.int .i64 nn) (.slice A2 (fn + 1) c2) (.slice B1 rn d1)) 1 _ rfl).1
  have q2 := (row_facts (HEZ.out (.int .i64 nn) (.slice A2 (fn + 1) c2) (.slice B1 rn d1)) 2 _ rfl).1
  have TF := HTB.out.tr (HTS.out (.int .i64 nn) (.slice A2 (fn + 1) c2) (.slice B1 rn d1))
  have XF := HXX.out _ _ TF
  refine bodyPost_ret (v := .tuple #[.agg #[.int .i64 nn, .slice A2 (fn + 1) c2, .slice B1 rn d1], .int .i64 0]) (by simp [results, Tryz.results9, go_sem, q0, q1, q2]) rfl ?_
  have hfs : (plainF nn path ++ [lenF rn]).length = fn + 1 := by rw [List.length_append, ← HFN.out]; rfl
  have hsv : serveS (.inr nn) ev path = ⟨nn, plainF nn path ++ [lenF rn], rn, none⟩ := by show plainS nn (plainF nn path) = _; unfold plainS; rw [HRN.out]
  rw [hsv]
  refine ⟨A2, c2, B1, d1, ?_, XF, (hn2.sl.stp TF (by omega)).rd, fun b hb => by cases hb⟩
  unfold respV
  dsimp only
  rw [hfs]
end Go.Proofs.YtemdgilifnhdpaaGreatDoor
