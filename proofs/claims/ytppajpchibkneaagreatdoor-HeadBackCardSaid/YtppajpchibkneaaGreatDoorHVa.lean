/-
Head's Feed, whole; what a parser tells: Request, Response.
-/
import Derived.Test.YtppajpchibkneaaGreatDoorHUa
set_option linter.unusedVariables false
set_option linter.unusedSimpArgs false
/-
Head's Feed, whole; what a parser tells: Request, Response.
-/
section
namespace Go.Proofs.YtppajpchibkneaaGreatDoor
open Go.RowKit Go.Extern.Stop Go.Stop Go.Extern

/-- A parser that was made: done, given up, or one that may go on. -/
def Pgo (s : Pst) : Prop := s.done = true ∨ s.e ≠ 0 ∨ Pok s
theorem hFeed_c (k P : Nat) (hk : 0 < k) (s : Pst) (hs : Pgo s) (b : List UInt8) (B : Option Addr) (n d : Nat) (hn : n = b.length) (hb : n ≤ 4611686018427387904) (w : World) (o : Ow) (h : PsAt w o k P s) (hG : Gl w o) (hB : Rd w B (bc b)) (hBo : b ≠ [] → ∀ a, B = some a → a.block < w.heap.size → ¬ KP k (o a.block)) :
    Calls Tryz.prog 14 #[.pointer (some ⟨P, 0, none⟩), .slice B n d] w (Turns (KP k) w o fun v w' o' => v = feedV (feedP s b) ∧ PsAt w' o' k P (feedP s b).1) := by
  rcases hs with h1 | h1 | h1
  · exact hFeed_shut k P s (.inl h1) b B n d w o h
  · exact hFeed_shut k P s (.inr h1) b B n d w o h
  · exact hFeed_on k P hk s h1 b B n d hn hb w o h hG hB hBo
theorem hFeed_nil (B : Option Addr) (n d : Nat) (w : World) :
    Calls Tryz.prog 14 #[.pointer none, .slice B n d] w (Gives (.tuple #[.int .i64 0, .bool false, .int .i64 1]) w) := by
  go_enter_defers Tryz.func14, Tryz.ntmps14
  go_wp2
  refine ⟨.tuple #[.int .i64 0, .bool false, .int .i64 1], by simp [results, Tryz.results14, go_sem], ?_⟩
  exact ⟨rfl, by (repeat (first | exact Ext.rfl' _ | assumption | refine Ext.dr ?_ | refine Ext.drN ?_ _ | refine Ext.al ?_ _ | refine Ext.st ?_ (by simp) _ | refine Ext.tr ?_ (by assumption)))⟩
set_option maxRecDepth 100000 in
set_option maxHeartbeats 1000000 in
theorem hFeed_unmade (P : Nat) (B : Option Addr) (n d : Nat) (w : World) (h : w.cell? ⟨P, 0, none⟩ = some (.bool false)) :
    Calls Tryz.prog 14 #[.pointer (some ⟨P, 0, none⟩), .slice B n d] w (Gives (.tuple #[.int .i64 0, .bool false, .int .i64 1]) w) := by
  have e3 : ∀ x y z, (((w.alloc x).alloc y).alloc z).cell? ⟨P, 0, none⟩ = some (.bool false) := fun x y z => ((((Ext.rfl' w).al x).al y).al z).cell (lt_of_cell h) |>.trans h
  clear h
  go_enter_defers Tryz.func14, Tryz.ntmps14
  go_wp2
  refine ⟨.tuple #[.int .i64 0, .bool false, .int .i64 1], by simp [results, Tryz.results14, go_sem], ?_⟩
  exact ⟨rfl, by (repeat (first | exact Ext.rfl' _ | assumption | refine Ext.dr ?_ | refine Ext.drN ?_ _ | refine Ext.al ?_ _ | refine Ext.st ?_ (by simp) _ | refine Ext.tr ?_ (by assumption)))⟩
/-- What a parser tells of a request. -/
def askP (s : Pst) : List UInt8 × List UInt8 × Int × List Fld := if (s.done && !s.reply) = true then (s.meth, s.targ, s.minor, s.fields) else ([], [], 0, [])
def IsRq (r : List UInt8 × List UInt8 × Int × List Fld) (v : Value) (w : World) : Prop := ∃ A c, v = .agg #[.string (str r.1), .string (str r.2.1), .int .i64 r.2.2.1, .slice A r.2.2.2.length c] ∧ Rd w A (fc r.2.2.2)
set_option maxRecDepth 100000 in
set_option maxHeartbeats 1000000 in
theorem hAsk_nil (w : World) : Calls Tryz.prog 16 #[.pointer none] w (Ret (IsRq ([], [], 0, [])) w) := by
  go_enter Tryz.func16, Tryz.ntmps16
  go_wp2
  refine bodyPost_ret (v := .agg #[.string ⟨#[]⟩, .string ⟨#[]⟩, .int .i64 0, .slice none 0 0]) (by simp [results, Tryz.results16, go_sem]) rfl ?_
  exact Ret.mk ⟨none, 0, rfl, .inl rfl⟩ (by (repeat (first | exact Ext.rfl' _ | assumption | refine Ext.dr ?_ | refine Ext.drN ?_ _ | refine Ext.al ?_ _ | refine Ext.st ?_ (by simp) _ | refine Ext.tr ?_ (by assumption))))
set_option maxRecDepth 100000 in
set_option maxHeartbeats 1000000 in
/-- A parser that is none: nothing is told. -/
theorem hAsk_no (P : Nat) (d r : Bool) (hdr : (d && !r) = false) (w : World) (h4 : w.cell? ⟨P, 4, none⟩ = some (.bool d)) (h1 : w.cell? ⟨P, 1, none⟩ = some (.bool r)) :
    Calls Tryz.prog 16 #[.pointer (some ⟨P, 0, none⟩)] w (Ret (IsRq ([], [], 0, [])) w) := by
  have c4 : ∀ x, (w.alloc x).cell? ⟨P, 4, none⟩ = some (.bool d) := fun x => (((Ext.rfl' w).al x).cell (lt_of_cell h4)).trans h4
  have c1 : ∀ x, (w.alloc x).cell? ⟨P, 1, none⟩ = some (.bool r) := fun x => (((Ext.rfl' w).al x).cell (lt_of_cell h1)).trans h1
  clear h4 h1
  cases d with
  | false =>
    clear hdr
    go_enter Tryz.func16, Tryz.ntmps16
    go_wp2
    refine bodyPost_ret (v := .agg #[.string ⟨#[]⟩, .string ⟨#[]⟩, .int .i64 0, .slice none 0 0]) (by simp [results, Tryz.results16, go_sem]) rfl ?_
    exact Ret.mk ⟨none, 0, rfl, .inl rfl⟩ (by (repeat (first | exact Ext.rfl' _ | assumption | refine Ext.dr ?_ | refine Ext.drN ?_ _ | refine Ext.al ?_ _ | refine Ext.st ?_ (by simp) _ | refine Ext.tr ?_ (by assumption))))
  | true =>
    cases r with
    | false => cases hdr
    | true =>
      clear hdr
      go_enter Tryz.func16, Tryz.ntmps16
      go_wp2
      refine bodyPost_ret (v := .agg #[.string ⟨#[]⟩, .string ⟨#[]⟩, .int .i64 0, .slice none 0 0]) (by simp [results, Tryz.results16, go_sem]) rfl ?_
      exact Ret.mk ⟨none, 0, rfl, .inl rfl⟩ (by (repeat (first | exact Ext.rfl' _ | assumption | refine Ext.dr ?_ | refine Ext.drN ?_ _ | refine Ext.al ?_ _ | refine Ext.st ?_ (by simp) _ | refine Ext.tr ?_ (by assumption))))
theorem two_rows {w w1 : World} {x y : Array Value} {t u : TypeId} (e : Ext ((w.alloc (.cells x t)).alloc (.cells y u)) w1) : w1.heap[w.heap.size]? = some (.cells x t (0, 0)) ∧ w1.heap[w.heap.size + 1]? = some (.cells y u (0, 0)) := by
  have hz : (w.alloc (.cells x t)).heap.size = w.heap.size + 1 := by simp
  have h1 := heap_alloc_new (w.alloc (.cells x t)) (.cells y u)
  rw [hz] at h1
  exact ⟨(e.block w.heap.size (by simp; omega)).trans ((((Ext.rfl' (w.alloc _)).al _).block w.heap.size (by simp)).trans (heap_alloc_new w (.cells x t))), (e.block (w.heap.size + 1) (by simp)).trans h1⟩
set_option maxRecDepth 100000 in
set_option maxHeartbeats 1000000 in
theorem hAsk_yes (k P : Nat) (s : Pst) (hd : s.done = true) (hr : s.reply = false) (hf : s.fields.length ≤ 1000000) (w : World) (o : Ow) (h : PsAt w o k P s) :
    Calls Tryz.prog 16 #[.pointer (some ⟨P, 0, none⟩)] w (Ret (IsRq (s.meth, s.targ, s.minor, s.fields)) w) := by
  obtain ⟨A, c, B, d, hrow, h1, h2, h3, h4⟩ := h.row
  have HR := Lib.hid hrow
  have HF := Lib.hid h3.rd
  have cs : ∀ x, (w.alloc x).cell? ⟨P, 4, none⟩ = some (.bool true) ∧ (w.alloc x).cell? ⟨P, 1, none⟩ = some (.bool false) ∧ (w.alloc x).cell? ⟨P, 9, none⟩ = some (.string (str s.meth)) ∧ (w.alloc x).cell? ⟨P, 10, none⟩ = some (.string (str s.targ)) ∧ (w.alloc x).cell? ⟨P, 11, none⟩ = some (.int .i64 s.minor) ∧ (w.alloc x).cell? ⟨P, 12, none⟩ = some (.slice none 0 0) := fun x => by
    have hx := HR.out.ext ((Ext.rfl' w).al x)
    exact ⟨by rw [← hd]; exact hx.c4, by rw [← hr]; exact hx.c1, (row_facts hx 9 _ rfl).1, (row_facts hx 10 _ rfl).1, (row_facts hx 11 _ rfl).1, (row_facts hx 12 _ rfl).1⟩
  have c15 : ∀ x y, ((w.alloc x).alloc y).cell? ⟨P, 15, none⟩ = some (.slice B s.fields.length d) := fun x y => (HR.out.ext (((Ext.rfl' w).al x).al y)).c15
  have a0 := fun x => (cs x).1
  have a1 := fun x => (cs x).2.1
  have a2 := fun x => (cs x).2.2.1
  have a3 := fun x => (cs x).2.2.2.1
  have a4 := fun x => (cs x).2.2.2.2.1
  have a5 := fun x => (cs x).2.2.2.2.2
  clear cs hrow h1 h2 h3 h4 h hd hr
  go_enter Tryz.func16, Tryz.ntmps16
  go_wp2_with (go_at_call 34; refine (hClone_c 9 s.fields B _ d rfl hf _ (fun x => if x < w.heap.size then o x else 8) (HF.out.ext (by (repeat (first | exact Ext.rfl' _ | assumption | refine Ext.dr ?_ | refine Ext.drN ?_ _ | refine Ext.al ?_ _ | refine Ext.st ?_ (by simp) _ | refine Ext.tr ?_ (by assumption)))))).mono ?_; rintro e w1 ⟨v, o1, rfl, ⟨A1, c1, rfl, hs1, hn1⟩, st1⟩; obtain ⟨g0, g1⟩ := two_rows st1.noExt; obtain ⟨p0, pf0⟩ := row_facts g0 0 _ rfl; obtain ⟨p1, pf1⟩ := row_facts g0 1 _ rfl; obtain ⟨p2, pf2⟩ := row_facts g0 2 _ rfl; obtain ⟨p3, pf3⟩ := row_facts g0 3 _ rfl; obtain ⟨q0, qf0⟩ := row_facts g1 0 _ rfl; obtain ⟨q1, qf1⟩ := row_facts g1 1 _ rfl; obtain ⟨q2, qf2⟩ := row_facts g1 2 _ rfl; obtain ⟨q3, qf3⟩ := row_facts g1 3 _ rfl)
  have hx1 : Ext w w1 := (((Ext.rfl' w).al _).al _).tr st1.noExt
  have u0 : o1 w.heap.size = 8 := (st1.own _ (by simp; omega)).trans (if_neg (by omega))
  have u1 : o1 (w.heap.size + 1) = 8 := (st1.own _ (by simp)).trans (if_neg (by omega))
  refine bodyPost_ret (v := .agg #[.string (str s.meth), .string (str s.targ), .int .i64 s.minor, .slice A1 s.fields.length c1]) (by simp [results, Tryz.results16, go_sem, p0, p1, p2, p3]) rfl ?_
  refine Ret.mk ⟨A1, c1, rfl, ?_⟩ (Ext.st (Ext.st (Ext.st (Ext.st (Ext.st hx1 (by simp) _) (by simp) _) (by simp) _) (by simp) _) (by simp) _)
  have t1 : Stp (fun i => i = 8) w1 o1 _ o1 := Stp.set (w.heap.size + 1) 3 (.slice A1 s.fields.length c1) (fun _ => u1)
  exact (hs1.stp ((((t1.tr (Stp.set w.heap.size 0 _ (fun _ => u0))).tr (Stp.set w.heap.size 1 _ (fun _ => u0))).tr (Stp.set w.heap.size 2 _ (fun _ => u0))).tr (Stp.set w.heap.size 3 _ (fun _ => u0))) (by omega)).rd
/-- What a parser tells of a request. -/
theorem hAsk_c (k P : Nat) (s : Pst) (hf : s.fields.length ≤ 1000000) (w : World) (o : Ow) (h : PsAt w o k P s) : Calls Tryz.prog 16 #[.pointer (some ⟨P, 0, none⟩)] w (Ret (IsRq (askP s)) w) := by
  unfold askP
  cases hd : (s.done && !s.reply) with
  | true =>
    rw [if_pos rfl]
    rw [Bool.and_eq_true] at hd
    exact hAsk_yes k P s hd.1 (by simpa using hd.2) hf w o h
  | false =>
    rw [if_neg (by decide)]
    obtain ⟨A, c, B, d, hr, _⟩ := h.row
    exact hAsk_no P s.done s.reply hd w hr.c4 hr.c1
end Go.Proofs.YtppajpchibkneaaGreatDoor
end

/-
What a parser tells: Response.
-/
section
namespace Go.Proofs.YtppajpchibkneaaGreatDoor
open Go.RowKit

def tellP (s : Pst) : Int × Int × List UInt8 × List Fld := if (s.done && s.reply) = true then (s.status, s.minor, s.reason, s.fields) else (0, 0, [], [])
def IsRs (r : Int × Int × List UInt8 × List Fld) (v : Value) (w : World) : Prop := ∃ A c, v = .tuple #[.int .i64 r.1, .int .i64 r.2.1, .string (str r.2.2.1), .slice A r.2.2.2.length c] ∧ Rd w A (fc r.2.2.2)
theorem hTell_nil (w : World) : Calls Tryz.prog 17 #[.pointer none] w (Ret (IsRs (0, 0, [], [])) w) := by
  go_enter Tryz.func17, Tryz.ntmps17
  go_wp2
  refine bodyPost_ret (v := .tuple #[.int .i64 0, .int .i64 0, .string ⟨#[]⟩, .slice none 0 0]) (by simp [results, Tryz.results17, go_sem]) rfl ?_
  exact Ret.mk ⟨none, 0, rfl, .inl rfl⟩ (by (repeat (first | exact Ext.rfl' _ | assumption | refine Ext.dr ?_ | refine Ext.drN ?_ _ | refine Ext.al ?_ _ | refine Ext.st ?_ (by simp) _ | refine Ext.tr ?_ (by assumption))))
set_option maxRecDepth 100000 in
set_option maxHeartbeats 1000000 in
theorem hTell_no (P : Nat) (d r : Bool) (hdr : (d && r) = false) (w : World) (h4 : w.cell? ⟨P, 4, none⟩ = some (.bool d)) (h1 : w.cell? ⟨P, 1, none⟩ = some (.bool r)) :
    Calls Tryz.prog 17 #[.pointer (some ⟨P, 0, none⟩)] w (Ret (IsRs (0, 0, [], [])) w) := by
  cases d with
  | false =>
    clear hdr
    go_enter Tryz.func17, Tryz.ntmps17
    go_wp2
    refine bodyPost_ret (v := .tuple #[.int .i64 0, .int .i64 0, .string ⟨#[]⟩, .slice none 0 0]) (by simp [results, Tryz.results17, go_sem]) rfl ?_
    exact Ret.mk ⟨none, 0, rfl, .inl rfl⟩ (by (repeat (first | exact Ext.rfl' _ | assumption | refine Ext.dr ?_ | refine Ext.drN ?_ _ | refine Ext.al ?_ _ | refine Ext.st ?_ (by simp) _ | refine Ext.tr ?_ (by assumption))))
  | true =>
    cases r with
    | true => cases hdr
    | false =>
      clear hdr
      go_enter Tryz.func17, Tryz.ntmps17
      go_wp2
      refine bodyPost_ret (v := .tuple #[.int .i64 0, .int .i64 0, .string ⟨#[]⟩, .slice none 0 0]) (by simp [results, Tryz.results17, go_sem]) rfl ?_
      exact Ret.mk ⟨none, 0, rfl, .inl rfl⟩ (by (repeat (first | exact Ext.rfl' _ | assumption | refine Ext.dr ?_ | refine Ext.drN ?_ _ | refine Ext.al ?_ _ | refine Ext.st ?_ (by simp) _ | refine Ext.tr ?_ (by assumption))))
set_option maxRecDepth 100000 in
set_option maxHeartbeats 4000000 in
theorem hTell_yes (k P : Nat) (s : Pst) (hd : s.done = true) (hr : s.reply = true) (hf : s.fields.length ≤ 1000000) (w : World) (o : Ow) (h : PsAt w o k P s) :
    Calls Tryz.prog 17 #[.pointer (some ⟨P, 0, none⟩)] w (Ret (IsRs (s.status, s.minor, s.reason, s.fields)) w) := by
  obtain ⟨A, c, B, d, hrow, h1, h2, h3, h4⟩ := h.row
  have HR := Lib.hid hrow
  have HF := Lib.hid h3.rd
  have c4 := hrow.c4
  have c1 := hrow.c1
  rw [hd] at c4
  rw [hr] at c1
  obtain ⟨fs, hfs⟩ : ∃ q, q = s.fields := ⟨_, rfl⟩
  obtain ⟨ms, hms⟩ : ∃ q, q = s.minor := ⟨_, rfl⟩
  obtain ⟨ss, hss⟩ : ∃ q, q = s.status := ⟨_, rfl⟩
  obtain ⟨rs, hrs⟩ : ∃ q, q = str s.reason := ⟨_, rfl⟩
  have hks := Lib.hid (fun w' (e : Ext w w') => (show w'.cell? ⟨P, 11, none⟩ = some (.int .i64 ms) ∧ w'.cell? ⟨P, 13, none⟩ = some (.int .i64 ss) ∧ w'.cell? ⟨P, 14, none⟩ = some (.string rs) ∧ w'.cell? ⟨P, 15, none⟩ = some (.slice B fs.length d) from by
    have hx := HR.out.ext e
    rw [hms, hss, hrs, hfs]
    exact ⟨(row_facts hx 11 _ rfl).1, (row_facts hx 13 _ rfl).1, (row_facts hx 14 _ rfl).1, hx.c15⟩))
  obtain ⟨a0, a1, a2, a3⟩ := hks.out w (Ext.rfl' w)
  have HRS := Lib.hid hrs
  rw [← hfs] at HF hf
  rw [← hfs, ← hms, ← hss]
  have CC := Lib.hid (fun w' h' => hClone_c 9 fs B _ d rfl hf w' o h')
  clear hrow h1 h2 h3 h4 h hd hr hfs hms hss hrs HR
  go_enter Tryz.func17, Tryz.ntmps17
  go_wp2
  go_region_held3 (fun w' => w'.cell? ⟨P, 11, none⟩ = some (.int .i64 ms) ∧ w'.cell? ⟨P, 13, none⟩ = some (.int .i64 ss) ∧ w'.cell? ⟨P, 14, none⟩ = some (.string rs) ∧ w'.cell? ⟨P, 15, none⟩ = some (.slice B fs.length d)) (exact hks.out _ (by (repeat (first | exact Ext.rfl' _ | assumption | refine Ext.dr ?_ | refine Ext.drN ?_ _ | refine Ext.al ?_ _ | refine Ext.st ?_ (by simp) _ | refine Ext.tr ?_ (by assumption))))) (first
    | (go_at_call 34; refine (CC.out _ (HF.out.ext (by (repeat (first | exact Ext.rfl' _ | assumption | refine Ext.dr ?_ | refine Ext.drN ?_ _ | refine Ext.al ?_ _ | refine Ext.st ?_ (by simp) _ | refine Ext.tr ?_ (by assumption)))))).mono ?_; rintro e w1 ⟨v, o1, rfl, ⟨A1, c1, rfl, hs1, hn1⟩, st1⟩; have hx1 := st1.noExt))
  all_goals go_wp2
  all_goals (
    refine bodyPost_ret (v := .tuple #[.int .i64 ss, .int .i64 ms, .string rs, .slice A1 fs.length c1]) (by simp [results, Tryz.results17, go_sem]) rfl ?_
    exact Ret.mk ⟨A1, c1, by rw [HRS.out], hs1.rd⟩ (Ext.tr (by (repeat (first | exact Ext.rfl' _ | assumption | refine Ext.dr ?_ | refine Ext.drN ?_ _ | refine Ext.al ?_ _ | refine Ext.st ?_ (by simp) _ | refine Ext.tr ?_ (by assumption)))) hx1))
theorem hTell_c (k P : Nat) (s : Pst) (hf : s.fields.length ≤ 1000000) (w : World) (o : Ow) (h : PsAt w o k P s) : Calls Tryz.prog 17 #[.pointer (some ⟨P, 0, none⟩)] w (Ret (IsRs (tellP s)) w) := by
  unfold tellP
  cases hd : (s.done && s.reply) with
  | true =>
    rw [if_pos rfl]
    rw [Bool.and_eq_true] at hd
    exact hTell_yes k P s hd.1 hd.2 hf w o h
  | false =>
    rw [if_neg (by decide)]
    obtain ⟨A, c, B, d, hr, _⟩ := h.row
    exact hTell_no P s.done s.reply hd w hr.c4 hr.c1
end Go.Proofs.YtppajpchibkneaaGreatDoor
end
