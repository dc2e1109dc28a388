/-
A world: Put, where it is put.
-/
import Derived.Test.YtemdgilifnhdpaaGreatDoorZar
import Derived.BigRegion
set_option linter.unusedVariables false
set_option linter.unusedSimpArgs false
section
namespace Go.Proofs.YtemdgilifnhdpaaGreatDoor
open Go.RowKit

theorem lk_of_mem {α : Type} {M : List (List UInt8 × α)} (h : OneM M) {x : List UInt8 × α} (hx : x ∈ M) : lkM M x.1 = some x.2 := by
  induction M with
  | nil => cases hx
  | cons y r ih =>
    obtain ⟨k, u⟩ := y
    have h1 := List.pairwise_cons.1 h
    unfold lkM
    rcases List.mem_cons.1 hx with e | hx
    · subst e; simp
    · rw [if_neg (h1.1 x hx)]; exact ih h1.2 hx
theorem WdAt.more {w w' : World} {o o' : Ow} {k p : Nat} {s : Wrl} {mb : Nat} {pl : List UInt8 → Option Addr × Nat} (ho : o p = k) (hh : Wrow w p s mb) (hm : o mb = k + 1) (hl : mb < w.heap.size)
    (hs : ∀ x ∈ s.L, Sl w o (k + 2) 1 (pl x.1).1 x.2.b.length (pl x.1).2 (bc x.2.b) ∧ ((pl x.1).1 = none → (pl x.1).2 = 0)) (st : Stp (fun i => i = k + 1) w o w' o') (one : OneM s.L)
    {l b : List UInt8} {A : Option Addr} {c : Nat} {mt vi : Int} {ve : Nat} (hve : vi = (ve : Int)) {v : Value} (hv : v = .agg #[.string (str l), .slice A b.length c, .int .i64 mt, .int .i64 vi]) (hi : World.isM w' Tryz.prog 9 mb (putM (enc pl s.L) l v))
    (hb : Sl w' o' (k + 2) 1 A b.length c (bc b)) (hn : A = none → c = 0) : WdAt w' o' k p ⟨putM s.L l ⟨b, mt, ve⟩, s.now, s.ver⟩ := by
  subst hv
  have e1 : putM (enc pl s.L) l (.agg #[.string (str l), .slice A b.length c, .int .i64 mt, .int .i64 vi]) = enc (fun x => if x = l then (A, c) else pl x) (putM s.L l ⟨b, mt, ve⟩) := by
    have := put_map (f := fun k v => entV k (pl k) v) (g := fun k v => entV k (if k = l then (A, c) else pl k) v) one (l := l) (fun k hk => by funext v; simp only [if_neg hk]) ⟨b, mt, ve⟩
    simp only [if_true] at this
    unfold enc
    rw [← this, hve]; rfl
  rw [e1] at hi
  refine ⟨by rw [st.own p (row_lt hh)]; exact ho, mb, _, hh.stp st (by rw [ho]; omega), by rw [st.own mb hl]; exact hm, Nat.lt_of_lt_of_le hl st.size, hi, fun x hx => ?_⟩
  by_cases hx1 : x.1 = l
  · simp only [if_pos hx1]
    have hlk : lkM (putM s.L l ⟨b, mt, ve⟩) x.1 = some ⟨b, mt, ve⟩ := by rw [hx1]; exact lk_put_same _ _ _
    have hx2 : x.2 = ⟨b, mt, ve⟩ := by
      have := lk_of_mem (one.put l ⟨b, mt, ve⟩) hx
      rw [hlk] at this; injection this with this; exact this.symm
    rw [hx2]; exact ⟨hb, hn⟩
  · simp only [if_neg hx1]
    rcases mem_put hx with e | hx
    · subst e; exact absurd rfl hx1
    · exact ⟨(hs x hx).1.stp st (by omega), (hs x hx).2⟩
set_option maxRecDepth 100000 in
set_option maxHeartbeats 4000000 in
theorem wPut_good (w : World) (o : Ow) (k p : Nat) (s : Wrl) (h : WdAt w o k p s) (hk : Wok s) (l b : List UInt8) (hl : l.length ≤ 140737488355328) (B : Option Addr) (n d : Nat) (hn : n = b.length) (hB : Rd w B (bc b)) (hBn : B = none → d = 0) (hBk : b = [] ∨ ∀ a, B = some a → a.block < w.heap.size → ¬ o a.block = k) (hp : pathF l = true) (hv : s.ver < 4611686018427387904)
    (hbig : ¬ 1048576 < n) (hfew : (lkM s.L l).isSome = true ∨ s.L.length ≠ 1000) :
    Calls Tryz.prog 24 #[.pointer (some ⟨p, 0, none⟩), .string (str l), .slice B n d] w (Turns (KW k) w o fun v w' o' => v = .int .i64 0 ∧ WdAt w' o' k p ⟨putM s.L l ⟨b, s.now, s.ver + 1⟩, s.now, s.ver + 1⟩) := by
  have HWD := Lib.hid h
  have HBR := Lib.hid hB
  have HBL := Lib.hid hn
  have HBK := Lib.hid hBk
  clear hB hn hBk
  obtain ⟨mb, pl, hh, hm, hlt, hi, hs⟩ := h.row
  have hlm : l.length ≤ maxLen := by simp only [maxLen]; omega
  have HH := Lib.hid (fun w' (e : Ext w w') => hh.ext e)
  have HI := Lib.hid (fun w' (e : Ext w w') => World.isM.same hi (e.block mb hlt))
  have hl2 : (str l).size ≤ 9223372036854775807 := by rw [str_size]; omega
  obtain ⟨hp1, hp2⟩ := path_ok hp
  have C := fun w => Clean_c l hl w
  rw [hp1] at C
  dsimp only at C
  have S := fun w => Tryz.strings_HasSuffix (str l) ⟨#[47]⟩ w hl2
  rw [str_data, hp2] at S
  have HK0 := lk_enc pl s.L l
  have hen := enc_len pl s.L
  have LEN := Lib.hid hen
  have C := Lib.hid C
  have S := Lib.hid S
  have b1 : ¬ (1048576 : Int) < (n : Int) := by omega
  obtain ⟨vi, hvi⟩ : ∃ vi : Int, vi = (s.ver : Int) := ⟨_, rfl⟩
  have hvw : IntKind.i64.wrap (vi + 1) = vi + 1 := by rw [IntKind.wrap_i64]; omega
  have HV := Lib.hid hvi
  cases hf : lkM s.L l with
  | none =>
    rw [hf] at HK0 hfew
    have HK := Lib.hid HK0
    have hfew2 : ((s.L.length : Int) == 1000) = false := by
      rw [beq_eq_false_iff_ne]
      rcases hfew with h | h
      · cases h
      · omega
    clear HK0 hp1 hp2 hp hen hf hfew hvi h hh hi
    go_enter Tryz.func24, Tryz.ntmps24
    go_wp2_with (first
      | (go_at_call 55; refine (C.out _).mono ?_; rintro e w1 ⟨rfl, hx1⟩; have c1 := (HH.out w1 hx1).c0)
      | (go_at_call 49; refine (none_no p mb _ c1).mono ?_; rintro e w2 ⟨rfl, hx2⟩)
      | (go_at_call 56; refine (S.out _).mono ?_; rintro e w3 ⟨rfl, rfl⟩; have hx3 := hx1.tr hx2; have HX3 := Lib.hid hx3; have hi3 := HI.out _ hx3; have c3 := (HH.out _ hx3).c0)
      | (at_lookup; refine wpL_look rfl _ _ 44 rfl 110 keyedS mapU Tryz.underlying9 (Tryz.zeroValue110 _) rfl hi3 l hlm rfl ?_; rw [HK.out]; simp only [Option.getD_some, Option.isSome_some, Option.getD_none, Option.isSome_none]; have c00 := fun x => ((HH.out _ hx3).ext (show Ext _ (w3.alloc x) by (repeat (first | exact Ext.rfl' _ | assumption | refine Ext.dr ?_ | refine Ext.drN ?_ _ | refine Ext.al ?_ _ | refine Ext.st ?_ (by simp) _ | refine Ext.tr ?_ (by assumption))))).c0; have c02 := fun x => ((HH.out _ hx3).ext (show Ext _ (w3.alloc x) by (repeat (first | exact Ext.rfl' _ | assumption | refine Ext.dr ?_ | refine Ext.drN ?_ _ | refine Ext.al ?_ _ | refine Ext.st ?_ (by simp) _ | refine Ext.tr ?_ (by assumption))))).c2; have f02 := fun x => ((HH.out _ hx3).ext (show Ext _ (w3.alloc x) by (repeat (first | exact Ext.rfl' _ | assumption | refine Ext.dr ?_ | refine Ext.drN ?_ _ | refine Ext.al ?_ _ | refine Ext.st ?_ (by simp) _ | refine Ext.tr ?_ (by assumption))))).fz 2 (by omega); have hlen := fun x ty => (World.isM.same hi3 ((show Ext w3 (w3.alloc x) by (repeat (first | exact Ext.rfl' _ | assumption | refine Ext.dr ?_ | refine Ext.drN ?_ _ | refine Ext.al ?_ _ | refine Ext.st ?_ (by simp) _ | refine Ext.tr ?_ (by assumption)))).block mb (Nat.lt_of_lt_of_le hlt hx3.size))).len mapU ty; simp only [LEN.out] at hlen))
    have x2 : Ext w3 (w3.alloc (.cells #[.string ⟨#[]⟩, .slice none 0 0, .int .i64 0, .int .i64 0] 110)) := by (repeat (first | exact Ext.rfl' _ | assumption | refine Ext.dr ?_ | refine Ext.drN ?_ _ | refine Ext.al ?_ _ | refine Ext.st ?_ (by simp) _ | refine Ext.tr ?_ (by assumption)))
    obtain ⟨W1, hW1⟩ : ∃ W1, W1 = w3.alloc (.cells #[.string ⟨#[]⟩, .slice none 0 0, .int .i64 0, .int .i64 0] 110) := ⟨_, rfl⟩
    rw [← hW1] at x2 ⊢
    clear c00 c02 f02 hlen
    have HWR := (HH.out _ HX3.out).ext x2
    have HW1 := (HWD.out.ext HX3.out).ext x2
    have hi4 := World.isM.same (HI.out _ HX3.out) (x2.block mb (Nat.lt_of_lt_of_le hlt HX3.out.size))
    have st2 : Stp (fun i => i = k) W1 o (W1.setCell ⟨p, 2, none⟩ (.int .i64 ((s.ver : Int) + 1))) o := Stp.set p 2 _ (fun _ => HWD.out.own)
    have hw2 : Wrow (W1.setCell ⟨p, 2, none⟩ (.int .i64 ((s.ver : Int) + 1))) p ⟨s.L, s.now, s.ver + 1⟩ mb := row_set HWR 2 _
    have hi5 : World.isM (W1.setCell ⟨p, 2, none⟩ (.int .i64 ((s.ver : Int) + 1))) Tryz.prog 9 mb (enc pl s.L) := World.isM.same hi4 (st2.keep mb (Nat.lt_of_lt_of_le (Nat.lt_of_lt_of_le hlt HX3.out.size) x2.size) (by rw [hm]; omega))
    obtain ⟨W2, hW2⟩ : ∃ W2, W2 = W1.setCell ⟨p, 2, none⟩ (.int .i64 ((s.ver : Int) + 1)) := ⟨_, rfl⟩
    rw [← hW2] at st2 hw2 hi5 ⊢
    have F := Lib.hid (fun w' (e : Ext W2 w') => (show w'.cell? ⟨p, 0, none⟩ = some (.map (some mb)) ∧ w'.cell? ⟨p, 1, none⟩ = some (.int .i64 s.now) ∧ w'.cell? ⟨p, 2, none⟩ = some (.int .i64 ((s.ver : Int) + 1)) from ⟨(hw2.ext e).c0, (hw2.ext e).c1, (hw2.ext e).c2⟩))
    have HBR2 : Hid (Rd W2 B (bc b)) := Lib.hid (by rcases HBK.out with h0 | h0; exact .inl (by rw [h0]; rfl); exact HBR.out.stp ((Stp.ext (HX3.out.tr x2)).tr st2) h0)
    have hlt5 : mb < W2.heap.size := Nat.lt_of_lt_of_le (Nat.lt_of_lt_of_le (Nat.lt_of_lt_of_le hlt HX3.out.size) x2.size) st2.size
    have hlm5 : Hid ((enc pl s.L).length < maxLen) := Lib.hid (by rw [LEN.out]; have := hk.few; simp only [maxLen]; omega)
    have hpl : p < W2.heap.size := row_lt hw2
    have hpo : o p = k := HWD.out.own
    have hop5 : ∀ (w5 : World) (o5 : Ow), Stp (fun _ => False) W2.drew o w5 o5 → ¬ o5 p = k + 1 := fun w5 o5 st => by rw [st.own p hpl, hpo]; omega
    clear hW1 hW2
    have u0 := (F.out W2 (Ext.rfl' _)).1
    have u1 := (F.out W2 (Ext.rfl' _)).2.1
    have u2 := (F.out W2 (Ext.rfl' _)).2.2
    go_region_held3 (fun w' => w'.cell? ⟨p, 0, none⟩ = some (.map (some mb)) ∧ w'.cell? ⟨p, 1, none⟩ = some (.int .i64 s.now) ∧ w'.cell? ⟨p, 2, none⟩ = some (.int .i64 ((s.ver : Int) + 1))) (first | exact ⟨by assumption, by assumption, by assumption⟩ | (apply F.out; (repeat (first | exact Ext.rfl' _ | assumption | refine Ext.dr ?_ | refine Ext.drN ?_ _ | refine Ext.al ?_ _ | refine Ext.st ?_ (by simp) _ | refine Ext.tr ?_ (by assumption))))) (first
      | (go_at_call 52; refine (sClone_c (k + 2) b B n d HBL.out hBn _ o (HBR2.out.ext (by (repeat (first | exact Ext.rfl' _ | assumption | refine Ext.dr ?_ | refine Ext.drN ?_ _ | refine Ext.al ?_ _ | refine Ext.st ?_ (by simp) _ | refine Ext.tr ?_ (by assumption))))) (by omega)).mono ?_; rintro e w5 ⟨v5, o5, rfl, ⟨A5, c5, rfl, hs5, hn5⟩, st5⟩; have X5 : Ext W2 w5 := Ext.undr st5.noExt; have q0 := (F.out w5 (Ext.undr st5.noExt)).1; have q1 := (F.out w5 (Ext.undr st5.noExt)).2.1; have q2 := (F.out w5 (Ext.undr st5.noExt)).2.2; have hi6 := World.isM.same hi5 ((Ext.undr st5.noExt).block mb hlt5); obtain ⟨w6, hr6, hi7, ht7⟩ := hi6.put keyedS mapU Tryz.underlying9 (hlm5.out) hlm (.agg #[.string (str l), .slice A5 n c5, .int .i64 s.now, .int .i64 ((s.ver : Int) + 1)]); have hr6 : (Instr.mapUpdate 44 (.map (some mb)) (.string (str l)) (.agg #[.string (str l), .slice A5 n c5, .int .i64 s.now, .int .i64 ((s.ver : Int) + 1)])).run Tryz.prog w5 = .ok () w6 := hr6; have hop : ¬ o5 p = k + 1 := hop5 _ _ st5; have st7 : Stp (fun i => i = k + 1) w5 o5 w6 o5 := mt_stp ht7 (fun _ => by rw [st5.own mb hlt5]; exact hm); have r0 := st7.cell (a := ⟨p, 0, none⟩) hop q0; have r1 := st7.cell (a := ⟨p, 1, none⟩) hop q1; have r2 := st7.cell (a := ⟨p, 2, none⟩) hop q2))
    go_wp2
    go_ret
    have stA : Stp (fun i => i = k) w o W2 o := (Stp.ext (HX3.out.tr x2)).tr st2
    have stB : Stp (fun i => i = k + 1) W2 o w6 o5 := ((Stp.ext (Ext.dr (Ext.rfl' _))).tr (st5.mono fun _ x => x.elim)).tr st7
    have hb6 := hs5.stp st7 (by omega)
    rw [HBL.out] at hi7 hb6
    exact Turns.mk o5 rfl ⟨rfl, WdAt.more hpo hw2 hm hlt5 (fun x hx => ⟨(hs x hx).1.stp stA (by omega), (hs x hx).2⟩) stB hk.one (by push_cast; rfl) rfl hi7 hb6 hn5⟩ ((stA.mono fun i hi => .inl hi).tr (stB.mono fun i hi => .inr hi))
  | some f =>
    rw [hf] at HK0
    have HK : Hid (lkM (enc pl s.L) l = some (.agg #[.string (str l), .slice (pl l).1 f.b.length (pl l).2, .int .i64 f.mt, .int .i64 (f.ve : Int)])) := Lib.hid HK0
    obtain ⟨n0, hn0⟩ : ∃ n0, n0 = f.b.length := ⟨_, rfl⟩
    obtain ⟨A0, c0, hA0⟩ : ∃ A0 c0, pl l = (A0, c0) := ⟨_, _, rfl⟩
    rw [← hn0, hA0] at HK
    obtain ⟨m0, hm0⟩ : ∃ m0, m0 = f.mt := ⟨_, rfl⟩
    obtain ⟨v0, hv0⟩ : ∃ v0, v0 = (f.ve : Int) := ⟨_, rfl⟩
    rw [← hm0, ← hv0] at HK
    clear HK0 hp1 hp2 hp hen hf hfew hvi h hh hi hn0 hA0 hm0 hv0
    go_enter Tryz.func24, Tryz.ntmps24
    go_wp2_with (first
      | (go_at_call 55; refine (C.out _).mono ?_; rintro e w1 ⟨rfl, hx1⟩; have c1 := (HH.out w1 hx1).c0)
      | (go_at_call 49; refine (none_no p mb _ c1).mono ?_; rintro e w2 ⟨rfl, hx2⟩)
      | (go_at_call 56; refine (S.out _).mono ?_; rintro e w3 ⟨rfl, rfl⟩; have hx3 := hx1.tr hx2; have HX3 := Lib.hid hx3; have hi3 := HI.out _ hx3; have c3 := (HH.out _ hx3).c0)
      | (at_lookup; refine wpL_look rfl _ _ 44 rfl 110 keyedS mapU Tryz.underlying9 (Tryz.zeroValue110 _) rfl hi3 l hlm rfl ?_; rw [HK.out]; simp only [Option.getD_some, Option.isSome_some, Option.getD_none, Option.isSome_none]; have c00 := fun x => ((HH.out _ hx3).ext (show Ext _ (w3.alloc x) by (repeat (first | exact Ext.rfl' _ | assumption | refine Ext.dr ?_ | refine Ext.drN ?_ _ | refine Ext.al ?_ _ | refine Ext.st ?_ (by simp) _ | refine Ext.tr ?_ (by assumption))))).c0; have c02 := fun x => ((HH.out _ hx3).ext (show Ext _ (w3.alloc x) by (repeat (first | exact Ext.rfl' _ | assumption | refine Ext.dr ?_ | refine Ext.drN ?_ _ | refine Ext.al ?_ _ | refine Ext.st ?_ (by simp) _ | refine Ext.tr ?_ (by assumption))))).c2; have f02 := fun x => ((HH.out _ hx3).ext (show Ext _ (w3.alloc x) by (repeat (first | exact Ext.rfl' _ | assumption | refine Ext.dr ?_ | refine Ext.drN ?_ _ | refine Ext.al ?_ _ | refine Ext.st ?_ (by simp) _ | refine Ext.tr ?_ (by assumption))))).fz 2 (by omega); have hlen := fun x ty => (World.isM.same hi3 ((show Ext w3 (w3.alloc x) by (repeat (first | exact Ext.rfl' _ | assumption | refine Ext.dr ?_ | refine Ext.drN ?_ _ | refine Ext.al ?_ _ | refine Ext.st ?_ (by simp) _ | refine Ext.tr ?_ (by assumption)))).block mb (Nat.lt_of_lt_of_le hlt hx3.size))).len mapU ty; simp only [LEN.out] at hlen))
    have x2 : Ext w3 (w3.alloc (.cells #[.string (str l), .slice A0 n0 c0, .int .i64 m0, .int .i64 v0] 110)) := by (repeat (first | exact Ext.rfl' _ | assumption | refine Ext.dr ?_ | refine Ext.drN ?_ _ | refine Ext.al ?_ _ | refine Ext.st ?_ (by simp) _ | refine Ext.tr ?_ (by assumption)))
    obtain ⟨W1, hW1⟩ : ∃ W1, W1 = w3.alloc (.cells #[.string (str l), .slice A0 n0 c0, .int .i64 m0, .int .i64 v0] 110) := ⟨_, rfl⟩
    rw [← hW1] at x2 ⊢
    clear c00 c02 f02 hlen
    have HWR := (HH.out _ HX3.out).ext x2
    have HW1 := (HWD.out.ext HX3.out).ext x2
    have hi4 := World.isM.same (HI.out _ HX3.out) (x2.block mb (Nat.lt_of_lt_of_le hlt HX3.out.size))
    have st2 : Stp (fun i => i = k) W1 o (W1.setCell ⟨p, 2, none⟩ (.int .i64 ((s.ver : Int) + 1))) o := Stp.set p 2 _ (fun _ => HWD.out.own)
    have hw2 : Wrow (W1.setCell ⟨p, 2, none⟩ (.int .i64 ((s.ver : Int) + 1))) p ⟨s.L, s.now, s.ver + 1⟩ mb := row_set HWR 2 _
    have hi5 : World.isM (W1.setCell ⟨p, 2, none⟩ (.int .i64 ((s.ver : Int) + 1))) Tryz.prog 9 mb (enc pl s.L) := World.isM.same hi4 (st2.keep mb (Nat.lt_of_lt_of_le (Nat.lt_of_lt_of_le hlt HX3.out.size) x2.size) (by rw [hm]; omega))
    obtain ⟨W2, hW2⟩ : ∃ W2, W2 = W1.setCell ⟨p, 2, none⟩ (.int .i64 ((s.ver : Int) + 1)) := ⟨_, rfl⟩
    rw [← hW2] at st2 hw2 hi5 ⊢
    have F := Lib.hid (fun w' (e : Ext W2 w') => (show w'.cell? ⟨p, 0, none⟩ = some (.map (some mb)) ∧ w'.cell? ⟨p, 1, none⟩ = some (.int .i64 s.now) ∧ w'.cell? ⟨p, 2, none⟩ = some (.int .i64 ((s.ver : Int) + 1)) from ⟨(hw2.ext e).c0, (hw2.ext e).c1, (hw2.ext e).c2⟩))
    have HBR2 : Hid (Rd W2 B (bc b)) := Lib.hid (by rcases HBK.out with h0 | h0; exact .inl (by rw [h0]; rfl); exact HBR.out.stp ((Stp.ext (HX3.out.tr x2)).tr st2) h0)
    have hlt5 : mb < W2.heap.size := Nat.lt_of_lt_of_le (Nat.lt_of_lt_of_le (Nat.lt_of_lt_of_le hlt HX3.out.size) x2.size) st2.size
    have hlm5 : Hid ((enc pl s.L).length < maxLen) := Lib.hid (by rw [LEN.out]; have := hk.few; simp only [maxLen]; omega)
    have hpl : p < W2.heap.size := row_lt hw2
    have hpo : o p = k := HWD.out.own
    have hop5 : ∀ (w5 : World) (o5 : Ow), Stp (fun _ => False) W2.drew o w5 o5 → ¬ o5 p = k + 1 := fun w5 o5 st => by rw [st.own p hpl, hpo]; omega
    clear hW1 hW2
    have u0 := (F.out W2 (Ext.rfl' _)).1
    have u1 := (F.out W2 (Ext.rfl' _)).2.1
    have u2 := (F.out W2 (Ext.rfl' _)).2.2
    go_region_held3 (fun w' => w'.cell? ⟨p, 0, none⟩ = some (.map (some mb)) ∧ w'.cell? ⟨p, 1, none⟩ = some (.int .i64 s.now) ∧ w'.cell? ⟨p, 2, none⟩ = some (.int .i64 ((s.ver : Int) + 1))) (first | exact ⟨by assumption, by assumption, by assumption⟩ | (apply F.out; (repeat (first | exact Ext.rfl' _ | assumption | refine Ext.dr ?_ | refine Ext.drN ?_ _ | refine Ext.al ?_ _ | refine Ext.st ?_ (by simp) _ | refine Ext.tr ?_ (by assumption))))) (first
      | (go_at_call 52; refine (sClone_c (k + 2) b B n d HBL.out hBn _ o (HBR2.out.ext (by (repeat (first | exact Ext.rfl' _ | assumption | refine Ext.dr ?_ | refine Ext.drN ?_ _ | refine Ext.al ?_ _ | refine Ext.st ?_ (by simp) _ | refine Ext.tr ?_ (by assumption))))) (by omega)).mono ?_; rintro e w5 ⟨v5, o5, rfl, ⟨A5, c5, rfl, hs5, hn5⟩, st5⟩; have X5 : Ext W2 w5 := Ext.undr st5.noExt; have q0 := (F.out w5 (Ext.undr st5.noExt)).1; have q1 := (F.out w5 (Ext.undr st5.noExt)).2.1; have q2 := (F.out w5 (Ext.undr st5.noExt)).2.2; have hi6 := World.isM.same hi5 ((Ext.undr st5.noExt).block mb hlt5); obtain ⟨w6, hr6, hi7, ht7⟩ := hi6.put keyedS mapU Tryz.underlying9 (hlm5.out) hlm (.agg #[.string (str l), .slice A5 n c5, .int .i64 s.now, .int .i64 ((s.ver : Int) + 1)]); have hr6 : (Instr.mapUpdate 44 (.map (some mb)) (.string (str l)) (.agg #[.string (str l), .slice A5 n c5, .int .i64 s.now, .int .i64 ((s.ver : Int) + 1)])).run Tryz.prog w5 = .ok () w6 := hr6; have hop : ¬ o5 p = k + 1 := hop5 _ _ st5; have st7 : Stp (fun i => i = k + 1) w5 o5 w6 o5 := mt_stp ht7 (fun _ => by rw [st5.own mb hlt5]; exact hm); have r0 := st7.cell (a := ⟨p, 0, none⟩) hop q0; have r1 := st7.cell (a := ⟨p, 1, none⟩) hop q1; have r2 := st7.cell (a := ⟨p, 2, none⟩) hop q2))
    go_wp2
    go_ret
    have stA : Stp (fun i => i = k) w o W2 o := (Stp.ext (HX3.out.tr x2)).tr st2
    have stB : Stp (fun i => i = k + 1) W2 o w6 o5 := ((Stp.ext (Ext.dr (Ext.rfl' _))).tr (st5.mono fun _ x => x.elim)).tr st7
    have hb6 := hs5.stp st7 (by omega)
    rw [HBL.out] at hi7 hb6
    exact Turns.mk o5 rfl ⟨rfl, WdAt.more hpo hw2 hm hlt5 (fun x hx => ⟨(hs x hx).1.stp stA (by omega), (hs x hx).2⟩) stB hk.one (by push_cast; rfl) rfl hi7 hb6 hn5⟩ ((stA.mono fun i hi => .inl hi).tr (stB.mono fun i hi => .inr hi))
end Go.Proofs.YtemdgilifnhdpaaGreatDoor
end

section
namespace Go.Proofs.YtemdgilifnhdpaaGreatDoor
open Go.RowKit

theorem wPut_c (w : World) (o : Ow) (k p : Nat) (s : Wrl) (h : WdAt w o k p s) (hk : Wok s) (l b : List UInt8) (hl : l.length ≤ 140737488355328) (B : Option Addr) (n d : Nat) (hn : n = b.length) (hb : n < 9223372036854775808) (hB : Rd w B (bc b)) (hBn : B = none → d = 0) (hBk : b = [] ∨ ∀ a, B = some a → a.block < w.heap.size → ¬ o a.block = k) (hv : s.ver < 4611686018427387904) :
    Calls Tryz.prog 24 #[.pointer (some ⟨p, 0, none⟩), .string (str l), .slice B n d] w (Turns (KW k) w o fun v w' o' => v = .int .i64 (putW s l b).2 ∧ WdAt w' o' k p (putW s l b).1) := by
  unfold putW
  cases hp : pathF l with
  | false =>
    rw [if_pos rfl]
    obtain ⟨mb, pl, hh, _⟩ := h.row
    refine (wPut_bad p mb l hl B n d hp w hh.c0).mono ?_
    rintro e w' ⟨rfl, hx⟩
    exact Turns.mk o rfl ⟨rfl, h.ext hx⟩ (Stp.ext hx)
  | true =>
    rw [if_neg (by simp)]
    by_cases h1 : 1048576 < b.length
    · rw [if_pos (.inl h1)]
      refine (wPut_big w o k p s h l hl B n d hb hp (by omega)).mono ?_
      rintro e w' ⟨rfl, hx⟩
      exact Turns.mk o rfl ⟨rfl, h.ext hx⟩ (Stp.ext hx)
    · by_cases h2 : (lkM s.L l).isSome = false ∧ s.L.length = 1000
      · rw [if_pos (.inr h2)]
        refine (wPut_many w o k p s h l hl B n d hb hp (by omega) (by simpa using h2.1) h2.2).mono ?_
        rintro e w' ⟨rfl, hx⟩
        exact Turns.mk o rfl ⟨rfl, h.ext hx⟩ (Stp.ext hx)
      · rw [if_neg (by rintro (h | h); exact h1 h; exact h2 h)]
        refine (wPut_good w o k p s h hk l b hl B n d hn hB hBn hBk hp hv (by omega) ?_).mono ?_
        · cases hf : (lkM s.L l).isSome
          · exact .inr fun e => h2 ⟨hf, e⟩
          · exact .inl rfl
        · intro e w' h; exact h

theorem Sl.away {w : World} {o : Ow} {j n c : Nat} {A : Option Addr} {b : List UInt8} (h : Sl w o j 1 A n c (bc b)) {k : Nat} (hk : j ≠ k) : b = [] ∨ ∀ a, A = some a → a.block < w.heap.size → ¬ o a.block = k := by
  have hl := h.len
  have hc := h.le
  rcases h.at_ with h0 | ⟨g, f, rfl, ho, _⟩
  · left
    refine List.eq_nil_of_length_eq_zero ?_
    rw [bc_len] at hl
    omega
  · right
    rintro a ⟨⟩ _
    show ¬ o g = k
    rw [ho]; exact hk
set_option maxRecDepth 100000 in
set_option maxHeartbeats 4000000 in
theorem wFile_none (w : World) (o : Ow) (k p : Nat) (s : Wrl) (h : WdAt w o k p s) (l : List UInt8) (hl : l.length ≤ 4611686018427387904) (hf : lkM s.L l = none) :
    Calls Tryz.prog 20 #[.pointer (some ⟨p, 0, none⟩), .string (str l)] w (Gives (.tuple #[.agg #[.string ⟨#[]⟩, .slice none 0 0, .int .i64 0], .int .i64 0, .int .i64 3]) w) := by
  obtain ⟨mb, pl, hh, hm, hlt, hi, hs⟩ := h.row
  have c0 := hh.c0
  have hlm : l.length ≤ maxLen := by simp only [maxLen]; omega
  have HH := Lib.hid (fun w' (e : Ext w w') => hh.ext e)
  have HI := Lib.hid (fun w' (e : Ext w w') => World.isM.same hi (e.block mb hlt))
  have HK0 := lk_enc pl s.L l
  rw [hf] at HK0
  have HK := Lib.hid HK0
  clear HK0 hf
  have hc0 := fun x => ((show Ext w (w.alloc x) by (repeat (first | exact Ext.rfl' _ | assumption | refine Ext.dr ?_ | refine Ext.drN ?_ _ | refine Ext.al ?_ _ | refine Ext.st ?_ (by simp) _ | refine Ext.tr ?_ (by assumption)))).cell (p := ⟨p, 0, none⟩) (lt_of_cell c0)).trans c0
  go_enter Tryz.func20, Tryz.ntmps20
  go_wp2_with (first
    | (go_at_call 49; refine (none_no p mb _ (hc0 _)).mono ?_; rintro e w1 ⟨rfl, hx1⟩; have hx2 : Ext w w1 := (show Ext w (w.alloc _) by (repeat (first | exact Ext.rfl' _ | assumption | refine Ext.dr ?_ | refine Ext.drN ?_ _ | refine Ext.al ?_ _ | refine Ext.st ?_ (by simp) _ | refine Ext.tr ?_ (by assumption)))).tr hx1; have u0 := (HH.out w1 hx2).c0; have hi1 := HI.out w1 hx2; have r0 := fun x => (hx1.tr (show Ext w1 (w1.alloc x) by (repeat (first | exact Ext.rfl' _ | assumption | refine Ext.dr ?_ | refine Ext.drN ?_ _ | refine Ext.al ?_ _ | refine Ext.st ?_ (by simp) _ | refine Ext.tr ?_ (by assumption))))).new 0 _ rfl; have r1 := fun x => (hx1.tr (show Ext w1 (w1.alloc x) by (repeat (first | exact Ext.rfl' _ | assumption | refine Ext.dr ?_ | refine Ext.drN ?_ _ | refine Ext.al ?_ _ | refine Ext.st ?_ (by simp) _ | refine Ext.tr ?_ (by assumption))))).new 1 _ rfl; have r2 := fun x => (hx1.tr (show Ext w1 (w1.alloc x) by (repeat (first | exact Ext.rfl' _ | assumption | refine Ext.dr ?_ | refine Ext.drN ?_ _ | refine Ext.al ?_ _ | refine Ext.st ?_ (by simp) _ | refine Ext.tr ?_ (by assumption))))).new 2 _ rfl; have f0 := fun x => (hx1.tr (show Ext w1 (w1.alloc x) by (repeat (first | exact Ext.rfl' _ | assumption | refine Ext.dr ?_ | refine Ext.drN ?_ _ | refine Ext.al ?_ _ | refine Ext.st ?_ (by simp) _ | refine Ext.tr ?_ (by assumption))))).newfr 0; have f1 := fun x => (hx1.tr (show Ext w1 (w1.alloc x) by (repeat (first | exact Ext.rfl' _ | assumption | refine Ext.dr ?_ | refine Ext.drN ?_ _ | refine Ext.al ?_ _ | refine Ext.st ?_ (by simp) _ | refine Ext.tr ?_ (by assumption))))).newfr 1; have f2 := fun x => (hx1.tr (show Ext w1 (w1.alloc x) by (repeat (first | exact Ext.rfl' _ | assumption | refine Ext.dr ?_ | refine Ext.drN ?_ _ | refine Ext.al ?_ _ | refine Ext.st ?_ (by simp) _ | refine Ext.tr ?_ (by assumption))))).newfr 2)
    | (at_lookup; refine wpL_look rfl _ _ 44 rfl 110 keyedS mapU Tryz.underlying9 (Tryz.zeroValue110 _) rfl hi1 l hlm rfl ?_; rw [HK.out]; simp only [Option.getD_none, Option.isSome_none, Option.map_none]))
  refine bodyPost_ret (v := .tuple #[.agg #[.string ⟨#[]⟩, .slice none 0 0, .int .i64 0], .int .i64 0, .int .i64 3]) (by simp [results, Tryz.results20, go_sem, r0, r1, r2]) rfl ?_
  exact ⟨rfl, by (repeat (first | exact Ext.rfl' _ | assumption | refine Ext.dr ?_ | refine Ext.drN ?_ _ | refine Ext.al ?_ _ | refine Ext.st ?_ (by simp) _ | refine Ext.tr ?_ (by assumption)))⟩
set_option maxRecDepth 100000 in
set_option maxHeartbeats 4000000 in
theorem wFile_some (j : Nat) (w : World) (o : Ow) (k p : Nat) (s : Wrl) (h : WdAt w o k p s) (hk : Wok s) (l : List UInt8) (hl : l.length ≤ 4611686018427387904) (f : Fil) (hf : lkM s.L l = some f) :
    Calls Tryz.prog 20 #[.pointer (some ⟨p, 0, none⟩), .string (str l)] w (Turns (fun _ => False) w o fun v w' o' => ∃ A c, v = .tuple #[.agg #[.string (str l), .slice A f.b.length c, .int .i64 f.mt], .int .i64 (f.ve : Int), .int .i64 0] ∧ Sl w' o' j 1 A f.b.length c (bc f.b) ∧ (A = none → c = 0)) := by
  obtain ⟨mb, pl, hh, hm, hlt, hi, hs⟩ := h.row
  have c0 := hh.c0
  have hlm : l.length ≤ maxLen := by simp only [maxLen]; omega
  have HH := Lib.hid (fun w' (e : Ext w w') => hh.ext e)
  have HI := Lib.hid (fun w' (e : Ext w w') => World.isM.same hi (e.block mb hlt))
  have HK0 := lk_enc pl s.L l
  have hfm := lk_mem hf
  have hsl := hs _ hfm
  have hsz := hk.size _ hfm
  dsimp only at hsl hsz
  rw [hf] at HK0
  have HK : Hid (lkM (enc pl s.L) l = some (.agg #[.string (str l), .slice (pl l).1 f.b.length (pl l).2, .int .i64 f.mt, .int .i64 (f.ve : Int)])) := Lib.hid HK0
  obtain ⟨n0, hn0⟩ : ∃ n0, n0 = f.b.length := ⟨_, rfl⟩
  obtain ⟨A0, d0, hA0⟩ : ∃ A0 d0, pl l = (A0, d0) := ⟨_, _, rfl⟩
  rw [hA0] at hsl
  rw [← hn0, hA0] at HK
  obtain ⟨m0, hm0⟩ : ∃ m0, m0 = f.mt := ⟨_, rfl⟩
  obtain ⟨v0, hv0⟩ : ∃ v0, v0 = (f.ve : Int) := ⟨_, rfl⟩
  rw [← hm0, ← hv0] at HK
  rw [← hn0, ← hm0, ← hv0]
  have HSL := Lib.hid hsl.1.rd
  have HNA : Hid (A0 = none → d0 = 0) := Lib.hid hsl.2
  have HN0 := Lib.hid hn0
  have hnb : n0 ≤ 140737488351232 := by omega
  clear HK0 hf hA0 hm0 hv0 hfm hsl hsz hn0
  have hc0 := fun x => ((show Ext w (w.alloc x) by (repeat (first | exact Ext.rfl' _ | assumption | refine Ext.dr ?_ | refine Ext.drN ?_ _ | refine Ext.al ?_ _ | refine Ext.st ?_ (by simp) _ | refine Ext.tr ?_ (by assumption)))).cell (p := ⟨p, 0, none⟩) (lt_of_cell c0)).trans c0
  go_enter Tryz.func20, Tryz.ntmps20
  go_wp2_with (first
    | (go_at_call 49; refine (none_no p mb _ (hc0 _)).mono ?_; rintro e w1 ⟨rfl, hx1⟩; have hx2 : Ext w w1 := (show Ext w (w.alloc _) by (repeat (first | exact Ext.rfl' _ | assumption | refine Ext.dr ?_ | refine Ext.drN ?_ _ | refine Ext.al ?_ _ | refine Ext.st ?_ (by simp) _ | refine Ext.tr ?_ (by assumption)))).tr hx1; have u0 := (HH.out w1 hx2).c0; have hi1 := HI.out w1 hx2)
    | (at_lookup; refine wpL_look rfl _ _ 44 rfl 110 keyedS mapU Tryz.underlying9 (Tryz.zeroValue110 _) rfl hi1 l hlm rfl ?_; rw [HK.out]; simp only [Option.getD_some, Option.isSome_some, Option.map_some])
    | (go_at_call 52; refine (sClone_c j f.b A0 n0 d0 HN0.out HNA.out _ (fun b => if b = w1.heap.size then j + 1 else if b = w.heap.size then j + 2 else o b) ((HSL.out.ext hx2).ext (by (repeat (first | exact Ext.rfl' _ | assumption | refine Ext.dr ?_ | refine Ext.drN ?_ _ | refine Ext.al ?_ _ | refine Ext.st ?_ (by simp) _ | refine Ext.tr ?_ (by assumption))))) hnb).mono ?_; rintro e w5 ⟨v5, o5, rfl, ⟨A5, c5, rfl, hs5, hn5⟩, st5⟩; have x5 := st5.noExt; have r0 := x5.new 0 _ rfl; have r1 := x5.new 1 _ rfl; have r2 := x5.new 2 _ rfl; have r3 := x5.new 3 _ rfl; have f1 := x5.newfr 1))
  have hlt1 : w.heap.size < w1.heap.size := Nat.lt_of_lt_of_le (by simp) hx1.size
  have hx9 : Ext (w.alloc (.cells #[.string ⟨#[]⟩, .slice none 0 0, .int .i64 0] 24)) w5 := (hx1.tr (show Ext w1 (w1.alloc _) by (repeat (first | exact Ext.rfl' _ | assumption | refine Ext.dr ?_ | refine Ext.drN ?_ _ | refine Ext.al ?_ _ | refine Ext.st ?_ (by simp) _ | refine Ext.tr ?_ (by assumption))))).tr x5
  have hh5 : w5.heap[w1.heap.size]? = some (.cells #[.string (str l), .slice A0 n0 d0, .int .i64 m0, .int .i64 v0] 110 (0, 0)) := (x5.block _ (by simp)).trans (heap_alloc_new w1 _)
  have hr5 : w5.heap[w.heap.size]? = some (.cells #[.string ⟨#[]⟩, .slice none 0 0, .int .i64 0] 24 (0, 0)) := (hx9.block _ (by simp)).trans (heap_alloc_new w _)
  have hh6 := row_set hh5 1 (.slice A5 n0 c5)
  have oX : o5 w1.heap.size = j + 1 := by rw [st5.own _ (by simp)]; simp
  have oR : o5 w.heap.size = j + 2 := by rw [st5.own _ (by simp; omega)]; simp [Nat.ne_of_lt hlt1]
  have oo : ∀ b, b < w.heap.size → o5 b = o b := fun b hb => by
    rw [st5.own b (by simp; omega), if_neg (by omega), if_neg (by omega)]
  have st6 : Stp (fun i => i = j + 1) w5 o5 (w5.setCell ⟨w1.heap.size, 1, none⟩ (.slice A5 n0 c5)) o5 := Stp.set _ 1 _ (fun _ => oX)
  have hr6 := (st6.keep w.heap.size (row_lt hr5) (by rw [oR]; omega)).trans hr5
  have hs6 := hs5.stp st6 (by omega)
  have x6 : Ext w (w5.setCell ⟨w1.heap.size, 1, none⟩ (.slice A5 n0 c5)) := Ext.st ((show Ext w (w.alloc _) by (repeat (first | exact Ext.rfl' _ | assumption | refine Ext.dr ?_ | refine Ext.drN ?_ _ | refine Ext.al ?_ _ | refine Ext.st ?_ (by simp) _ | refine Ext.tr ?_ (by assumption)))).tr hx9) (by show w.heap.size ≤ w1.heap.size; omega) _
  obtain ⟨W7, hW7⟩ : ∃ W7, W7 = w5.setCell ⟨w1.heap.size, 1, none⟩ (.slice A5 n0 c5) := ⟨_, rfl⟩
  rw [← hW7] at hh6 hr6 hs6 x6 ⊢
  obtain ⟨XN, hXN⟩ : ∃ XN, XN = w1.heap.size := ⟨_, rfl⟩
  obtain ⟨RN, hRN⟩ : ∃ RN, RN = w.heap.size := ⟨_, rfl⟩
  rw [← hXN, ← hRN] at hlt1
  rw [← hXN] at hh6
  rw [← hRN] at hr6 oR
  have hRN2 : w.heap.size ≤ RN := Nat.le_of_eq hRN.symm
  rw [← hXN, ← hRN]
  have g0 := (row_facts hh6 0 _ rfl).1
  have g1 := (row_facts hh6 1 _ rfl).1
  have g2 := (row_facts hh6 2 _ rfl).1
  have g3 := (row_facts hh6 3 _ rfl).1
  have k0 := row_facts hr6 0 _ rfl
  have k1 := row_facts hr6 1 _ rfl
  have k2 := row_facts hr6 2 _ rfl
  obtain ⟨k00, k01⟩ := k0
  obtain ⟨k10, k11⟩ := k1
  obtain ⟨k20, k21⟩ := k2
  have hne : ¬ XN = RN := by omega
  have hne2 : ¬ RN = XN := by omega
  clear r0 r1 r2 r3 f1 hW7 hh5 hr5 st6 hx9 hXN hRN oX
  go_region
  have sa : Stp (fun i => i = j + 2) W7 o5 (W7.setCell ⟨RN, 0, none⟩ (.string (str l))) o5 := Stp.set _ 0 _ (fun _ => oR)
  have sb : Stp (fun i => i = j + 2) _ o5 ((W7.setCell ⟨RN, 0, none⟩ (.string (str l))).setCell ⟨RN, 1, none⟩ (.slice A5 n0 c5)) o5 := Stp.set _ 1 _ (fun _ => oR)
  have sc : Stp (fun i => i = j + 2) _ o5 (((W7.setCell ⟨RN, 0, none⟩ (.string (str l))).setCell ⟨RN, 1, none⟩ (.slice A5 n0 c5)).setCell ⟨RN, 2, none⟩ (.int .i64 m0)) o5 := Stp.set _ 2 _ (fun _ => oR)
  have hs9 := hs6.stp ((sa.tr sb).tr sc) (by omega)
  have xa := Ext.st (Ext.st (Ext.st x6 (p := ⟨RN, 0, none⟩) hRN2 (.string (str l))) (p := ⟨RN, 1, none⟩) hRN2 (.slice A5 n0 c5)) (p := ⟨RN, 2, none⟩) hRN2 (.int .i64 m0)
  have y := row_set (row_set (row_set hr6 0 (.string (str l))) 1 (.slice A5 n0 c5)) 2 (.int .i64 m0)
  obtain ⟨W8, hW8⟩ : ∃ W8, W8 = ((W7.setCell ⟨RN, 0, none⟩ (.string (str l))).setCell ⟨RN, 1, none⟩ (.slice A5 n0 c5)).setCell ⟨RN, 2, none⟩ (.int .i64 m0) := ⟨_, rfl⟩
  rw [← hW8] at y hs9 xa ⊢
  have y0 := (row_facts y 0 _ rfl).1
  have y1 := (row_facts y 1 _ rfl).1
  have y2 := (row_facts y 2 _ rfl).1
  clear hW8 y sa sb sc
  go_wp2
  refine bodyPost_ret (v := .tuple #[.agg #[.string (str l), .slice A5 n0 c5, .int .i64 m0], .int .i64 v0, .int .i64 0]) (by simp [results, Tryz.results20, go_sem, y0, y1, y2]) rfl ?_
  exact Turns.mk o5 rfl ⟨A5, c5, rfl, hs9.ext (by (repeat (first | exact Ext.rfl' _ | assumption | refine Ext.dr ?_ | refine Ext.drN ?_ _ | refine Ext.al ?_ _ | refine Ext.st ?_ (by simp) _ | refine Ext.tr ?_ (by assumption)))), hn5⟩ (Stp.ext2 (Ext.dr xa) oo)
end Go.Proofs.YtemdgilifnhdpaaGreatDoor
end

section
namespace Go.Proofs.YtemdgilifnhdpaaGreatDoor
open Go.RowKit

theorem pre47 (l : List UInt8) : Lib.hasPrefix l [47] = decide (l.head? = some 47) := by
  unfold Lib.hasPrefix
  cases l with
  | nil => rfl
  | cons a r =>
    rw [Bool.eq_iff_iff]
    simp [List.isPrefixOf]
    exact ⟨fun h => h.symm, fun h => h.symm⟩
theorem hasPre_iff (s p : List UInt8) : Lib.hasPrefix s p = decide (p <+: s) := by
  unfold Lib.hasPrefix; rw [Bool.eq_iff_iff, List.isPrefixOf_iff_prefix, decide_eq_true_eq]
theorem folder_no {s : Wrl} {l : List UInt8} (h : Lib.hasPrefix l [47] = false ∨ Lib.hasSuffix l [47] = false) : folderW s l = false := by
  unfold folderW
  rw [pre47, suf47] at h
  rcases h with h | h
  · rw [h]; rfl
  · have : decide (l.getLast? = some 47) = false := by rw [decide_eq_false_iff_not]; intro e; rw [e] at h; simp at h
    rw [this]; simp
theorem folder_in {s : Wrl} {l : List UInt8} (h1 : Lib.hasPrefix l [47] = true) (h2 : Lib.hasSuffix l [47] = true) : folderW s l = (decide (l = [47]) || s.L.any fun x => decide (l <+: x.1)) := by
  unfold folderW
  rw [pre47] at h1
  rw [suf47] at h2
  have : decide (l.getLast? = some 47) = true := by simpa using h2
  rw [h1, this]; rfl
set_option maxRecDepth 100000 in
set_option maxHeartbeats 4000000 in
theorem wFolder_c (w : World) (o : Ow) (k p : Nat) (s : Wrl) (h : WdAt w o k p s) (l : List UInt8) (hl : l.length ≤ 4611686018427387904) :
    Calls Tryz.prog 62 #[.pointer (some ⟨p, 0, none⟩), .string (str l)] w (Gives (.bool (folderW s l)) w) := by
  obtain ⟨mb, pl, hh, hm, hlt, hi, hs⟩ := h.row
  have c0 := hh.c0
  have HH := Lib.hid (fun w' (e : Ext w w') => hh.ext e)
  have HI := Lib.hid (fun w' (e : Ext w w') => World.isM.same hi (e.block mb hlt))
  have hl2 : (str l).size ≤ 9223372036854775807 := by rw [str_size]; omega
  have SP := fun w => Tryz.strings_HasPrefix (str l) ⟨#[47]⟩ w
  have SS := fun w => Tryz.strings_HasSuffix (str l) ⟨#[47]⟩ w hl2
  rw [str_data] at SP SS
  cases hp : Lib.hasPrefix l [47] with
  | false =>
    rw [hp] at SP
    have SP := Lib.hid SP
    have SS := Lib.hid SS
    rw [folder_no (.inl hp)]
    clear hp
    go_enter Tryz.func62, Tryz.ntmps62
    go_wp2_with (first
      | (go_at_call 49; refine (none_no p mb _ c0).mono ?_; rintro e w1 ⟨rfl, hx1⟩; have HX1 := Lib.hid hx1; have u0 := (HH.out w1 hx1).c0; have hi1 := HI.out w1 hx1)
      | (go_at_call_of 60 (Value.string ⟨#[47]⟩); refine (SP.out _).mono ?_; rintro e w2 ⟨rfl, rfl⟩)
      | (go_at_call 56; refine (SS.out _).mono ?_; rintro e w3 ⟨rfl, rfl⟩)
      | (at_range; refine wpL_mrange rfl _ 44 rfl 110 keyedS mapU rfl hi1 ?_; intro w4 hr4 hg4 hs4))
    go_ret
    exact ⟨rfl, by (repeat (first | exact Ext.rfl' _ | assumption | refine Ext.dr ?_ | refine Ext.drN ?_ _ | refine Ext.al ?_ _ | refine Ext.st ?_ (by simp) _ | refine Ext.tr ?_ (by assumption)))⟩
  | true =>
    rw [hp] at SP
    cases hq : Lib.hasSuffix l [47] with
    | false =>
      rw [hq] at SS
      have SP := Lib.hid SP
      have SS := Lib.hid SS
      rw [folder_no (.inr hq)]
      clear hp hq
      go_enter Tryz.func62, Tryz.ntmps62
      go_wp2_with (first
        | (go_at_call 49; refine (none_no p mb _ c0).mono ?_; rintro e w1 ⟨rfl, hx1⟩; have HX1 := Lib.hid hx1; have u0 := (HH.out w1 hx1).c0; have hi1 := HI.out w1 hx1)
        | (go_at_call_of 60 (Value.string ⟨#[47]⟩); refine (SP.out _).mono ?_; rintro e w2 ⟨rfl, rfl⟩)
        | (go_at_call 56; refine (SS.out _).mono ?_; rintro e w3 ⟨rfl, rfl⟩)
        | (at_range; refine wpL_mrange rfl _ 44 rfl 110 keyedS mapU rfl hi1 ?_; intro w4 hr4 hg4 hs4))
      go_ret
      exact ⟨rfl, by (repeat (first | exact Ext.rfl' _ | assumption | refine Ext.dr ?_ | refine Ext.drN ?_ _ | refine Ext.al ?_ _ | refine Ext.st ?_ (by simp) _ | refine Ext.tr ?_ (by assumption)))⟩
    | true =>
      rw [hq] at SS
      have SP := Lib.hid SP
      have SS := Lib.hid SS
      rw [folder_in hp hq]
      clear hp hq
      obtain ⟨R, hR⟩ : ∃ R, R = (decide (l = [47]) || s.L.any fun x => decide (l <+: x.1)) := ⟨_, rfl⟩
      rw [← hR]
      have HR := Lib.hid hR
      clear hR
      go_enter Tryz.func62, Tryz.ntmps62
      go_wp2_with (first
        | (go_at_call 49; refine (none_no p mb _ c0).mono ?_; rintro e w1 ⟨rfl, hx1⟩; have HX1 := Lib.hid hx1; have u0 := (HH.out w1 hx1).c0; have hi1 := HI.out w1 hx1)
        | (go_at_call_of 60 (Value.string ⟨#[47]⟩); refine (SP.out _).mono ?_; rintro e w2 ⟨rfl, rfl⟩)
        | (go_at_call 56; refine (SS.out _).mono ?_; rintro e w3 ⟨rfl, rfl⟩)
        | (at_range; refine wpL_mrange rfl _ 44 rfl 110 keyedS mapU rfl hi1 ?_; intro w4 hr4 hg4 hs4))
      have hx4 : Ext w w4 := HX1.out.gr hg4 (fun _ h => by cases h)
      have hlt3 : w.heap.size ≤ w3.heap.size := HX1.out.size
      obtain ⟨r, hr⟩ : ∃ r, r = w3.heap.size := ⟨_, rfl⟩
      rw [← hr] at hr4 hlt3 ⊢
      clear hr hg4 hs4
      have HX4 := Lib.hid hx4
      have HR4 := Lib.hid hr4
      clear hr4 hx4
      go_frame
      go_loopw [5] (fun _ wr => ∃ left cnt, World.rgM wr Tryz.prog 9 mb r (enc pl s.L) left cnt ∧ Ext w wr ∧ ∀ x ∈ s.L, left x.1 = false → ¬ l <+: x.1) (fun _ wr => wr.rangeLeft mb r)
      case atStart => exact ⟨_, _, HR4.out, HX4.out, fun x hx hl => by
        exfalso
        have : (lkM s.L x.1).isSome = true := by
          cases e : lkM s.L x.1 with
          | none => exact absurd rfl (lk_none_mem e x hx)
          | some _ => rfl
        rw [lk_enc] at hl
        simp [this] at hl⟩
      case round =>
        obtain ⟨left, cnt, hrg, hext, hno⟩ := hrel
        have HNO := Lib.hid hno
        clear hno
        go_wp2_with (first
          | (at_next; refine wpL_mnext rfl _ rfl keyedS Tryz.underlying9 rfl hrg ?_ ?_))
        · intro hz hall
          have hd : R = decide (l = [47]) := by
            rw [HR.out]
            have : (s.L.any fun x => decide (l <+: x.1)) = false := by
              rw [List.any_eq_false]
              intro x hx
              have := HNO.out x hx (hall x.1)
              simpa using this
            rw [this]; simp
          by_cases h47 : l = [47]
          · obtain rfl : R = true := by rw [hd]; simp [h47]
            have e47 : (str l) = ⟨#[47]⟩ := by rw [h47]; rfl
            clear hd h47 hz hall
            simp only [e47]
            go_wp2
            go_ret
            exact ⟨rfl, hext⟩
          · obtain rfl : R = false := by rw [hd]; simp [h47]
            have e1 : ¬ (str l).toList = [47] := by rw [str_tl]; exact h47
            obtain ⟨sl, hsl⟩ : ∃ sl, sl = str l := ⟨_, rfl⟩
            rw [← hsl] at e1 ⊢
            have e2 : (sl.toList == [47]) = false := by rw [beq_eq_false_iff_ne]; exact e1
            have e3 : ¬ sl.toList = (⟨#[47]⟩ : ByteArray).toList := by rw [show (⟨#[47]⟩ : ByteArray).toList = [47] from by rw [ByteArray.toList_eq]]; exact e1
            have e4 : (sl.toList == (⟨#[47]⟩ : ByteArray).toList) = false := by rw [beq_eq_false_iff_ne]; exact e3
            clear hd h47 hz hall hsl
            go_wp2
            go_ret
            exact ⟨rfl, hext⟩
        · intro l1 v w' cnt' hlf hlk hlm1 hrg' hlt' hg' hsz' hen
          have C := fun w => Tryz.strings_HasPrefix (str l1) (str l) w
          rw [str_data, str_data] at C
          have hmem : ∃ f, (l1, f) ∈ s.L := by
            rw [lk_enc] at hlk
            cases e : lkM s.L l1 with
            | none => rw [e] at hlk; cases hlk
            | some f => exact ⟨f, lk_mem e⟩
          have hx' : Ext w w' := hext.gr hg' (fun k h => by injection h with h; omega)
          have hen : (Instr.entry (.pointer (some ⟨r, 0, none⟩))).run Tryz.prog w' = .ok (.tuple #[.string (str l1), v]) w' := hen
          rw [show (⟨l1.toArray⟩ : ByteArray) = str l1 from rfl]
          have HLK := Lib.hid hlk
          clear hlk
          cases hpre : Lib.hasPrefix l1 l with
          | true =>
            rw [hpre] at C
            have hd : R = true := by
              rw [HR.out]
              obtain ⟨f, hf⟩ := hmem
              have : (s.L.any fun x => decide (l <+: x.1)) = true := by
                rw [List.any_eq_true]
                rw [hasPre_iff] at hpre
                exact ⟨_, hf, hpre⟩
              rw [this]; simp
            clear HR
            subst hd
            have C := Lib.hid C
            clear hpre
            go_wp2_with (go_at_call 60; refine (C.out _).mono ?_; rintro e w6 ⟨rfl, rfl⟩)
            go_ret
            exact ⟨rfl, hx'⟩
          | false =>
            rw [hpre] at C
            have C := Lib.hid C
            have HP := Lib.hid hpre
            clear hpre
            have HRG := Lib.hid hrg
            clear hrg
            go_wp2_with (go_at_call 60; refine (C.out _).mono ?_; rintro e w6 ⟨rfl, rfl⟩)
            go_roundw
            case rel => exact ⟨_, _, hrg', hx', fun x hx hl => by
              by_cases e : x.1 = l1
              · have := HP.out
                rw [hasPre_iff] at this
                rw [e]; simpa using this
              · exact HNO.out x hx (by simpa [e] using hl)⟩
            case measure => rw [hrg'.left_eq, HRG.out.left_eq]; omega
end Go.Proofs.YtemdgilifnhdpaaGreatDoor
end
