/-
A world: Tick, Remove.
-/
import Derived.Test.YtllpffdjlhamkaaWd3
set_option linter.unusedVariables false
set_option linter.unusedSimpArgs false
namespace Go.Proofs.Ytllpffdjlhamkaa
open Go.RowKit

section
variable {w : World} {o : Ow} {k p : Nat} {s : Wrl}
theorem setW_stp (i : Nat) (u : Value) (h : o p = k) : Stp (KW k) w o (w.setCell ⟨p, i, none⟩ u) o := Stp.set p i u (fun _ => .inl h)
theorem WdAt.tick (h : WdAt w o k p s) (n : Int) : WdAt (w.setCell ⟨p, 1, none⟩ (.int .i64 n)) o k p ⟨s.L, n, s.ver⟩ := by
  obtain ⟨mb, pl, hh, hm, hl, hi, hs⟩ := h.row
  have st : Stp (fun i => i = k) w o (w.setCell ⟨p, 1, none⟩ (.int .i64 n)) o := Stp.set p 1 _ (fun _ => h.own)
  exact ⟨h.own, mb, pl, row_set hh 1 _, hm, Nat.lt_of_lt_of_le hl st.size, hi.same (st.keep mb hl (by rw [hm]; omega)), fun x hx => ⟨(hs x hx).1.stp st (by omega), (hs x hx).2⟩⟩
theorem lk_enc (pl : List UInt8 → Option Addr × Nat) (L : List (List UInt8 × Fil)) (l : List UInt8) : lkM (enc pl L) l = (lkM L l).map (entV l (pl l)) := lk_map (fun k v => entV k (pl k) v) L l
theorem del_enc (pl : List UInt8 → Option Addr × Nat) (L : List (List UInt8 × Fil)) (l : List UInt8) : delM (enc pl L) l = enc pl (delM L l) := del_map (fun k v => entV k (pl k) v) L l
theorem enc_len (pl : List UInt8 → Option Addr × Nat) (L : List (List UInt8 × Fil)) : (enc pl L).length = L.length := by simp [enc]
theorem entV_eq (l : List UInt8) (A : Option Addr × Nat) (f : Fil) : entV l A f = .agg #[.string (str l), .slice A.1 f.b.length A.2, .int .i64 f.mt, .int .i64 (f.ve : Int)] := rfl
theorem mt_stp {w' : World} {mb : Nat} (h : w.mapTurned w' mb) (ho : mb < w.heap.size → o mb = k + 1) : Stp (fun i => i = k + 1) w o w' o := by
  obtain ⟨es, clock, es', clock', hb, rfl⟩ := h
  refine ⟨rfl, rfl, rfl, by simp [ChangeMaps.setBlock], fun _ _ => rfl, fun b hl hn => Go.ChangeMaps.heap_setBlock_other hb _ (fun e => ?_)⟩
  subst e
  exact hn (ho hl)
theorem WdAt.less {w' : World} {mb : Nat} {pl : List UInt8 → Option Addr × Nat} {L : List (List UInt8 × Fil)} (ho : o p = k) (hh : Wrow w p s mb) (hm : o mb = k + 1) (hl : mb < w.heap.size) (hs : ∀ x ∈ s.L, Sl w o (k + 2) 1 (pl x.1).1 x.2.b.length (pl x.1).2 (bc x.2.b) ∧ ((pl x.1).1 = none → (pl x.1).2 = 0))
    (st : Stp (fun i => i = k + 1) w o w' o) (hi : World.isM w' Try.prog 9 mb (enc pl L)) (hL : ∀ x ∈ L, x ∈ s.L) : WdAt w' o k p ⟨L, s.now, s.ver⟩ :=
  ⟨ho, mb, pl, hh.stp st (by rw [ho]; omega), hm, Nat.lt_of_lt_of_le hl st.size, hi, fun x hx => ⟨(hs x (hL x hx)).1.stp st (by omega), (hs x (hL x hx)).2⟩⟩
end
set_option maxRecDepth 100000 in
set_option maxHeartbeats 4000000 in
theorem wTick_c (w : World) (o : Ow) (k p : Nat) (s : Wrl) (h : WdAt w o k p s) (hk : Wok s) (n : Int) (hn : n < 9223372036854775808) :
    Calls Try.prog 10 #[.pointer (some ⟨p, 0, none⟩), .int .i64 n] w (Turns (KW k) w o fun v w' o' => v = .int .i64 (tickW s n).2 ∧ WdAt w' o' k p (tickW s n).1) := by
  obtain ⟨mb, pl, hh, _⟩ := h.row
  have c0 := hh.c0
  by_cases h0 : n < 0
  · refine (wTick_neg w p mb n h0 c0).mono ?_
    rintro e w1 ⟨rfl, hx⟩
    have : tickW s n = (s, 1) := by unfold tickW; rw [if_pos h0]
    rw [this]
    exact Turns.mk o rfl ⟨rfl, h.ext hx⟩ (Stp.ext hx)
  · have ht : tickW s n = (⟨s.L, s.now + min n (wlast - s.now), s.ver⟩, 0) := by unfold tickW; rw [if_neg h0]
    rw [ht]
    unfold wlast
    have b0 := hk.now0
    have b1 : s.now ≤ 253402300799 := hk.now1
    have HT := Lib.hid (fun w' (e : Ext w w') => h.ext e)
    have HH := Lib.hid (fun w' (e : Ext w w') => hh.ext e)
    have h1 : IntKind.i64.wrap (253402300799 - s.now) = 253402300799 - s.now := by rw [IntKind.wrap_i64]; omega
    by_cases hc : 253402300799 - s.now < n
    · rw [show min n (253402300799 - s.now) = 253402300799 - s.now from by omega]
      have h2 : IntKind.i64.wrap (s.now + (253402300799 - s.now)) = s.now + (253402300799 - s.now) := by rw [IntKind.wrap_i64]; omega
      go_enter Try.func10, Try.ntmps10
      go_wp2_with (go_at_call 27; refine (none_no p mb _ c0).mono ?_; rintro e w1 ⟨rfl, hx1⟩; have u1 := (HH.out w1 hx1).c1; have u2 := (HH.out w1 hx1).fz 1 (by omega); have HX1 := Lib.hid hx1)
      go_region
      go_wp2
      go_ret
      exact Turns.mk o rfl ⟨rfl, ((h.ext HX1.out).tick _).ext (by (repeat (first | exact Ext.rfl' _ | assumption | refine Ext.dr ?_ | refine Ext.drN ?_ _ | refine Ext.al ?_ _ | refine Ext.st ?_ (by simp) _ | refine Ext.tr ?_ (by assumption))))⟩ ((Stp.ext HX1.out).tr ((setW_stp 1 _ h.own).tr (Stp.ext (by (repeat (first | exact Ext.rfl' _ | assumption | refine Ext.dr ?_ | refine Ext.drN ?_ _ | refine Ext.al ?_ _ | refine Ext.st ?_ (by simp) _ | refine Ext.tr ?_ (by assumption)))))))
    · rw [show min n (253402300799 - s.now) = n from by omega]
      have h2 : IntKind.i64.wrap (s.now + (n)) = s.now + (n) := by rw [IntKind.wrap_i64]; omega
      go_enter Try.func10, Try.ntmps10
      go_wp2_with (go_at_call 27; refine (none_no p mb _ c0).mono ?_; rintro e w1 ⟨rfl, hx1⟩; have u1 := (HH.out w1 hx1).c1; have u2 := (HH.out w1 hx1).fz 1 (by omega); have HX1 := Lib.hid hx1)
      go_region
      go_wp2
      go_ret
      exact Turns.mk o rfl ⟨rfl, ((h.ext HX1.out).tick _).ext (by (repeat (first | exact Ext.rfl' _ | assumption | refine Ext.dr ?_ | refine Ext.drN ?_ _ | refine Ext.al ?_ _ | refine Ext.st ?_ (by simp) _ | refine Ext.tr ?_ (by assumption))))⟩ ((Stp.ext HX1.out).tr ((setW_stp 1 _ h.own).tr (Stp.ext (by (repeat (first | exact Ext.rfl' _ | assumption | refine Ext.dr ?_ | refine Ext.drN ?_ _ | refine Ext.al ?_ _ | refine Ext.st ?_ (by simp) _ | refine Ext.tr ?_ (by assumption)))))))
set_option maxRecDepth 100000 in
set_option maxHeartbeats 4000000 in
theorem wRemove_c (w : World) (o : Ow) (k p : Nat) (s : Wrl) (h : WdAt w o k p s) (l : List UInt8) (hl : l.length ≤ 140737488355328) :
    Calls Try.prog 16 #[.pointer (some ⟨p, 0, none⟩), .string (str l)] w (Turns (KW k) w o fun v w' o' => v = .int .i64 (removeW s l).2 ∧ WdAt w' o' k p (removeW s l).1) := by
  obtain ⟨mb, pl, hh, hm, hlt, hi, hs⟩ := h.row
  have c0 := hh.c0
  have hlm : l.length ≤ maxLen := by simp only [maxLen]; omega
  have HH := Lib.hid (fun w' (e : Ext w w') => hh.ext e)
  have HI := Lib.hid (fun w' (e : Ext w w') => World.isM.same hi (e.block mb hlt))
  cases hf : lkM s.L l with
  | none =>
    have hlk : lkM (enc pl s.L) l = none := by rw [lk_enc, hf]; rfl
    have ht : removeW s l = (s, 3) := by unfold removeW; rw [hf]; rfl
    rw [ht]
    have HK := Lib.hid hlk
    clear hlk hf ht
    go_enter Try.func16, Try.ntmps16
    go_wp2_with (first
      | (go_at_call 27; refine (none_no p mb _ c0).mono ?_; rintro e w1 ⟨rfl, hx1⟩; have u0 := (HH.out w1 hx1).c0; have hi1 := HI.out w1 hx1)
      | (at_lookup; refine wpL_look rfl _ _ 36 rfl 67 keyedS mapU Try.underlying9 (Try.zeroValue67 _) rfl hi1 l hlm rfl ?_; rw [HK.out]; simp only [Option.getD_none, Option.isSome_none]))
    go_ret
    exact Turns.mk o rfl ⟨rfl, h.ext (by (repeat (first | exact Ext.rfl' _ | assumption | refine Ext.dr ?_ | refine Ext.drN ?_ _ | refine Ext.al ?_ _ | refine Ext.st ?_ (by simp) _ | refine Ext.tr ?_ (by assumption))))⟩ (Stp.ext (by (repeat (first | exact Ext.rfl' _ | assumption | refine Ext.dr ?_ | refine Ext.drN ?_ _ | refine Ext.al ?_ _ | refine Ext.st ?_ (by simp) _ | refine Ext.tr ?_ (by assumption)))))
  | some f =>
    have hlk : lkM (enc pl s.L) l = some (.agg #[.string (str l), .slice (pl l).1 f.b.length (pl l).2, .int .i64 f.mt, .int .i64 (f.ve : Int)]) := by rw [lk_enc, hf]; rfl
    have ht : removeW s l = (⟨delM s.L l, s.now, s.ver⟩, 0) := by unfold removeW; rw [hf]; rfl
    rw [ht]
    have HK := Lib.hid hlk
    clear hlk hf ht
    obtain ⟨W, hW⟩ : ∃ W, W = w := ⟨_, rfl⟩
    obtain ⟨n0, hn0⟩ : ∃ n0, n0 = f.b.length := ⟨_, rfl⟩
    rw [← hn0] at HK
    go_enter Try.func16, Try.ntmps16
    go_wp2_with (first
      | (go_at_call 27; refine (none_no p mb _ c0).mono ?_; rintro e w1 ⟨rfl, hx1⟩; have u0 := Lib.hid (fun w' (e : Ext w1 w') => ((HH.out w1 hx1).ext e).c0); have u0' := u0.out w1 (Ext.rfl' _); have hi1 := Lib.hid (fun w' (e : Ext w1 w') => World.isM.same (HI.out w1 hx1) (e.block mb (Nat.lt_of_lt_of_le hlt hx1.size))); have hi1' := hi1.out w1 (Ext.rfl' _))
      | (at_lookup; refine wpL_look rfl _ _ 36 rfl 67 keyedS mapU Try.underlying9 (Try.zeroValue67 _) rfl hi1' l hlm rfl ?_; rw [HK.out]; simp only [Option.getD_some, Option.isSome_some]; have c00 := fun x => u0.out (w1.alloc x) (by (repeat (first | exact Ext.rfl' _ | assumption | refine Ext.dr ?_ | refine Ext.drN ?_ _ | refine Ext.al ?_ _ | refine Ext.st ?_ (by simp) _ | refine Ext.tr ?_ (by assumption)))))
      | (at_delete; refine wpL_mdel rfl _ _ 36 rfl 67 keyedS mapU Try.underlying9 rfl (hi1.out _ (by (repeat (first | exact Ext.rfl' _ | assumption | refine Ext.dr ?_ | refine Ext.drN ?_ _ | refine Ext.al ?_ _ | refine Ext.st ?_ (by simp) _ | refine Ext.tr ?_ (by assumption))))) l hlm rfl ?_; intro w2 hi2 ht2))
    go_ret
    rw [del_enc] at hi2
    have st : Stp (fun i => i = k + 1) w o w2 o := (Stp.ext (by (repeat (first | exact Ext.rfl' _ | assumption | refine Ext.dr ?_ | refine Ext.drN ?_ _ | refine Ext.al ?_ _ | refine Ext.st ?_ (by simp) _ | refine Ext.tr ?_ (by assumption))))).tr (mt_stp ht2 (fun _ => hm))
    exact Turns.mk o rfl ⟨rfl, WdAt.less h.own hh hm hlt hs st hi2 (fun x hx => mem_del hx)⟩ (st.mono fun i hi => .inr hi)
end Go.Proofs.Ytllpffdjlhamkaa
