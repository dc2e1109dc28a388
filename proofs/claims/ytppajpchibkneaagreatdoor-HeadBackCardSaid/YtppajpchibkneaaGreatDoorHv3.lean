/-
What must come of head's parser, whatever is asked: knows.
-/
import Derived.Test.YtppajpchibkneaaGreatDoorHVa
import Derived.Test.YtppajpchibkneaaGreatDoorHPx
set_option linter.unusedVariables false
set_option linter.unusedSimpArgs false
namespace Go.Proofs.YtppajpchibkneaaGreatDoor
open Go.RowKit

theorem num11_c (x : Int) (w : World) : Calls Tryz.prog 9 #[.int .i64 x] w fun e w' => e = .returned (.int .i64 x) ∧ w = w' := by
  go_enter Tryz.func9, Tryz.ntmps9
  go_wp2
  go_ret
  exact ⟨rfl, rfl⟩
theorem rd_new (w : World) (xs : List Value) (t : TypeId) : Rd (w.alloc (.cells xs.toArray t)) (some ⟨w.heap.size, 0, none⟩) xs :=
  .inr ⟨_, 0, rfl, fun j u hu => by have := new_cells w xs.toArray t j u (by simpa using hu); rw [add_mk] at this; exact this⟩
set_option maxRecDepth 100000 in
theorem hEnd_c (w : World) : Calls Tryz.prog 29 #[] w (Gives (.string ⟨#[13, 10]⟩) w) := by
  have CV := fun (w : World) => conv_bs 25 9 5 Tryz.underlying25 Tryz.underlying5 Tryz.underlying9 (l := [13, 10]) (rd_new w [.int .u8 13, .int .u8 10] 5) 2 2 rfl
  go_enter Tryz.func29, Tryz.ntmps29
  go_wp2
  go_ret
  exact ⟨rfl, by (repeat (first | exact Ext.rfl' _ | assumption | refine Ext.dr ?_ | refine Ext.drN ?_ _ | refine Ext.al ?_ _ | refine Ext.st ?_ (by simp) _ | refine Ext.tr ?_ (by assumption)))⟩
theorem bw_rd (w : World) (e : TypeId) (l : List UInt8) : Rd (Lib.bytesWorld w e (str l)) (some ⟨w.heap.size, 0, none⟩) (bc l) := by
  refine .inr ⟨w.heap.size, 0, rfl, fun j u hu => ?_⟩
  have hj : j < l.length := by have := (List.getElem?_eq_some_iff.1 hu).1; rwa [bc_len] at this
  rw [Nat.zero_add, Lib.bytesWorld_cell w e (str l) j (by rw [str_size]; exact hj)]
  rw [← hu, bc_at l j hj]
  simp [List.getD, hj]
/-- Bytes that nobody owned before. -/
theorem feed_new (k P : Nat) (hk : 0 < k) (s : Pst) (hs : Pgo s) (b : List UInt8) (B : Option Addr) (n d : Nat) (hn : n = b.length) (hb : n ≤ 4611686018427387904) (w1 W : World) (o1 : Ow) (h : PsAt w1 o1 k P s) (hG : Gl w1 o1) (hx : Ext w1 W) (hB : Rd W B (bc b)) (hnew : ∀ a, B = some a → w1.heap.size ≤ a.block) :
    Calls Tryz.prog 14 #[.pointer (some ⟨P, 0, none⟩), .slice B n d] W (fun r w' => r = .returned (feedV (feedP s b)) ∧ ∃ o', PsAt w' o' k P (feedP s b).1 ∧ Stp (KP k) w1 o1 w' o') := by
  have t : Stp (fun _ => False) w1 o1 W (fun x => if x < w1.heap.size then o1 x else 0) := Stp.ext2 hx (fun b hb => if_pos hb)
  refine (hFeed_c k P hk s hs b B n d hn hb W _ (h.stp t (fun x => x) (fun x => x) (fun x => x)) (hG.stp t (fun x => x)) hB (fun _ a ha hlt => ?_)).mono ?_
  · have := hnew a ha
    rw [if_neg (by omega)]
    unfold KP; omega
  · rintro e w' ⟨v, o', rfl, ⟨rfl, hp⟩, st⟩
    exact ⟨rfl, o', hp, (t.mono fun _ h => h.elim).tr st⟩
theorem kn_ask : (askP (feedP (newP false) kn1).1).2.1 = [47] ∧ (feedP (newP false) kn1).1.fields.length ≤ 100 := by decide +kernel
theorem kn_v1 : feedV (feedP (newP false) kn1) = .tuple #[.int .i64 27, .bool true, .int .i64 0] := by unfold feedV; rw [kn_one.1]; rfl
theorem kn_v2 : feedV (feedP (newP false) [71, 10]) = .tuple #[.int .i64 2, .bool false, .int .i64 22] := by unfold feedV; rw [kn_two]; rfl
set_option maxRecDepth 100000 in
set_option maxHeartbeats 4000000 in
theorem knows11_c (w : World) (hM : Mx w) (hE : ErrR w) : Calls Tryz.prog 12 #[] w (Gives (.bool true) w) := by
  have G0 := Lib.hid (show Gl w (fun _ => 0) from ⟨hM, hE, rfl, rfl⟩)
  clear hM hE
  obtain ⟨s1, HS1⟩ : ∃ s, s = str [71, 69, 84, 32, 47, 32, 72, 84, 84, 80, 47, 49, 46, 49, 13, 10] := ⟨_, rfl⟩
  obtain ⟨s2, HS2⟩ : ∃ s, s = str [71, 69, 84, 32, 47, 32, 72, 84, 84, 80, 47, 49, 46, 49, 13, 10, 72, 111, 115, 116, 58, 32, 97] := ⟨_, rfl⟩
  obtain ⟨s3, HS3⟩ : ∃ s, s = str [71, 69, 84, 32, 47, 32, 72, 84, 84, 80, 47, 49, 46, 49, 13, 10, 72, 111, 115, 116, 58, 32, 97, 13, 10] := ⟨_, rfl⟩
  obtain ⟨s4, HS4⟩ : ∃ s, s = str [71, 69, 84, 32, 47, 32, 72, 84, 84, 80, 47, 49, 46, 49, 13, 10, 72, 111, 115, 116, 58, 32, 97, 13, 10, 13, 10] := ⟨_, rfl⟩
  obtain ⟨s5, HS5⟩ : ∃ s, s = str kn1 := ⟨_, rfl⟩
  have K1 : ∀ w, (Op.stringOp .add ⟨#[71, 69, 84, 32, 47, 32, 72, 84, 84, 80, 47, 49, 46, 49]⟩ ⟨#[13, 10]⟩).run Tryz.prog w = .ok (.string s1) w := fun w => by rw [HS1]; exact cat_ok _ _ (by decide) w
  have K2 : ∀ w, (Op.stringOp .add s1 ⟨#[72, 111, 115, 116, 58, 32, 97]⟩).run Tryz.prog w = .ok (.string s2) w := fun w => by rw [HS1, HS2]; exact cat_ok _ _ (by decide) w
  have K3 : ∀ w, (Op.stringOp .add s2 ⟨#[13, 10]⟩).run Tryz.prog w = .ok (.string s3) w := fun w => by rw [HS2, HS3]; exact cat_ok _ _ (by decide) w
  have K4 : ∀ w, (Op.stringOp .add s3 ⟨#[13, 10]⟩).run Tryz.prog w = .ok (.string s4) w := fun w => by rw [HS3, HS4]; exact cat_ok _ _ (by decide) w
  have K5 : ∀ w, (Op.stringOp .add s4 ⟨#[120]⟩).run Tryz.prog w = .ok (.string s5) w := fun w => by rw [HS4, HS5]; exact cat_ok _ _ (by decide) w
  have CV : ∀ w, (convert 9 25 (.string s5)).run Tryz.prog w = .ok (.slice (some ⟨w.heap.size, 0, none⟩) 28 (grownCap w 28 0 5)) (Lib.bytesWorld w 5 s5) := fun w => by
    have := Lib.run_convert_string_bytes (P := Tryz.prog) w 9 25 5 s5 Tryz.underlying9 Tryz.underlying25 Tryz.underlying5
    rw [HS5] at this ⊢
    exact this
  have RB := Lib.hid (fun w => show Rd (Lib.bytesWorld w 5 s5) (some ⟨w.heap.size, 0, none⟩) (bc kn1) from by rw [HS5]; exact bw_rd w 5 kn1)
  clear HS1 HS2 HS3 HS4 HS5
  obtain ⟨z1, hz1⟩ : ∃ z, z = (feedP (newP false) kn1).1 := ⟨_, rfl⟩
  have HA := Lib.hid kn_ask
  have V1 := Lib.hid kn_v1
  have V2 := Lib.hid kn_v2
  rw [← hz1] at HA
  have HZ1 := Lib.hid hz1
  clear hz1
  obtain ⟨⟨am, tg, ai, af⟩, haz⟩ : ∃ r, r = askP z1 := ⟨_, rfl⟩
  have htg : tg = [47] := by have := HA.out.1; rw [← haz] at this; exact this
  subst htg
  have AZ := Lib.hid haz
  clear haz
  have hfd : ∀ (a b c d : Value) (w : World), (Instr.field 24 (.agg #[a, b, c, d]) 1).run Tryz.prog w = .ok b w := fun _ _ _ _ _ => by kernel_rfl
  have h47 : str [47] = ⟨#[47]⟩ := rfl
  go_enter Tryz.func12, Tryz.ntmps12
  go_wp2_with (first
    | (go_at_call 29; refine (hEnd_c _).mono ?_; rintro e we ⟨rfl, hxe⟩)
    | (go_at_call 13; refine (hNewParser_c 4 false _ o2).mono ?_; rintro e w3 ⟨v, o3, rfl, ⟨Q, rfl, hq3, hQ3⟩, st3⟩)
    | (go_at_call 13; refine (hNewParser_c 1 false _ (fun _ => 0)).mono ?_; rintro e w1 ⟨v, o1, rfl, ⟨P, rfl, hp1, hP1⟩, st1⟩; have G1 := Lib.hid (G0.out.stp st1 (fun x => x)); have HP1 := Lib.hid hp1; clear hp1)
    | (go_at_call 14; have C := feed_new 4 Q (by decide) (newP false) (.inr (.inr (newP_ok false))) [71, 10] (some ⟨w3.heap.size, 0, none⟩) 2 2 rfl (by decide) w3 _ o3 hq3 (G2.out.stp st3 (fun x => x)) ((Ext.rfl' w3).al _) (rd_new w3 [.int .u8 71, .int .u8 10] 5) (by rintro a ⟨⟩; exact Nat.le_refl _); rw [V2.out] at C; refine C.mono ?_; clear C; rintro e w4 ⟨rfl, o4, hq4, st4⟩)
    | (go_at_call 14; have C := feed_new 1 P (by decide) (newP false) (.inr (.inr (newP_ok false))) kn1 (some ⟨we.heap.size, 0, none⟩) 28 (grownCap we 28 0 5) rfl (by decide) w1 (Lib.bytesWorld we 5 s5) o1 HP1.out G1.out (by (repeat (first | exact Ext.rfl' _ | assumption | refine Ext.bwH ?_ _ _ | refine Ext.dr ?_ | refine Ext.drN ?_ _ | refine Ext.al ?_ _ | refine Ext.st ?_ (by simp) _ | refine Ext.tr ?_ (by assumption)))) (RB.out _) (by rintro a ⟨⟩; exact (show Ext w1 we by (repeat (first | exact Ext.rfl' _ | assumption | refine Ext.dr ?_ | refine Ext.drN ?_ _ | refine Ext.al ?_ _ | refine Ext.st ?_ (by simp) _ | refine Ext.tr ?_ (by assumption)))).size); rw [V1.out] at C; refine C.mono ?_; clear C; rintro e w2 ⟨rfl, o2, hp2, st2⟩; have G2 := Lib.hid (G1.out.stp st2 (by unfold KP; omega)); have HP2 := Lib.hid hp2; have ST2 := Lib.hid st2; clear hp2 st2)
    | (go_at_call 16; have C := hAsk_c 1 P z1 (by have := HA.out.2; omega) w4 o4 (by rw [HZ1.out]; exact (HP2.out.stp st3 (fun x => x) (fun x => x) (fun x => x)).stp st4 (by unfold KP; omega) (by unfold KP; omega) (by unfold KP; omega)); rw [← AZ.out] at C; refine C.mono ?_; clear C; rintro e w5 ⟨v5, rfl, ⟨A5, c5, rfl, hr5⟩, hx5⟩)
    | (go_at_call 9; refine (num11_c _ _).mono ?_; rintro e w6 ⟨rfl, rfl⟩))
  go_ret
  have st5 : Stp (fun i => KP 1 i ∨ KP 4 i) w (fun _ => 0) w4 o4 := ((st1.mono fun _ h => h.elim).tr (ST2.out.mono fun _ h => .inl h)).tr ((st3.mono fun _ h => h.elim).tr (st4.mono fun _ h => .inr h))
  exact ⟨rfl, (st5.toExt (fun _ _ => by unfold KP; omega)).tr hx5⟩
end Go.Proofs.YtppajpchibkneaaGreatDoor
