/-
A world: Put, where it is too much; where it is put.
-/
import Derived.Test.YtllpffdjlhamkaaWd5
set_option linter.unusedVariables false
set_option linter.unusedSimpArgs false
namespace Go.Proofs.Ytllpffdjlhamkaa
open Go.RowKit

theorem path_ok {l : List UInt8} (h : pathF l = true) : cleanL l = (l, 0) ∧ Lib.hasSuffix l [47] = false := by
  unfold pathF at h
  simp only [Bool.and_eq_true, decide_eq_true_eq, Bool.not_eq_true'] at h
  exact ⟨h.1, by rw [suf47]; exact h.2⟩
set_option maxRecDepth 100000 in
set_option maxHeartbeats 4000000 in
theorem wPut_big (w : World) (o : Ow) (k p : Nat) (s : Wrl) (h : WdAt w o k p s) (l : List UInt8) (hl : l.length ≤ 140737488355328) (B : Option Addr) (n d : Nat) (hn : n < 9223372036854775808) (hp : pathF l = true)
    (hbig : 1048576 < n) :
    Calls Try.prog 9 #[.pointer (some ⟨p, 0, none⟩), .string (str l), .slice B n d] w (Gives (.int .i64 6) w) := by
  obtain ⟨mb, pl, hh, hm, hlt, hi, hs⟩ := h.row
  have hlm : l.length ≤ maxLen := by simp only [maxLen]; omega
  have HH := Lib.hid (fun w' (e : Ext w w') => hh.ext e)
  have HI := Lib.hid (fun w' (e : Ext w w') => World.isM.same hi (e.block mb hlt))
  have hl2 : (str l).size ≤ 9223372036854775807 := by rw [str_size]; omega
  obtain ⟨hp1, hp2⟩ := path_ok hp
  have C := fun w => Clean_c l hl w
  rw [hp1] at C
  dsimp only at C
  have S := fun w => Try.strings_HasSuffix (str l) ⟨#[47]⟩ w hl2
  rw [str_data, hp2] at S
  have HK0 := lk_enc pl s.L l
  have hen := enc_len pl s.L
  have LEN := Lib.hid hen
  have C := Lib.hid C
  have S := Lib.hid S
  have b1 : (1048576 : Int) < (n : Int) := by omega
  cases hf : lkM s.L l with
  | none =>
    rw [hf] at HK0
    have HK := Lib.hid HK0
    clear HK0 hp1 hp2 hp hen hf
    go_enter Try.func9, Try.ntmps9
    go_wp2_with (first
      | (go_at_call 26; refine (C.out _).mono ?_; rintro e w1 ⟨rfl, hx1⟩; have c1 := (HH.out w1 hx1).c0)
      | (go_at_call 27; refine (none_no p mb _ c1).mono ?_; rintro e w2 ⟨rfl, hx2⟩)
      | (go_at_call 28; refine (S.out _).mono ?_; rintro e w3 ⟨rfl, rfl⟩; have hx3 := hx1.tr hx2; have HX3 := Lib.hid hx3; have hi3 := HI.out _ hx3; have c3 := (HH.out _ hx3).c0)
      | (at_lookup; refine wpL_look rfl _ _ 36 rfl 67 keyedS mapU Try.underlying9 (Try.zeroValue67 _) rfl hi3 l hlm rfl ?_; rw [HK.out]; simp only [Option.getD_some, Option.isSome_some, Option.getD_none, Option.isSome_none]; have c00 := fun x => ((HH.out _ hx3).ext (show Ext _ (w3.alloc x) by (repeat (first | exact Ext.rfl' _ | assumption | refine Ext.dr ?_ | refine Ext.drN ?_ _ | refine Ext.al ?_ _ | refine Ext.st ?_ (by simp) _ | refine Ext.tr ?_ (by assumption))))).c0; have c02 := fun x => ((HH.out _ hx3).ext (show Ext _ (w3.alloc x) by (repeat (first | exact Ext.rfl' _ | assumption | refine Ext.dr ?_ | refine Ext.drN ?_ _ | refine Ext.al ?_ _ | refine Ext.st ?_ (by simp) _ | refine Ext.tr ?_ (by assumption))))).c2; have f02 := fun x => ((HH.out _ hx3).ext (show Ext _ (w3.alloc x) by (repeat (first | exact Ext.rfl' _ | assumption | refine Ext.dr ?_ | refine Ext.drN ?_ _ | refine Ext.al ?_ _ | refine Ext.st ?_ (by simp) _ | refine Ext.tr ?_ (by assumption))))).fz 2 (by omega); have hlen := fun x ty => (World.isM.same hi3 ((show Ext w3 (w3.alloc x) by (repeat (first | exact Ext.rfl' _ | assumption | refine Ext.dr ?_ | refine Ext.drN ?_ _ | refine Ext.al ?_ _ | refine Ext.st ?_ (by simp) _ | refine Ext.tr ?_ (by assumption)))).block mb (Nat.lt_of_lt_of_le hlt hx3.size))).len mapU ty; simp only [LEN.out] at hlen))
    go_ret
    exact ⟨rfl, by (repeat (first | exact Ext.rfl' _ | assumption | refine Ext.dr ?_ | refine Ext.drN ?_ _ | refine Ext.al ?_ _ | refine Ext.st ?_ (by simp) _ | refine Ext.tr ?_ (by assumption)))⟩
  | some f =>
    rw [hf] at HK0
    have HK : Hid (lkM (enc pl s.L) l = some (.agg #[.string (str l), .slice (pl l).1 f.b.length (pl l).2, .int .i64 f.mt, .int .i64 (f.ve : Int)])) := Lib.hid HK0
    obtain ⟨n0, hn0⟩ : ∃ n0, n0 = f.b.length := ⟨_, rfl⟩
    rw [← hn0] at HK
    clear HK0 hp1 hp2 hp hen hf hn0
    go_enter Try.func9, Try.ntmps9
    go_wp2_with (first
      | (go_at_call 26; refine (C.out _).mono ?_; rintro e w1 ⟨rfl, hx1⟩; have c1 := (HH.out w1 hx1).c0)
      | (go_at_call 27; refine (none_no p mb _ c1).mono ?_; rintro e w2 ⟨rfl, hx2⟩)
      | (go_at_call 28; refine (S.out _).mono ?_; rintro e w3 ⟨rfl, rfl⟩; have hx3 := hx1.tr hx2; have HX3 := Lib.hid hx3; have hi3 := HI.out _ hx3; have c3 := (HH.out _ hx3).c0)
      | (at_lookup; refine wpL_look rfl _ _ 36 rfl 67 keyedS mapU Try.underlying9 (Try.zeroValue67 _) rfl hi3 l hlm rfl ?_; rw [HK.out]; simp only [Option.getD_some, Option.isSome_some, Option.getD_none, Option.isSome_none]; have c00 := fun x => ((HH.out _ hx3).ext (show Ext _ (w3.alloc x) by (repeat (first | exact Ext.rfl' _ | assumption | refine Ext.dr ?_ | refine Ext.drN ?_ _ | refine Ext.al ?_ _ | refine Ext.st ?_ (by simp) _ | refine Ext.tr ?_ (by assumption))))).c0; have c02 := fun x => ((HH.out _ hx3).ext (show Ext _ (w3.alloc x) by (repeat (first | exact Ext.rfl' _ | assumption | refine Ext.dr ?_ | refine Ext.drN ?_ _ | refine Ext.al ?_ _ | refine Ext.st ?_ (by simp) _ | refine Ext.tr ?_ (by assumption))))).c2; have f02 := fun x => ((HH.out _ hx3).ext (show Ext _ (w3.alloc x) by (repeat (first | exact Ext.rfl' _ | assumption | refine Ext.dr ?_ | refine Ext.drN ?_ _ | refine Ext.al ?_ _ | refine Ext.st ?_ (by simp) _ | refine Ext.tr ?_ (by assumption))))).fz 2 (by omega); have hlen := fun x ty => (World.isM.same hi3 ((show Ext w3 (w3.alloc x) by (repeat (first | exact Ext.rfl' _ | assumption | refine Ext.dr ?_ | refine Ext.drN ?_ _ | refine Ext.al ?_ _ | refine Ext.st ?_ (by simp) _ | refine Ext.tr ?_ (by assumption)))).block mb (Nat.lt_of_lt_of_le hlt hx3.size))).len mapU ty; simp only [LEN.out] at hlen))
    go_ret
    exact ⟨rfl, by (repeat (first | exact Ext.rfl' _ | assumption | refine Ext.dr ?_ | refine Ext.drN ?_ _ | refine Ext.al ?_ _ | refine Ext.st ?_ (by simp) _ | refine Ext.tr ?_ (by assumption)))⟩
set_option maxRecDepth 100000 in
set_option maxHeartbeats 4000000 in
theorem wPut_many (w : World) (o : Ow) (k p : Nat) (s : Wrl) (h : WdAt w o k p s) (l : List UInt8) (hl : l.length ≤ 140737488355328) (B : Option Addr) (n d : Nat) (hn : n < 9223372036854775808) (hp : pathF l = true)
    (hbig : ¬ 1048576 < n) (hf : lkM s.L l = none) (hlen : s.L.length = 1000) :
    Calls Try.prog 9 #[.pointer (some ⟨p, 0, none⟩), .string (str l), .slice B n d] w (Gives (.int .i64 6) w) := by
  obtain ⟨mb, pl, hh, hm, hlt, hi, hs⟩ := h.row
  have hlm : l.length ≤ maxLen := by simp only [maxLen]; omega
  have HH := Lib.hid (fun w' (e : Ext w w') => hh.ext e)
  have HI := Lib.hid (fun w' (e : Ext w w') => World.isM.same hi (e.block mb hlt))
  have hl2 : (str l).size ≤ 9223372036854775807 := by rw [str_size]; omega
  obtain ⟨hp1, hp2⟩ := path_ok hp
  have C := fun w => Clean_c l hl w
  rw [hp1] at C
  dsimp only at C
  have S := fun w => Try.strings_HasSuffix (str l) ⟨#[47]⟩ w hl2
  rw [str_data, hp2] at S
  have HK0 := lk_enc pl s.L l
  have hen := enc_len pl s.L
  rw [hlen] at hen
  have LEN := Lib.hid hen
  have C := Lib.hid C
  have S := Lib.hid S
  have b1 : ¬ (1048576 : Int) < (n : Int) := by omega
  rw [hf] at HK0
  have HK := Lib.hid HK0
  clear HK0 hp1 hp2 hp hen hf hlen
  go_enter Try.func9, Try.ntmps9
  go_wp2_with (first
    | (go_at_call 26; refine (C.out _).mono ?_; rintro e w1 ⟨rfl, hx1⟩; have c1 := (HH.out w1 hx1).c0)
    | (go_at_call 27; refine (none_no p mb _ c1).mono ?_; rintro e w2 ⟨rfl, hx2⟩)
    | (go_at_call 28; refine (S.out _).mono ?_; rintro e w3 ⟨rfl, rfl⟩; have hx3 := hx1.tr hx2; have HX3 := Lib.hid hx3; have hi3 := HI.out _ hx3; have c3 := (HH.out _ hx3).c0)
    | (at_lookup; refine wpL_look rfl _ _ 36 rfl 67 keyedS mapU Try.underlying9 (Try.zeroValue67 _) rfl hi3 l hlm rfl ?_; rw [HK.out]; simp only [Option.getD_some, Option.isSome_some, Option.getD_none, Option.isSome_none]; have c00 := fun x => ((HH.out _ hx3).ext (show Ext _ (w3.alloc x) by (repeat (first | exact Ext.rfl' _ | assumption | refine Ext.dr ?_ | refine Ext.drN ?_ _ | refine Ext.al ?_ _ | refine Ext.st ?_ (by simp) _ | refine Ext.tr ?_ (by assumption))))).c0; have c02 := fun x => ((HH.out _ hx3).ext (show Ext _ (w3.alloc x) by (repeat (first | exact Ext.rfl' _ | assumption | refine Ext.dr ?_ | refine Ext.drN ?_ _ | refine Ext.al ?_ _ | refine Ext.st ?_ (by simp) _ | refine Ext.tr ?_ (by assumption))))).c2; have f02 := fun x => ((HH.out _ hx3).ext (show Ext _ (w3.alloc x) by (repeat (first | exact Ext.rfl' _ | assumption | refine Ext.dr ?_ | refine Ext.drN ?_ _ | refine Ext.al ?_ _ | refine Ext.st ?_ (by simp) _ | refine Ext.tr ?_ (by assumption))))).fz 2 (by omega); have hlen := fun x ty => (World.isM.same hi3 ((show Ext w3 (w3.alloc x) by (repeat (first | exact Ext.rfl' _ | assumption | refine Ext.dr ?_ | refine Ext.drN ?_ _ | refine Ext.al ?_ _ | refine Ext.st ?_ (by simp) _ | refine Ext.tr ?_ (by assumption)))).block mb (Nat.lt_of_lt_of_le hlt hx3.size))).len mapU ty; simp only [LEN.out] at hlen))
  go_ret
  exact ⟨rfl, by (repeat (first | exact Ext.rfl' _ | assumption | refine Ext.dr ?_ | refine Ext.drN ?_ _ | refine Ext.al ?_ _ | refine Ext.st ?_ (by simp) _ | refine Ext.tr ?_ (by assumption)))⟩
end Go.Proofs.Ytllpffdjlhamkaa
