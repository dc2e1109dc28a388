/-
What must come of a world, whatever is asked: knows.
-/
import Derived.Test.YtllpffdjlhamkaaWd9
import Derived.Lib.SlBytesConst
set_option linter.unusedVariables false
set_option linter.unusedSimpArgs false
namespace Go.Proofs.Ytllpffdjlhamkaa
open Go.RowKit

theorem num13_c (x : Int) (w : World) : Calls Try.prog 6 #[.int .i64 x] w fun e w' => e = .returned (.int .i64 x) ∧ w = w' := by
  go_enter Try.func6, Try.ntmps6
  go_wp2
  go_ret
  exact ⟨rfl, rfl⟩
theorem rd_newW (w : World) (xs : List Value) (t : TypeId) (p : Nat × Nat) : Rd (w.alloc (.cells xs.toArray t p)) (some ⟨w.heap.size, 0, none⟩) xs :=
  .inr ⟨_, 0, rfl, fun j u hu => by rw [Nat.zero_add]; have e : (w.alloc (.cells xs.toArray t p)).heap[w.heap.size]? = some (.cells xs.toArray t p) := heap_alloc_new w _; simp only [World.cell?, e]; simpa using hu⟩
/-- Bytes that nobody owned before are put. -/
theorem wPut_new (k p : Nat) (hk0 : 0 < k) (s : Wrl) (hk : Wok s) (hv : s.ver < 4611686018427387904) (l b : List UInt8) (hl : l.length ≤ 140737488355328) (B : Option Addr) (n d : Nat) (hn : n = b.length) (hb : n < 9223372036854775808) (w1 W : World) (o1 : Ow) (h : WdAt w1 o1 k p s) (hx : Ext w1 W) (hB : Rd W B (bc b)) (hBn : B = none → d = 0)
    (hnew : ∀ a, B = some a → w1.heap.size ≤ a.block) :
    Calls Try.prog 9 #[.pointer (some ⟨p, 0, none⟩), .string (str l), .slice B n d] W fun r w' => r = .returned (.int .i64 (putW s l b).2) ∧ ∃ o', WdAt w' o' k p (putW s l b).1 ∧ Stp (KW k) w1 o1 w' o' := by
  have t : Stp (fun _ => False) w1 o1 W (fun x => if x < w1.heap.size then o1 x else 0) := Stp.ext2 hx (fun b hb => if_pos hb)
  refine (wPut_c W _ k p s (h.stp t (fun x => x) (fun x => x) (fun x => x)) hk l b hl B n d hn hb hB hBn (.inr fun a ha hlt => ?_) hv).mono ?_
  · have := hnew a ha
    rw [if_neg (by omega)]
    omega
  · rintro e w' ⟨v, o', rfl, ⟨rfl, hp⟩, st⟩
    exact ⟨rfl, o', hp, (t.mono fun _ h => h.elim).tr st⟩
def knP : List UInt8 := [47, 97, 47, 98, 46, 116, 120, 116]
def kn0 : Wrl := ⟨[], 5, 0⟩
def kn1 : Wrl := (putW kn0 knP [120]).1
def kn2 : Wrl := (tickW kn1 3).1
def kn3 : Wrl := (putW kn2 knP [121]).1
theorem kn_a : (putW kn0 knP [120]).2 = 0 := by kernel_rfl
theorem kn_b : (tickW kn1 3).2 = 0 := by kernel_rfl
theorem kn_c : (putW kn2 knP [121]).2 = 0 := by kernel_rfl
theorem kn_d : lkM kn3.L knP = some ⟨[121], 8, 2⟩ := by kernel_rfl
theorem kn_e : folderW kn3 [47, 97, 47] = true := by kernel_rfl
theorem kn_f : (putW kn3 [47, 97, 47] []).2 = 1 := by kernel_rfl
theorem kn_ok0 : Wok kn0 := (newW_ok (now := 5) rfl).1
theorem kn_ok1 : Wok kn1 := (putW_ok kn_ok0 _ _).1
theorem kn_ok2 : Wok kn2 := (tickW_ok kn_ok1 _).1
theorem kn_ok3 : Wok kn3 := (putW_ok kn_ok2 _ _).1
theorem kn_v1 : kn1.ver = 1 := by kernel_rfl
theorem kn_v2 : kn2.ver = 1 := by kernel_rfl
theorem kn_v3 : kn3.ver = 2 := by kernel_rfl
theorem kn_sP : str knP = ⟨#[47, 97, 47, 98, 46, 116, 120, 116]⟩ := rfl
theorem kn_sF : str [47, 97, 47] = ⟨#[47, 97, 47]⟩ := rfl
theorem conv1 (x : Int) (w : World) : (convert 32 32 (.slice (some ⟨w.heap.size, 0, none⟩) 1 1)).run Try.prog (w.alloc (.cells #[.int .u8 x] 5)) = .ok (.slice (some ⟨w.heap.size, 0, none⟩) 1 1) (w.alloc (.cells #[.int .u8 x] 5 (1, 2))) :=
  Lib.run_convert_bytes_const w 32 5 #[.int .u8 x] 1 1 Try.underlying32 Try.underlying5
set_option maxRecDepth 100000 in
set_option maxHeartbeats 4000000 in
theorem knows13_c (w : World) : Calls Try.prog 7 #[] w (Gives (.bool true) w) := by
  have hcs := conv1
  have h97 : str [121] = ⟨#[121]⟩ := rfl
  go_enter Try.func7, Try.ntmps7
  go_wp2_with (first
    | (go_at_call 4; refine (wNew_yes 1 5 (by decide) (by decide) _ (fun _ => 0)).mono ?_; rintro e w1 ⟨v, o1, rfl, ⟨p, rfl, h1, hp1⟩, st1⟩; have C1 := wPut_new 1 p (by decide) kn0 kn_ok0 (by decide) knP [120] (by decide) (some ⟨w1.heap.size, 0, none⟩) 1 1 rfl (by decide) w1 (w1.alloc (.cells #[.int .u8 120] 5 (1, 2))) o1 h1 ((Ext.rfl' w1).al _) (rd_newW w1 [.int .u8 120] 5 (1, 2)) (fun h => by cases h) (by rintro a ⟨⟩; exact Nat.le_refl _); rw [kn_sP, kn_a] at C1; have ST1 := Lib.hid st1; clear st1 h1)
    | (go_at_call 9; refine C1.mono ?_; clear C1; rintro e w2 ⟨rfl, o2, h2, st2⟩; have C2 := wTick_c w2 o2 1 p kn1 h2 kn_ok1 3 (by decide); rw [kn_b] at C2; have ST2 := Lib.hid st2; clear st2 h2)
    | (go_at_call 10; refine C2.mono ?_; clear C2; rintro e w3 ⟨v, o3, rfl, ⟨rfl, h3⟩, st3⟩; have C3 := wPut_new 1 p (by decide) kn2 kn_ok2 (by rw [kn_v2]; decide) knP [121] (by decide) (some ⟨w3.heap.size, 0, none⟩) 1 1 rfl (by decide) w3 (w3.alloc (.cells #[.int .u8 121] 5 (1, 2))) o3 h3 ((Ext.rfl' w3).al _) (rd_newW w3 [.int .u8 121] 5 (1, 2)) (fun h => by cases h) (by rintro a ⟨⟩; exact Nat.le_refl _); rw [kn_sP, kn_c] at C3; have ST3 := Lib.hid st3; clear st3 h3)
    | (go_at_call 9; refine C3.mono ?_; clear C3; rintro e w4 ⟨rfl, o4, h4, st4⟩; have C4 := wFile_some 9 w4 o4 1 p kn3 h4 kn_ok3 knP (by decide) _ kn_d; rw [kn_sP] at C4; have H4 := Lib.hid h4; have ST4 := Lib.hid st4; clear st4 h4)
    | (go_at_call 11; refine C4.mono ?_; clear C4; rintro e w5 ⟨v, o5, rfl, ⟨A5, c5, rfl, hs5, hn5⟩, st5⟩; have h5 := H4.out.stp st5 (fun x => x) (fun x => x) (fun x => x); have RD5 := Lib.hid hs5.rd; have ST5 := Lib.hid st5; have CV := fun x => conv_bs (P := Try.prog) 32 9 5 Try.underlying32 Try.underlying5 Try.underlying9 (RD5.out.ext (show Ext w5 (w5.alloc x) by (repeat (first | exact Ext.rfl' _ | assumption | refine Ext.dr ?_ | refine Ext.drN ?_ _ | refine Ext.al ?_ _ | refine Ext.st ?_ (by simp) _ | refine Ext.tr ?_ (by assumption))))) 1 c5 rfl; rw [h97] at CV; have C5 := fun x => wFolder_c (w5.alloc x) o5 1 p kn3 (h5.ext (show Ext w5 (w5.alloc x) by (repeat (first | exact Ext.rfl' _ | assumption | refine Ext.dr ?_ | refine Ext.drN ?_ _ | refine Ext.al ?_ _ | refine Ext.st ?_ (by simp) _ | refine Ext.tr ?_ (by assumption))))) [47, 97, 47] (by decide); rw [kn_sF, kn_e] at C5; have H5 := Lib.hid h5; clear h5 hs5 st5)
    | (go_at_call 12; refine (C5 _).mono ?_; clear C5; rintro e w6 ⟨rfl, hx6⟩; have HX6 : Hid (Ext w5 w6) := Lib.hid ((show Ext w5 (w5.alloc _) by (repeat (first | exact Ext.rfl' _ | assumption | refine Ext.dr ?_ | refine Ext.drN ?_ _ | refine Ext.al ?_ _ | refine Ext.st ?_ (by simp) _ | refine Ext.tr ?_ (by assumption)))).tr hx6); have C6 := wPut_c w6 o5 1 p kn3 (H5.out.ext HX6.out) kn_ok3 [47, 97, 47] [] (by decide) none 0 0 rfl (by decide) (.inl rfl) (fun _ => rfl) (.inl rfl) (by rw [kn_v3]; decide); rw [kn_sF, kn_f] at C6)
    | (go_at_call 9; refine C6.mono ?_; clear C6; rintro e w7 ⟨v, o7, rfl, ⟨rfl, h7⟩, st7⟩)
    | (go_at_call 6; refine (num13_c _ _).mono ?_; rintro e w8 ⟨rfl, rfl⟩))
  go_ret
  have sA : Stp (KW 1) w (fun _ => 0) w7 o7 := ((ST1.out.mono fun _ h => h.elim).tr (ST2.out.tr (ST3.out.tr (ST4.out.tr ((ST5.out.mono fun _ h => h.elim).tr ((Stp.ext HX6.out).tr st7))))))
  exact ⟨rfl, sA.toExt (fun _ _ => by unfold KW; omega)⟩
end Go.Proofs.Ytllpffdjlhamkaa
