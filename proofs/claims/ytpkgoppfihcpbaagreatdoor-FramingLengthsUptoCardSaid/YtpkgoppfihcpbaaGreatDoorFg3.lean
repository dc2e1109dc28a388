/-
What must come of framing, whatever is asked: knows.
-/
import Derived.Test.YtpkgoppfihcpbaaGreatDoorLRc
import Derived.Lib.SlBytesConst
set_option linter.unusedVariables false
set_option linter.unusedSimpArgs false
namespace Go.Proofs.YtpkgoppfihcpbaaGreatDoor
open Go.RowKit

theorem num12_c (x : Int) (w : World) : Calls Tryz.prog 10 #[.int .i64 x] w fun e w' => e = .returned (.int .i64 x) ∧ w = w' := by
  go_enter Tryz.func10, Tryz.ntmps10
  go_wp2
  go_ret
  exact ⟨rfl, rfl⟩
theorem rd_newF (w : World) (xs : List Value) (t : TypeId) : Rd (w.alloc (.cells xs.toArray t)) (some ⟨w.heap.size, 0, none⟩) xs :=
  .inr ⟨_, 0, rfl, fun j u hu => by have := new_cells w xs.toArray t j u (by simpa using hu); rw [add_mk] at this; exact this⟩
theorem rd_newM (w : World) (xs : List Value) (t : TypeId) (p : Nat × Nat) : Rd (w.alloc (.cells xs.toArray t p)) (some ⟨w.heap.size, 0, none⟩) xs :=
  .inr ⟨_, 0, rfl, fun j u hu => by rw [Nat.zero_add]; have e : (w.alloc (.cells xs.toArray t p)).heap[w.heap.size]? = some (.cells xs.toArray t p) := heap_alloc_new w _; simp only [World.cell?, e]; simpa using hu⟩
theorem rd_knF (w : World) : Rd (w.alloc (.cells #[.int .u8 51, .int .u8 13, .int .u8 10, .int .u8 97, .int .u8 98, .int .u8 99, .int .u8 13, .int .u8 10, .int .u8 48, .int .u8 13, .int .u8 10, .int .u8 13, .int .u8 10, .int .u8 120] 5 (14, 15))) (some ⟨w.heap.size, 0, none⟩) (bc knF) := rd_newM w [.int .u8 51, .int .u8 13, .int .u8 10, .int .u8 97, .int .u8 98, .int .u8 99, .int .u8 13, .int .u8 10, .int .u8 48, .int .u8 13, .int .u8 10, .int .u8 13, .int .u8 10, .int .u8 120] 5 (14, 15)
/-- Bytes that nobody owned before. -/
theorem feedF_new (k P : Nat) (hk : 0 < k) (s : Rst) (hs : s.done = true ∨ s.e ≠ 0 ∨ Rok s) (b : List UInt8) (B : Option Addr) (n d : Nat) (hn : n = b.length) (hb : n ≤ 4611686018427387904) (w1 W : World) (o1 : Ow) (h : FsAt w1 o1 k P s) (hG : GlF w1 o1) (hx : Ext w1 W) (hB : Rd W B (bc b)) (hnew : ∀ a, B = some a → w1.heap.size ≤ a.block) :
    Calls Tryz.prog 25 #[.pointer (some ⟨P, 0, none⟩), .slice B n d] W (fun r w' => ∃ v, r = .returned v ∧ ∃ o', IsFed k (feedF s b).2 v w' o' ∧ FsAt w' o' k P (feedF s b).1 ∧ Stp (KF k) w1 o1 w' o') := by
  have t : Stp (fun _ => False) w1 o1 W (fun x => if x < w1.heap.size then o1 x else 0) := Stp.ext2 hx (fun b hb => if_pos hb)
  refine (fFeed_c k P hk s hs b B n d hn hb W _ (h.stp t (fun x => x) (fun x => x) (fun x => x) (fun x => x)) (hG.stp t (fun x => x)) hB (fun _ a ha hlt => ?_)).mono ?_
  · have := hnew a ha
    rw [if_neg (by omega)]
    unfold KF; omega
  · rintro e w' ⟨v, o', rfl, ⟨hv, hp⟩, st⟩
    exact ⟨v, rfl, o', hv, hp, (t.mono fun _ h => h.elim).tr st⟩
def knR : List Fld := [(clN, [53, 44, 32, 54])]
theorem kn_req : reqL knR = (0, 0, 45) := by decide +kernel
theorem kn_ok : valsH knR teN = [] ∧ (∀ v ∈ valsH knR clN, v.length ≤ 1099511627776) ∧ (partsL (valsH knR clN)).length ≤ 1099511627776 ∧ (∀ s ∈ partsL (valsH knR clN), s.length ≤ 140737488355328) ∧ (valsH knR clN).length ≤ 8796093022206 := by decide +kernel
set_option maxRecDepth 100000 in
set_option maxHeartbeats 4000000 in
theorem knows12_c (w : World) (hE : ErrR w) : Calls Tryz.prog 11 #[] w (Gives (.bool true) w) := by
  have G0 := Lib.hid (show GlF w (fun _ => 0) from ⟨hE, rfl⟩)
  clear hE
  have KR := fun (w : World) hE => fRequest_cl knR (some ⟨w.heap.size, 0, none⟩) 1 1 rfl (by decide) (by decide) kn_ok.1 ⟨#[]⟩ ⟨#[]⟩ 1 (w.alloc (.cells #[.string ⟨#[67, 111, 110, 116, 101, 110, 116, 45, 76, 101, 110, 103, 116, 104]⟩, .string ⟨#[53, 44, 32, 54]⟩] 61)) hE (rd_newF w [.string ⟨#[67, 111, 110, 116, 101, 110, 116, 45, 76, 101, 110, 103, 116, 104]⟩, .string ⟨#[53, 44, 32, 54]⟩] 61) kn_ok.2.1 kn_ok.2.2.1 kn_ok.2.2.2.1 kn_ok.2.2.2.2
  rw [kn_req] at KR
  have KR := Lib.hid KR
  have hcs : ∀ (w : World), (convert 39 39 (.slice (some ⟨w.heap.size, 0, none⟩) 14 14)).run Tryz.prog (w.alloc (.cells #[.int .u8 51, .int .u8 13, .int .u8 10, .int .u8 97, .int .u8 98, .int .u8 99, .int .u8 13, .int .u8 10, .int .u8 48, .int .u8 13, .int .u8 10, .int .u8 13, .int .u8 10, .int .u8 120] 5)) = .ok (.slice (some ⟨w.heap.size, 0, none⟩) 14 14) (w.alloc (.cells #[.int .u8 51, .int .u8 13, .int .u8 10, .int .u8 97, .int .u8 98, .int .u8 99, .int .u8 13, .int .u8 10, .int .u8 48, .int .u8 13, .int .u8 10, .int .u8 13, .int .u8 10, .int .u8 120] 5 (14, 15))) := fun w => Lib.run_convert_bytes_const w 39 5 #[.int .u8 51, .int .u8 13, .int .u8 10, .int .u8 97, .int .u8 98, .int .u8 99, .int .u8 13, .int .u8 10, .int .u8 48, .int .u8 13, .int .u8 10, .int .u8 13, .int .u8 10, .int .u8 120] 14 14 Tryz.underlying39 Tryz.underlying5
  have h97 : str [97, 98, 99] = ⟨#[97, 98, 99]⟩ := rfl
  go_enter Tryz.func11, Tryz.ntmps11
  go_wp2_with (first
    | (go_at_call 24; refine (fNew_yes 1 2 0 10 (by decide) (.inl rfl) (by decide) (by decide) _ (fun _ => 0)).mono ?_; rintro e w1 ⟨v, o1, rfl, ⟨P, rfl, hp1, hP1⟩, st1⟩; have G1 := Lib.hid (G0.out.stp st1 (fun x => x)))
    | (go_at_call 25; have C := feedF_new 1 P (by decide) (newF 2 0 10) (.inr (.inr (new_okF (by decide) (by decide) (by decide)))) knF (some ⟨w1.heap.size, 0, none⟩) 14 14 rfl (by decide) w1 _ o1 hp1 G1.out ((Ext.rfl' w1).al _) (rd_knF w1) (by rintro a ⟨⟩; exact Nat.le_refl _); rw [kn_frame] at C; refine C.mono ?_; clear C; rintro e w2 ⟨v2, rfl, o2, ⟨C2, g2, rfl, hs2⟩, hp2, st2⟩; have HRD := Lib.hid hs2.rd; have G2 := Lib.hid (G1.out.stp st2 (by unfold KF; omega)); have ST2 := Lib.hid st2; clear hp2 st2 hs2)
    | (go_at_call 5; refine (KR.out _ (G2.out.er.ext (by (repeat (first | exact Ext.rfl' _ | assumption | refine Ext.dr ?_ | refine Ext.drN ?_ _ | refine Ext.al ?_ _ | refine Ext.st ?_ (by simp) _ | refine Ext.tr ?_ (by assumption)))))).mono ?_; rintro e w3 ⟨rfl, hx3⟩; have CV := fun x => conv_bs 39 9 5 Tryz.underlying39 Tryz.underlying5 Tryz.underlying9 (HRD.out.ext (show Ext w2 (w3.alloc x) from by (repeat (first | exact Ext.rfl' _ | assumption | refine Ext.dr ?_ | refine Ext.drN ?_ _ | refine Ext.al ?_ _ | refine Ext.st ?_ (by simp) _ | refine Ext.tr ?_ (by assumption))))) 3 g2 rfl)
    | (go_at_call 10; refine (num12_c _ _).mono ?_; rintro e w6 ⟨rfl, rfl⟩))
  go_ret
  have st5 : Stp (KF 1) w (fun _ => 0) w2 o2 := (st1.mono fun _ h => h.elim).tr ST2.out
  have e5 : Ext w w2 := st5.toExt (fun _ _ => by unfold KF; omega)
  exact ⟨rfl, by (repeat (first | exact Ext.rfl' _ | assumption | refine Ext.dr ?_ | refine Ext.drN ?_ _ | refine Ext.al ?_ _ | refine Ext.st ?_ (by simp) _ | refine Ext.tr ?_ (by assumption)))⟩
end Go.Proofs.YtpkgoppfihcpbaaGreatDoor
