/-
A body in chunks, and its end: the law as a walk.
-/
import Derived.Test.YtnakeigpelcajaaGreatDoorFKa
import Derived.Test.YtnakeigpelcajaaGreatDoorLent
set_option linter.unusedVariables false
set_option linter.unusedSimpArgs false
namespace Go.Proofs.YtnakeigpelcajaaGreatDoor
open Go.RowKit

theorem wpAnyH_monoK {P : Program} {ops : Array Oper} {Q : Exit → Act → World → Prop} {md : Region.Mode} {S S' : World → Prop} (hS : ∀ w, S' w → S w) : ∀ {fuel : Nat} {listed : Array Bool} {a : Act} {w : World}, wpAnyH P md ops Q S' fuel listed a w → wpAnyH P md ops Q S fuel listed a w
  | 0, _, _, _, h => h
  | _ + 1, _, _, _, h => ⟨h.1, fun i hi => wpOp_mono (fun _ _ h' => ⟨hS _ h'.1, wpAnyH_monoK hS h'.2⟩) (h.2 i hi)⟩
set_option maxRecDepth 100000 in
set_option maxHeartbeats 8000000 in
theorem FramingWrites_w (w : World) (hE : ErrR w) (hP : Bru w) (b : List UInt8) (B : Option Addr) (bn bd : Nat) (hbn : bn = b.length) (hbb : bn ≤ 140737488351232) (hB : Rd w B (bc b))
    (fs : List Fld) (T : Option Addr) (m tc : Nat) (hm : fs.length = m) (hmb : m ≤ 8796093022206) (hsz : ∀ p ∈ fs, p.1.length ≤ 140737488351232 ∧ p.2.length ≤ 140737488351232) (hT : Rd w T (fc fs)) :
    Calls Tryz.prog 3 #[.slice B bn bd, .slice T m tc] w (Gives (.bool true) w) := by
  have hms : maxLen = 9223372036854775807 := rfl
  have HE := Lib.hid hE
  have HPB := Lib.hid hP
  have HB := Lib.hid hB
  have HBN := Lib.hid hbn
  have HT := Lib.hid hT
  have C1 := Lib.hid (fun w h => fLast_c fs T m tc hm hmb hsz w h)
  have C2 := Lib.hid (fun w h => rfLast_c fs T m tc hm hmb hsz w h)
  have CLN := Lib.hid (fun w o h => Lent_c 9 b B bn bd hbn w o h hbb)
  have C5 := Lib.hid (fun (w : World) (A : Option Addr) (c : Nat) hP h => fChunk_c b A bn c hbn hbb w hP h)
  have C6 := Lib.hid (fun (w : World) (A : Option Addr) (c : Nat) h => rfChunk_c b A bn c hbn hbb w h)
  obtain ⟨⟨le, ee⟩, hle⟩ : ∃ r, r = lastL fs := ⟨_, rfl⟩
  rw [← hle] at C1 C2
  obtain ⟨ch, hch⟩ : ∃ r, r = chunkL b := ⟨_, rfl⟩
  rw [← hch] at C5 C6
  obtain ⟨sl, hsl⟩ : ∃ s, s = str le := ⟨_, rfl⟩
  obtain ⟨sc1, hsc⟩ : ∃ s, s = str ch := ⟨_, rfl⟩
  have CV1 := Lib.hid (fun (w : World) (A : Option Addr) (k : Nat) (h : Rd w A (bc le)) => (by have := conv_bs 22 9 5 Tryz.underlying22 Tryz.underlying5 Tryz.underlying9 h le.length k rfl; rw [← hsl] at this; exact this : (convert 22 9 (.slice A le.length k)).run Tryz.prog w = .ok (.string sl) w))
  have CV5 := Lib.hid (fun (w : World) (A : Option Addr) (k : Nat) (h : Rd w A (bc ch)) => (by have := conv_bs 22 9 5 Tryz.underlying22 Tryz.underlying5 Tryz.underlying9 h ch.length k rfl; rw [← hsc] at this; exact this : (convert 22 9 (.slice A ch.length k)).run Tryz.prog w = .ok (.string sc1) w))
  clear hE hP hB hT hm hsz hle hch hsl hsc hbn
  go_enter Tryz.func3, Tryz.ntmps3
  go_upto_region 4 with (first
    | (go_at_call 4; refine (CLN.out w (fun _ => 0) HB.out).mono ?_; rintro e w1 ⟨v, o1, rfl, ⟨AL, cL, rfl, hLc, hLs⟩, st1⟩; have x1 : Ext w w1 := st1.toExt (fun _ _ => by simp); have HL1 := Lib.hid hLs.rd; clear hLs st1)
    | (go_at_call 5; refine (C1.out _ (HT.out.ext x1)).mono ?_; rintro e w2 ⟨v, rfl, ⟨A2, c2, rfl, hr2⟩, x2⟩; dsimp only at hr2; have HR2 := Lib.hid hr2; clear hr2)
    | (go_at_call 6; refine (C2.out _ (HT.out.ext (x1.tr x2))).mono ?_; rintro e w3 ⟨v, rfl, ⟨A3, c3, rfl, hr3⟩, x3⟩; dsimp only at hr3; have HR3 := Lib.hid hr3; have XA := Lib.hid (x1.tr (x2.tr x3)); have HL := Lib.hid (HL1.out.ext (x2.tr x3)); have HR2 := Lib.hid (HR2.out.ext x3); clear hr3 x1 x2 x3))
  have hk0 := Lib.hid (fun w' (e : Ext w3 w') => (⟨CV1.out w' A2 c2 (HR2.out.ext e), CV1.out w' A3 c3 (HR3.out.ext e)⟩ : (convert 22 9 (.slice A2 le.length c2)).run Tryz.prog w' = .ok (.string sl) w' ∧ (convert 22 9 (.slice A3 le.length c3)).run Tryz.prog w' = .ok (.string sl) w'))
  have HLR := Lib.hid (show Rd w3 AL (bc b) from by
    have := HL.out.take b.length
    rw [bc_take, List.take_left] at this
    exact this)
  rw [← HBN.out] at hLc ⊢
  refine wp_region_noPanic ?_
  refine wp_region_held_drew (S := fun w' => (convert 22 9 (.slice A2 le.length c2)).run Tryz.prog w' = .ok (.string sl) w' ∧ (convert 22 9 (.slice A3 le.length c3)).run Tryz.prog w' = .ok (.string sl) w') (by kernel_rfl) (hk0.out _ (by (repeat (first | exact Ext.rfl' _ | assumption | refine Ext.dr ?_ | refine Ext.drN ?_ _ | refine Ext.al ?_ _ | refine Ext.st ?_ (by simp) _ | refine Ext.tr ?_ (by assumption))))) (fun hHeld => ?_)
  refine wpAnyH_take (i := 0) (oi := ?_) (v := ?_) ?_ (by kernel_rfl) (by kernel_rfl) (by kernel_rfl) (fun _ _ _ h => h) (Or.inl ⟨?_, ?_⟩) (by assumption) ?_
  rotate_left 2
  · (simp only [List.getElem?_toArray, List.getElem?_cons_succ, List.getElem?_cons_zero]; first | done | rfl)
  · rfl
  · intro w hSw
    try dsimp only at hSw
    go_simp <;> with_reducible rfl
  try simp only [Act.put, List.setIfInBounds_toArray, List.set_cons_zero, List.set_cons_succ]
  refine wpAnyH_take (i := 3) (oi := ?_) (v := ?_) ?_ (by kernel_rfl) (by kernel_rfl) (by kernel_rfl) (fun _ _ _ h => h) (Or.inl ⟨?_, ?_⟩) (by assumption) ?_
  rotate_left 2
  · (simp only [List.getElem?_toArray, List.getElem?_cons_succ, List.getElem?_cons_zero]; first | done | rfl)
  · rfl
  · intro w hSw
    try dsimp only at hSw
    go_simp <;> with_reducible rfl
  try simp only [Act.put, List.setIfInBounds_toArray, List.set_cons_zero, List.set_cons_succ]
  refine wpAnyH_ready (rs := [1]) (by kernel_rfl) (by simp) ?_
  refine AllReadyH.cons rfl (fun K hK => ?_) AllReadyH.nil
  go_simp
  go_at_call 7
  refine (C5.out _ AL cL (HPB.out.ext (XA.out.tr (by (repeat (first | exact Ext.rfl' _ | assumption | refine Ext.dr ?_ | refine Ext.drN ?_ _ | refine Ext.al ?_ _ | refine Ext.st ?_ (by simp) _ | refine Ext.tr ?_ (by assumption)))))) (HLR.out.ext (by (repeat (first | exact Ext.rfl' _ | assumption | refine Ext.dr ?_ | refine Ext.drN ?_ _ | refine Ext.al ?_ _ | refine Ext.st ?_ (by simp) _ | refine Ext.tr ?_ (by assumption)))))).mono ?_
  rintro e w5 ⟨v, rfl, ⟨A5, c5, rfl, hr5⟩, x5⟩
  have HR5 := Lib.hid hr5
  clear hr5
  have cv5 := CV5.out w5 A5 c5 HR5.out
  have x35 : Ext w3 w5 := by (repeat (first | exact Ext.rfl' _ | assumption | refine Ext.dr ?_ | refine Ext.drN ?_ _ | refine Ext.al ?_ _ | refine Ext.st ?_ (by simp) _ | refine Ext.tr ?_ (by assumption)))
  refine hK.out _ _ (hk0.out _ x35) (fun hHeld2 => ?_)
  clear hHeld
  clear hK K
  try simp only [List.getElem?_toArray, List.getElem?_cons_succ, List.getElem?_cons_zero, Act.put, List.setIfInBounds_toArray, List.set_cons_zero, List.set_cons_succ]
  refine wpAnyH_monoK (S' := fun w' => (convert 22 9 (.slice A5 ch.length c5)).run Tryz.prog w' = .ok (.string sc1) w' ∧ ((convert 22 9 (.slice A2 le.length c2)).run Tryz.prog w' = .ok (.string sl) w' ∧ (convert 22 9 (.slice A3 le.length c3)).run Tryz.prog w' = .ok (.string sl) w')) (fun w h => h.2) ?_
  have hHeld := And.intro cv5 hHeld2
  refine wpAnyH_take (i := 2) (oi := ?_) (v := ?_) ?_ (by kernel_rfl) (by kernel_rfl) (by kernel_rfl) (fun _ _ _ h => h) (Or.inl ⟨?_, ?_⟩) (by assumption) ?_
  rotate_left 2
  · (simp only [List.getElem?_toArray, List.getElem?_cons_succ, List.getElem?_cons_zero]; first | done | rfl)
  · rfl
  · intro w hSw
    try dsimp only at hSw
    go_simp <;> with_reducible rfl
  try simp only [Act.put, List.setIfInBounds_toArray, List.set_cons_zero, List.set_cons_succ]
  refine wpAnyH_ready (rs := [4]) (by kernel_rfl) (by simp) ?_
  refine AllReadyH.cons rfl (fun K hK => ?_) AllReadyH.nil
  go_simp
  go_at_call 8
  refine (C6.out _ B bd (HB.out.ext (XA.out.tr (by (repeat (first | exact Ext.rfl' _ | assumption | refine Ext.dr ?_ | refine Ext.drN ?_ _ | refine Ext.al ?_ _ | refine Ext.st ?_ (by simp) _ | refine Ext.tr ?_ (by assumption))))))).mono ?_
  rintro e w7 ⟨v, rfl, ⟨A7, c7, rfl, hr7⟩, x7⟩
  have HR7 := Lib.hid hr7
  clear hr7
  have cv7 := CV5.out w7 A7 c7 HR7.out
  have x37 : Ext w3 w7 := by (repeat (first | exact Ext.rfl' _ | assumption | refine Ext.dr ?_ | refine Ext.drN ?_ _ | refine Ext.al ?_ _ | refine Ext.st ?_ (by simp) _ | refine Ext.tr ?_ (by assumption)))
  have x57 : Ext w5 w7 := by (repeat (first | exact Ext.rfl' _ | assumption | refine Ext.dr ?_ | refine Ext.drN ?_ _ | refine Ext.al ?_ _ | refine Ext.st ?_ (by simp) _ | refine Ext.tr ?_ (by assumption)))
  refine hK.out _ _ ⟨CV5.out _ _ _ (HR5.out.ext x57), hk0.out _ x37⟩ (fun hHeld3 => ?_)
  clear hHeld hHeld2
  clear hK K
  try simp only [List.getElem?_toArray, List.getElem?_cons_succ, List.getElem?_cons_zero, Act.put, List.setIfInBounds_toArray, List.set_cons_zero, List.set_cons_succ]
  refine wpAnyH_monoK (S' := fun w' => (convert 22 9 (.slice A7 ch.length c7)).run Tryz.prog w' = .ok (.string sc1) w' ∧ ((convert 22 9 (.slice A5 ch.length c5)).run Tryz.prog w' = .ok (.string sc1) w' ∧ ((convert 22 9 (.slice A2 le.length c2)).run Tryz.prog w' = .ok (.string sl) w' ∧ (convert 22 9 (.slice A3 le.length c3)).run Tryz.prog w' = .ok (.string sl) w'))) (fun w h => h.2) ?_
  have hHeld := And.intro cv7 hHeld3
  refine wpAnyH_take (i := 5) (oi := ?_) (v := ?_) ?_ (by kernel_rfl) (by kernel_rfl) (by kernel_rfl) (fun _ _ _ h => h) (Or.inl ⟨?_, ?_⟩) (by assumption) ?_
  rotate_left 2
  · (simp only [List.getElem?_toArray, List.getElem?_cons_succ, List.getElem?_cons_zero]; first | done | rfl)
  · rfl
  · intro w hSw
    try dsimp only at hSw
    go_simp <;> with_reducible rfl
  try simp only [Act.put, List.setIfInBounds_toArray, List.set_cons_zero, List.set_cons_succ]
  refine wpAnyH_take (i := 6) (oi := ?_) (v := ?_) ?_ (by kernel_rfl) (by kernel_rfl) (by kernel_rfl) (fun _ _ _ h => h) (Or.inl ⟨?_, ?_⟩) (by assumption) ?_
  rotate_left 2
  · (simp only [List.getElem?_toArray, List.getElem?_cons_succ, List.getElem?_cons_zero]; first | done | rfl)
  · rfl
  · intro w hSw
    try dsimp only at hSw
    go_simp <;> with_reducible rfl
  try simp only [Act.put, List.setIfInBounds_toArray, List.set_cons_zero, List.set_cons_succ]
  refine wpAnyH_take (i := 7) (oi := ?_) (v := ?_) ?_ (by kernel_rfl) (by kernel_rfl) (by kernel_rfl) (fun _ _ _ h => h) (Or.inl ⟨?_, ?_⟩) (by assumption) ?_
  rotate_left 2
  · (simp only [List.getElem?_toArray, List.getElem?_cons_succ, List.getElem?_cons_zero]; first | done | rfl)
  · rfl
  · intro w hSw
    try dsimp only at hSw
    go_simp <;> with_reducible rfl
  try simp only [Act.put, List.setIfInBounds_toArray, List.set_cons_zero, List.set_cons_succ]
  refine wpAnyH_take (i := 8) (oi := ?_) (v := ?_) ?_ (by kernel_rfl) (by kernel_rfl) (by kernel_rfl) (fun _ _ _ h => h) (Or.inl ⟨?_, ?_⟩) (by assumption) ?_
  rotate_left 2
  · (simp only [List.getElem?_toArray, List.getElem?_cons_succ, List.getElem?_cons_zero]; first | done | rfl)
  · rfl
  · intro w hSw
    try dsimp only at hSw
    go_simp <;> with_reducible rfl
  try simp only [Act.put, List.setIfInBounds_toArray, List.set_cons_zero, List.set_cons_succ]
  refine wpAnyH_take (i := 9) (oi := ?_) (v := ?_) ?_ (by kernel_rfl) (by kernel_rfl) (by kernel_rfl) (fun _ _ _ h => h) (Or.inl ⟨?_, ?_⟩) (by assumption) ?_
  rotate_left 2
  · (simp only [List.getElem?_toArray, List.getElem?_cons_succ, List.getElem?_cons_zero]; first | done | rfl)
  · rfl
  · intro w hSw
    try dsimp only at hSw
    go_simp <;> with_reducible rfl
  try simp only [Act.put, List.setIfInBounds_toArray, List.set_cons_zero, List.set_cons_succ]
  refine wpAnyH_ready (rs := [10]) (by kernel_rfl) (by simp) ?_
  refine AllReadyH.cons rfl (fun K hK => ?_) AllReadyH.nil
  go_simp
  go_at_call 9
  refine (Stays_c b AL B bn cL bn bd HBN.out HBN.out _ (by rw [← HBN.out]; exact hLc) (HL.out.ext (by (repeat (first | exact Ext.rfl' _ | assumption | refine Ext.dr ?_ | refine Ext.drN ?_ _ | refine Ext.al ?_ _ | refine Ext.st ?_ (by simp) _ | refine Ext.tr ?_ (by assumption))))) (HB.out.ext (XA.out.tr (by (repeat (first | exact Ext.rfl' _ | assumption | refine Ext.dr ?_ | refine Ext.drN ?_ _ | refine Ext.al ?_ _ | refine Ext.st ?_ (by simp) _ | refine Ext.tr ?_ (by assumption)))))) (by rw [← HBN.out]; exact hbb)).mono ?_
  rintro e wS ⟨rfl, xS⟩
  refine hK.out _ _ ⟨CV5.out _ _ _ (HR7.out.ext (by (repeat (first | exact Ext.rfl' _ | assumption | refine Ext.dr ?_ | refine Ext.drN ?_ _ | refine Ext.al ?_ _ | refine Ext.st ?_ (by simp) _ | refine Ext.tr ?_ (by assumption))))), CV5.out _ _ _ (HR5.out.ext (by (repeat (first | exact Ext.rfl' _ | assumption | refine Ext.dr ?_ | refine Ext.drN ?_ _ | refine Ext.al ?_ _ | refine Ext.st ?_ (by simp) _ | refine Ext.tr ?_ (by assumption))))), hk0.out _ (by (repeat (first | exact Ext.rfl' _ | assumption | refine Ext.dr ?_ | refine Ext.drN ?_ _ | refine Ext.al ?_ _ | refine Ext.st ?_ (by simp) _ | refine Ext.tr ?_ (by assumption))))⟩ (fun hHeld => ?_)
  clear hK K
  try simp only [List.getElem?_toArray, List.getElem?_cons_succ, List.getElem?_cons_zero, Act.put, List.setIfInBounds_toArray, List.set_cons_zero, List.set_cons_succ]
  refine wpAnyH_take (i := 11) (oi := ?_) (v := ?_) ?_ (by kernel_rfl) (by kernel_rfl) (by kernel_rfl) (fun _ _ _ h => h) (Or.inl ⟨?_, ?_⟩) (by assumption) ?_
  rotate_left 2
  · (simp only [List.getElem?_toArray, List.getElem?_cons_succ, List.getElem?_cons_zero]; first | done | rfl)
  · rfl
  · intro w hSw
    try dsimp only at hSw
    go_simp <;> with_reducible rfl
  try simp only [Act.put, List.setIfInBounds_toArray, List.set_cons_zero, List.set_cons_succ]
  refine wpAnyH_take (i := 12) (oi := ?_) (v := ?_) ?_ (by kernel_rfl) (by kernel_rfl) (by kernel_rfl) (fun _ _ _ h => h) (Or.inl ⟨?_, ?_⟩) (by assumption) ?_
  rotate_left 2
  · (simp only [List.getElem?_toArray, List.getElem?_cons_succ, List.getElem?_cons_zero]; first | done | rfl)
  · rfl
  · intro w hSw
    try dsimp only at hSw
    go_simp <;> with_reducible rfl
  try simp only [Act.put, List.setIfInBounds_toArray, List.set_cons_zero, List.set_cons_succ]
  refine wpAnyH_take (i := 13) (oi := ?_) (v := ?_) ?_ (by kernel_rfl) (by kernel_rfl) (by kernel_rfl) (fun _ _ _ h => h) (Or.inl ⟨?_, ?_⟩) (by assumption) ?_
  rotate_left 2
  · (simp only [List.getElem?_toArray, List.getElem?_cons_succ, List.getElem?_cons_zero]; first | done | rfl)
  · rfl
  · intro w hSw
    try dsimp only at hSw
    go_simp <;> with_reducible rfl
  try simp only [Act.put, List.setIfInBounds_toArray, List.set_cons_zero, List.set_cons_succ]
  refine wpAnyH_take (i := 14) (oi := ?_) (v := ?_) ?_ (by kernel_rfl) (by kernel_rfl) (by kernel_rfl) (fun _ _ _ h => h) (Or.inl ⟨?_, ?_⟩) (by assumption) ?_
  rotate_left 2
  · (simp only [List.getElem?_toArray, List.getElem?_cons_succ, List.getElem?_cons_zero]; first | done | rfl)
  · rfl
  · intro w hSw
    try dsimp only at hSw
    go_simp <;> with_reducible rfl
  try simp only [Act.put, List.setIfInBounds_toArray, List.set_cons_zero, List.set_cons_succ]
  refine wpAnyH_take (i := 15) (oi := ?_) (v := ?_) ?_ (by kernel_rfl) (by kernel_rfl) (by kernel_rfl) (fun _ _ _ h => h) (Or.inl ⟨?_, ?_⟩) (by assumption) ?_
  rotate_left 2
  · (simp only [List.getElem?_toArray, List.getElem?_cons_succ, List.getElem?_cons_zero]; first | done | rfl)
  · rfl
  · intro w hSw
    try dsimp only at hSw
    go_simp <;> with_reducible rfl
  try simp only [Act.put, List.setIfInBounds_toArray, List.set_cons_zero, List.set_cons_succ]
  refine wpAnyH_take (i := 16) (oi := ?_) (v := ?_) ?_ (by kernel_rfl) (by kernel_rfl) (by kernel_rfl) (fun _ _ _ h => h) (Or.inl ⟨?_, ?_⟩) (by assumption) ?_
  rotate_left 2
  · (simp only [List.getElem?_toArray, List.getElem?_cons_succ, List.getElem?_cons_zero]; first | done | rfl)
  · rfl
  · intro w hSw
    try dsimp only at hSw
    go_simp <;> with_reducible rfl
  try simp only [Act.put, List.setIfInBounds_toArray, List.set_cons_zero, List.set_cons_succ]
  refine wpAnyH_take (i := 17) (oi := ?_) (v := ?_) ?_ (by kernel_rfl) (by kernel_rfl) (by kernel_rfl) (fun _ _ _ h => h) (Or.inl ⟨?_, ?_⟩) (by assumption) ?_
  rotate_left 2
  · (simp only [List.getElem?_toArray, List.getElem?_cons_succ, List.getElem?_cons_zero]; first | done | rfl)
  · rfl
  · intro w hSw
    try dsimp only at hSw
    go_simp <;> with_reducible rfl
  try simp only [Act.put, List.setIfInBounds_toArray, List.set_cons_zero, List.set_cons_succ]
  refine wpAnyH_take (i := 18) (oi := ?_) (v := ?_) ?_ (by kernel_rfl) (by kernel_rfl) (by kernel_rfl) (fun _ _ _ h => h) (Or.inl ⟨?_, ?_⟩) (by assumption) ?_
  rotate_left 2
  · (simp only [List.getElem?_toArray, List.getElem?_cons_succ, List.getElem?_cons_zero]; first | done | rfl)
  · rfl
  · intro w hSw
    try dsimp only at hSw
    go_simp <;> with_reducible rfl
  try simp only [Act.put, List.setIfInBounds_toArray, List.set_cons_zero, List.set_cons_succ]
  refine wpAnyH_take (i := 19) (oi := ?_) (v := ?_) ?_ (by kernel_rfl) (by kernel_rfl) (by kernel_rfl) (fun _ _ _ h => h) (Or.inl ⟨?_, ?_⟩) (by assumption) ?_
  rotate_left 2
  · (simp only [List.getElem?_toArray, List.getElem?_cons_succ, List.getElem?_cons_zero]; first | done | rfl)
  · rfl
  · intro w hSw
    try dsimp only at hSw
    go_simp <;> with_reducible rfl
  try simp only [Act.put, List.setIfInBounds_toArray, List.set_cons_zero, List.set_cons_succ]
  refine wpAnyH_take (i := 20) (oi := ?_) (v := ?_) ?_ (by kernel_rfl) (by kernel_rfl) (by kernel_rfl) (fun _ _ _ h => h) (Or.inl ⟨?_, ?_⟩) (by assumption) ?_
  rotate_left 2
  · (simp only [List.getElem?_toArray, List.getElem?_cons_succ, List.getElem?_cons_zero]; first | done | rfl)
  · rfl
  · intro w hSw
    try dsimp only at hSw
    go_simp <;> with_reducible rfl
  try simp only [Act.put, List.setIfInBounds_toArray, List.set_cons_zero, List.set_cons_succ]
  refine wpAnyH_take (i := 22) (oi := ?_) (v := ?_) ?_ (by kernel_rfl) (by kernel_rfl) (by kernel_rfl) (fun _ _ _ h => h) (Or.inl ⟨?_, ?_⟩) (by assumption) ?_
  rotate_left 2
  · (simp only [List.getElem?_toArray, List.getElem?_cons_succ, List.getElem?_cons_zero]; first | done | rfl)
  · rfl
  · intro w hSw
    try dsimp only at hSw
    go_simp <;> with_reducible rfl
  try simp only [Act.put, List.setIfInBounds_toArray, List.set_cons_zero, List.set_cons_succ]
  refine wpAnyH_ready (rs := [21]) (by kernel_rfl) (by simp) ?_
  refine AllReadyH.cons rfl (fun K hK => ?_) AllReadyH.nil
  go_simp
  go_at_call 10
  refine (num12_c _ _).mono ?_
  rintro e wN ⟨rfl, rfl⟩
  refine hK.out _ _ ⟨CV5.out _ _ _ (HR7.out.ext (by (repeat (first | exact Ext.rfl' _ | assumption | refine Ext.dr ?_ | refine Ext.drN ?_ _ | refine Ext.al ?_ _ | refine Ext.st ?_ (by simp) _ | refine Ext.tr ?_ (by assumption))))), CV5.out _ _ _ (HR5.out.ext (by (repeat (first | exact Ext.rfl' _ | assumption | refine Ext.dr ?_ | refine Ext.drN ?_ _ | refine Ext.al ?_ _ | refine Ext.st ?_ (by simp) _ | refine Ext.tr ?_ (by assumption))))), hk0.out _ (by (repeat (first | exact Ext.rfl' _ | assumption | refine Ext.dr ?_ | refine Ext.drN ?_ _ | refine Ext.al ?_ _ | refine Ext.st ?_ (by simp) _ | refine Ext.tr ?_ (by assumption))))⟩ (fun hHeld => ?_)
  clear hK K
  try simp only [List.getElem?_toArray, List.getElem?_cons_succ, List.getElem?_cons_zero, Act.put, List.setIfInBounds_toArray, List.set_cons_zero, List.set_cons_succ]
  refine wpAnyH_take (i := 23) (oi := ?_) (v := ?_) ?_ (by kernel_rfl) (by kernel_rfl) (by kernel_rfl) (fun _ _ _ h => h) (Or.inl ⟨?_, ?_⟩) (by assumption) ?_
  rotate_left 2
  · (simp only [List.getElem?_toArray, List.getElem?_cons_succ, List.getElem?_cons_zero]; first | done | rfl)
  · rfl
  · intro w hSw
    try dsimp only at hSw
    go_simp <;> with_reducible rfl
  try simp only [Act.put, List.setIfInBounds_toArray, List.set_cons_zero, List.set_cons_succ]
  refine wpAnyH_take (i := 24) (oi := ?_) (v := ?_) ?_ (by kernel_rfl) (by kernel_rfl) (by kernel_rfl) (fun _ _ _ h => h) (Or.inl ⟨?_, ?_⟩) (by assumption) ?_
  rotate_left 2
  · (simp only [List.getElem?_toArray, List.getElem?_cons_succ, List.getElem?_cons_zero]; first | done | rfl)
  · rfl
  · intro w hSw
    try dsimp only at hSw
    go_simp <;> with_reducible rfl
  try simp only [Act.put, List.setIfInBounds_toArray, List.set_cons_zero, List.set_cons_succ]
  refine wpAnyH_take (i := 25) (oi := ?_) (v := ?_) ?_ (by kernel_rfl) (by kernel_rfl) (by kernel_rfl) (fun _ _ _ h => h) (Or.inl ⟨?_, ?_⟩) (by assumption) ?_
  rotate_left 2
  · (simp only [List.getElem?_toArray, List.getElem?_cons_succ, List.getElem?_cons_zero]; first | done | rfl)
  · rfl
  · intro w hSw
    try dsimp only at hSw
    go_simp <;> with_reducible rfl
  try simp only [Act.put, List.setIfInBounds_toArray, List.set_cons_zero, List.set_cons_succ]
  refine wpAnyH_ready (rs := [26]) (by kernel_rfl) (by simp) ?_
  refine AllReadyH.cons rfl (fun K hK => ?_) AllReadyH.nil
  go_simp
  go_at_call 11
  refine (knows12_c _ (HE.out.ext (XA.out.tr (by (repeat (first | exact Ext.rfl' _ | assumption | refine Ext.dr ?_ | refine Ext.drN ?_ _ | refine Ext.al ?_ _ | refine Ext.st ?_ (by simp) _ | refine Ext.tr ?_ (by assumption))))))).mono ?_
  rintro e wK ⟨rfl, xK⟩
  refine hK.out _ _ ⟨CV5.out _ _ _ (HR7.out.ext (by (repeat (first | exact Ext.rfl' _ | assumption | refine Ext.dr ?_ | refine Ext.drN ?_ _ | refine Ext.al ?_ _ | refine Ext.st ?_ (by simp) _ | refine Ext.tr ?_ (by assumption))))), CV5.out _ _ _ (HR5.out.ext (by (repeat (first | exact Ext.rfl' _ | assumption | refine Ext.dr ?_ | refine Ext.drN ?_ _ | refine Ext.al ?_ _ | refine Ext.st ?_ (by simp) _ | refine Ext.tr ?_ (by assumption))))), hk0.out _ (by (repeat (first | exact Ext.rfl' _ | assumption | refine Ext.dr ?_ | refine Ext.drN ?_ _ | refine Ext.al ?_ _ | refine Ext.st ?_ (by simp) _ | refine Ext.tr ?_ (by assumption))))⟩ (fun hHeld => ?_)
  clear hK K
  try simp only [List.getElem?_toArray, List.getElem?_cons_succ, List.getElem?_cons_zero, Act.put, List.setIfInBounds_toArray, List.set_cons_zero, List.set_cons_succ]
  refine wpAnyH_take (i := 27) (oi := ?_) (v := ?_) ?_ (by kernel_rfl) (by kernel_rfl) (by kernel_rfl) (fun _ _ _ h => h) (Or.inl ⟨?_, ?_⟩) (by assumption) ?_
  rotate_left 2
  · (simp only [List.getElem?_toArray, List.getElem?_cons_succ, List.getElem?_cons_zero]; first | done | rfl)
  · rfl
  · intro w hSw
    try dsimp only at hSw
    go_simp <;> with_reducible rfl
  try simp only [Act.put, List.setIfInBounds_toArray, List.set_cons_zero, List.set_cons_succ]
  refine wpAnyH_take (i := 28) (oi := ?_) (v := ?_) ?_ (by kernel_rfl) (by kernel_rfl) (by kernel_rfl) (fun _ _ _ h => h) (Or.inl ⟨?_, ?_⟩) (by assumption) ?_
  rotate_left 2
  · (simp only [List.getElem?_toArray, List.getElem?_cons_succ, List.getElem?_cons_zero]; first | done | rfl)
  · rfl
  · intro w hSw
    try dsimp only at hSw
    go_simp <;> with_reducible rfl
  try simp only [Act.put, List.setIfInBounds_toArray, List.set_cons_zero, List.set_cons_succ]
  refine wpAnyH_done (by kernel_rfl) ?_ _
  refine NoPanic.normal ?_
  go_wp2
  go_ret
  exact ⟨rfl, XA.out.tr (by (repeat (first | exact Ext.rfl' _ | assumption | refine Ext.dr ?_ | refine Ext.drN ?_ _ | refine Ext.al ?_ _ | refine Ext.st ?_ (by simp) _ | refine Ext.tr ?_ (by assumption))))⟩
end Go.Proofs.YtnakeigpelcajaaGreatDoor
