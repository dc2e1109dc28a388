/-
What the evaluator takes as summed up in this program.
-/
import Derived.Test.YtemdgilifnhdpaaGreatDoorEvE
import Derived.Test.YtemdgilifnhdpaaGreatDoorZaa
set_option linter.unusedVariables false
set_option linter.unusedSimpArgs false
set_option linter.unusedVariables false
set_option linter.unusedSimpArgs false
namespace Go.Proofs.YtemdgilifnhdpaaGreatDoor.Ev
open Go.ChangeShapes

theorem evNames : Tryz.prog.funcs.all (fun fn => !(fn.name == "runtime.NumGoroutine")) = true := by kernel_rfl
theorem evEnter {f : Nat} {fn : Func} (hf : Tryz.prog.funcs[f]? = some fn) (hb : fn.body.isSome = true) (A : Array Value) (w : World) : (callFunc f A).run Tryz.prog w = .ok (.enter f A) w := by
  have h0 := (Array.all_eq_true_iff_forall_mem.1 evNames) fn (Array.mem_of_getElem? hf)
  have h1 : fn.name ≠ "runtime.NumGoroutine" := by simpa using h0
  obtain ⟨c, hc⟩ := Option.isSome_iff_exists.1 hb
  simp [callFunc, hf, h1, hc, Go.program, Sem.run]
theorem evMixed : Tryz.prog.follows .mixedOrders = true := by kernel_rfl

theorem idxS_ext : IsExt Tryz.prog 163 Extern.BytealgIndexByte.indexByte := ⟨_, Tryz.func163, by kernel_rfl, by kernel_rfl, by kernel_rfl, by kernel_rfl⟩
theorem idxB_ext : IsExt Tryz.prog 211 Extern.BytealgIndexByte.indexByte := ⟨_, Tryz.func211, by kernel_rfl, by kernel_rfl, by kernel_rfl, by kernel_rfl⟩
theorem cnt_ext : IsExt Tryz.prog 199 Extern.BytealgCount.count := ⟨_, Tryz.func199, by kernel_rfl, by kernel_rfl, by kernel_rfl, by kernel_rfl⟩
theorem mk_ext : IsExt Tryz.prog 194 (Extern.BytealgMakeNoZero.makeNoZero #[3] #[22]) := ⟨_, Tryz.func194, by kernel_rfl, by kernel_rfl, by kernel_rfl, by kernel_rfl⟩

noncomputable def smA (k : Nat) : Sum := ⟨fun f => bif Nat.beq f 163 || Nat.beq f 211 then some idxA else bif Nat.beq f 199 then some countA else bif Nat.beq f 194 then some (mkNZA 5) else bif Nat.beq f 164 then some (copyA fun e n => Nat.beq e 196 && Nat.beq n 2) else none,
  fun t => Nat.beq t 39 || Nat.beq t 179, k⟩
def clsT : AV := .agg ([0, 0, 0, 0, 0, 0, 0, 0, 0, 2, 0, 0, 0, 0, 0, 0, 0, 0, 0, 0, 0, 0, 0, 0, 0, 0, 0, 0, 0, 0, 0, 0, 2, 3, 2, 3, 3, 3, 3, 3, 2, 2, 3, 3, 2, 3, 3, 2, 3, 3, 3, 3, 3, 3, 3, 3, 3, 3, 2, 2, 2, 2, 2, 2, 2, 7, 7, 7, 7, 7, 7, 7, 7, 7, 7, 7, 7, 7, 7, 7, 7, 7, 7, 7, 7, 7, 7, 7, 7, 7, 7, 2, 2, 2, 3, 3, 3, 3, 3, 3, 3, 3, 3, 3, 3, 3, 3, 3, 3, 3, 3, 3, 3, 3, 3, 3, 3, 3, 3, 3, 3, 3, 3, 2, 3, 2, 3, 0, 2, 2, 2, 2, 2, 2, 2, 2, 2, 2, 2, 2, 2, 2, 2, 2, 2, 2, 2, 2, 2, 2, 2, 2, 2, 2, 2, 2, 2, 2, 2, 2, 2, 2, 2, 2, 2, 2, 2, 2, 2, 2, 2, 2, 2, 2, 2, 2, 2, 2, 2, 2, 2, 2, 2, 2, 2, 2, 2, 2, 2, 2, 2, 2, 2, 2, 2, 2, 2, 2, 2, 2, 2, 2, 2, 2, 2, 2, 2, 2, 2, 2, 2, 2, 2, 2, 2, 2, 2, 2, 2, 2, 2, 2, 2, 2, 2, 2, 2, 2, 2, 2, 2, 2, 2, 2, 2, 2, 2, 2, 2, 2, 2, 2, 2, 2, 2, 2, 2, 2, 2, 2, 2, 2, 2, 2, 2, 2] |>.map fun (n : Nat) => AV.int .i64 (Int.ofNat n))
noncomputable def smB : Sum := ⟨fun f => bif Nat.beq f 81 then some (constA clsT) else (smA 8).f f, fun t => Nat.beq t 39 || Nat.beq t 179, 8⟩

section
variable {ν : Nat → Value}
def TA : Tells := fun _ A w x w' => CopyT A w x w'
def TB (ν : Nat → Value) : Tells := fun f A w x w' => (f = 81 ∧ (∀ n m, R n m ν clsT x) ∧ Still w w') ∨ (f ≠ 81 ∧ CopyT A w x w')

theorem copy_enter (A : Array Value) (w : World) : (callFunc 164 A).run Tryz.prog w = .ok (.enter 164 A) w := evEnter Tryz.func164 (by kernel_rfl) A w
theorem copy_fresh (b : Nat) (w : World) (e : TypeId) (n : Nat) (ho : (Nat.beq e 196 && Nat.beq n 2) = true) (hn : 0 < n) (h0 : w.cell? ⟨b, 0, none⟩ = some (.pointer none)) (hsh : w.shape? b = some (e, n)) (hfz : w.frozen? ⟨b, 0, none⟩ = false) :
    Calls Tryz.prog 164 #[.pointer (some ⟨b, 0, none⟩)] w fun e w' => e = .returned (.tuple #[]) ∧ w' = w.setCell ⟨b, 0, none⟩ (.pointer (some ⟨b, 0, none⟩)) := by
  simp only [Bool.and_eq_true] at ho
  rw [of_beq ho.1, of_beq ho.2] at hsh
  exact evCheck_fresh b w h0 hsh hfz
theorem eq_ok (k : Nat) : OkEq Tryz.prog (smA k) := ⟨fun t ht => by
  have ht2 : (Nat.beq t 39 || Nat.beq t 179) = true := ht
  rw [Bool.or_eq_true] at ht2
  rcases ht2 with h | h
  · rw [of_beq h]; exact ⟨by kernel_rfl, by kernel_rfl⟩
  · rw [of_beq h]; exact ⟨by kernel_rfl, by kernel_rfl⟩⟩

theorem sumA {TT : Tells} (hT : ∀ A w x w', TT 164 A w x w' ↔ CopyT A w x w') (k : Nat) : ∀ f g, (smA k).f f = some g → ∀ (args : List AV) (h : H) (v : AV) (h' : H), g args h = some (v, h') → ∀ (m : Mu) (w : World) (A : Array Value), SR m ν h w → Rs h.next m ν args A.toList →
    SumVal Tryz.prog TT ν m h w v h' ((callFunc f A).run Tryz.prog w) := by
  intro f g hg args h v h' he m w A hs hA
  simp only [smA, bcond] at hg
  split at hg
  · rename_i hc
    cases hg
    rw [Bool.or_eq_true] at hc
    rcases hc with hc | hc
    · rw [of_beq hc]; exact idx_sum idxS_ext he hs hA
    · rw [of_beq hc]; exact idx_sum idxB_ext he hs hA
  · split at hg
    · rename_i hc
      cases hg
      rw [of_beq hc]; exact count_sum cnt_ext he hs hA
    · split at hg
      · rename_i hc
        cases hg
        rw [of_beq hc]; exact mkNZ_sum Tryz.underlying22 mk_ext he hs hA
      · split at hg
        · rename_i hc
          cases hg
          rw [of_beq hc]
          exact copy_sum copy_enter hT copy_fresh evCheck_used he hs hA
        · cases hg

theorem okA : OkSum Tryz.prog (smA 0) TA ν := ⟨eq_ok 0, sumA (fun _ _ _ _ => Iff.rfl) 0, fun f fn hf hb A w => evEnter hf hb A w⟩

def isT (a : AV) : Option Out → Bool
  | some (.fn r _) => eqAV r a
  | _ => false
theorem isT_of {a : AV} {o : Option Out} (h : isT a o = true) : ∃ h', o = some (.fn a h') := by
  unfold isT at h
  split at h
  · rename_i r h'; rw [eqAV_eq h]; exact ⟨h', rfl⟩
  · cases h

set_option maxRecDepth 100000 in
set_option maxHeartbeats 0 in
theorem cls_run : isT clsT (run Tryz.prog (smA 0) 100000 (.fn 81 [] ⟨0, .e⟩)) = true := by decide +kernel

theorem cls_calls (hν : ∀ k, (ν k).oneCell' = true) (w : World) : Calls Tryz.prog 81 #[] w fun e w' => ∃ x, e = .returned x ∧ TB ν 81 #[] w x w' := by
  obtain ⟨h', he⟩ := isT_of cls_run
  exact (const_calls (ν := ν) okA hν evMixed rfl he (by decide) w).mono fun e w' ⟨x, h1, h2, h3⟩ => ⟨x, h1, .inl ⟨rfl, h2, h3⟩⟩

theorem okB (hν : ∀ k, (ν k).oneCell' = true) : OkSum Tryz.prog smB (TB ν) ν where
  eq := ⟨(eq_ok 0).eo⟩
  body := fun f fn hf hb A w => evEnter hf hb A w
  sum := by
    intro f g hg args h v h' he m w A hs hA
    simp only [smB, bcond] at hg
    split at hg
    · rename_i hc
      cases hg
      rw [of_beq hc]
      exact const_sum (cls_calls hν) (fun w x w' ht => by
        rcases ht with ⟨-, h1, h2⟩ | ⟨h1, -⟩
        · exact ⟨h1, h2⟩
        · exact absurd rfl h1) (fun w => evEnter Tryz.func81 (by kernel_rfl) _ w) he hs hA
    · exact sumA (fun A w x w' => by
        constructor
        · rintro (⟨h1, -⟩ | ⟨-, h2⟩)
          · exact absurd h1 (by decide)
          · exact h2
        · exact fun h2 => .inr ⟨by decide, h2⟩) 8 f g hg args h v h' he m w A hs hA
end
end Go.Proofs.YtemdgilifnhdpaaGreatDoor.Ev
