/-
The law ServerNil on a row of its kind: it answers true, nothing that was there turns.
-/
import Derived.Test.YtieheagfcmcbiaaGreatDoorRows
import Derived.Test.YtieheagfcmcbiaaGreatDoorLyD
import Derived.LaidSub
import Derived.Test.YtieheagfcmcbiaaGreatDoorSnl
import Derived.Test.YtieheagfcmcbiaaGreatDoorLaw
import Derived.LaidMore
import Derived.Lay
import Derived.Deep.DeepWitnessRowRef
import Derived.ChangeMaps5
set_option linter.unusedVariables false
set_option linter.unusedSimpArgs false
namespace Go.Proofs.YtieheagfcmcbiaaGreatDoor.serverNil
open Go.ChangeShapes Go.WideShapes Go.ChangeAt Go.RowKit Go.Joins Go.Deep

theorem own : ownKnob Tryz.prog.godebug = none := by kernel_rfl
theorem laidOut : laidOutB Tryz.prog = true := laidOutE
theorem params : ∀ t ∈ Tryz.f3.params.toList, Tryz.prog.readableRec t = true ∧ t < Tryz.prog.types.size := by
  rw [Tryz.params3]
  intro t ht
  simp only [List.mem_cons, List.mem_nil_iff, or_false] at ht
  rcases ht with rfl | rfl | rfl
  all_goals exact ⟨by kernel_rfl, of_decide_eq_true (by kernel_rfl)⟩
theorem powF {W : World} (h : laidMetH Tryz.prog Rows.serverNilRow.laid W) : Ev.PowE W := by
  have h2 := h.filter (fun x => x.1 == "internal/strconv.uint64pow10")
  exact Ev.powE_of (rest := []) h2
theorem bruF {W : World} (h : laidMetH Tryz.prog Rows.serverNilRow.laid W) : Ev.BruE W := by
  have h2 := h.filter (fun x => x.1 == "math/bits.deBruijn64tab")
  exact Ev.bruE_of (rest := []) h2
set_option maxRecDepth 100000 in
theorem contract (H : Type) (enc : TypeId × Value → H) (W : World) (base : Nat) (args : Array Value) (ds gs : List (DataW H)) (before : List MemPlace)
    (hval : ∀ (j : Nat) t v, Tryz.f3.params[j]? = some t → args[j]? = some v → Value.okWide Tryz.prog W .any base t v)
    (hW : DataW.Whole enc Tryz.prog Tryz.f3.params.toList Rows.serverNilSpec.vars false W args.toList ds gs before)
    (hsz : (DataW.weightsEach Tryz.prog (Tryz.f3.params.toList ++ (OpenSpec.ofChange Rows.serverNilSpec).bare.plain.varTypes Tryz.prog) (ds ++ gs)).all (· ≤ reachBytes) = true)
    (hL : laidMetH Tryz.prog Rows.serverNilRow.laid W) (hsh : W.ShapedOpen Tryz.prog) :
    Calls Tryz.prog 3 args W fun e W' => ∃ v, e = .returned v ∧ Rows.serverNilSpec.post enc Tryz.prog Tryz.f3 false true false false W args v W' := by
  have hW' := hW
  obtain ⟨p, q, hA0, hV, rfl, hfz, hnd⟩ := hW
  have hA : DataW.TrodAll enc Tryz.prog W 0 (fun _ => true) true Tryz.f3.params.toList args.toList ds p := hA0
  rw [Tryz.params3] at hA hval hsz
  obtain ⟨v0, vs0, d0, ds0, p0, q0, hargs, rfl, rfl, h0, r0⟩ := trodAll_cons hA
  obtain ⟨v1, vs1, d1, ds1, p1, q1, rfl, rfl, rfl, h1, r1⟩ := trodAll_cons r0
  obtain ⟨v2, vs2, d2, ds2, p2, q2, rfl, rfl, rfl, h2, r2⟩ := trodAll_cons r1
  obtain ⟨rfl, rfl, rfl⟩ := trodAll_nil r2
  obtain rfl : args = #[v0, v1, v2] := by cases args; simp_all
  obtain ⟨rfl, rfl⟩ := trodVars_none hV
  obtain ⟨s0, rfl, rfl, rfl, ws0⟩ := Go.ChangeMaps.open_string Tryz.underlying9 (hval 0 9 v0 rfl rfl) h0
  have hsz0 := sized_string hsz (j := 0) rfl rfl
  simp only [reachBytes] at hsz0
  obtain ⟨txt, rfl⟩ : ∃ l : List UInt8, s0 = str l := ⟨s0.data.toList, (str_toList s0).symm⟩
  simp only [str_data] at hsz0
  obtain ⟨id, rfl, rfl, rfl, wz1⟩ := open_int Tryz.underlying3 (hval 1 3 v1 rfl rfl) h1
  obtain ⟨id0, id1⟩ := bd_i64 wz1
  obtain ⟨B, n, d, rfl⟩ := okWide_slice Tryz.underlying22 (hval 2 22 v2 rfl rfl)
  refine (serverNil_w W (Ev.mxE_of hsh (powF hL) (bruF hL)) _ _ _ rfl rfl rfl).mono fun e W' ⟨he, hx⟩ => ?_
  subst he
  exact ⟨_, rfl, law_post rfl Tryz.underlying4 laidOut params rfl hW' ⟨rfl, rfl, rfl⟩ hx⟩
end Go.Proofs.YtieheagfcmcbiaaGreatDoor.serverNil
