/-
The evaluator's operations, rounds and what they come to: no condition.
-/
import Derived.Test.YtemdgilifnhdpaaGreatDoorEvB
import Derived.RangeFuncRecord
set_option linter.unusedVariables false
set_option linter.unusedSimpArgs false
set_option linter.unusedSectionVars false
namespace Go.Proofs.YtemdgilifnhdpaaGreatDoor.Ev
section
variable {P : Program} {sm : Sum} {TT : Tells} {ν : Nat → Value} {m : Mu} {h : H} {w : World}
theorem panic_s {x : AV} {nx : Nx} {h' : H} {v : Value} (he : opPanic [x] h = some (nx, h')) (hs : SR m ν h w) (hx : R h.next m ν x v) :
    RunOK P TT ν m h w h' (((do pure (Next.value (← Instr.panic v))) : Sem Next).run P w) nx := by
  cases x with
  | iface t x =>
    cases he
    have hx0 := hx
    simp only [R] at hx
    obtain ⟨y, rfl, hx⟩ := hx
    exact ⟨rfl, .iface t y, rfl, hx0⟩
  | _ => cases he
theorem nil_s {x : AV} {nx : Nx} {h' : H} {v : Value} {ρ : Operand → Value} {ty : TypeId} {pos : String} {q : Operand} {o : Oper} (ho : o.op = .nilCheck q) (hv : ρ q = v) (he : opNilCheck [x] h = some (nx, h')) (hs : SR m ν h w) (hx : R h.next m ν x v) :
    RunOK P TT ν m h w h' ((execOp ρ o).run P w) nx := by
  have hx0 := hx
  cases x with
  | ptr b off =>
    cases he
    obtain ⟨_, rfl⟩ := R_ptr hx
    exact .inl ⟨_, m, w, by simp [execOp, ho, hv], Post.refl hs, hx0⟩
  | iface t x =>
    cases he
    simp only [R] at hx
    obtain ⟨y, rfl, hx⟩ := hx
    exact .inl ⟨_, m, w, by simp [execOp, ho, hv], Post.refl hs, hx0⟩
  | fn f a b =>
    cases f with
    | func g =>
      cases he
      simp only [R, Fm] at hx
      obtain ⟨g', a', c', rfl, rfl, h1, h2⟩ := hx
      exact .inl ⟨_, m, w, by simp [execOp, ho, hv], Post.refl hs, hx0⟩
    | _ => cases he
  | _ => cases he
theorem plain_run {o : Oper} {ρ : Operand → Value} {s : Sem Value} {nx : Nx} {h' : H} (hx : execOp ρ o = (do pure (Next.value (← s)))) (hv : ∃ a, nx = .val a ∧ VS ν m h w a h' (s.run P w)) : RunOK P TT ν m h w h' ((execOp ρ o).run P w) nx := by
  obtain ⟨a, e, hv⟩ := hv
  rw [hx]
  simp only [Sem.run_bind, Sem.run_pure]
  exact RunOK.vs e hv
theorem method_s {t : TypeId} {x rc : AV} {f : Nat} {name : String} {y : Value} (he : methodA P h t x name = some (f, rc)) (hx : R h.next m ν x y) :
    ∃ z, (method (P.types.size + Made.depth) t y name).run P w = .ok (f, z) w ∧ R h.next m ν rc z := by
  obtain ⟨ti, hti, he⟩ := bnd_eq he
  obtain ⟨mm, hmm, he⟩ := bnd_eq he
  simp only [bcond] at he
  split at he
  · cases he
  · rename_i hp
    have hp : mm.path = #[] := by simpa using hp
    have hd0 : 0 < Made.depth := by decide
    obtain ⟨n, hn⟩ : ∃ n, P.types.size + Made.depth = n + 1 := ⟨P.types.size + Made.depth - 1, by omega⟩
    rw [hn]
    cases hf : mm.func with
    | none => rw [hf] at he; cases he
    | some fp =>
      obtain ⟨g, pr⟩ := fp
      rw [hf] at he
      obtain ⟨d, hd, he⟩ := bnd_eq he
      refine ⟨y, ?_, ?_⟩
      · cases d <;> cases pr <;> cases he <;> simp [method, run_info hti, hmm, hp, follow, hf, receiverAt, run_und hd, Place.get]
      · cases d <;> cases pr <;> cases he <;> exact hx
theorem builtin_s (hok : OkSum P sm TT ν) (hν : ∀ k, (ν k).oneCell' = true) {b : Builtin} {args : Array Operand} {ats : Array TypeId} {vs : List AV} {nx : Nx} {h' : H} {ρ : Operand → Value} {dst : Option Tmp} {ty : TypeId} {pos : String} {after : Array Edge} {guard : Option (Nat × Bool)}
    (he : builtinA P h b ats[0]? ats[1]? vs = some (nx, h')) (hs : SR m ν h w) (hr : Rs h.next m ν vs (args.map ρ).toList) :
    RunOK P TT ν m h w h' ((execOp ρ ⟨dst, .call ⟨.builtin b, args, ats⟩, ty, pos, after, guard⟩).run P w) nx := by
  have hx : (execOp ρ ⟨dst, .call ⟨.builtin b, args, ats⟩, ty, pos, after, guard⟩).run P w = (builtin b ats ty (args.map fun | .const _ => true | _ => false) (args.map ρ)).run P w := rfl
  rw [hx]
  generalize hA : args.map ρ = A at hr
  have hsz := hr.len
  have pl : ∀ {s : Sem Value}, (∃ a, nx = .val a ∧ VS ν m h w a h' (s.run P w)) → RunOK P TT ν m h w h' (((do pure (Next.value (← s))) : Sem Next).run P w) nx := fun ⟨a, e, hv⟩ => by
    simp only [Sem.run_bind, Sem.run_pure]
    exact RunOK.vs e hv
  have two : ∀ {x y : AV}, vs = [x, y] → ∃ p q, A = #[p, q] ∧ R h.next m ν x p ∧ R h.next m ν y q := fun e => by
    subst e
    obtain ⟨p, ps, e1, h1, h2⟩ := Rs_cons.1 hr
    obtain ⟨q, qs, e2, h3, h4⟩ := Rs_cons.1 h2
    rw [Rs_nil] at h4
    subst h4; subst e2
    exact ⟨p, q, Array.toList_inj.1 e1, h1, h3⟩
  have one : ∀ {x : AV}, vs = [x] → ∃ p, A = #[p] ∧ R h.next m ν x p := fun e => by
    subst e
    obtain ⟨p, ps, e1, h1, h2⟩ := Rs_cons.1 hr
    rw [Rs_nil] at h2
    subst h2
    exact ⟨p, Array.toList_inj.1 e1, h1⟩
  cases b with
  | append =>
    obtain ⟨a, ha, he⟩ := bnd_eq he
    cases vs with
    | nil => cases he
    | cons x vs => cases vs with
      | nil => cases he
      | cons y vs => cases vs with
        | cons => cases he
        | nil =>
          obtain ⟨p, q, rfl, h1, h2⟩ := two rfl
          obtain ⟨r, hr', he⟩ := map_eq he
          cases he
          exact pl ⟨_, rfl, append_s hν hr' hs h1 h2 ha rfl⟩
  | len =>
    obtain ⟨a, ha, he⟩ := bnd_eq he
    cases vs with
    | nil => cases he
    | cons x vs => cases vs with
      | cons => cases he
      | nil =>
        obtain ⟨p, rfl, h1⟩ := one rfl
        exact pl (len_s he hs h1 ha)
  | cap =>
    obtain ⟨a, ha, he⟩ := bnd_eq he
    cases vs with
    | nil => cases he
    | cons x vs => cases vs with
      | cons => cases he
      | nil =>
        obtain ⟨p, rfl, h1⟩ := one rfl
        exact pl (cap_s he hs h1 ha)
  | copy =>
    obtain ⟨a, ha, he⟩ := bnd_eq he
    cases vs with
    | nil => cases he
    | cons x vs => cases vs with
      | nil => cases he
      | cons y vs => cases vs with
        | cons => cases he
        | nil =>
          obtain ⟨p, q, rfl, h1, h2⟩ := two rfl
          exact pl (copy_s hν he hs h1 h2 ha)
  | max =>
    cases vs with
    | nil => cases he
    | cons x vs =>
      cases x with
      | int k i =>
        obtain ⟨y, hy, he⟩ := map_eq he
        cases he
        obtain ⟨p, ps, e1, h1, h2⟩ := Rs_cons.1 hr
        cases R_int h1
        refine pl ⟨_, rfl, VS.pure hs ?_ (mkInt k y)⟩
        simp only [Builtin.max_, e1]
        exact max_s hy h2
      | _ => cases he
  | min =>
    cases vs with
    | nil => cases he
    | cons x vs =>
      cases x with
      | int k i =>
        obtain ⟨y, hy, he⟩ := map_eq he
        cases he
        obtain ⟨p, ps, e1, h1, h2⟩ := Rs_cons.1 hr
        cases R_int h1
        refine pl ⟨_, rfl, VS.pure hs ?_ (mkInt k y)⟩
        simp only [Builtin.min_, e1]
        exact min_s hy h2
      | _ => cases he
  | panic =>
    cases vs with
    | nil => cases he
    | cons x vs => cases vs with
      | cons => cases x <;> cases he
      | nil =>
        obtain ⟨p, rfl, h1⟩ := one rfl
        exact panic_s he hs h1
  | unsafeSliceData =>
    cases vs with
    | nil => cases he
    | cons x vs => cases vs with
      | cons => cases x <;> cases he
      | nil =>
        obtain ⟨p, rfl, h1⟩ := one rfl
        exact pl (sliceData_s he hs h1)
  | unsafeString =>
    obtain ⟨a, ha, he⟩ := bnd_eq he
    cases vs with
    | nil => cases he
    | cons x vs => cases vs with
      | nil => cases x <;> cases he
      | cons y vs => cases vs with
        | cons => cases x <;> cases y <;> cases he
        | nil =>
          obtain ⟨p, q, rfl, h1, h2⟩ := two rfl
          cases y with
          | int k n => exact pl (string_s he hs h1 h2 ha)
          | _ => cases x <;> cases he
  | _ => cases he
theorem evOp_run (hok : OkSum P sm TT ν) (hν : ∀ k, (ν k).oneCell' = true) {o : Oper} {vs : List AV} {nx : Nx} {h' : H} {ρ : Operand → Value} (he : evOp P sm o.op vs h = some (nx, h')) (hs : SR m ν h w)
    (hr : Rs h.next m ν vs ((opnds o.op).map ρ)) : RunOK P TT ν m h w h' ((execOp ρ o).run P w) nx := by
  obtain ⟨dst, op, ty, pos, after, guard⟩ := o
  simp only at he hr
  cases op with
  | move x =>
    obtain ⟨v, rfl, h1⟩ := Rs_i1 hr
    cases he
    exact .inl ⟨_, m, w, rfl, Post.refl hs, h1⟩
  | assign x =>
    obtain ⟨v, rfl, h1⟩ := Rs_i1 hr
    cases he
    exact .inl ⟨_, m, w, rfl, Post.refl hs, h1⟩
  | pick c a b =>
    obtain ⟨v, u, t, rfl, h1, h2, h3⟩ := Rs_i3 hr
    cases v with
    | bool q =>
      cases he
      have hq : ρ c = .bool q := R_bool h1
      refine .inl ⟨if q then ρ a else ρ b, m, w, by simp [execOp, hq, asBool], Post.refl hs, ?_⟩
      cases q with
      | true => exact h2
      | false => exact h3
    | _ => cases he
  | alloc e =>
    have := Rs_i0 hr
    subst this
    obtain ⟨z, hz, he⟩ := bnd_eq he
    cases he
    exact plain_run rfl ⟨_, rfl, alloc_s hν hs hz⟩
  | box e x =>
    obtain ⟨v, rfl, h1⟩ := Rs_i1 hr
    cases he
    exact plain_run rfl ⟨_, rfl, box_s hν hs h1⟩
  | build t parts => exact plain_run rfl (build_s hν he hs (by simpa [opnds, Function.comp_def] using hr))
  | buildSlice t len parts => exact plain_run rfl (buildSlice_s hν he hs (by simpa [opnds, Function.comp_def] using hr))
  | load t x =>
    obtain ⟨v, rfl, h1⟩ := Rs_i1 hr
    cases v with
    | ptr b off =>
      obtain ⟨a, ha, he⟩ := map_eq he
      cases he
      exact plain_run rfl ⟨_, rfl, loadAt_s ha hs h1⟩
    | _ => cases he
  | store t x y =>
    obtain ⟨v, u, rfl, h1, h2⟩ := Rs_i2 hr
    cases v with
    | ptr b off =>
      obtain ⟨a, ha, he⟩ := map_eq he
      cases he
      obtain ⟨w', q1, q2⟩ := storeAt_s (P := P) hν ha hs h1 h2
      exact ⟨m, w', by simp [execOp, q1], q2⟩
    | _ => cases he
  | nilCheck x =>
    obtain ⟨v, rfl, h1⟩ := Rs_i1 hr
    exact nil_s (ty := ty) (pos := pos) (q := x) rfl rfl he hs h1
  | binOp op t x y yt =>
    obtain ⟨v, u, rfl, h1, h2⟩ := Rs_i2 hr
    exact plain_run rfl (bin_s hok.eq he hs h1 h2)
  | unOp op t x =>
    obtain ⟨v, rfl, h1⟩ := Rs_i1 hr
    exact plain_run rfl (un_s he hs h1)
  | convert s d x =>
    obtain ⟨v, rfl, h1⟩ := Rs_i1 hr
    exact plain_run rfl (convert_s he hs h1)
  | makeInterface t x =>
    obtain ⟨v, rfl, h1⟩ := Rs_i1 hr
    exact plain_run rfl (makeIface_s he hs h1)
  | makeSlice t l c =>
    obtain ⟨v, u, rfl, h1, h2⟩ := Rs_i2 hr
    cases v with
    | int k1 l =>
      cases u with
      | int k2 c => exact plain_run rfl (makeSlice_s hν he hs h1 h2)
      | _ => cases he
    | _ => cases he
  | fieldAddr s x f =>
    obtain ⟨v, rfl, h1⟩ := Rs_i1 hr
    cases v with
    | ptr b off => exact plain_run rfl (fieldAt_s he hs h1)
    | _ => cases he
  | field t x f =>
    obtain ⟨v, rfl, h1⟩ := Rs_i1 hr
    cases v with
    | agg l => exact plain_run rfl (field_s he hs h1)
    | _ => cases he
  | indexAddr t x i =>
    obtain ⟨v, u, rfl, h1, h2⟩ := Rs_i2 hr
    cases u with
    | int k i => exact plain_run rfl (indexAt_s he hs h1 h2)
    | _ => cases he
  | index t x i =>
    obtain ⟨v, u, rfl, h1, h2⟩ := Rs_i2 hr
    cases u with
    | int k i => exact plain_run rfl (index_s he hs h1 h2)
    | _ => cases he
  | lookup t x k ok =>
    obtain ⟨v, u, rfl, h1, h2⟩ := Rs_i2 hr
    cases v with
    | map r => exact plain_run rfl (lookup_s he hs h1 h2)
    | _ => cases he
  | range t x =>
    obtain ⟨v, rfl, h1⟩ := Rs_i1 hr
    cases v with
    | str s => exact plain_run rfl (range_s he hs h1)
    | _ => cases he
  | typeAssert x xt a ok =>
    obtain ⟨v, rfl, h1⟩ := Rs_i1 hr
    exact plain_run rfl (assert_s he hs h1)
  | extract t ix =>
    obtain ⟨v, rfl, h1⟩ := Rs_i1 hr
    cases v with
    | tup l => exact plain_run rfl (extract_s he hs h1)
    | _ => cases he
  | panic x =>
    obtain ⟨v, rfl, h1⟩ := Rs_i1 hr
    exact panic_s he hs h1
  | mapUpdate t mm k x =>
    obtain ⟨v, u, q, rfl, h1, h2, h3⟩ := Rs_i3 hr
    cases v with
    | map r => cases r with
      | some r =>
        obtain ⟨rfl, w', g1, g2⟩ := mapUpdate_s (P := P) he hs h1 h2 h3
        exact ⟨m, w', by simp [execOp, g1], g2⟩
      | none => cases he
    | _ => cases he
  | insert t mm k x =>
    obtain ⟨v, u, q, rfl, h1, h2, h3⟩ := Rs_i3 hr
    cases v with
    | map r => cases r with
      | some r =>
        obtain ⟨rfl, w', g1, g2⟩ := mapUpdate_s (P := P) he hs h1 h2 h3
        exact ⟨m, w', by simp [execOp, g1], g2⟩
      | none => cases he
    | _ => cases he
  | makeFunc f first cap =>
    cases f with
    | func g =>
      cases he
      refine .inl ⟨.func (.func g) (first.map ρ) (cap.map ρ), m, w, by simp [execOp, Instr.makeFunc], Post.refl hs, ?_⟩
      simp only [opnds, List.map_append] at hr
      have e1 : (first.toList.map ρ).length = first.size := by simp
      simp only [R]
      refine ⟨_, _, _, rfl, rfl, ?_, ?_⟩
      · have := hr.take first.size
        have e2 : ((first.toList.map ρ) ++ (cap.toList.map ρ)).take first.size = first.toList.map ρ := by
          rw [List.take_append_of_le_length (by omega), List.take_of_length_le (by omega)]
        rw [e2] at this
        simpa using this
      · have := hr.drop first.size
        have e2 : ((first.toList.map ρ) ++ (cap.toList.map ρ)).drop first.size = cap.toList.map ρ := by
          rw [List.drop_append_of_le_length (by omega), List.drop_of_length_le (by omega), List.nil_append]
        rw [e2] at this
        simpa using this
    | _ => cases he
  | makeMap t r =>
    cases r with
    | some _ => cases he
    | none =>
      have := Rs_i0 hr
      subst this
      obtain ⟨a, e, m', hp, hrr⟩ := makeMap_s he hs
      subst e
      exact .inl ⟨_, m', _, by simp [execOp, Instr.makeMap, newObj, Sem.run], hp, hrr⟩
  | slice t x lo hi mx =>
    obtain ⟨v, us, rfl, h1, h2⟩ := Rs_c hr
    simp only [evOp, opSlice, bcond] at he
    split at he
    · cases he
    rename_i hmh
    obtain ⟨a, ha, he⟩ := map_eq he
    cases he
    have hopt : ∀ (q : Option Operand) (rest : List Operand) (ws : List AV), Rs h.next m ν ws ((oL q ++ rest).map ρ) →
        RO h.next m ν (takeO q ws).1 (q.map ρ) ∧ Rs h.next m ν (takeO q ws).2 (rest.map ρ) ∧ ((takeO q ws).1 = none ↔ q = none) := by
      intro q rest ws hw
      cases q with
      | none => exact ⟨trivial, hw, by simp [takeO]⟩
      | some q =>
        obtain ⟨u, ts, rfl, g1, g2⟩ := Rs_c hw
        exact ⟨g1, g2, by simp [takeO]⟩
    obtain ⟨g1, g2, g3⟩ := hopt lo (oL hi ++ oL mx) us h2
    obtain ⟨g4, g5, g6⟩ := hopt hi (oL mx) _ g2
    obtain ⟨g7, g8, g9⟩ := hopt mx [] _ (by simpa using g5)
    refine plain_run rfl ⟨_, rfl, slice_s ha hs h1 (fun hm hh => hmh ?_) g1 g4 g7⟩
    have q1 : mx ≠ none := fun e => hm (g9.2 e)
    have q2 : hi = none := g6.1 hh
    cases mx with
    | none => exact absurd rfl q1
    | some z => rw [q2]; rfl
  | next it iss =>
    cases iss with
    | false => cases he
    | true =>
      obtain ⟨v, rfl, h1⟩ := Rs_i1 hr
      cases v with
      | ptr b off =>
        cases off with
        | zero => exact plain_run rfl (next_s he hs h1)
        | succ _ => cases he
      | _ => cases he
  | call c =>
    obtain ⟨callee, args, ats⟩ := c
    cases callee with
    | value f =>
      obtain ⟨v, us, rfl, h1, h2⟩ := Rs_c hr
      have := target_s (P := P) (w := w) hok (A := args.map ρ) he hs h1 (by simpa using h2)
      simpa [execOp, resolve] using this
    | invoke r name =>
      obtain ⟨v, us, rfl, h1, h2⟩ := Rs_c hr
      cases v with
      | iface t x =>
        simp only [R] at h1
        obtain ⟨y, hy, h1⟩ := h1
        obtain ⟨⟨f, rc⟩, hm, he⟩ := bnd_eq he
        have hrun := method_s (P := P) (w := w) hm h1
        obtain ⟨z, hz, hrz⟩ := hrun
        have hx : (execOp ρ ⟨dst, .call ⟨.invoke r name, args, ats⟩, ty, pos, after, guard⟩).run P w = (callFunc f (#[z] ++ args.map ρ)).run P w := by
          have e0 : (#[Value.iface t y] ++ args.map ρ)[0]? = some (.iface t y) := by rw [Array.getElem?_append_left (by simp)]; rfl
          have e1 : (#[Value.iface t y] ++ args.map ρ).extract 1 (#[Value.iface t y] ++ args.map ρ).size = args.map ρ := by
            apply Array.ext'
            simp
            exact List.take_of_length_le (by simp)
          show (invoke (.fn (.method name) #[]) (#[ρ r] ++ args.map ρ)).run P w = _
          rw [hy]
          simp only [invoke]
          rw [e0]
          simp only [e1, callMethod, Sem.run_bind, Go.program, Sem.run, Result.andThen_ok]
          rw [hz]
          rfl
        rw [hx]
        exact call_s hok he hs (by rw [Array.toList_append]; exact Rs.cons hrz (by simpa using h2))
      | _ => cases he
    | builtin b => exact builtin_s hok hν he hs (by simpa [opnds, cOps] using hr)
  | defer c =>
    obtain ⟨callee, args, ats⟩ := c
    cases callee with
    | value f =>
      obtain ⟨v, us, rfl, h1, h2⟩ := Rs_c hr
      cases v with
      | fn g first cap =>
        cases g with
        | func g =>
          cases he
          simp only [R, Fm] at h1
          obtain ⟨g', a', c', hv, rfl, q1, q2⟩ := h1
          refine ⟨rfl, { target := .fn (.func g) c', args := a' ++ args.map ρ }, ?_, c', a' ++ args.map ρ, rfl, ?_⟩
          · simp [execOp, resolve, hv, Deferred.ofValue]
          · rw [Array.toList_append, List.append_assoc]
            exact q1.app (Rs.app (by simpa using h2) q2)
        | _ => cases he
      | _ => cases he
    | _ => cases he
  | _ => cases he
end
def osize : Obj → Nat
  | .cells c _ _ => c.size
  | _ => 0
section
variable {P : Program} {sm : Sum} {ν : Nat → Value} {w : World}
def Makes (ν : Nat → Value) (w : World) (r : Result Value) (sh : Nat → AV) (o : AO) (vs : List AV) (xs : List Value) : Prop :=
  ∃ x ob w', r = .ok x w' ∧ w'.heap = w.heap.push ob ∧ SameEnv w w' ∧ ∀ (n : Nat) (m : Mu) (k : Nat), k < n → Rs n m ν vs xs → m k = (w.heap.size, 0, osize ob) → OR n m ν w' k o ∧ R n m ν (sh k) x
theorem newRow_o {n : Nat} {m : Mu} {w' : World} {k : Nat} (e : TypeId) (l : List AV) (kk : Nat) (op mk : Bool) (cells : Array Value) (lo hi : Nat) (hw : w'.heap = w.heap.push (.cells cells e (lo, hi)))
    (hm : m k = (w.heap.size, 0, cells.size))
    (hl : Rs n m ν l (cells.toList.take l.length)) (hk : kk ≤ cells.size) (hop : op = false → cells.size = kk) (hf : lo = hi ∨ mk = true ∧ cells.size ≤ lo) : OR n m ν w' k (.row (T.ofL l 0 .e) kk e op 0 mk) := by
  refine ⟨cells, lo, hi, ?_, by rw [hm], by rw [hm]; simpa using hk, fun ho => ⟨by rw [hm], hop ho⟩, fun i a hi' ha => ?_, ?_⟩
  · rw [hw, hm]; simp
  · rw [T.get_ofL] at ha
    split at ha
    · rename_i hc
      obtain ⟨v, hv, hr⟩ := hl.get _ ha
      refine ⟨v, ?_, hr⟩
      rw [hm]
      simp only [Nat.sub_zero, Nat.zero_add] at hv ⊢
      rw [List.getElem?_take] at hv
      split at hv
      · simpa using hv
      · cases hv
    · cases ha
  · rcases hf with hf | hf
    · exact .inl hf
    · exact .inr (.inr hf)
theorem newVar_o (hν : ∀ k, (ν k).oneCell' = true) (e : TypeId) {a : AV} {v : Value} {vs : List AV} {xs : List Value} {n0 : Nat} {m0 : Mu} (h0 : R n0 m0 ν a v) (hr : ∀ n m, Rs n m ν vs xs → R n m ν a v) :
    Makes ν w ((do pure (Value.pointer (some (← newVar e v))) : Sem Value).run P w) (fun k => .ptr k 0) (.row (T.ofL a.cells 0 .e) a.cells.length e false 0 false) vs xs := by
  have hlen := (R_cells hν h0).len
  refine ⟨.pointer (some ⟨w.heap.size, 0, none⟩),   .cells v.cells e, { w with heap := w.heap.push (.cells v.cells e) }, ?_, rfl, ⟨rfl, rfl, rfl⟩, fun n m k hk hvs hm => ⟨?_, ?_⟩⟩
  · simp only [newVar, Sem.run_bind, run_newRow, Result.andThen_ok, Sem.run_pure]
  · exact newRow_o (w := w) e a.cells a.cells.length false false v.cells 0 0 rfl hm (by rw [List.take_of_length_le (by omega)]; exact R_cells hν (hr n m hvs)) (by simp at hlen ⊢; omega) (fun _ => by simpa using hlen) (.inl rfl)
  · simp only [R]
    exact ⟨hk, by rw [hm]⟩
theorem alloc_o (hν : ∀ k, (ν k).oneCell' = true) {e : TypeId} {z : AV} (hz : zeroOf P e = some z) :
    Makes ν w ((Instr.alloc e true (.tuple #[])).run P w) (fun k => .ptr k 0) (.row (T.ofL z.cells 0 .e) z.cells.length e false 0 false) [] [] := by
  obtain ⟨i, v, hi, hv, ho⟩ := zeroOf_eq hz
  have := newVar_o (P := P) (w := w) (vs := []) (xs := []) hν e (ofVal_R (n := 0) (m := fun _ => (0, 0, 0)) (ν := ν) ho) (fun n m _ => ofVal_R ho)
  simp only [Instr.alloc, Sem.run_bind, run_zero hi hv, Result.andThen_ok]
  exact this
theorem box_o (hν : ∀ k, (ν k).oneCell' = true) {e : TypeId} {a : AV} {v : Value} {n0 : Nat} {m0 : Mu} (h0 : R n0 m0 ν a v) :
    Makes ν w ((Instr.box e v).run P w) (fun k => .ptr k 0) (.row (T.ofL a.cells 0 .e) a.cells.length e false 0 false) [a] [v] :=
  newVar_o hν e h0 (fun n m h => by obtain ⟨x, e, h⟩ := Rs_i1 h; cases e; exact h)
theorem makeMap_o {ty : TypeId} : Makes ν w ((do pure (Value.map (some (← newObj (.map #[] 0)))) : Sem Value).run P w) (fun k => .map (some k)) (.map [] 0) [] [] := by
  refine ⟨.map (some w.heap.size), .map #[] 0, _, rfl, rfl, ⟨rfl, rfl, rfl⟩, fun n m k hk _ hm => ⟨?_, ?_⟩⟩
  · exact ⟨#[], by rw [hm]; simp, rfl⟩
  · simp only [R]; exact ⟨hk, by rw [hm]⟩
theorem makeSlice_o (hν : ∀ k, (ν k).oneCell' = true) {t : TypeId} {kl kc : IntKind} {l c : Int} {nx : Nx} {h h' : H} (he : opMakeSlice P t [.int kl l, .int kc c] h = some (nx, h')) :
    ∃ sh o, (∀ g, opMakeSlice P t [.int kl l, .int kc c] g = some (.val (sh g.next), g.new o)) ∧ Makes ν w ((Instr.makeSlice t (.int kl l) (.int kc c)).run P w) sh o [.int kl l, .int kc c] [.int kl l, .int kc c] := by
  obtain ⟨d, hd, he⟩ := bnd_eq he
  cases d with
  | slice e =>
    obtain ⟨ei, hei, he⟩ := bnd_eq he
    obtain ⟨z, hz, he⟩ := bnd_eq he
    rw [bcond] at he
    split at he
    · rename_i hc
      have hc0 := hc
      cases he
      simp only [Bool.and_eq_true] at hc
      obtain ⟨⟨⟨⟨c1, c2⟩, c3⟩, c4⟩, c5⟩ := hc
      have c1 := dec_t c1
      have c2 := dec_t c2
      have c3 := dec_t c3
      have c4 := of_beq c4
      have c5 := Nat.le_of_ble_eq_true c5
      obtain ⟨i, zv, hi, hzv, ho⟩ := zeroOf_eq hz
      have : i = ei := by rw [hi] at hei; exact Option.some.inj hei
      subst this
      have hcz0 := R_cells hν (ofVal_R (n := 0) (m := fun _ => (0, 0, 0)) (ν := ν) ho)
      have hzs : zv.cells.size = i.size := by have := hcz0.len; simp at this; omega
      have hrun := run_make (P := P) w t e i zv hd hi hzv kl kc l c c1 c2 (by
        have e1 : (i.bytes : Int) * c ≤ 100000 * 100000 := Int.mul_le_mul (by omega) c3 (by omega) (by omega)
        omega) (by omega)
      have hsz : (madeCells zv.cells (c.toNat * i.size)).toList = (List.replicate c.toNat zv.cells.toList).flatten := by rw [← hzs]; exact repCells _ _
      have hlen : (madeCells zv.cells (c.toNat * i.size)).size = c.toNat * i.size := by simp [madeCells]
      refine ⟨fun k => .slice k 0 l.toNat c.toNat i.size false, .row (T.ofL (List.replicate c.toNat z.cells).flatten 0 .e) (c.toNat * i.size) e false 0 false, fun g => ?_, .slice (some ⟨w.heap.size, 0, none⟩) l.toNat c.toNat, .cells (madeCells zv.cells (c.toNat * i.size)) e, _, hrun, rfl, ⟨rfl, rfl, rfl⟩, fun n m k hk _ hm => ⟨?_, ?_⟩⟩
      · simp only [opMakeSlice, bnd, hd, hei, hz, hc0, cond_true]; rfl
      · have hcz := R_cells hν (ofVal_R (n := n) (m := m) (ν := ν) ho)
        have hrep := hcz.rep c.toNat
        have hl := hrep.len
        exact newRow_o (w := w) e (List.replicate c.toNat z.cells).flatten (c.toNat * i.size) false false (madeCells zv.cells (c.toNat * i.size)) 0 0 rfl hm (by
          rw [hsz, ← hl, List.take_length]; exact hrep) (by omega) (fun _ => hlen) (.inl rfl)
      · simp only [R]
        refine ⟨hk, 0, c.toNat, ?_, by omega, fun _ => ?_, by simp⟩
        · simp [hm]
        · simp [hm]
    · cases he
  | _ => cases he
theorem buildSlice_o (hν : ∀ k, (ν k).oneCell' = true) {t : TypeId} {len : Nat} {parts : Array (Nat × Operand)} {vs : List AV} {nx : Nx} {h h' : H} {ρ : Operand → Value} {n0 : Nat} {m0 : Mu} (he : opBuildSlice P t len parts vs h = some (nx, h'))
    (hr : Rs n0 m0 ν vs (parts.toList.map fun x => ρ x.2)) :
    ∃ sh o, (∀ g, opBuildSlice P t len parts vs g = some (.val (sh g.next), g.new o)) ∧ Makes ν w ((Instr.buildSlice t len (parts.map fun x => (x.1, ρ x.2))).run P w) sh o vs (parts.toList.map fun x => ρ x.2) := by
  obtain ⟨d, hd, he⟩ := bnd_eq he
  cases d with
  | slice e =>
    obtain ⟨s, hsz0, he⟩ := bnd_eq he
    obtain ⟨ei, hei, rfl⟩ := szOf_eq hsz0
    obtain ⟨z, hz, he⟩ := bnd_eq he
    obtain ⟨i, zv, hi, hzv, ho⟩ := zeroOf_eq hz
    have : i = ei := by rw [hi] at hei; exact Option.some.inj hei
    subst this
    rw [bcond] at he
    split at he
    · rename_i hc
      have hc0 := hc
      simp only [Bool.and_eq_true] at hc
      have c1 := of_beq hc.1
      have c2 := Nat.le_of_ble_eq_true hc.2
      obtain ⟨l, hl, he⟩ := map_eq he
      cases he
      have hcz0 := R_cells hν (ofVal_R (n := n0) (m := m0) (ν := ν) ho)
      have hzs : zv.cells.size = i.size := by have := hcz0.len; simp at this; omega
      have hsz : (madeCells zv.cells (len * i.size)).toList = (List.replicate len zv.cells.toList).flatten := by rw [← hzs]; exact repCells _ _
      have fill : ∀ {n : Nat} {m : Mu}, Rs n m ν vs (parts.toList.map fun x => ρ x.2) → ∃ cells', Instr.fill (fun i_1 => some (i_1 * i.size, i.size)) (madeCells zv.cells (len * i.size)) (parts.map fun x => (x.1, ρ x.2)).toList = some cells' ∧ Rs n m ν l cells'.toList := by
        intro n m hr
        obtain ⟨p1, p2⟩ := parts_s hr
        have hrep := (R_cells hν (ofVal_R (n := n) (m := m) (ν := ν) ho)).rep len
        rw [← hsz] at hrep
        exact fill_s hν hl p1 p2 hrep
      obtain ⟨cells', g1, g2⟩ := fill hr
      have hl2 := g2.len
      have hfl : cells'.size = len * i.size := by
        have := fill_size g1
        rw [this]; simp [madeCells]
      simp only [Array.length_toList] at hl2
      refine ⟨fun k => .slice k 0 len len i.size false, .row (T.ofL l 0 .e) (len * i.size) e false 0 false, fun g => ?_, .slice (some ⟨w.heap.size, 0, none⟩) len len, .cells cells' e, { w with heap := w.heap.push (.cells cells' e) }, ?_, rfl, ⟨rfl, rfl, rfl⟩, fun n m k hk hrs hm => ⟨?_, ?_⟩⟩
      · simp only [opBuildSlice, bnd, hd, hsz0, hz, hc0, cond_true, hl, Option.map_some]; rfl
      · have h24 : ¬ len * i.size > 2 ^ 24 := by omega
        have hcell : ((Array.range (len * i.size)).map fun j => zv.cells[j % zv.cells.size]!) = madeCells zv.cells (len * i.size) := rfl
        by_cases h0 : len * i.size = 0
        · have hmk : madeCells zv.cells (len * i.size) = #[] := by rw [h0]; simp [madeCells]
          rw [hmk] at g1
          have hz0 : ((Array.range (len * i.size)).map fun j => (#[] : Array Value)[j % (#[] : Array Value).size]!) = #[] := by rw [h0]; simp
          simp only [Instr.buildSlice, Sem.run_bind, run_und hd, Result.andThen_ok, run_size hi, Sem.run_ite, if_neg h24, if_pos h0, Sem.run_pure]
          simp only [hz0, g1, Sem.run_bind, run_newRow, Result.andThen_ok, Sem.run_pure]
        · simp only [Instr.buildSlice, Sem.run_bind, run_und hd, Result.andThen_ok, run_size hi, Sem.run_ite, if_neg h24, if_neg h0, run_zero hi hzv, Sem.run_pure]
          simp only [hcell, g1, Sem.run_bind, run_newRow, Result.andThen_ok, Sem.run_pure]
      · obtain ⟨cells2, q1, q2⟩ := fill hrs
        have e1 : cells2 = cells' := by rw [g1] at q1; exact (Option.some.inj q1).symm
        subst e1
        exact newRow_o (w := w) e l (len * i.size) false false cells2 0 0 rfl hm (by rw [← hl2, ← Array.length_toList, List.take_length]; exact q2) (by omega) (fun _ => hfl) (.inl rfl)
      · simp only [R]
        refine ⟨hk, 0, len, ?_, by omega, fun _ => ?_, by simp⟩
        · simp [hm]
        · simp [hm]
    · cases he
  | _ => cases he
theorem cvBytes_o {e : TypeId} {s : List Nat} {nx : Nx} {h h' : H} {src dst : TypeId} {d1 : TypeDesc} (he : cvBytes P e s h = some (nx, h')) (hlt : ∀ x ∈ s, x < 256)
    (h1 : P.underlying src = some d1) (h2 : P.underlying dst = some (.slice e)) :
    ∃ sh o, (∀ g, cvBytes P e s g = some (.val (sh g.next), g.new o)) ∧ Makes ν w ((convert src dst (.string (bs s))).run P w) sh o [.str s] [.string (bs s)] := by
  obtain ⟨d, hd, he⟩ := bnd_eq he
  have hd' : d = .int .u8 := by
    cases d with
    | int k => cases k <;> first | rfl | cases he
    | _ => cases he
  subst hd'
  cases he
  let q := Question.appendCap (bs s).size 0 e
  let cap := q.cut (w.tape w.drawn q)
  have hcap : s.length ≤ cap := by
    show s.length ≤ (bs s).size + _
    rw [bs_size]; exact Nat.le_add_right _ _
  let cells : Array Value := ((bs s).data.map fun b => Value.int .u8 b.toNat) ++ Array.replicate (cap - (bs s).size) (.int .u8 0)
  have hcs : cells.size = cap := by
    have : (bs s).data.size = s.length := bs_size s
    simp only [cells, Array.size_append, Array.size_map, Array.size_replicate, bs_size, this]
    omega
  have hrs : ∀ (n : Nat) (m : Mu), Rs n m ν (s.map fun (b : Nat) => AV.int .u8 (Int.ofNat b)) (cells.toList.take (s.map fun (b : Nat) => AV.int .u8 (Int.ofNat b)).length) := by
    intro n m
    have e1 : cells.toList.take (s.map fun (b : Nat) => AV.int .u8 (Int.ofNat b)).length = s.map fun (b : Nat) => Value.int .u8 (Int.ofNat b) := by
      simp only [cells, Array.toList_append, List.length_map]
      rw [List.take_append_of_le_length (by simp [bs])]
      rw [List.take_of_length_le (by simp [bs])]
      simp only [bs, Array.toList_map, List.map_map]
      refine List.map_congr_left fun x hx => ?_
      simp [Nat.mod_eq_of_lt (hlt x hx)]
    rw [e1]
    exact Rs_bytes s
  refine ⟨fun k => .slice k 0 s.length s.length 1 true, .row (T.ofL (s.map fun (b : Nat) => AV.int .u8 (Int.ofNat b)) 0 .e) s.length e true 0 true, fun g => ?_, .slice (some ⟨w.heap.size, 0, none⟩) s.length cap, .cells cells e (cells.size, cells.size + 1),
    { w with drawn := w.drawn + 1, heap := w.heap.push (.cells cells e (cells.size, cells.size + 1)) }, ?_, rfl, ⟨rfl, rfl, rfl⟩, fun n m k hk _ hm => ⟨?_, ?_⟩⟩
  · simp only [cvBytes, bnd, hd]; rfl
  · have hconv : (convert src dst (.string (bs s))).run P w = (Conv.stringToBytes e (bs s)).run P w := by
      simp only [convert, Sem.run_bind, run_und h1, run_und h2, Result.andThen_ok]
      cases d1 <;> simp [run_und hd]
    rw [hconv]
    have hch : (Go.choose q).run P w = .ok cap { w with drawn := w.drawn + 1 } := by
      simp [Go.choose, Sem.run, q, Question.forced, cap]
    have hsh : World.shape? { w with drawn := w.drawn + 1, heap := w.heap.push (.cells cells e) } w.heap.size = some (e, cells.size) := by
      simp [World.shape?]
    simp only [Conv.stringToBytes, Sem.run_bind]
    rw [show (Go.choose (.appendCap (bs s).size 0 e)).run P w = _ from hch]
    simp only [Result.andThen_ok, run_newRow]
    have hmk : (markStringish ⟨w.heap.size, 0, none⟩).run P { w with drawn := w.drawn + 1, heap := w.heap.push (.cells cells e) } =
        .ok () { w with drawn := w.drawn + 1, heap := w.heap.push (.cells cells e (cells.size, cells.size + 1)) } := by
      simp only [markStringish, shape, Go.freeze, Sem.run_bind, Sem.run, hsh, Result.andThen_ok]
      congr 1
      exact freeze_push { w with drawn := w.drawn + 1 } cells e cells.size
    show Result.andThen ((markStringish ⟨w.heap.size, 0, none⟩).run P { w with drawn := w.drawn + 1, heap := w.heap.push (.cells cells e) }) _ = _
    rw [hmk]
    simp only [Result.andThen_ok, Sem.run_pure, bs_size]
  · exact newRow_o (w := w) e _ s.length true true cells cells.size (cells.size + 1) rfl hm (hrs n m) (by omega) (fun h => by cases h) (.inr ⟨rfl, Nat.le_refl _⟩)
  · simp only [R]
    refine ⟨hk, 0, cap, by simp [hm], hcap, fun _ => by simp [hm], ?_⟩
    simp only [if_true]
    refine ⟨hcap, ?_⟩
    simp [hm, osize, hcs]
theorem isA_run (hν : ∀ k, (ν k).oneCell' = true) {o : Oper} {vs : List AV} {nx : Nx} {h h' : H} {ρ : Operand → Value} {n0 : Nat} {m0 : Mu} (ha : isA P o.op = true) (he : evOp P sm o.op vs h = some (nx, h')) (hr : Rs n0 m0 ν vs ((opnds o.op).map ρ)) :
    ∃ sh ob, (∀ g, evOp P sm o.op vs g = some (.val (sh g.next), g.new ob)) ∧ ∃ s : Sem Value, execOp ρ o = (do pure (Next.value (← s))) ∧ Makes ν w (s.run P w) sh ob vs ((opnds o.op).map ρ) := by
  obtain ⟨dst, op, ty, pos, after, guard⟩ := o
  simp only at ha he hr ⊢
  cases op with
  | alloc e =>
    have := Rs_i0 hr
    subst this
    obtain ⟨z, hz, he⟩ := bnd_eq he
    exact ⟨fun k => .ptr k 0, _, fun g => by simp only [evOp, opAlloc, bnd, hz]; rfl, _, rfl, alloc_o hν hz⟩
  | box e x =>
    obtain ⟨v, rfl, h1⟩ := Rs_i1 hr
    exact ⟨fun k => .ptr k 0, _, fun g => rfl, _, rfl, box_o hν h1⟩
  | buildSlice t len parts =>
    obtain ⟨sh, ob, g1, g2⟩ := buildSlice_o (P := P) (w := w) (ρ := ρ) hν he (by simpa [opnds, Function.comp_def] using hr)
    exact ⟨sh, ob, g1, _, rfl, by simpa [opnds, Function.comp_def] using g2⟩
  | makeSlice t l c =>
    obtain ⟨v, u, rfl, h1, h2⟩ := Rs_i2 hr
    cases v with
    | int k1 l' =>
      cases u with
      | int k2 c' =>
        obtain ⟨sh, ob, g1, g2⟩ := makeSlice_o (P := P) (ν := ν) (w := w) hν he
        refine ⟨sh, ob, g1, _, rfl, ?_⟩
        simp only [opnds, List.map_cons, List.map_nil, R_int h1, R_int h2]
        exact g2
      | _ => cases he
    | _ => cases he
  | makeMap t r =>
    cases r with
    | some _ => cases he
    | none =>
      have := Rs_i0 hr
      subst this
      exact ⟨fun k => .map (some k), _, fun g => rfl, _, rfl, makeMap_o (ty := t)⟩
  | convert s d x =>
    obtain ⟨v, rfl, h1⟩ := Rs_i1 hr
    simp only [isA] at ha
    split at ha
    · rename_i e q1 q2
      obtain ⟨sd, hsd, he⟩ := bnd_eq he
      obtain ⟨dd, hdd, he⟩ := bnd_eq he
      cases q1.symm.trans hsd
      cases q2.symm.trans hdd
      cases v with
      | str s' =>
        obtain ⟨hv, hlt⟩ := R_str h1
        obtain ⟨sh, ob, g1, g2⟩ := cvBytes_o (P := P) (ν := ν) (w := w) he hlt q1 q2
        refine ⟨sh, ob, fun g => ?_, _, rfl, ?_⟩
        · simp only [evOp, opConvert, bnd, q1, q2]; exact g1 g
        · simp only [opnds, List.map_cons, List.map_nil, hv]
          exact g2
      | _ => cases he
    · cases ha
  | _ => cases ha
end
theorem fam {ι : Type} {α : Type} {p : ι → α → Prop} (h : ∀ i, ∃ x, p i x) : ∃ f : ι → α, ∀ i, p i (f i) := ⟨fun i => Classical.choose (h i), fun i => Classical.choose_spec (h i)⟩
def FW (ro : Option Nat) : Fence := { Fence.wide with round := ro }
theorem room_FW (ro : Option Nat) (n : Nat) : (FW ro).room n := fun _ h => by simp [FW, Fence.wide] at h
theorem depth_FW (ro : Option Nat) {k : Nat} : (FW ro).depth.isSome = true → 1 ≤ k := fun h => by simp [FW, Fence.wide] at h
theorem calls_FW {ro : Option Nat} {n : Nat} {P : Program} {f : FuncId} {A : Array Value} {w : World} {R : Ending → World → Prop} (h : Calls P f A w R) : CallsIn (FW ro) n P f A w R :=
  ⟨trivial, fun cs _ => let ⟨e, w', fr, r, s, x⟩ := h cs; ⟨e, w', fr, r, comesIn_wide.2 s, x⟩⟩
def DsR (n : Nat) (m : Mu) (ν : Nat → Value) : List D → List Deferred → Prop
  | [], l => l = []
  | d :: ds, l => ∃ x xs, l = x :: xs ∧ DR n m ν d x ∧ DsR n m ν ds xs
def ChR (n : Nat) (m : Mu) (ν : Nat → Value) : List (AV × Bool) → List PanicEntry → Prop
  | [], l => l = []
  | c :: cs, l => ∃ x xs, l = x :: xs ∧ x.recovered = c.2 ∧ x.goexit = false ∧ R n m ν c.1 x.v ∧ ChR n m ν cs xs
theorem DR.mono {n n' : Nat} {m m' : Mu} {ν : Nat → Value} (hn : n ≤ n') (hm : Agree n m m') {d : D} {x : Deferred} (h : DR n m ν d x) : DR n' m' ν d x := by
  cases d with
  | fn f args => obtain ⟨cap, A, e, h⟩ := h; exact ⟨cap, A, e, h.mono hn hm⟩
  | mark r => obtain ⟨h1, h2⟩ := h; exact ⟨Nat.lt_of_lt_of_le h1 hn, by rw [hm _ h1]; exact h2⟩
theorem DsR.mono {n n' : Nat} {m m' : Mu} {ν : Nat → Value} (hn : n ≤ n') (hm : Agree n m m') : ∀ {l : List D} {xs : List Deferred}, DsR n m ν l xs → DsR n' m' ν l xs
  | [], _, h => h
  | _ :: _, _, ⟨x, xs, e, h1, h2⟩ => ⟨x, xs, e, h1.mono hn hm, DsR.mono hn hm h2⟩
theorem ChR.mono {n n' : Nat} {m m' : Mu} {ν : Nat → Value} (hn : n ≤ n') (hm : Agree n m m') : ∀ {l : List (AV × Bool)} {xs : List PanicEntry}, ChR n m ν l xs → ChR n' m' ν l xs
  | [], _, h => h
  | _ :: _, _, ⟨x, xs, e, h1, h2, h3, h4⟩ => ⟨x, xs, e, h1, h2, h3.mono hn hm, ChR.mono hn hm h4⟩
theorem ChR.app {n : Nat} {m : Mu} {ν : Nat → Value} : ∀ {l l' : List (AV × Bool)} {xs xs' : List PanicEntry}, ChR n m ν l xs → ChR n m ν l' xs' → ChR n m ν (l ++ l') (xs ++ xs')
  | [], _, _, _, h, h' => by cases h; exact h'
  | _ :: _, _, _, _, ⟨x, xs, e, h1, h2, h3, h4⟩, h' => by subst e; exact ⟨x, _, rfl, h1, h2, h3, h4.app h'⟩
def GL (sm : Sum) (n : Nat) (m : Mu) : Prop := ∀ g, g < sm.g → g < n ∧ (m g).1 = g ∧ (m g).2.1 = 0
theorem GL.mono {sm : Sum} {n n' : Nat} {m m' : Mu} (hn : n ≤ n') (hm : Agree n m m') (h : GL sm n m) : GL sm n' m' := fun g hg => by
  obtain ⟨h1, h2, h3⟩ := h g hg
  exact ⟨Nat.lt_of_lt_of_le h1 hn, by rw [hm g h1]; exact ⟨h2, h3⟩⟩
def ExR {ι : Type} (n : Nat) (m : ι → Mu) (ν : Nat → Value) : Ex → Exit → Prop
  | .normal, .normal => True
  | .exit i, .exit j => i = j
  | .goto i, .goto j => i = j
  | .ret, .ret => True
  | .pan c, .panic ch => ∀ i, ChR n (m i) ν c ch
  | _, _ => False
structure ST {ι : Type} (sm : Sum) (m : ι → Mu) (ν : Nat → Value) (s : S) (a : Act) (w : World) : Prop where
  sr : ∀ i, SR (m i) ν s.h w
  gl : ∀ i, GL sm s.h.next (m i)
  tr : ∀ i, TR s.h.next (m i) ν s.nt s.tm a.tmps
  dr : ∀ i, DsR s.h.next (m i) ν s.df a.defers
def CP {ι : Type} (sm : Sum) (m : ι → Mu) (ν : Nat → Value) (h : H) (w : World) (e : Ex) (s' : S) : Exit → Act → World → Prop :=
  fun E a' w' => ∃ m' : ι → Mu, ExR s'.h.next m' ν e E ∧ ST sm m' ν s' a' w' ∧ ∀ i, Post ν (m i) h w (m' i) s'.h w'
def MdR {ι : Type} (n : Nat) (m : ι → Mu) (ν : Nat → Value) : Md → FrameMode → Prop
  | .ret, u => u = .returning
  | .pan c, u => ∃ ch, u = .panicking ch ∧ ∀ i, ChR n (m i) ν c ch
def behind : Ending → FrameMode → FrameMode
  | .returned _, u => settle u
  | .panicked ch, u => raised u ch
  | .outgrown, u => u
def Arr (F : Fence) (P : Program) (x : Item) (Q : Exit → Act → World → Prop) (a : Act) (w : World) : Prop :=
  ∀ (b : Frame) (k : List Item) (cs : List Frame), b.roundOf = F.round → ∃ e a' w', Q e a' w' ∧ ArrivesIn (Machine.fenced P F) P (lone (b.atR a (x :: k)) cs w) b k cs e a' w'
def OutOK (P : Program) (sm : Sum) (ν : Nat → Value) : Job → Out → Prop
  | .code rd c s, .code e s' => ∀ (ι : Type) (_ : Nonempty ι) (m : ι → Mu) (ro : Option Nat) (a : Act) (w : World), ro.isSome = rd → ST sm m ν s a w → c.wpIn (FW ro) 0 P (CP sm m ν s.h w e s') a w ∧ ∀ b, c = .loop b → Arr (FW ro) P (.inLoop b) (CP sm m ν s.h w e s') a w
  | .jump rd b c s, .code e s' => ∀ (ι : Type) (_ : Nonempty ι) (m : ι → Mu) (ro : Option Nat) (a : Act) (w : World), ro.isSome = rd → ST sm m ν s a w →
      ∀ (fr : Frame) (k : List Item) (cs : List Frame), fr.roundOf = ro → ∃ E a' w', CP sm m ν s.h w e s' E a' w' ∧ ArrivesIn (Machine.fenced P (FW ro)) P (lone (fr.atR a (.code c :: .inScope b :: k)) cs w) fr k cs E a' w'
  | .fn f args h, .fn r h' => ∀ (ι : Type) (_ : Nonempty ι) (m : ι → Mu) (A : Array Value) (w : World), (∀ i, SR (m i) ν h w) → (∀ i, GL sm h.next (m i)) → (∀ i, Rs h.next (m i) ν args A.toList) →
      Calls P f A w fun e w' => ∃ x, ∃ m' : ι → Mu, e = .returned x ∧ (∀ i, Post ν (m i) h w (m' i) h' w') ∧ ∀ i, R h'.next (m' i) ν r x
  | .fn f args h, .pan c h' => ∀ (ι : Type) (_ : Nonempty ι) (m : ι → Mu) (A : Array Value) (w : World), (∀ i, SR (m i) ν h w) → (∀ i, GL sm h.next (m i)) → (∀ i, Rs h.next (m i) ν args A.toList) →
      Calls P f A w fun e w' => ∃ ch, ∃ m' : ι → Mu, e = .panicked ch ∧ (∀ i, Post ν (m i) h w (m' i) h' w') ∧ ∀ i, ChR h'.next (m' i) ν c ch
  | .dfn f args u h, .dfn u' h' => (∃ fn, P.funcs[f]? = some fn ∧ fn.body.isSome = true) ∧ ∀ (ι : Type) (_ : Nonempty ι) (m : ι → Mu) (A : Array Value) (U : FrameMode) (w : World), (∀ i, SR (m i) ν h w) → (∀ i, GL sm h.next (m i)) → (∀ i, Rs h.next (m i) ν args A.toList) → MdR h.next m ν u U →
      CallsDIn (FW none) 0 P f A U w fun e U' w' => e ≠ .outgrown ∧ ∃ m' : ι → Mu, (∀ i, Post ν (m i) h w (m' i) h' w') ∧ MdR h'.next m' ν u' (behind e U')
  | .codeS c s u, .codeS e s' u' => ∀ (ι : Type) (_ : Nonempty ι) (m : ι → Mu) (a : Act) (U : FrameMode) (c₀ : Frame) (cs : List Frame) (w : World), ST sm m ν s a w → MdR s.h.next m ν u U → c₀.mode = U →
      c.wpSIn (FW none) 0 P (fun E a' cs' w' => ∃ m' : ι → Mu, ∃ U', ExR s'.h.next m' ν e E ∧ ST sm m' ν s' a' w' ∧ (∀ i, Post ν (m i) s.h w (m' i) s'.h w') ∧ MdR s'.h.next m' ν u' U' ∧ cs' = { c₀ with mode := U' } :: cs) a (c₀ :: cs) w
  | _, _ => False
section
variable {P : Program} {sm : Sum} {TT : Tells} {ν : Nat → Value} {ι : Type}
theorem ST.step {m m' : ι → Mu} {s s' : S} {a a' : Act} {w w' : World} (h : ST sm m ν s a w) (hp : ∀ i, Post ν (m i) s.h w (m' i) s'.h w')
    (ht : ∀ i, TR s'.h.next (m' i) ν s'.nt s'.tm a'.tmps) (hd : ∀ i, DsR s'.h.next (m' i) ν s'.df a'.defers) : ST sm m' ν s' a' w' :=
  ⟨fun i => (hp i).sr, fun i => (h.gl i).mono (hp i).next (hp i).agree, ht, hd⟩
theorem TR.put {n : Nat} {m : Mu} {nt : Nat} {tm : T AV} {a : Act} (h : TR n m ν nt tm a.tmps) {df : List D} {hh : H} {d : Option Tmp} {v : AV} {x : Value} (hr : R n m ν v x) :
    TR n m ν nt (S.put ⟨nt, tm, df, hh⟩ d v).tm (a.put d x).tmps := by
  cases d with
  | none => exact h
  | some d =>
    simp only [S.put, Act.put, bcond]
    split
    · rename_i hlt
      have hlt : d < nt := by simpa [Nat.blt_eq] using hlt
      refine ⟨by simpa using h.1, fun t y hy => ?_⟩
      rw [T.get_set] at hy
      by_cases e : t = d
      · subst e
        rw [if_pos rfl] at hy
        cases hy
        exact ⟨x, by rw [Array.getElem?_setIfInBounds_self_of_lt (by rw [h.1]; exact hlt)], hr⟩
      · rw [if_neg e] at hy
        obtain ⟨z, hz, hrz⟩ := h.2 t y hy
        exact ⟨z, by rw [Array.getElem?_setIfInBounds_ne (fun q => e q.symm)]; exact hz, hrz⟩
    · rename_i hlt
      have hlt : ¬ d < nt := by simpa [Nat.blt_eq] using hlt
      have e1 : a.tmps.setIfInBounds d x = a.tmps := by
        rw [Array.setIfInBounds_def, dif_neg (by rw [h.1]; exact hlt)]
      rw [e1]
      exact h
theorem put_defers (a : Act) (d : Option Tmp) (x : Value) : (a.put d x).defers = a.defers := by cases d <;> rfl
theorem S.put_h (s : S) (d : Option Tmp) (v : AV) : (s.put d v).h = s.h ∧ (s.put d v).nt = s.nt ∧ (s.put d v).df = s.df := by cases d <;> exact ⟨rfl, rfl, rfl⟩
theorem undef_R {n : Nat} {m : Mu} : R n m ν (.tup []) undef := by simp only [R]; exact ⟨#[], rfl, Rs.nil⟩
theorem evO_R {n : Nat} {m : Mu} {tm : T AV} {nt : Nat} {a : Act} {o : Operand} {v : AV} (he : evO sm tm o = some v) (hg : GL sm n m) (ht : TR n m ν nt tm a.tmps) : R n m ν v (a.eval o) := by
  cases o with
  | tmp t =>
    obtain ⟨x, hx, hr⟩ := ht.2 t v he
    simp only [Act.eval, Array.getD_eq_getD_getElem?, hx, Option.getD_some]
    exact hr
  | const c => exact ofVal_R he
  | global g =>
    simp only [evO, bcond] at he
    split at he
    · rename_i hlt
      cases he
      obtain ⟨h1, h2, h3⟩ := hg g (by simpa [Nat.blt_eq] using hlt)
      simp only [R, Act.eval]
      exact ⟨h1, by rw [h2, h3]⟩
    · cases he
  | func f =>
    cases he
    simp only [R, Act.eval]
    exact ⟨_, _, _, rfl, rfl, Rs.nil, Rs.nil⟩
theorem evOs_R {n : Nat} {m : Mu} {tm : T AV} {nt : Nat} {a : Act} (hg : GL sm n m) (ht : TR n m ν nt tm a.tmps) : ∀ {l : List Operand} {vs : List AV}, evOs sm tm l = some vs → Rs n m ν vs (l.map a.eval)
  | [], vs, he => by cases he; exact Rs.nil
  | o :: l, vs, he => by
    obtain ⟨v, h1, he⟩ := bnd_eq he
    obtain ⟨us, h2, he⟩ := bnd_eq he
    cases he
    exact Rs.cons (evO_R h1 hg ht) (evOs_R hg ht h2)
inductive Res where
  | val (v : AV) (h : H)
  | dfr (d : D) (h : H)
  | pan (c : List (AV × Bool)) (h : H)
variable (ih : Job → Option Out)
def callR : Out → Option Res
  | .fn v h => some (.val v h)
  | .pan c h => some (.pan c h)
  | _ => none
noncomputable def resOf (rd : Bool) (h : H) : Nx → Option Res
  | .val v => some (.val v h)
  | .skip => some (.val (.tup []) h)
  | .defer x => bif rd then none else some (.dfr x h)
  | .pan v => some (.pan [(v, false)] h)
  | .round l args => bnd (roundA ih l args h) fun q => some (.val q.1 q.2)
  | .enter f args => bnd (ih (.fn f args h)) callR
noncomputable def appR (s : S) (d : Option Tmp) : Res → Ex × S
  | .val v h => (.normal, S.put ⟨s.nt, s.tm, s.df, h⟩ d v)
  | .dfr x h => (.normal, S.put ⟨s.nt, s.tm, x :: s.df, h⟩ d (.tup []))
  | .pan c h => (.pan c, ⟨s.nt, s.tm, s.df, h⟩)
theorem goes_res (s : S) (rd : Bool) (d : Option Tmp) (h : H) (nx : Nx) {r : Ex × S} (he : goes ih s rd d h nx = some r) : ∃ q, resOf ih rd h nx = some q ∧ r = appR s d q := by
  cases nx with
  | val v => cases he; exact ⟨_, rfl, rfl⟩
  | skip => cases he; exact ⟨_, rfl, rfl⟩
  | defer x =>
    cases rd with
    | true => cases he
    | false => cases he; exact ⟨_, rfl, rfl⟩
  | pan v => cases he; exact ⟨_, rfl, rfl⟩
  | round l args =>
    obtain ⟨q, hq, he⟩ := bnd_eq he
    cases he
    exact ⟨.val q.1 q.2, by simp only [resOf, hq], rfl⟩
  | enter f args =>
    obtain ⟨q, hq, he⟩ := bnd_eq he
    cases q with
    | fn v h' => cases he; exact ⟨.val v h', by simp only [resOf, hq, bnd_some, callR], rfl⟩
    | pan c h' => cases he; exact ⟨.pan c h', by simp only [resOf, hq, bnd_some, callR], rfl⟩
    | _ => cases he
end
section
variable {P : Program} {sm : Sum} {TT : Tells} {ν : Nat → Value} {ι : Type} {ih : Job → Option Out}
theorem loop_at {m : Mu} {h : H} {w : World} {l : Nat} {st : LoopState} {p : Option Code} {nt : Nat} {tm : T AV} {pa : Array Tmp} {a bd : Code} (hs : SR m ν h w) (hl : h.t.get l = some (.loop st p nt tm pa a bd)) :
    ∃ r : Loop, w.heap[(m l).1]? = some (.loop r) ∧ r.state = st ∧ r.pending = p ∧ r.params = pa ∧ r.assign = a ∧ r.body = bd ∧ TR h.next m ν nt tm r.tmps := by
  obtain ⟨fn, tmps, df, h1, h2⟩ := (hs.obj l _ hl).2
  exact ⟨_, h1, rfl, rfl, rfl, rfl, rfl, h2⟩
theorem loop_turn {m : Mu} {h : H} {w : World} {l : Nat} {st : LoopState} {p : Option Code} {nt : Nat} {tm : T AV} {pa : Array Tmp} {a bd : Code} (hs : SR m ν h w) (hl : h.t.get l = some (.loop st p nt tm pa a bd))
    {r : Loop} (hr : w.heap[(m l).1]? = some (.loop r)) (st' : LoopState) (p' : Option Code) :
    Post ν m h w m (h.put l (.loop st' p' nt tm pa a bd)) (w.putObj (m l).1 (.loop { r with state := st', pending := p' })) := by
  obtain ⟨fn, tmps, df, h1, h2⟩ := (hs.obj l _ hl).2
  have e : r = { state := st, pending := p, fn := fn, tmps := tmps, params := pa, assign := a, body := bd, defers := df } := by rw [h1] at hr; cases hr; rfl
  subst e
  have hlt := (hs.obj l _ hl).2.lt
  refine Post.turn hs l _ _ hl rfl World.putObj_size (fun q hq => World.putObj_heap_other hq) ?_
  exact ⟨fn, tmps, df, World.putObj_heap_same hlt, h2⟩
theorem fold_TR {n : Nat} {m : Mu} {nt : Nat} {hh : H} : ∀ {ps : List Tmp} {vs : List AV} {xs : List Value} {tm : T AV} {tmps : Array Value}, ps.length = vs.length → TR n m ν nt tm tmps → Rs n m ν vs xs →
    ∃ tm', (ps.zip vs).foldl (fun (s : S) (x : Tmp × AV) => S.put s (some x.1) x.2) ⟨nt, tm, [], hh⟩ = ⟨nt, tm', [], hh⟩ ∧ TR n m ν nt tm' ((ps.zip xs).foldl (fun (t : Array Value) (x : Tmp × Value) => t.setIfInBounds x.1 x.2) tmps)
  | [], _, _, tm, _, _, h, _ => ⟨tm, rfl, h⟩
  | p :: ps, [], _, _, _, hl, _, _ => by simp at hl
  | p :: ps, v :: vs, xs, tm, tmps, hl, h, hr => by
    obtain ⟨x, ys, rfl, h1, h2⟩ := Rs_cons.1 hr
    have hp := TR.put (a := { tmps := tmps, defers := [] }) h (df := []) (hh := hh) (d := some p) h1
    obtain ⟨tm', e, ht⟩ := fold_TR (hh := hh) (tm := (S.put ⟨nt, tm, [], hh⟩ (some p) v).tm) (tmps := tmps.setIfInBounds p x) (by simpa using hl) hp h2
    refine ⟨tm', ?_, ?_⟩
    · simp only [List.zip_cons_cons, List.foldl_cons]
      exact e
    · simp only [List.zip_cons_cons, List.foldl_cons]
      exact ht
theorem exJump_E {n : Nat} {m : ι → Mu} {e : Ex} {E : Exit} {j : Option Code} (hj : exJump e = some j) (he : ExR n m ν e E) :
    (e = .normal ∧ E = .normal ∧ j = none) ∨ (e = .ret ∧ E = .ret ∧ j = some .ret) ∨ (∃ i, e = .exit i ∧ E = .exit i ∧ j = some (.exit i)) ∨ (∃ i, e = .goto i ∧ E = .goto i ∧ j = some (.goto i)) := by
  cases e <;> cases hj <;> cases E <;> simp only [ExR] at he
  · exact .inl ⟨rfl, rfl, rfl⟩
  · subst he; exact .inr (.inr (.inl ⟨_, rfl, rfl, rfl⟩))
  · subst he; exact .inr (.inr (.inr ⟨_, rfl, rfl, rfl⟩))
  · exact .inr (.inl ⟨rfl, rfl, rfl⟩)
theorem isEmpty_nil {α : Type} {l : List α} (h : l.isEmpty = true) : l = [] := by cases l with | nil => rfl | cons => cases h
theorem DsR.empty {n : Nat} {m : Mu} {xs : List Deferred} (h : DsR n m ν [] xs) : xs = [] := h
theorem round_ok [hne : Nonempty ι] (hih : ∀ j o, ih j = some o → OutOK P sm ν j o) {m : ι → Mu} {h h' : H} {w : World} {l : Nat} {args : List AV} {v : AV} {r : Result Next} {ro : Option Nat} (he : roundA ih l args h = some (v, h'))
    (hs : ∀ i, SR (m i) ν h w) (hg : ∀ i, GL sm h.next (m i)) (hr : ∀ i, ∃ A, r = (Instr.yield (m i l).1 A).run P w ∧ Rs h.next (m i) ν args A.toList) :
    ∃ l0 f tmps assign body, r = .ok (.round l0 f tmps assign body) w ∧ RoundIn (FW ro) 0 P l0 f tmps assign body w fun e w' => ∃ x, ∃ m' : ι → Mu, e = .returned x ∧ (∀ i, Post ν (m i) h w (m' i) h' w') ∧ ∀ i, R h'.next (m' i) ν v x := by
  obtain ⟨i0⟩ := hne
  unfold roundA at he
  split at he
  case h_2 => cases he
  rename_i p nt tm params a b hl
  rw [bcond] at he
  split at he
  · cases he
  rename_i hsz
  have hsz : params.size = args.length := by
    have : Nat.beq params.size args.length = true := by simpa using hsz
    exact of_beq this
  obtain ⟨o1, ho1, he⟩ := bnd_eq he
  obtain ⟨R0, hR0, r1, r2, r3, r4, r5, r6⟩ := loop_at (hs i0) hl
  have key : ∀ i, ∃ A, A.size = params.size ∧ Rs h.next (m i) ν args A.toList ∧ (m i l).1 = (m i0 l).1 ∧ r = .ok (.round (m i0 l).1 R0.fn ((params.zip A).foldl (fun tmps (t, a) => tmps.setIfInBounds t a) R0.tmps) R0.assign R0.body) w ∧ TR h.next (m i) ν nt tm R0.tmps := by
    intro i
    obtain ⟨A0, e0, q0⟩ := hr i0
    obtain ⟨A, e1, q1⟩ := hr i
    obtain ⟨Ri, hRi, t1, t2, t3, t4, t5, t6⟩ := loop_at (hs i) hl
    have z0 : A0.size = params.size := by have := q0.len; simp at this; omega
    have z1 : A.size = params.size := by have := q1.len; simp at this; omega
    rw [run_yield hR0 (by rw [r3]; exact z0)] at e0
    rw [run_yield hRi (by rw [t3]; exact z1)] at e1
    have hll : (m i l).1 = (m i0 l).1 := by rw [e0] at e1; injection e1 with e1; injection e1 with e1; exact e1.symm
    rw [hll, hR0] at hRi
    cases hRi
    refine ⟨A, z1, q1, hll, ?_, t6⟩
    rw [e1, hll, t3]
  obtain ⟨A, z0, q0, -, er, -⟩ := key i0
  refine ⟨_, _, _, _, _, er, ?_⟩
  have hfold : ∀ i, TR h.next (m i) ν nt ((params.toList.zip args).foldl (fun (s : S) (x : Tmp × AV) => S.put s (some x.1) x.2) ⟨nt, tm, [], h⟩).tm ((params.zip A).foldl (fun tmps (t, a) => tmps.setIfInBounds t a) R0.tmps) ∧
      (params.toList.zip args).foldl (fun (s : S) (x : Tmp × AV) => S.put s (some x.1) x.2) ⟨nt, tm, [], h⟩ = ⟨nt, ((params.toList.zip args).foldl (fun (s : S) (x : Tmp × AV) => S.put s (some x.1) x.2) ⟨nt, tm, [], h⟩).tm, [], h⟩ := by
    intro i
    obtain ⟨A', z1, q1, hll, er', ht⟩ := key i
    have e2 : (params.zip A).foldl (fun tmps (t, a) => tmps.setIfInBounds t a) R0.tmps = (params.zip A').foldl (fun tmps (t, a) => tmps.setIfInBounds t a) R0.tmps := by
      rw [er] at er'; injection er' with er'; injection er'
    obtain ⟨tm', g1, g2⟩ := fold_TR (hh := h) (ps := params.toList) (by simpa using hsz) ht q1
    rw [g1, e2]
    refine ⟨?_, rfl⟩
    rw [← Array.foldl_toList, Array.toList_zip]
    exact g2
  generalize hS : (params.toList.zip args).foldl (fun (s : S) (x : Tmp × AV) => S.put s (some x.1) x.2) ⟨nt, tm, [], h⟩ = S1 at ho1 hfold
  have hS1 := (hfold i0).2
  have hh1 : S1.h = h := by rw [hS1]
  have hn1 : S1.nt = nt := by rw [hS1]
  have hd1 : S1.df = [] := by rw [hS1]
  have O1 := hih _ _ ho1
  unfold round2 at he
  split at he
  case h_2 => cases he
  rename_i s1
  split at he
  case h_2 => cases he
  rename_i p2 nt2 tm2 pa2 a2 b2 hl2
  obtain ⟨o2, ho2, he⟩ := bnd_eq he
  have O2 := hih _ _ ho2
  unfold round3 at he
  split at he
  case h_2 => cases he
  rename_i e2 s2
  obtain ⟨j, hj, he⟩ := bnd_eq he
  rw [bcond] at he
  split at he
  case isFalse => cases he
  rename_i hdf
  have hdf := isEmpty_nil hdf
  unfold round4 at he
  split at he
  case h_2 => cases he
  rename_i st3 p3 nt3 tm3 pa3 a3 b3 hl3
  cases he
  refine roundIn_of_wpIn (F := FW ro) trivial ?_
  have W1 := And.left <| O1 ι ⟨i0⟩ m (some (m i0 l).1) { tmps := (params.zip A).foldl (fun tmps (t, a) => tmps.setIfInBounds t a) R0.tmps, defers := [] } w rfl
    ⟨fun i => by rw [hh1]; exact hs i, fun i => by rw [hh1]; exact hg i, fun i => by rw [hh1, hn1]; exact (hfold i).1, fun i => by rw [hd1]; rfl⟩
  rw [r4]
  refine wpIn_mono W1 fun E a1 w1 hq => ?_
  obtain ⟨m1, hE, st1, p1⟩ := hq
  cases E with
  | normal =>
    rw [hh1] at p1
    have hll1 : ∀ i, (m1 i l).1 = (m i0 l).1 := fun i => by
      have hln : l < h.next := ((hs i).obj l _ hl).1
      rw [(p1 i).agree l hln]
      obtain ⟨_, _, _, hll, _⟩ := key i
      exact hll
    obtain ⟨Rb, hRb, b1, b2', b3', b4, b5, b6⟩ := loop_at (st1.sr i0) hl2
    have hRb' : w1.heap[(m i0 l).1]? = some (.loop Rb) := by rw [← hll1 i0]; exact hRb
    have hbeg := run_beginRound (P := P) hRb' b1
    have hpB : ∀ i, Post ν (m1 i) s1.h w1 (m1 i) (s1.h.put l (.loop .busy p2 nt2 tm2 pa2 a2 b2)) (w1.putObj (m i0 l).1 (.loop { Rb with state := .busy })) := fun i => by
      have := loop_turn (st1.sr i) hl2 (r := Rb) (by rw [hll1 i]; exact hRb') .busy p2
      rw [hll1 i] at this
      rw [← b2'] at this ⊢
      exact this
    refine ⟨_, hbeg, ?_⟩
    have W2 := And.left <| O2 ι ⟨i0⟩ m1 (some (m i0 l).1) a1 _ rfl ⟨fun i => (hpB i).sr, fun i => (st1.gl i).mono (hpB i).next (hpB i).agree, fun i => (st1.tr i).mono (hpB i).next (hpB i).agree, fun i => (st1.dr i).mono (hpB i).next (hpB i).agree⟩
    rw [r5]
    refine wpIn_mono W2 fun E2 a3' w3 hq2 => ?_
    obtain ⟨m2, hE2, st2, p2'⟩ := hq2
    have hl12 : ∀ i, (m2 i l).1 = (m i0 l).1 := fun i => by
      have := (hpB i).trans (p2' i)
      rw [this.agree l (((st1.sr i).obj l _ hl2).1)]
      exact hll1 i
    obtain ⟨Rc, hRc, c1, c2, c3, c4, c5, c6⟩ := loop_at (st2.sr i0) hl3
    have hRc' : w3.heap[(m i0 l).1]? = some (.loop Rc) := by rw [← hl12 i0]; exact hRc
    have fin : ∃ w4, (Instr.endRound (m i0 l).1 j).run P w3 = .ok (.bool j.isNone) w4 ∧ ∃ m' : ι → Mu, (∀ i, Post ν (m i) h w (m' i) (s2.h.put l (.loop (if j.isNone = true then LoopState.ready else LoopState.done) j nt3 tm3 pa3 a3 b3)) w4) := by
      refine ⟨_, run_endRound j hRc', m2, fun i => ?_⟩
      have hturn := loop_turn (st2.sr i) hl3 (r := Rc) (by rw [hl12 i]; exact hRc') (if j.isNone = true then LoopState.ready else LoopState.done) j
      rw [hl12 i] at hturn
      exact ((p1 i).trans ((hpB i).trans (p2' i))).trans hturn
    obtain ⟨w4, f1, m', f2⟩ := fin
    rcases exJump_E hj hE2 with ⟨rfl, rfl, rfl⟩ | ⟨rfl, rfl, rfl⟩ | ⟨i, rfl, rfl, rfl⟩ | ⟨i, rfl, rfl, rfl⟩
    · exact ⟨_, w4, f1, _, m', rfl, f2, fun i => mkBool _⟩
    · exact ⟨_, w4, f1, _, m', rfl, f2, fun i => mkBool _⟩
    · exact ⟨_, w4, f1, _, m', rfl, f2, fun i => mkBool _⟩
    · exact ⟨_, w4, f1, _, m', rfl, f2, fun i => mkBool _⟩
  | _ => exact hE.elim
end
section
variable {P : Program} {sm : Sum} {TT : Tells} {ν : Nat → Value} {ι : Type} {ih : Job → Option Out}
theorem sum_fam [hne : Nonempty ι] {m : ι → Mu} {h h' : H} {w : World} {v : AV} {r : Result Next} (hr : ∀ i, SumVal P TT ν (m i) h w v h' r) :
    (∃ x w', r = .ok (.value x) w' ∧ ∃ m' : ι → Mu, (∀ i, Post ν (m i) h w (m' i) h' w') ∧ ∀ i, R h'.next (m' i) ν v x) ∨
    ∃ f A, r = .ok (.enter f A) w ∧ Calls P f A w fun e w' => ∃ x, e = .returned x ∧ ∃ m' : ι → Mu, (∀ i, Post ν (m i) h w (m' i) h' w') ∧ ∀ i, R h'.next (m' i) ν v x := by
  obtain ⟨i0⟩ := hne
  rcases hr i0 with ⟨x, m0, w', e0, -, -⟩ | ⟨f, A, e0, hc, -⟩
  · refine .inl ⟨x, w', e0, ?_⟩
    have : ∀ i, ∃ m' : Mu, Post ν (m i) h w m' h' w' ∧ R h'.next m' ν v x := fun i => by
      rcases hr i with ⟨x1, m1, w1, e1, p1, q1⟩ | ⟨f, A, e1, -, -⟩
      · rw [e0] at e1
        injection e1 with e1 e2
        injection e1 with e1
        subst e1; subst e2
        exact ⟨m1, p1, q1⟩
      · rw [e0] at e1
        injection e1 with e1 e2
        cases e1
    obtain ⟨m', hm⟩ := fam this
    exact ⟨m', fun i => (hm i).1, fun i => (hm i).2⟩
  · refine .inr ⟨f, A, e0, hc.mono fun e w' ⟨x, he, hT⟩ => ⟨x, he, ?_⟩⟩
    have : ∀ i, ∃ m' : Mu, Post ν (m i) h w m' h' w' ∧ R h'.next m' ν v x := fun i => by
      rcases hr i with ⟨x1, m1, w1, e1, p1, q1⟩ | ⟨f1, A1, e1, -, hall⟩
      · rw [e0] at e1
        injection e1 with e1 e2
        cases e1
      · rw [e0] at e1
        injection e1 with e1 e2
        injection e1 with e1 e3
        subst e1; subst e3
        exact hall x w' hT
    obtain ⟨m', hm⟩ := fam this
    exact ⟨m', fun i => (hm i).1, fun i => (hm i).2⟩
theorem upon_ok [hne : Nonempty ι] (hih : ∀ j o, ih j = some o → OutOK P sm ν j o) {m : ι → Mu} {h0 h1 : H} {w : World} {nx : Nx} {r : Result Next} {rd : Bool} {ro : Option Nat} {res : Res}
    (hs : ∀ i, SR (m i) ν h0 w) (hg : ∀ i, GL sm h0.next (m i)) (hrun : ∀ i, RunOK P TT ν (m i) h0 w h1 r nx) (hres : resOf ih rd h1 nx = some res)
    {o : Oper} {a : Act} {next : Act → World → Prop} {Q : Exit → Act → World → Prop}
    (hv : ∀ v h2, res = .val v h2 → ∀ x w' (m' : ι → Mu), (∀ i, Post ν (m i) h0 w (m' i) h2 w') → (∀ i, R h2.next (m' i) ν v x) → next (a.put o.dst x) w')
    (hd : ∀ d h2, res = .dfr d h2 → rd = false → h2 = h0 → ∀ x, (∀ i, DR h0.next (m i) ν d x) → next ({ a with defers := x :: a.defers }.put o.dst undef) w)
    (hp : ∀ c h2, res = .pan c h2 → ∀ ch w' (m' : ι → Mu), (∀ i, Post ν (m i) h0 w (m' i) h2 w') → (∀ i, ChR h2.next (m' i) ν c ch) → Q (.panic ch) a w') :
    o.uponIn (FW ro) 0 P a next Q r := by
  have hne' := hne
  obtain ⟨i0⟩ := hne
  cases nx with
  | val v =>
    cases hres
    rcases sum_fam hrun with ⟨x, w', e, m', p, q⟩ | ⟨f, A, e, hc⟩
    · rw [e, Oper.uponIn_value]
      exact hv v h1 rfl x w' m' p q
    · rw [e, Oper.uponIn_enter]
      refine ⟨depth_FW ro, calls_FW (hc.mono fun e w' he => ?_)⟩
      obtain ⟨x, rfl, m', p, q⟩ := he
      exact hv v h1 rfl x w' m' p q
  | skip =>
    cases hres
    obtain ⟨m0, w', e, -⟩ := hrun i0
    have : ∀ i, ∃ m' : Mu, Post ν (m i) h0 w m' h1 w' := fun i => by
      obtain ⟨m1, w1, e1, p1⟩ := hrun i
      rw [e] at e1
      injection e1 with e1 e2
      subst e2
      exact ⟨m1, p1⟩
    obtain ⟨m', p⟩ := fam this
    rw [e, Oper.uponIn_skip]
    exact hv _ h1 rfl undef w' m' p fun i => undef_R
  | pan v =>
    cases hres
    obtain ⟨hh, x, e, -⟩ := hrun i0
    subst hh
    rw [e, Oper.uponIn_panic]
    refine hp _ _ rfl _ w m (fun i => Post.refl (hs i)) fun i => ?_
    obtain ⟨-, x1, e1, q1⟩ := hrun i
    rw [e] at e1
    injection e1 with e1
    injection e1 with e1
    subst e1
    exact ⟨_, [], rfl, rfl, rfl, q1, rfl⟩
  | defer d =>
    cases rd with
    | true => cases hres
    | false =>
      cases hres
      obtain ⟨hh, x, e, -⟩ := hrun i0
      subst hh
      rw [e, Oper.uponIn_defer]
      refine hd d _ rfl rfl rfl x fun i => ?_
      obtain ⟨-, x1, e1, q1⟩ := hrun i
      rw [e] at e1
      injection e1 with e1
      injection e1 with e1
      subst e1
      exact q1
  | enter f args =>
    obtain ⟨q, hq, hres⟩ := bnd_eq hres
    obtain ⟨hh, A, e, -⟩ := hrun i0
    subst hh
    have hA : ∀ i, Rs h1.next (m i) ν args A.toList := fun i => by
      obtain ⟨-, A1, e1, q1⟩ := hrun i
      rw [e] at e1
      injection e1 with e1
      injection e1 with e1 e2
      subst e2
      exact q1
    have O := hih _ _ hq
    rw [e, Oper.uponIn_enter]
    refine ⟨depth_FW ro, ?_⟩
    cases q with
    | fn v h' =>
      cases hres
      refine calls_FW ((O ι ⟨i0⟩ m A w hs hg hA).mono fun e w' he => ?_)
      obtain ⟨x, m', rfl, p, q⟩ := he
      exact hv v h' rfl x w' m' p q
    | pan c h' =>
      cases hres
      refine calls_FW ((O ι ⟨i0⟩ m A w hs hg hA).mono fun e w' he => ?_)
      obtain ⟨ch, m', rfl, p, q⟩ := he
      exact hp c h' rfl ch w' m' p q
    | _ => cases hres
  | round l args =>
    obtain ⟨q, hq, hres⟩ := bnd_eq hres
    cases hres
    obtain ⟨hh, hl, -⟩ := hrun i0
    subst hh
    obtain ⟨l0, f, tmps, assign, body, e, hR⟩ := round_ok (ι := ι) (ro := ro) hih hq hs hg (fun i => by obtain ⟨-, -, A, e1, q1⟩ := hrun i; exact ⟨A, e1, q1⟩)
    rw [e, Oper.uponIn_round]
    refine ⟨depth_FW ro, hR.mono fun e w' he => ?_⟩
    obtain ⟨x, m', rfl, p, q⟩ := he
    exact hv _ _ rfl x w' m' p q
theorem notBool {n : Nat} {m : Mu} {v : AV} {x : Value} (hr : R n m ν v x) (h1 : ∀ q, v ≠ .bool q) (h2 : ∀ k, v ≠ .sym k) (q : Bool) : x ≠ .bool q := by
  cases v with
  | bool b => exact absurd rfl (h1 b)
  | sym k => exact absurd rfl (h2 k)
  | map r =>
    cases r with
    | none => simp only [R] at hr; subst hr; simp
    | some b => simp only [R] at hr; obtain ⟨_, rfl⟩ := hr; simp
  | int => simp only [R] at hr; subst hr; simp
  | str => simp only [R] at hr; obtain ⟨rfl, _⟩ := hr; simp
  | nilp => simp only [R] at hr; subst hr; simp
  | ptr => simp only [R] at hr; obtain ⟨_, rfl⟩ := hr; simp
  | slice => simp only [R] at hr; obtain ⟨_, o, c, rfl, _⟩ := hr; simp
  | nils => simp only [R] at hr; subst hr; simp
  | fn => simp only [R] at hr; obtain ⟨_, _, _, rfl, _⟩ := hr; simp
  | nilf => simp only [R] at hr; subst hr; simp
  | iface => simp only [R] at hr; obtain ⟨_, rfl, _⟩ := hr; simp
  | nili => simp only [R] at hr; subst hr; simp
  | agg => simp only [R] at hr; obtain ⟨_, rfl, _⟩ := hr; simp
  | tup => simp only [R] at hr; obtain ⟨_, rfl, _⟩ := hr; simp
theorem wanted_R {n : Nat} {m : Mu} {ops : Array Oper} {tm : T AV} {a : Act} {o : Oper} {b : Bool} (ht : ∀ d v, (∃ j want, o.guard = some (j, want) ∧ (ops[j]?).bind (·.dst) = some d) → tm.get d = some v → ∃ x, a.tmps[d]? = some x ∧ R n m ν v x) (he : wantA ops tm o = some b) :
    Region.wanted o (yielded ops a.tmps) = b := by
  unfold wantA at he
  unfold Region.wanted
  split at he
  · rename_i hg
    cases he
    rw [hg]
  · rename_i j want hg
    rw [hg]
    obtain ⟨d, hd, he⟩ := bnd_eq he
    simp only [yielded, hd, Option.bind_some]
    cases hv : tm.get d with
    | none => rw [hv] at he; cases he
    | some v =>
      rw [hv] at he
      obtain ⟨x, hx, hr⟩ := ht d v ⟨j, want, hg, hd⟩ hv
      rw [hx]
      by_cases h1 : ∃ q, v = .bool q
      · obtain ⟨q, rfl⟩ := h1
        cases he
        rw [R_bool hr]
        cases q <;> cases want <;> rfl
      · by_cases h2 : ∃ k, v = .sym k
        · obtain ⟨k, rfl⟩ := h2
          cases he
        · have hn := notBool hr (fun q e => h1 ⟨q, e⟩) (fun k e => h2 ⟨k, e⟩)
          have hb : b = false := by
            cases v <;> first | exact absurd ⟨_, rfl⟩ h1 | exact absurd ⟨_, rfl⟩ h2 | (cases he; rfl)
          subst hb
          cases x <;> first | rfl | exact absurd rfl (hn _)
end
section
variable {P : Program} {sm : Sum} {TT : Tells} {ν : Nat → Value} {ι : Type} {ih : Job → Option Out}
theorem semAt_res {o : Oper} {vs : List AV} {h h1 : H} {nx : Nx} {rd : Bool} {ro : Option Nat} {res : Res} (he : evOp P sm o.op vs h = some (nx, h1)) (hres : resOf ih rd h1 nx = some res) (hro : ro.isSome = rd) (ρ : Operand → Value) :
    o.semAt ro ρ = execOp ρ o := by
  cases ro with
  | none => rfl
  | some l =>
    refine Oper.semAt_eq _ _ _ fun c hc => ?_
    rw [hc] at he
    have hrd : rd = true := hro.symm
    subst hrd
    simp only [evOp, opDefer] at he
    split at he
    · unfold dfValue at he
      split at he
      · cases he; cases hres
      · cases he
    · cases he
theorem oper_ok [hne : Nonempty ι] (hok : OkSum P sm TT ν) (hν : ∀ k, (ν k).oneCell' = true) (hih : ∀ j o, ih j = some o → OutOK P sm ν j o) {m : ι → Mu} {h0 h1 : H} {w : World} {nx : Nx} {rd : Bool} {ro : Option Nat} {res : Res} {vs : List AV}
    {o : Oper} {a : Act} (hs : ∀ i, SR (m i) ν h0 w) (hg : ∀ i, GL sm h0.next (m i)) (hvs : ∀ i, Rs h0.next (m i) ν vs ((opnds o.op).map a.eval)) (he : evOp P sm o.op vs h0 = some (nx, h1)) (hres : resOf ih rd h1 nx = some res) (hro : ro.isSome = rd)
    {next : Act → World → Prop} {Q : Exit → Act → World → Prop}
    (hv : ∀ v h2, res = .val v h2 → ∀ x w' (m' : ι → Mu), (∀ i, Post ν (m i) h0 w (m' i) h2 w') → (∀ i, R h2.next (m' i) ν v x) → next (a.put o.dst x) w')
    (hd : ∀ d h2, res = .dfr d h2 → rd = false → h2 = h0 → ∀ x, (∀ i, DR h0.next (m i) ν d x) → next ({ a with defers := x :: a.defers }.put o.dst undef) w)
    (hp : ∀ c h2, res = .pan c h2 → ∀ ch w' (m' : ι → Mu), (∀ i, Post ν (m i) h0 w (m' i) h2 w') → (∀ i, ChR h2.next (m' i) ν c ch) → Q (.panic ch) a w') :
    o.wpIn (FW ro) 0 P a w next Q := by
  refine ⟨fun _ _ => trivial, ?_⟩
  rw [show (FW ro).round = ro from rfl, semAt_res he hres hro]
  exact upon_ok (TT := TT) hih hs hg (fun i => evOp_run hok hν he (hs i) (hvs i)) hres hv hd hp
theorem TR.want {n : Nat} {m : Mu} {nt : Nat} {ops : Array Oper} {tm : T AV} {a : Act} {o : Oper} {b : Bool} (ht : TR n m ν nt tm a.tmps) (he : wantA ops tm o = some b) : Region.wanted o (yielded ops a.tmps) = b :=
  wanted_R (fun d v _ hv => ht.2 d v hv) he
theorem evOps_ok [hne : Nonempty ι] (hok : OkSum P sm TT ν) (hν : ∀ k, (ν k).oneCell' = true) (hih : ∀ j o, ih j = some o → OutOK P sm ν j o) {rd : Bool} {ro : Option Nat} (hro : ro.isSome = rd) (ops : Array Oper) :
    ∀ (l : List Oper) (js : List Nat) (m : ι → Mu) (s s' : S) (e : Ex) (a : Act) (w : World), l.map some = js.map (fun j => ops[j]?) → ST sm m ν s a w → evOps P sm ih rd ops l s = some (e, s') →
      ∀ Q : Exit → Act → World → Prop, (∀ E a' w', CP sm m ν s.h w e s' E a' w' → Q E a' w') → wpOpsIn (FW ro) 0 P ops Q js a w
  | [], js, m, s, s', e, a, w, hjs, st, he, Q, hQ => by
    cases js with
    | cons => cases hjs
    | nil =>
      cases he
      exact hQ _ _ _ ⟨m, trivial, st, fun i => Post.refl (st.sr i)⟩
  | o :: l, js, m, s, s', e, a, w, hjs, st, he, Q, hQ => by
    cases js with
    | nil => cases hjs
    | cons j js =>
      simp only [List.map_cons, List.cons.injEq] at hjs
      obtain ⟨hj, hjs⟩ := hjs
      have hne' := hne
      obtain ⟨i0⟩ := hne'
      obtain ⟨⟨e1, s1⟩, hstep, he⟩ := bnd_eq he
      obtain ⟨b, hb, hstep⟩ := bnd_eq hstep
      have hw := (st.tr i0).want hb
      simp only [wpOpsIn, ← hj, hw]
      cases b with
      | false =>
        cases hstep
        simp only [Bool.false_eq_true, if_false]
        refine ⟨fun _ _ => trivial, ?_⟩
        refine evOps_ok hok hν hih hro ops l js m _ s' e _ w hjs ⟨?_, ?_, ?_, ?_⟩ he Q fun E a' w' hc => hQ _ _ _ ?_
        · intro i; rw [(S.put_h _ _ _).1]; exact st.sr i
        · intro i; rw [(S.put_h _ _ _).1]; exact st.gl i
        · intro i; rw [(S.put_h _ _ _).1, (S.put_h _ _ _).2.1]; exact (st.tr i).put undef_R
        · intro i; rw [(S.put_h _ _ _).1, (S.put_h _ _ _).2.2, put_defers]; exact st.dr i
        · rw [(S.put_h _ _ _).1] at hc; exact hc
      | true =>
        simp only [if_true]
        obtain ⟨vs, hvs, hstep⟩ := bnd_eq hstep
        obtain ⟨⟨nx, h1⟩, hev, hstep⟩ := bnd_eq hstep
        obtain ⟨res, hres, hstep⟩ := goes_res ih s rd o.dst h1 nx hstep
        refine oper_ok hok hν hih st.sr st.gl (fun i => evOs_R (st.gl i) (st.tr i) hvs) hev hres hro ?_ ?_ ?_
        · intro v h2 hr x w' m' p q
          subst hr
          cases hstep
          have st' : ST sm m' ν (S.put ⟨s.nt, s.tm, s.df, h2⟩ o.dst v) (a.put o.dst x) w' := by
            refine st.step (fun i => by rw [(S.put_h _ _ _).1]; exact p i) (fun i => ?_) (fun i => ?_)
            · rw [(S.put_h _ _ _).1, (S.put_h _ _ _).2.1]; exact TR.put ((st.tr i).mono (p i).next (p i).agree) (q i)
            · rw [(S.put_h _ _ _).1, (S.put_h _ _ _).2.2, put_defers]; exact (st.dr i).mono (p i).next (p i).agree
          refine evOps_ok hok hν hih hro ops l js m' _ s' e _ w' hjs st' he Q fun E a' w'' ⟨m2, g1, g2, g3⟩ => hQ _ _ _ ⟨m2, g1, g2, fun i => (p i).trans ?_⟩
          have := g3 i
          rw [(S.put_h _ _ _).1] at this
          exact this
        · intro d h2 hr hrd hh x q
          subst hr
          subst hh
          cases hstep
          have st' : ST sm m ν (S.put ⟨s.nt, s.tm, d :: s.df, s.h⟩ o.dst (.tup [])) ({ a with defers := x :: a.defers }.put o.dst undef) w := by
            refine st.step (fun i => by rw [(S.put_h _ _ _).1]; exact Post.refl (st.sr i)) (fun i => ?_) (fun i => ?_)
            · rw [(S.put_h _ _ _).1, (S.put_h _ _ _).2.1]; exact TR.put (a := { a with defers := x :: a.defers }) (st.tr i) undef_R
            · rw [(S.put_h _ _ _).1, (S.put_h _ _ _).2.2, put_defers]; exact ⟨x, _, rfl, q i, st.dr i⟩
          refine evOps_ok hok hν hih hro ops l js m _ s' e _ w hjs st' he Q fun E a' w'' ⟨m2, g1, g2, g3⟩ => hQ _ _ _ ⟨m2, g1, g2, fun i => ?_⟩
          have := g3 i
          rw [(S.put_h _ _ _).1] at this
          exact this
        · intro c h2 hr ch w' m' p q
          subst hr
          cases hstep
          cases he
          exact hQ _ _ _ ⟨m', q, st.step p (fun i => (st.tr i).mono (p i).next (p i).agree) (fun i => (st.dr i).mono (p i).next (p i).agree), p⟩
theorem range_ops (ops : Array Oper) : ops.toList.map some = (List.range ops.size).map (fun j => ops[j]?) := by
  apply List.ext_getElem?
  intro j
  simp only [List.getElem?_map, List.getElem?_range]
  by_cases h : j < ops.size
  · simp [h]
  · simp [h]
end
theorem tb_or (a b k : Nat) : Nat.testBit (Nat.lor a b) k = (Nat.testBit a k || Nat.testBit b k) := Nat.testBit_or a b k
theorem tb_sh (e k : Nat) : Nat.testBit (Nat.shiftLeft 1 e) k = decide (e = k) := by
  show Nat.testBit (1 <<< e) k = _
  rw [Nat.testBit_shiftLeft]
  by_cases h : e = k
  · subst h; simp
  · by_cases h2 : e ≤ k
    · obtain ⟨t, ht⟩ : ∃ t, k - e = t + 1 := ⟨k - e - 1, by omega⟩
      simp [h, h2, ht, Nat.testBit_succ]
    · simp [h, h2]
def foldB (acc : List Nat) (es : List Edge) (s : Nat) : Nat := es.foldl (fun s e => bif Region.binds .any e then Nat.lor s (Nat.lor (Nat.shiftLeft 1 e.on) (acc.getD e.on 0)) else s) s
theorem foldB_bit (acc : List Nat) (j : Nat) : ∀ (es : List Edge) (s : Nat), Nat.testBit (foldB acc es s) j = true ↔ Nat.testBit s j = true ∨ ∃ e ∈ es, Region.binds .any e = true ∧ (e.on = j ∨ Nat.testBit (acc.getD e.on 0) j = true)
  | [], s => by simp [foldB]
  | e :: es, s => by
    have ih := foldB_bit acc j es (bif Region.binds .any e then Nat.lor s (Nat.lor (Nat.shiftLeft 1 e.on) (acc.getD e.on 0)) else s)
    show Nat.testBit (foldB acc es _) j = true ↔ _
    rw [ih]
    cases hb : Region.binds .any e with
    | false => simp [hb]
    | true =>
      simp only [hb, cond_true, tb_or, tb_sh, Bool.or_eq_true, decide_eq_true_eq, List.mem_cons, exists_eq_or_imp, true_and]
      constructor
      · rintro ((h | h) | h)
        · exact .inl h
        · exact .inr (.inl h)
        · exact .inr (.inr h)
      · rintro (h | h | h)
        · exact .inl (.inl h)
        · exact .inl (.inr h)
        · exact .inr h
theorem befs_len : ∀ (l : List Oper) (acc : List Nat), (befs l acc).length = acc.length + l.length
  | [], acc => rfl
  | o :: l, acc => by
    show (befs l _).length = _
    rw [befs_len l]; simp; omega
theorem befs_pre : ∀ (l : List Oper) (acc : List Nat) (k : Nat), k < acc.length → (befs l acc)[k]? = acc[k]?
  | [], acc, k, h => rfl
  | o :: l, acc, k, h => by
    show (befs l _)[k]? = _
    rw [befs_pre l _ k (by simp; omega), List.getElem?_append_left h]
theorem befs_at : ∀ (l : List Oper) (acc : List Nat) (k : Nat) (o : Oper), l[k]? = some o → (befs l acc)[acc.length + k]? = some (foldB ((befs l acc).take (acc.length + k)) o.after.toList 0)
  | [], acc, k, o, h => by simp at h
  | o' :: l, acc, 0, o, h => by
    simp at h
    subst h
    show (befs l (acc ++ [foldB acc o'.after.toList 0]))[acc.length]? = some (foldB ((befs l (acc ++ [foldB acc o'.after.toList 0])).take acc.length) o'.after.toList 0)
    have e : (befs l (acc ++ [foldB acc o'.after.toList 0])).take acc.length = acc := by
      apply List.ext_getElem?
      intro j
      rw [List.getElem?_take]
      split
      · rename_i hj
        rw [befs_pre l _ j (by simp; omega), List.getElem?_append_left hj]
      · rename_i hj
        rw [List.getElem?_eq_none (by omega)]
    rw [e, befs_pre l _ _ (by simp), List.getElem?_append_right (by omega)]
    simp
  | o' :: l, acc, k + 1, o, h => by
    have := befs_at l (acc ++ [foldB acc o'.after.toList 0]) k o (by simpa using h)
    rw [show (acc ++ [foldB acc o'.after.toList 0]).length + k = acc.length + (k + 1) from by simp; omega] at this
    exact this
theorem befs_bit {l : List Oper} {k : Nat} {o : Oper} (ho : l[k]? = some o) (hlt : ∀ k b, (befs l [])[k]? = some b → b < 2 ^ k) (j : Nat) :
    Nat.testBit ((befs l []).getD k 0) j = true ↔ ∃ e ∈ o.after.toList, Region.binds .any e = true ∧ e.on < k ∧ (e.on = j ∨ Nat.testBit ((befs l []).getD e.on 0) j = true) := by
  have hk : k < l.length := by
    rcases Nat.lt_or_ge k l.length with h | h
    · exact h
    · rw [List.getElem?_eq_none h] at ho; cases ho
  have h0 := befs_at l [] k o ho
  simp only [List.length_nil, Nat.zero_add] at h0
  have hb := hlt k _ h0
  have hin : ∀ i, Nat.testBit (foldB ((befs l []).take k) o.after.toList 0) i = true → i < k := fun i hi => by
    rcases Nat.lt_or_ge i k with h | h
    · exact h
    · have : 2 ^ i ≤ foldB ((befs l []).take k) o.after.toList 0 := Nat.ge_two_pow_of_testBit hi
      have h2 : 2 ^ k ≤ 2 ^ i := Nat.pow_le_pow_right (by omega) h
      omega
  have hon : ∀ e ∈ o.after.toList, Region.binds .any e = true → e.on < k := fun e he hbd => hin e.on ((foldB_bit _ _ _ _).2 (.inr ⟨e, he, hbd, .inl rfl⟩))
  rw [List.getD_eq_getElem?_getD, h0, Option.getD_some, foldB_bit]
  simp only [Nat.zero_testBit, Bool.false_eq_true, false_or]
  have ht : ∀ i, i < k → ((befs l []).take k).getD i 0 = (befs l []).getD i 0 := fun i hi => by
    rw [List.getD_eq_getElem?_getD, List.getElem?_take, if_pos hi, List.getD_eq_getElem?_getD]
  constructor
  · rintro ⟨e, he, hbd, h⟩
    have := hon e he hbd
    refine ⟨e, he, hbd, this, ?_⟩
    rw [ht _ this] at h
    exact h
  · rintro ⟨e, he, hbd, h1, h2⟩
    refine ⟨e, he, hbd, ?_⟩
    rw [ht _ h1]
    exact h2
def lk : List (Nat × AO) → Nat → Option AO
  | [], _ => none
  | x :: l, k => match lk l k with
    | some o => some o
    | none => if x.1 = k then some x.2 else none
theorem lk_snoc : ∀ (l : List (Nat × AO)) (q : Nat) (o : AO) (k : Nat), lk (l ++ [(q, o)]) k = if q = k then some o else lk l k
  | [], q, o, k => by simp [lk]
  | x :: l, q, o, k => by
    simp only [List.cons_append, lk, lk_snoc l q o k]
    by_cases h : q = k
    · simp [h]
    · simp [h]
noncomputable def overP (f : Nat → Bool) (base : Nat) : List (Nat × AO) → H → H
  | [], h => h
  | x :: l, h => overP f base l (if f x.1 = true then h.put (base + x.1) x.2 else h)
theorem over_eq (base ab bits : Nat) : ∀ (l : List (Nat × AO)) (h : H), over base ab bits l h = overP (fun k => Nat.testBit bits k && !Nat.testBit ab k) base l h
  | [], h => rfl
  | x :: l, h => by
    show over base ab bits l _ = overP _ base l _
    rw [over_eq base ab bits l]
    congr 1
    rw [bcond]; rfl
theorem overP_next (f : Nat → Bool) (base : Nat) : ∀ (l : List (Nat × AO)) (h : H), (overP f base l h).next = h.next
  | [], h => rfl
  | x :: l, h => by
    show (overP f base l _).next = _
    rw [overP_next f base l]
    split <;> rfl
theorem overP_get (f : Nat → Bool) (base : Nat) : ∀ (l : List (Nat × AO)) (h : H) (b : Nat), (overP f base l h).t.get b = match (if base ≤ b ∧ f (b - base) = true then lk l (b - base) else none) with | some o => some o | none => h.t.get b
  | [], h, b => by
    show h.t.get b = _
    simp only [lk]
    split <;> simp_all
  | x :: l, h, b => by
    show (overP f base l _).t.get b = _
    rw [overP_get f base l]
    by_cases hc : base ≤ b ∧ f (b - base) = true
    · rw [if_pos hc, if_pos hc]
      simp only [lk]
      cases hl : lk l (b - base) with
      | some o => rfl
      | none =>
        by_cases hx : x.1 = b - base
        · simp only [hx, if_true]
          rw [if_pos hc.2]
          show (h.t.set (base + (b - base)) x.2).get b = _
          rw [T.get_set, if_pos (by omega)]
        · simp only [hx, if_false]
          split
          · show (h.t.set (base + x.1) x.2).get b = _
            rw [T.get_set, if_neg (by omega)]
          · rfl
    · rw [if_neg hc, if_neg hc]
      simp only
      split
      · rename_i hf
        show (h.t.set (base + x.1) x.2).get b = _
        rw [T.get_set, if_neg]
        intro e
        exact hc ⟨by omega, by rw [show b - base = x.1 from by omega]; exact hf⟩
      · rfl
def dsAt (d : DS) (ss : List DS) (k : Nat) : DS := (d :: ss).getD k d
@[simp] theorem dsAt_zero (d : DS) (ss : List DS) : dsAt d ss 0 = d := rfl
theorem dsAt_succ (d d' : DS) (ss : List DS) (k : Nat) (h : k ≤ ss.length) : dsAt d (d' :: ss) (k + 1) = dsAt d' ss k := by
  simp only [dsAt, List.getD_cons_succ]
  cases k with
  | zero => rfl
  | succ k =>
    have : k < ss.length := h
    simp [List.getD_eq_getElem?_getD, this]
theorem lastD_at : ∀ (d : DS) (ss : List DS), lastD d ss = dsAt d ss ss.length
  | d, [] => rfl
  | d, s :: ss => by
    show lastD s ss = _
    rw [lastD_at s ss, List.length_cons, dsAt_succ _ _ _ _ (Nat.le_refl _)]
section
variable {P : Program} {sm : Sum} {ih : Job → Option Out} {ops : Array Oper} {nt base : Nat} {rd : Bool}
theorem evTr_spec : ∀ (i : Nat) (l : List Oper) (bs : List Nat) (d : DS) (ss : List DS) (ex : Ex), evTr P sm ih ops nt base rd i l bs d = some (ss, ex) →
    ss.length ≤ l.length ∧ (ex = .normal → ss.length = l.length) ∧ (ex ≠ .normal → 0 < ss.length) ∧
    ∀ k, k < ss.length → ∃ o b e, l[k]? = some o ∧ bs[k]? = some b ∧ stepD P sm ih ops nt base (i + k) b rd o (dsAt d ss k) = some (e, dsAt d ss (k + 1)) ∧ (k + 1 < ss.length → e = .normal) ∧ (k + 1 = ss.length → e = ex)
  | i, [], bs, d, ss, ex, he => by
    unfold evTr at he
    cases he
    exact ⟨Nat.le_refl _, fun _ => rfl, fun h => absurd rfl h, fun k hk => by simp at hk⟩
  | i, o :: l, [], d, ss, ex, he => by unfold evTr at he; cases he
  | i, o :: l, b :: bs, d, ss, ex, he => by
    unfold evTr at he
    obtain ⟨⟨e, d1⟩, hst, he⟩ := bnd_eq he
    simp only at he
    have last : e ≠ .normal → some ([d1], e) = some (ss, ex) → ss.length ≤ (o :: l).length ∧ (ex = .normal → ss.length = (o :: l).length) ∧ (ex ≠ .normal → 0 < ss.length) ∧
        ∀ k, k < ss.length → ∃ o' b' e', (o :: l)[k]? = some o' ∧ (b :: bs)[k]? = some b' ∧ stepD P sm ih ops nt base (i + k) b' rd o' (dsAt d ss k) = some (e', dsAt d ss (k + 1)) ∧ (k + 1 < ss.length → e' = .normal) ∧ (k + 1 = ss.length → e' = ex) := fun hne h => by
      injection h with h
      injection h with h1 h2
      subst h1; subst h2
      refine ⟨by simp, fun h => absurd h hne, fun _ => by simp, fun k hk => ?_⟩
      have : k = 0 := by simp at hk; omega
      subst this
      exact ⟨o, b, e, rfl, rfl, hst, fun h => by simp at h, fun _ => rfl⟩
    cases e with
    | normal =>
      obtain ⟨⟨ss', ex'⟩, hr, he⟩ := bnd_eq he
      clear last
      injection he with he
      injection he with he1 he2
      subst he1
      simp only at he2
      subst he2
      obtain ⟨h1, h2, h3, h4⟩ := evTr_spec (i + 1) l bs d1 ss' ex' hr
      refine ⟨by simpa using h1, fun h => by simp [h2 h], fun h => by simp, fun k hk => ?_⟩
      cases k with
      | zero =>
        refine ⟨o, b, .normal, rfl, rfl, hst, fun _ => rfl, fun h => ?_⟩
        have h0 : ss'.length = 0 := by simp at h; simpa using h
        by_cases hx : ex' = .normal
        · exact hx.symm
        · have := h3 hx; omega
      | succ k =>
        obtain ⟨o', b', e', g1, g2, g3, g4, g5⟩ := h4 k (by simpa using hk)
        have hk' : k < ss'.length := by simpa using hk
        refine ⟨o', b', e', by simpa using g1, by simpa using g2, ?_, fun h => g4 (by simpa using h), fun h => g5 (by simpa using h)⟩
        show stepD P sm ih ops nt base (i + (k + 1)) b' rd o' (dsAt d (d1 :: ss') (k + 1)) = some (e', dsAt d (d1 :: ss') (k + 1 + 1))
        rw [dsAt_succ d d1 ss' k (Nat.le_of_lt hk'), dsAt_succ d d1 ss' (k + 1) hk', show i + (k + 1) = i + 1 + k from by omega]
        exact g3
    | exit x => exact last (by simp) he
    | goto x => exact last (by simp) he
    | ret => exact last (by simp) he
    | pan c => exact last (by simp) he
inductive StD (P : Program) (sm : Sum) (ih : Job → Option Out) (ops : Array Oper) (nt base i bits : Nat) (rd : Bool) (o : Oper) (d : DS) : Ex → DS → Prop where
  | no (hw : wantA ops d.tm o = some false) : StD P sm ih ops nt base i bits rd o d .normal (d.put nt o.dst (.tup []))
  | mk (hw : wantA ops d.tm o = some true) (vs : List AV) (hvs : evOs sm d.tm (opnds o.op) = some vs) (ha : isA P o.op = true) (v : AV) (h1 : H) (ob : AO) (he : evOp P sm o.op vs ⟨Nat.add base i, .e⟩ = some (.val v, h1)) (hob : h1.t.get (Nat.add base i) = some ob) :
    StD P sm ih ops nt base i bits rd o d .normal (DS.put ⟨d.tm, d.df, d.c, d.ab, d.objs ++ [(i, ob)]⟩ nt o.dst v)
  | wr (hw : wantA ops d.tm o = some true) (vs : List AV) (hvs : evOs sm d.tm (opnds o.op) = some vs) (ha : isA P o.op = false) (hW : isW P o.op = true) (nx : Nx) (h1 : H) (res : Res) (he : evOp P sm o.op vs (over base d.ab bits d.objs d.c) = some (nx, h1))
    (hres : resOf ih rd h1 nx = some res) : StD P sm ih ops nt base i bits rd o d (appR ⟨nt, d.tm, d.df, over base d.ab bits d.objs d.c⟩ o.dst res).1
      ⟨(appR ⟨nt, d.tm, d.df, over base d.ab bits d.objs d.c⟩ o.dst res).2.tm, (appR ⟨nt, d.tm, d.df, over base d.ab bits d.objs d.c⟩ o.dst res).2.df, (appR ⟨nt, d.tm, d.df, over base d.ab bits d.objs d.c⟩ o.dst res).2.h, Nat.lor d.ab bits, d.objs⟩
  | rd (hw : wantA ops d.tm o = some true) (vs : List AV) (hvs : evOs sm d.tm (opnds o.op) = some vs) (ha : isA P o.op = false) (hW : isW P o.op = false) (v : AV) (h1 : H) (he : evOp P sm o.op vs (over base d.ab bits d.objs d.c) = some (.val v, h1)) :
    StD P sm ih ops nt base i bits rd o d .normal (d.put nt o.dst v)
theorem stepD_spec {i bits : Nat} {o : Oper} {d d' : DS} {e : Ex} (h : stepD P sm ih ops nt base i bits rd o d = some (e, d')) : StD P sm ih ops nt base i bits rd o d e d' := by
  unfold stepD at h
  obtain ⟨b, hb, h⟩ := bnd_eq h
  cases b with
  | false => cases h; exact .no hb
  | true =>
    rw [bcond] at h
    simp only [Bool.not_true, Bool.false_eq_true, if_false] at h
    obtain ⟨vs, hvs, h⟩ := bnd_eq h
    rw [bcond] at h
    split at h
    · rename_i ha
      obtain ⟨⟨nx, h1⟩, he, h⟩ := bnd_eq h
      cases nx with
      | val v =>
        obtain ⟨ob, hob, h⟩ := bnd_eq h
        cases h
        exact .mk hb vs hvs ha v h1 ob he hob
      | _ => cases h
    · rename_i ha
      have ha : isA P o.op = false := by simpa using ha
      rw [bcond] at h
      split at h
      · rename_i hW
        obtain ⟨⟨nx, h1⟩, he, h⟩ := bnd_eq h
        obtain ⟨q, hq, h⟩ := bnd_eq h
        obtain ⟨res, hres, rfl⟩ := goes_res ih _ _ _ _ _ hq
        cases h
        exact .wr hb vs hvs ha hW nx h1 res he hres
      · rename_i hW
        have hW : isW P o.op = false := by simpa using hW
        obtain ⟨⟨nx, h1⟩, he, h⟩ := bnd_eq h
        cases nx with
        | val v => cases h; exact .rd hb vs hvs ha hW v h1 he
        | _ => cases h
theorem DS.put_get (d : DS) (nt : Nat) (t : Option Tmp) (v : AV) (u : Nat) : (d.put nt t v).tm.get u = if t = some u ∧ u < nt then some v else d.tm.get u := by
  cases t with
  | none => simp [DS.put, S.put]
  | some t =>
    simp only [DS.put, S.put, bcond]
    split
    · rename_i hlt
      have hlt : t < nt := by simpa [Nat.blt_eq] using hlt
      rw [T.get_set]
      by_cases e : u = t
      · subst e; simp [hlt]
      · have : ¬ (some t = some u ∧ u < nt) := fun h => e (Option.some.inj h.1).symm
        rw [if_neg e, if_neg this]
    · rename_i hlt
      have hlt : ¬ t < nt := by simpa [Nat.blt_eq] using hlt
      rw [if_neg]
      rintro ⟨h1, h2⟩
      cases h1
      exact hlt h2
theorem S.put_get (s : S) (t : Option Tmp) (v : AV) (u : Nat) : (s.put t v).tm.get u = if t = some u ∧ u < s.nt then some v else s.tm.get u := by
  have := DS.put_get ⟨s.tm, s.df, s.h, 0, []⟩ s.nt t v u
  cases t <;> exact this
theorem StD.tm {i bits : Nat} {o : Oper} {d d' : DS} {e : Ex} (h : StD P sm ih ops nt base i bits rd o d e d') (u : Nat) (hu : ¬ (o.dst = some u ∧ u < nt)) : d'.tm.get u = d.tm.get u := by
  cases h with
  | no hw => rw [DS.put_get, if_neg hu]
  | mk hw vs hvs ha v h1 ob he hob => rw [DS.put_get, if_neg hu]
  | wr hw vs hvs ha hW nx h1 res he hres =>
    cases res with
    | val v h2 => simp only [appR, S.put_get]; rw [if_neg hu]
    | dfr x h2 => simp only [appR, S.put_get]; rw [if_neg hu]
    | pan c h2 => rfl
  | rd hw vs hvs ha hW v h1 he => rw [DS.put_get, if_neg hu]
theorem StD.chain {i bits : Nat} {o : Oper} {d d' : DS} {e : Ex} (h : StD P sm ih ops nt base i bits rd o d e d') (hW : isW P o.op = false) : d'.c = d.c ∧ d'.ab = d.ab ∧ d'.df = d.df := by
  cases h with
  | no hw => exact ⟨rfl, rfl, rfl⟩
  | mk hw vs hvs ha v h1 ob he hob => exact ⟨rfl, rfl, rfl⟩
  | wr hw vs hvs ha hW' nx h1 res he hres => rw [hW] at hW'; cases hW'
  | rd hw vs hvs ha hW v h1 he => exact ⟨rfl, rfl, rfl⟩
theorem StD.objs {i bits : Nat} {o : Oper} {d d' : DS} {e : Ex} (h : StD P sm ih ops nt base i bits rd o d e d') : d'.objs = d.objs ∨ ∃ ob, d'.objs = d.objs ++ [(i, ob)] ∧ isA P o.op = true := by
  cases h with
  | no hw => exact .inl rfl
  | mk hw vs hvs ha v h1 ob he hob => exact .inr ⟨ob, rfl, ha⟩
  | wr hw vs hvs ha hW' nx h1 res he hres => exact .inl rfl
  | rd hw vs hvs ha hW v h1 he => exact .inl rfl
end
section
variable {ν : Nat → Value}
def SubH (h' h : H) : Prop := h'.next = h.next ∧ ∀ b o, h'.t.get b = some o → h.t.get b = some o
theorem SR.sub {m : Mu} {h h' : H} {w : World} (hs : SR m ν h w) (hsub : SubH h' h) : SR m ν h' w where
  obj := fun b o hb => by rw [hsub.1]; exact hs.obj b o (hsub.2 b o hb)
  inj := fun b b' o o' hb hb' => hs.inj b b' o o' (hsub.2 b o hb) (hsub.2 b' o' hb')
theorem Post.sub {m m' : Mu} {h h1 h2 : H} {w w' : World} (p : Post ν m h w m' h1 w') (hsub : SubH h2 h1) : Post ν m h w m' h2 w' where
  agree := p.agree
  next := by rw [hsub.1]; exact p.next
  sr := p.sr.sub hsub
  size := p.size
  frame := p.frame
  live := fun b o hb hw => p.live b o (hsub.2 b o hb) hw
  org := fun b o hb => p.org b o (hsub.2 b o hb)
  keys := fun b o hb => p.keys b o (hsub.2 b o hb)
  env := p.env
theorem Post.ext {m m' : Mu} {h h1 h1' h' : H} {w w' : World} (p : Post ν m h1 w m' h1' w') (hs : SR m ν h w) (hsub : SubH h1 h) (hn : h'.next = h1'.next)
    (hc : ∀ b o, h'.t.get b = some o → h1'.t.get b = some o ∨ (h1.t.get b = none ∧ h.t.get b = some o)) : Post ν m h w m' h' w' := by
  have hag : Agree h.next m m' := by rw [← hsub.1]; exact p.agree
  have hnx : h.next ≤ h1'.next := by rw [← hsub.1]; exact p.next
  have apart : ∀ b o, h1.t.get b = none → h.t.get b = some o → ∀ b1 o1, h1'.t.get b1 = some o1 → (m' b1).1 ≠ (m b).1 := by
    intro b o hb0 hb b1 o1 hb1 e
    rcases p.org b1 o1 hb1 with ⟨b0, o0, h0, e0⟩ | hl
    · have := hs.inj b0 b o0 o (hsub.2 b0 o0 h0) hb (e0.trans e)
      subst this
      rw [hb0] at h0
      cases h0
    · have := (hs.obj b o hb).2.lt
      omega
  refine ⟨hag, by rw [hn]; exact hnx, ⟨fun b o hb => ?_, fun b b' o o' hb hb' e => ?_⟩, p.size, fun r hr hno => p.frame r hr fun b o hb hw => hno b o (hsub.2 b o hb) hw, fun b o hb hw => ?_, fun b o hb => ?_, fun b o hb => ?_, p.env⟩
  · rcases hc b o hb with g | ⟨g1, g2⟩
    · rw [hn]; exact p.sr.obj b o g
    · obtain ⟨q1, q2⟩ := hs.obj b o g2
      refine ⟨by rw [hn]; exact Nat.lt_of_lt_of_le q1 hnx, ?_⟩
      rw [hn]
      refine (q2.heap (w' := w') ?_).mono hnx hag q1
      refine p.frame _ q2.lt fun b1 o1 hb1 hw1 e => ?_
      have := hs.inj b1 b o1 o (hsub.2 b1 o1 hb1) g2 e
      subst this
      rw [g1] at hb1
      cases hb1
  · rcases hc b o hb with g | ⟨g1, g2⟩ <;> rcases hc b' o' hb' with g' | ⟨g1', g2'⟩
    · exact p.sr.inj b b' o o' g g' e
    · rw [hag b' (hs.obj b' o' g2').1] at e
      exact absurd e (apart b' o' g1' g2' b o g)
    · rw [hag b (hs.obj b o g2).1] at e
      exact absurd e.symm (apart b o g1 g2 b' o' g')
    · rw [hag b (hs.obj b o g2).1, hag b' (hs.obj b' o' g2').1] at e
      exact hs.inj b b' o o' g2 g2' e
  · rcases hc b o hb with g | ⟨g1, g2⟩
    · rcases p.live b o g hw with ⟨b0, o0, h0, hw0, e⟩ | hl
      · exact .inl ⟨b0, o0, hsub.2 b0 o0 h0, hw0, e⟩
      · exact .inr hl
    · exact .inl ⟨b, o, g2, hw, by rw [hag b (hs.obj b o g2).1]⟩
  · rcases hc b o hb with g | ⟨g1, g2⟩
    · rcases p.org b o g with ⟨b0, o0, h0, e⟩ | hl
      · exact .inl ⟨b0, o0, hsub.2 b0 o0 h0, e⟩
      · exact .inr hl
    · exact .inl ⟨b, o, g2, by rw [hag b (hs.obj b o g2).1]⟩
  · rcases hc b o hb with g | ⟨g1, g2⟩
    · rcases p.keys b o g with ⟨o0, h0⟩ | hl
      · exact .inl ⟨o0, hsub.2 b o0 h0⟩
      · exact .inr (by rw [← hsub.1]; exact hl)
    · exact .inl ⟨o, g2⟩
theorem Post.lay {m0 m : Mu} {h0 h h' : H} {w0 w w' : World} (p : Post ν m0 h0 w0 m h w) {b : Nat} {o : AO} {ob : Obj} (hb0 : h0.next ≤ b) (hb : b < h.next) (hfree : h.t.get b = none) (hm : (m b).1 = w.heap.size) (hw : w'.heap = w.heap.push ob)
    (ho : OR h.next m ν w' b o) (hn : h'.next = h.next) (hg : ∀ b' x, h'.t.get b' = some x → (b' = b ∧ x = o) ∨ h.t.get b' = some x) (ev : SameEnv w w') : Post ν m0 h0 w0 m h' w' := by
  have hold : ∀ r, r < w.heap.size → w'.heap[r]? = w.heap[r]? := fun r hr => by
    rw [hw, Array.getElem?_push, if_neg (by omega)]
  refine ⟨p.agree, by rw [hn]; exact p.next, ⟨fun b' x hb' => ?_, fun b1 b2 x1 x2 g1 g2 e => ?_⟩, by rw [hw]; simp; exact Nat.le_succ_of_le p.size, fun r hr hno => ?_, fun b' x hb' hwr => ?_, fun b' x hb' => ?_, fun b' x hb' => ?_, p.env.trans ev⟩
  · rcases hg b' x hb' with ⟨rfl, rfl⟩ | g
    · rw [hn]; exact ⟨hb, ho⟩
    · rw [hn]; obtain ⟨q1, q2⟩ := p.sr.obj b' x g
      exact ⟨q1, q2.heap (hold _ q2.lt)⟩
  · rcases hg b1 x1 g1 with ⟨e1, _⟩ | k1 <;> rcases hg b2 x2 g2 with ⟨e2, _⟩ | k2
    · rw [e1, e2]
    · have := (p.sr.obj b2 x2 k2).2.lt
      rw [e1, hm] at e
      omega
    · have := (p.sr.obj b1 x1 k1).2.lt
      rw [e2, hm] at e
      omega
    · exact p.sr.inj b1 b2 x1 x2 k1 k2 e
  · rw [hold r (Nat.lt_of_lt_of_le hr p.size)]
    exact p.frame r hr hno
  · rcases hg b' x hb' with ⟨rfl, rfl⟩ | g
    · exact .inr (by rw [hm]; exact p.size)
    · exact p.live b' x g hwr
  · rcases hg b' x hb' with ⟨rfl, rfl⟩ | g
    · exact .inr (by rw [hm]; exact p.size)
    · exact p.org b' x g
  · rcases hg b' x hb' with ⟨rfl, rfl⟩ | g
    · exact .inr hb0
    · exact p.keys b' x g
mutual
theorem eqAV_eq : ∀ {a b : AV}, eqAV a b = true → a = b
  | .bool a, b, h => by
    cases b <;> simp only [eqAV, Bool.false_eq_true, beq_iff_eq] at h
    rw [h]
  | .int j a, b, h => by
    cases b <;> simp only [eqAV, Bool.false_eq_true, Bool.and_eq_true, decide_eq_true_eq, beq_iff_eq] at h
    rw [h.1, h.2]
  | .str a, b, h => by
    cases b <;> simp only [eqAV, Bool.false_eq_true, beq_iff_eq] at h
    rw [h]
  | .nilp, b, h => by cases b <;> simp only [eqAV, Bool.false_eq_true] at h; rfl
  | .ptr a c, b, h => by
    cases b <;> simp only [eqAV, Bool.false_eq_true, Bool.and_eq_true] at h
    rw [of_beq h.1, of_beq h.2]
  | .slice a c d e f g, b, h => by
    cases b <;> simp only [eqAV, Bool.false_eq_true, Bool.and_eq_true, beq_iff_eq] at h
    obtain ⟨⟨⟨⟨⟨h1, h2⟩, h3⟩, h4⟩, h5⟩, h6⟩ := h
    rw [of_beq h1, of_beq h2, of_beq h3, of_beq h4, of_beq h5, h6]
  | .nils, b, h => by cases b <;> simp only [eqAV, Bool.false_eq_true] at h; rfl
  | .map none, b, h => by
    cases b with
    | map r => cases r with
      | none => rfl
      | some r => simp only [eqAV, Bool.false_eq_true] at h
    | _ => simp only [eqAV, Bool.false_eq_true] at h
  | .map (some a), b, h => by
    cases b with
    | map r => cases r with
      | none => simp only [eqAV, Bool.false_eq_true] at h
      | some r => simp only [eqAV] at h; rw [of_beq h]
    | _ => simp only [eqAV, Bool.false_eq_true] at h
  | .fn f a c, b, h => by
    cases b with
    | fn g a' c' =>
      cases f <;> cases g <;> simp only [eqAV, Bool.false_eq_true, Bool.and_eq_true] at h
      obtain ⟨⟨h1, h2⟩, h3⟩ := h
      rw [of_beq h1, eqAVs_eq h2, eqAVs_eq h3]
    | _ => cases f <;> simp only [eqAV, Bool.false_eq_true] at h
  | .nilf, b, h => by cases b <;> simp only [eqAV, Bool.false_eq_true] at h; rfl
  | .iface t a, b, h => by
    cases b <;> simp only [eqAV, Bool.false_eq_true, Bool.and_eq_true] at h
    rw [of_beq h.1, eqAV_eq h.2]
  | .nili, b, h => by cases b <;> simp only [eqAV, Bool.false_eq_true] at h; rfl
  | .agg a, b, h => by
    cases b <;> simp only [eqAV, Bool.false_eq_true] at h
    rw [eqAVs_eq h]
  | .tup a, b, h => by
    cases b <;> simp only [eqAV, Bool.false_eq_true] at h
    rw [eqAVs_eq h]
  | .sym k, b, h => by
    cases b <;> simp only [eqAV, Bool.false_eq_true] at h
    rw [of_beq h]
theorem eqAVs_eq : ∀ {a b : List AV}, eqAVs a b = true → a = b
  | [], b, h => by cases b <;> simp only [eqAVs, Bool.false_eq_true] at h; rfl
  | x :: a, b, h => by
    cases b with
    | nil => simp only [eqAVs, Bool.false_eq_true] at h
    | cons y b =>
      simp only [eqAVs, Bool.and_eq_true] at h
      rw [eqAV_eq h.1, eqAVs_eq h.2]
end
section
variable {P : Program} {sm : Sum}
theorem sameV_eq {v : AV} {r : Option (Nx × H)} (h : sameV v r = true) : ∃ h1, r = some (.val v, h1) := by
  unfold sameV at h
  split at h
  · rw [eqAV_eq h]; exact ⟨_, rfl⟩
  · cases h
theorem reads_h {o : Oper} {vs : List AV} {v : AV} {h h' : H} (ha : isA P o.op = false) (hW : isW P o.op = false) (he : evOp P sm o.op vs h = some (.val v, h')) : h' = h := by
  obtain ⟨dst, op, ty, pos, after, guard⟩ := o
  simp only at ha hW he
  have one : ∀ {f : AV → Option (Nx × H)} {vs : List AV}, (match vs with | [x] => f x | _ => none) = some (.val v, h') → ∃ x, f x = some (.val v, h') := fun {f} {vs} h => by
    split at h
    · exact ⟨_, h⟩
    · cases h
  cases op with
  | move x => simp only [evOp, opId] at he; split at he <;> cases he; rfl
  | assign x => simp only [evOp, opId] at he; split at he <;> cases he; rfl
  | pick c a b => simp only [evOp, opPick] at he; split at he <;> cases he; rfl
  | alloc => cases ha
  | box => cases ha
  | buildSlice => cases ha
  | makeSlice => cases ha
  | makeMap => cases ha
  | build t parts =>
    simp only [evOp, opBuild] at he
    obtain ⟨z, _, he⟩ := bnd_eq he
    obtain ⟨d, _, he⟩ := bnd_eq he
    split at he
    · obtain ⟨pl, _, he⟩ := bnd_eq he
      obtain ⟨l, _, he⟩ := map_eq he
      cases he; rfl
    · obtain ⟨pl, _, he⟩ := bnd_eq he
      obtain ⟨l, _, he⟩ := map_eq he
      cases he; rfl
    · cases he
  | load t x =>
    simp only [evOp, opLoad] at he
    split at he
    · obtain ⟨l, _, he⟩ := map_eq he
      cases he; rfl
    · cases he
  | nilCheck x => simp only [evOp, opNilCheck] at he; split at he <;> cases he <;> rfl
  | binOp op t x y yt =>
    simp only [evOp, opBin] at he
    split at he
    · obtain ⟨l, _, he⟩ := map_eq he
      cases he; rfl
    · cases he
  | unOp op t x =>
    simp only [evOp, opUn] at he
    split at he
    · split at he <;> cases he <;> rfl
    · split at he <;> cases he <;> rfl
    · cases he
  | makeInterface t x =>
    simp only [evOp, opMakeIface] at he
    split at he
    · obtain ⟨d, _, he⟩ := bnd_eq he
      split at he <;> cases he <;> rfl
    · cases he
  | makeFunc f a b => simp only [evOp, opMakeFunc] at he; split at he <;> cases he; rfl
  | slice t x lo hi mx =>
    simp only [evOp, opSlice] at he
    split at he
    · rw [bcond] at he
      split at he
      · cases he
      · obtain ⟨d, _, he⟩ := map_eq he
        cases he; rfl
    · cases he
  | fieldAddr s x f =>
    simp only [evOp, opFieldAddr] at he
    split at he
    · obtain ⟨d, _, he⟩ := bnd_eq he
      split at he
      · obtain ⟨f, _, he⟩ := bnd_eq he
        obtain ⟨z, _, he⟩ := bnd_eq he
        rw [bcond] at he
        split at he <;> cases he <;> rfl
      · cases he
    · cases he
  | field t x f =>
    simp only [evOp, opField] at he
    split at he
    · obtain ⟨d, _, he⟩ := bnd_eq he
      split at he
      · obtain ⟨f, _, he⟩ := bnd_eq he
        obtain ⟨z, _, he⟩ := map_eq he
        cases he; rfl
      · cases he
    · cases he
  | indexAddr t x i =>
    simp only [evOp, opIndexAddr] at he
    split at he
    · obtain ⟨d, _, he⟩ := bnd_eq he
      split at he
      · rw [bcond] at he
        split at he
        · obtain ⟨z, _, he⟩ := map_eq he
          cases he; rfl
        · cases he
      · rw [bcond] at he
        split at he
        · obtain ⟨z, _, he⟩ := map_eq he
          cases he; rfl
        · cases he
      · cases he
    · cases he
  | index t x i =>
    simp only [evOp, opIndex] at he
    split at he
    · obtain ⟨d, _, he⟩ := bnd_eq he
      split at he
      · rw [bcond] at he
        split at he
        · obtain ⟨z, _, he⟩ := bnd_eq he
          obtain ⟨z, _, he⟩ := map_eq he
          cases he; rfl
        · cases he
      · rw [bcond] at he
        split at he
        · obtain ⟨z, _, he⟩ := map_eq he
          cases he; rfl
        · cases he
      · cases he
    · cases he
  | lookup t x k ok =>
    simp only [evOp, opLookup] at he
    split at he
    · obtain ⟨d, _, he⟩ := bnd_eq he
      split at he
      · obtain ⟨kd, _, he⟩ := bnd_eq he
        rw [bcond] at he
        split at he
        · cases he
        · obtain ⟨es, _, he⟩ := bnd_eq he
          obtain ⟨q, _, he⟩ := bnd_eq he
          obtain ⟨p, _, he⟩ := bnd_eq he
          cases he; rfl
      · cases he
    · cases he
  | typeAssert x xt a ok =>
    simp only [evOp, opAssert] at he
    split at he
    · obtain ⟨d, _, he⟩ := map_eq he
      cases he; rfl
    · cases he
  | extract x i =>
    simp only [evOp, opExtract] at he
    split at he
    · obtain ⟨d, _, he⟩ := map_eq he
      cases he; rfl
    · cases he
  | convert s d x =>
    simp only [evOp, opConvert] at he
    split at he
    · obtain ⟨sd, hsd, he⟩ := bnd_eq he
      obtain ⟨dd, hdd, he⟩ := bnd_eq he
      simp only [isA, isW, hsd, hdd] at ha hW
      split at he
      · cases he; rfl
      · cases he; rfl
      · cases ha
      · simp only [cvStr] at he
        obtain ⟨q, _, he⟩ := bnd_eq he
        split at he
        · obtain ⟨z, _, he⟩ := map_eq he
          cases he; rfl
        · cases he
      · cases hW
      · cases he
    · cases he
  | call c =>
    obtain ⟨callee, args, ats⟩ := c
    cases callee with
    | value f => cases hW
    | invoke r name => cases hW
    | builtin b =>
      cases b with
      | len =>
        simp only [evOp, opCall, builtinA] at he
        obtain ⟨a, _, he⟩ := bnd_eq he
        simp only [bLen] at he
        split at he
        · obtain ⟨d, _, he⟩ := bnd_eq he
          split at he
          · cases he; rfl
          · split at he <;> cases he; rfl
          · cases he; rfl
          · cases he; rfl
          · cases he; rfl
          · cases he; rfl
          · cases he
        · cases he
      | cap =>
        simp only [evOp, opCall, builtinA] at he
        obtain ⟨a, _, he⟩ := bnd_eq he
        simp only [bCap] at he
        split at he
        · obtain ⟨d, _, he⟩ := bnd_eq he
          split at he <;> cases he <;> rfl
        · cases he
      | max =>
        simp only [evOp, opCall, builtinA, bMax] at he
        split at he
        · obtain ⟨z, _, he⟩ := map_eq he
          cases he; rfl
        · cases he
      | min =>
        simp only [evOp, opCall, builtinA, bMin] at he
        split at he
        · obtain ⟨z, _, he⟩ := map_eq he
          cases he; rfl
        · cases he
      | unsafeSliceData =>
        simp only [evOp, opCall, builtinA, bSliceData] at he
        split at he
        · rw [bcond] at he
          split at he <;> cases he; rfl
        · cases he; rfl
        · cases he
      | _ => cases hW
  | _ => first | cases hW | cases ha
end
end
end Go.Proofs.YtemdgilifnhdpaaGreatDoor.Ev
