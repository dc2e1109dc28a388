/-
The evaluator is sound: what it says of a call is so, if the calls that are summed up are as said.
-/
import Derived.Test.YtemdgilifnhdpaaGreatDoorEvD
import Derived.Lib.Bytealg
import Derived.Lib.BytesEntry
import Derived.Lib.MakeNoZero
set_option linter.unusedVariables false
set_option linter.unusedSimpArgs false
set_option linter.unusedSectionVars false
namespace Go.Proofs.YtemdgilifnhdpaaGreatDoor.Ev
section
variable {P : Program} {sm : Sum} {TT : Tells} {ν : Nat → Value} {ι : Type} {ih : Job → Option Out}
theorem results_s {n : Nat} {m : Mu} {h : H} {nt : Nat} {tm : T AV} {tmps : Array Value} {w : World} (hn : h.next = n) (hs : SR m ν h w) (ht : TR n m ν nt tm tmps) : ∀ {l : List ResultVar} {vs : List AV}, resultsA P tm h l = some vs →
    ∃ xs : List Value, (l.mapM (fun (q : ResultVar) => (match q with
    | .tmp t => pure (tmps.getD t undef)
    | .cell a t => do loadVar t (← asAddr (tmps.getD a undef)) : Sem Value))).run P w = .ok xs w ∧ Rs n m ν vs xs
  | [], vs, he => by cases he; exact ⟨[], by simp, Rs.nil⟩
  | .tmp t :: l, vs, he => by
    obtain ⟨v, hv, he⟩ := bnd_eq he
    obtain ⟨us, hus, rfl⟩ := map_eq he
    obtain ⟨xs, h1, h2⟩ := results_s hn hs ht hus
    obtain ⟨x, hx, hr⟩ := ht.2 t v hv
    refine ⟨x :: xs, ?_, Rs.cons hr h2⟩
    simp only [List.mapM_cons, Sem.run_bind, Sem.run_pure, Result.andThen_ok, h1]
    simp [Array.getD_eq_getD_getElem?, hx]
  | .cell a t :: l, vs, he => by
    obtain ⟨v, hv, he⟩ := bnd_eq he
    cases v with
    | ptr b o =>
      obtain ⟨u, hu, he⟩ := bnd_eq he
      obtain ⟨us, hus, rfl⟩ := map_eq he
      obtain ⟨xs, h1, h2⟩ := results_s hn hs ht hus
      obtain ⟨x, hx, hr⟩ := ht.2 a _ hv
      obtain ⟨-, rfl⟩ := R_ptr hr
      obtain ⟨y, hy, hry⟩ := loadVar_s hu hs
      rw [hn] at hry
      refine ⟨y :: xs, ?_, Rs.cons hry h2⟩
      have e : tmps.getD a undef = .pointer (some ⟨(m b).1, (m b).2.1 + o, none⟩) := by simp [Array.getD_eq_getD_getElem?, hx]
      have ha : (asAddr (.pointer (some ⟨(m b).1, (m b).2.1 + o, none⟩))).run P w = .ok ⟨(m b).1, (m b).2.1 + o, none⟩ w := rfl
      simp only [List.mapM_cons, e, Sem.run_bind, ha, Sem.run_pure, Result.andThen_ok, hy, h1]
    | _ => cases he
theorem pack_s {n : Nat} {m : Mu} {vs : List AV} {xs : List Value} (h : Rs n m ν vs xs) : R n m ν (pack vs) (if h : xs.toArray.size = 1 then xs.toArray[0] else .tuple xs.toArray) := by
  cases vs with
  | nil =>
    rw [Rs_nil] at h
    subst h
    simp [pack, R, Rs]
  | cons v vs =>
    obtain ⟨x, ys, rfl, h1, h2⟩ := Rs_cons.1 h
    cases vs with
    | nil =>
      rw [Rs_nil] at h2
      subst h2
      simpa [pack] using h1
    | cons u us =>
      obtain ⟨z, zs, rfl, h3, h4⟩ := Rs_cons.1 h2
      have : ¬ (x :: z :: zs).toArray.size = 1 := by simp
      rw [dif_neg this]
      simp only [pack, R]
      exact ⟨_, rfl, by simpa using h⟩
theorem results_run {fn : Func} {tmps : Array Value} {w : World} {xs : List Value} (h : (fn.results.toList.mapM (fun (q : ResultVar) => (match q with
    | .tmp t => pure (tmps.getD t undef)
    | .cell a t => do loadVar t (← asAddr (tmps.getD a undef)) : Sem Value))).run P w = .ok xs w) : (results fn tmps).run P w = .ok (if h : xs.toArray.size = 1 then xs.toArray[0] else .tuple xs.toArray) w := by
  unfold results
  have e : (fn.results.mapM (fun (q : ResultVar) => (match q with
    | .tmp t => pure (tmps.getD t undef)
    | .cell a t => do loadVar t (← asAddr (tmps.getD a undef)) : Sem Value)) : Sem (Array Value)) = (do pure (List.toArray (← fn.results.toList.mapM (fun (q : ResultVar) => (match q with
    | .tmp t => pure (tmps.getD t undef)
    | .cell a t => do loadVar t (← asAddr (tmps.getD a undef)) : Sem Value))))) := by
    rw [Array.mapM_eq_mapM_toList]
    rfl
  show Sem.run P (Bind.bind (fn.results.mapM (fun (q : ResultVar) => (match q with
    | .tmp t => pure (tmps.getD t undef)
    | .cell a t => do loadVar t (← asAddr (tmps.getD a undef)) : Sem Value))) _) w = _
  rw [e]
  simp only [Sem.run_bind, h, Result.andThen_ok, Sem.run_pure]
end
section
variable {P : Program} {sm : Sum} {TT : Tells} {ν : Nat → Value} {ι : Type} {ih : Job → Option Out}
theorem mark_take {m : Mu} {h : H} {w : World} {r : Nat} (hs : SR m ν h w) (hr : h.t.get r = some .mark) :
    (Instr.takeDeferred (m r).1).run P w = .ok [] (w.putObj (m r).1 (.deferred none)) ∧ Post ν m h w m (h.kill r) (w.putObj (m r).1 (.deferred none)) := by
  have hh : w.heap[(m r).1]? = some (.deferred (some [])) := (hs.obj r _ hr).2
  refine ⟨run_takeDeferred hh, ?_⟩
  have hg : ∀ b o, (h.kill r).t.get b = some o → b ≠ r ∧ h.t.get b = some o := fun b o hb => by
    rw [kill_get] at hb
    split at hb
    · cases hb
    · rename_i e; exact ⟨e, hb⟩
  refine ⟨Agree.refl _ _, Nat.le_refl _, ⟨fun b o hb => ?_, fun b b' o o' hb hb' e => hs.inj b b' o o' (hg b o hb).2 (hg b' o' hb').2 e⟩, by simp, fun q hq hno => World.putObj_heap_other fun e => hno r _ hr rfl e.symm, fun b o hb hw => .inl ⟨b, o, (hg b o hb).2, hw, rfl⟩, fun b o hb => .inl ⟨b, o, (hg b o hb).2, rfl⟩, fun b o hb => .inl ⟨o, (hg b o hb).2⟩, ⟨rfl, rfl, rfl⟩⟩
  obtain ⟨h1, h2⟩ := hg b o hb
  obtain ⟨q1, q2⟩ := hs.obj b o h2
  exact ⟨q1, q2.heap (World.putObj_heap_other fun e => h1 (hs.inj b r o _ h2 hr e))⟩
theorem MdR.mono {m m' : ι → Mu} {n n' : Nat} {u : Md} {U : FrameMode} (hn : n ≤ n') (hm : ∀ i, Agree n (m i) (m' i)) (h : MdR n m ν u U) : MdR n' m' ν u U := by
  cases u with
  | ret => exact h
  | pan c => obtain ⟨ch, e, h⟩ := h; exact ⟨ch, e, fun i => (h i).mono hn (hm i)⟩
theorem MdR.run {m : ι → Mu} {n : Nat} {u : Md} {U : FrameMode} (h : MdR n m ν u U) : U ≠ .run := by
  cases u with
  | ret => rw [show U = .returning from h]; simp
  | pan c => obtain ⟨ch, rfl, _⟩ := h; simp
theorem leave_ok (hok : OkSum P sm TT ν) (hih : ∀ j o, ih j = some o → OutOK P sm ν j o) (hne : Nonempty ι) {fn : Func} {tmps : Array Value} {R : Ending → World → Prop} :
    ∀ (ds : List D) (u : Md) (h : H) (u' : Md) (h' : H) (m : ι → Mu) (U : FrameMode) (w : World) (DS : List Deferred), leaveA ih ds u h = some (u', h') → (∀ i, SR (m i) ν h w) → (∀ i, GL sm h.next (m i)) → (∀ i, DsR h.next (m i) ν ds DS) → MdR h.next m ν u U →
      (∀ (m' : ι → Mu) U' w', (∀ i, Post ν (m i) h w (m' i) h' w') → MdR h'.next m' ν u' U' → LeavesIn (FW none) 0 P fn tmps R [] U' w') → LeavesInM (FW none) 0 P fn tmps R DS U w
  | [], u, h, u', h', m, U, w, DS, he, hs, hg, hd, hu, cont => by
    cases he
    obtain ⟨i0⟩ := hne
    have : DS = [] := hd i0
    subst this
    exact cont m U w (fun i => Post.refl (hs i)) hu
  | .mark r :: ds, u, h, u', h', m, U, w, DS, he, hs, hg, hd, hu, cont => by
    have hne' := hne
    obtain ⟨i0⟩ := hne'
    unfold leaveA at he
    split at he
    case h_2 => cases he
    rename_i hr
    obtain ⟨x, xs, rfl, hx, -⟩ := hd i0
    obtain ⟨-, hx⟩ := hx
    have key : ∀ i, (m i r).1 = (m i0 r).1 ∧ DsR h.next (m i) ν ds xs := fun i => by
      obtain ⟨y, ys, e, ⟨-, hy⟩, hys⟩ := hd i
      cases e
      rw [hx] at hy
      injection hy with hy
      injection hy with hy
      exact ⟨hy.symm, hys⟩
    have ht := mark_take (P := P) (hs i0) hr
    refine ⟨hu.run, .inl ⟨(m i0 r).1, _, by rw [hx], ht.1, ?_⟩⟩
    have hp : ∀ i, Post ν (m i) h w (m i) (h.kill r) (w.putObj (m i0 r).1 (.deferred none)) := fun i => by
      have := (mark_take (P := P) (hs i) hr).2
      rw [(key i).1] at this
      exact this
    refine leave_ok hok hih hne ds u (h.kill r) u' h' m U _ xs he (fun i => (hp i).sr) hg (fun i => (key i).2) hu fun m' U' w' p q => cont m' U' w' (fun i => (hp i).trans (p i)) q
  | .fn f args :: ds, u, h, u', h', m, U, w, DS, he, hs, hg, hd, hu, cont => by
    have hne' := hne
    obtain ⟨i0⟩ := hne'
    obtain ⟨o, ho, he⟩ := bnd_eq he
    have O := hih _ _ ho
    cases o with
    | dfn u1 h1 =>
      obtain ⟨⟨fn', hf', hb'⟩, O⟩ := O
      obtain ⟨x, xs, rfl, ⟨cap, A, hx, hA⟩, -⟩ := hd i0
      have key : ∀ i, Rs h.next (m i) ν args (A ++ cap).toList ∧ DsR h.next (m i) ν ds xs := fun i => by
        obtain ⟨y, ys, e, ⟨cap', A', hy, hA'⟩, hys⟩ := hd i
        cases e
        rw [hx] at hy
        injection hy with h1 h2
        injection h1 with h1 h3
        subst h2; subst h3
        rw [Array.toList_append]
        exact ⟨hA', hys⟩
      have hinv : (invoke (.fn (.func f) cap) A).run P w = .ok (.enter f (A ++ cap)) w := by
        show (callFunc f (A ++ cap)).run P w = _
        exact hok.body f fn' hf' hb' _ _
      refine ⟨hu.run, .inr ⟨fun h => by simp [FW, Fence.wide] at h, .func f, cap, f, A ++ cap, by rw [hx], by rw [hx]; exact hinv, fun _ _ => trivial, ?_⟩⟩
      refine (O ι ⟨i0⟩ m (A ++ cap) U w hs hg (fun i => (key i).1) hu).mono fun e U1 w1 hc => ?_
      obtain ⟨hne3, m1, p1, q1⟩ := hc
      have hrec := leave_ok hok hih ⟨i0⟩ (fn := fn) (tmps := tmps) (R := R) ds u1 h1 u' h' m1 (behind e U1) w1 xs he (fun i => (p1 i).sr) (fun i => (hg i).mono (p1 i).next (p1 i).agree) (fun i => (key i).2.mono (p1 i).next (p1 i).agree) q1
        fun m' U' w' p q => cont m' U' w' (fun i => (p1 i).trans (p i)) q
      cases e with
      | returned v => exact hrec
      | panicked ch => exact hrec
      | outgrown => exact absurd rfl hne3
    | _ => cases he
theorem args_TR {n : Nat} {m : Mu} {nt : Nat} {args : List AV} {A : Array Value} (hl : args.length ≤ nt) (hr : Rs n m ν args A.toList) : TR n m ν nt (T.ofL args 0 .e) (A ++ Array.replicate (nt - A.size) undef) := by
  have hsz := hr.len
  simp only [Array.length_toList] at hsz
  refine ⟨by simp; omega, fun t v hv => ?_⟩
  rw [T.get_ofL] at hv
  split at hv
  · rename_i hc
    obtain ⟨x, hx, hrx⟩ := hr.get _ hv
    refine ⟨x, ?_, hrx⟩
    simp only [Nat.sub_zero, Nat.zero_add] at hx hc
    rw [Array.getElem?_append_left (by omega)]
    simpa using hx
  · cases hv
theorem fn_ok (hok : OkSum P sm TT ν) (hih : ∀ j o, ih j = some o → OutOK P sm ν j o) {f : Nat} {args : List AV} {h : H} {out : Out} (he : jFn P ih f args h = some out) : OutOK P sm ν (.fn f args h) out := by
  obtain ⟨fn, hf, he⟩ := bnd_eq he
  obtain ⟨body, hb, he⟩ := bnd_eq he
  rw [bcond] at he
  split at he
  case isFalse => cases he
  rename_i hle
  have hle := Nat.le_of_ble_eq_true hle
  obtain ⟨o1, ho1, he⟩ := bnd_eq he
  have O := hih _ _ ho1
  unfold jFn2 at he
  split at he
  case h_2 => cases he
  rename_i e s
  obtain ⟨md, hmd, he⟩ := bnd_eq he
  obtain ⟨⟨u', h2⟩, hlv, he⟩ := bnd_eq he
  have key : ∀ (ι : Type) (_ : Nonempty ι) (m : ι → Mu) (A : Array Value) (w : World) (R : Ending → World → Prop), (∀ i, SR (m i) ν h w) → (∀ i, GL sm h.next (m i)) → (∀ i, Rs h.next (m i) ν args A.toList) →
      (∀ (a' : Act) (m' : ι → Mu) U' w', (∀ i, TR h2.next (m' i) ν s.nt s.tm a'.tmps) → (∀ i, Post ν (m i) h w (m' i) h2 w') → MdR h2.next m' ν u' U' → LeavesIn (FW none) 0 P fn a'.tmps R [] U' w') → Calls P f A w R := by
    intro ι hne m A w R hs hg hA hR
    refine CallsIn.calls (F := FW none) (n := 0) (callsIn_of_wp_marks hf hb trivial ?_) fun _ => room_FW _ _
    refine wpIn_mono (O ι hne m none { tmps := A ++ Array.replicate (fn.ntmps - A.size) undef, defers := [] } w rfl ⟨hs, hg, fun i => args_TR hle (hA i), fun i => rfl⟩).1 fun E a1 w1 hc => ?_
    obtain ⟨m1, hE, st1, p1⟩ := hc
    have fin : ∀ U, MdR s.h.next m1 ν md U → LeavesInM (FW none) 0 P fn a1.tmps R a1.defers U w1 := fun U hU =>
      leave_ok hok hih hne s.df md s.h u' h2 m1 U w1 a1.defers hlv st1.sr st1.gl st1.dr hU fun m' U' w' p q => hR a1 m' U' w' (fun i => (st1.tr i).mono (p i).next (p i).agree) (fun i => (p1 i).trans (p i)) q
    cases e with
    | normal =>
      cases hmd
      cases E with
      | normal => exact fin .returning rfl
      | _ => exact hE.elim
    | ret =>
      cases hmd
      cases E with
      | ret => exact fin .returning rfl
      | _ => exact hE.elim
    | pan c =>
      cases hmd
      cases E with
      | panic ch => exact fin (.panicking ch) ⟨ch, rfl, hE⟩
      | _ => exact hE.elim
    | _ => cases hmd
  cases u' with
  | ret =>
    obtain ⟨vs, hvs, he⟩ := map_eq he
    cases he
    intro ι hne m A w hs hg hA
    refine key ι hne m A w _ hs hg hA fun a' m' U' w' ht p hU => ?_
    have hU' : U' = .returning := hU
    subst hU'
    have hne' := hne
    obtain ⟨i0⟩ := hne'
    obtain ⟨xs, r1, r2⟩ := results_s (P := P) rfl (p i0).sr (ht i0) hvs
    refine ⟨_, results_run r1, _, m', rfl, p, fun i => ?_⟩
    obtain ⟨ys, q1, q2⟩ := results_s (P := P) rfl (p i).sr (ht i) hvs
    rw [r1] at q1
    cases q1
    exact pack_s q2
  | pan c =>
    cases he
    intro ι hne m A w hs hg hA
    refine key ι hne m A w _ hs hg hA fun a' m' U' w' ht p hU => ?_
    obtain ⟨ch, rfl, hch⟩ := hU
    exact ⟨ch, m', rfl, p, hch⟩
theorem settle_R {m : ι → Mu} {n : Nat} {u : Md} {U : FrameMode} (hne : Nonempty ι) (h : MdR n m ν u U) : MdR n m ν (settleA u) (settle U) := by
  cases u with
  | ret => rw [show U = .returning from h]; rfl
  | pan c =>
    obtain ⟨ch, rfl, hch⟩ := h
    obtain ⟨i0⟩ := hne
    have hge : ∀ (c : List (AV × Bool)) (ch : List PanicEntry) (i : ι), ChR n (m i) ν c ch → ch.dropWhile (fun x => !x.goexit) = [] := by
      intro c
      induction c with
      | nil => intro ch i h; rw [show ch = [] from h]; rfl
      | cons q c ihc =>
        intro ch i h
        obtain ⟨x, xs, rfl, h1, h2, h3, h4⟩ := h
        rw [List.dropWhile_cons, h2]
        simpa using ihc xs i h4
    cases c with
    | nil =>
      have : ch = [] := hch i0
      subst this
      exact ⟨[], rfl, fun i => rfl⟩
    | cons q c =>
      obtain ⟨v, b⟩ := q
      obtain ⟨x, xs, rfl, h1, h2, h3, h4⟩ := hch i0
      cases b with
      | true =>
        show settle _ = .returning
        obtain ⟨xv, xr, xg⟩ := x
        simp only at h1
        subst h1
        simp only [settle, hge _ _ _ h4]
      | false =>
        obtain ⟨xv, xr, xg⟩ := x
        simp only at h1
        subst h1
        exact ⟨_, rfl, hch⟩
theorem raised_R {m : ι → Mu} {n : Nat} {u : Md} {U : FrameMode} {c : List (AV × Bool)} {ch : List PanicEntry} (h : MdR n m ν u U) (hc : ∀ i, ChR n (m i) ν c ch) : MdR n m ν (raiseA u c) (raised U ch) := by
  cases u with
  | ret => rw [show U = .returning from h]; exact ⟨ch, rfl, hc⟩
  | pan o =>
    obtain ⟨co, rfl, hco⟩ := h
    exact ⟨ch ++ co, rfl, fun i => (hc i).app (hco i)⟩
theorem dfn_ok (hih : ∀ j o, ih j = some o → OutOK P sm ν j o) {f : Nat} {args : List AV} {u : Md} {h : H} {out : Out} (he : jDfn P ih f args u h = some out) : OutOK P sm ν (.dfn f args u h) out := by
  obtain ⟨fn, hf, he⟩ := bnd_eq he
  obtain ⟨body, hb, he⟩ := bnd_eq he
  rw [bcond] at he
  split at he
  case isFalse => cases he
  rename_i hle
  have hle := Nat.le_of_ble_eq_true hle
  obtain ⟨o1, ho1, he⟩ := bnd_eq he
  have O := hih _ _ ho1
  unfold jD at he
  split at he
  case h_2 => cases he
  rename_i e s u1
  rw [bcond] at he
  split at he
  · cases he
  rename_i hdf
  have hdf : s.df = [] := isEmpty_nil (by simpa using hdf)
  have hout : ∃ u2, out = .dfn u2 s.h ∧ (((e = .normal ∨ e = .ret) ∧ u2 = settleA u1 ∧ ∃ vs, resultsA P s.tm s.h fn.results.toList = some vs) ∨ ∃ c, e = .pan c ∧ u2 = raiseA u1 c) := by
    cases e with
    | normal => obtain ⟨vs, hvs, rfl⟩ := map_eq he; exact ⟨_, rfl, .inl ⟨.inl rfl, rfl, vs, hvs⟩⟩
    | ret => obtain ⟨vs, hvs, rfl⟩ := map_eq he; exact ⟨_, rfl, .inl ⟨.inr rfl, rfl, vs, hvs⟩⟩
    | pan c => cases he; exact ⟨_, rfl, .inr ⟨c, rfl, rfl⟩⟩
    | _ => cases he
  obtain ⟨u2, rfl, hcase⟩ := hout
  refine ⟨⟨fn, hf, by rw [hb]; rfl⟩, ?_⟩
  intro ι hne m A U w hs hg hA hu
  refine callsDIn_of_wpSIn (F := FW none) hf hb trivial fun c₀ cs hc₀ => ?_
  have W := O ι hne m { tmps := A ++ Array.replicate (fn.ntmps - A.size) undef, defers := [] } U c₀ cs w ⟨hs, hg, fun i => args_TR hle (hA i), fun i => rfl⟩ hu hc₀
  intro b k h1 h2 h3 h4
  obtain ⟨E, a', cs', w', hlen, ⟨m', U', hE, st', p', hU', hcs⟩, harr⟩ := W b k h1 h2 h3 h4
  refine ⟨E, a', cs', w', hlen, ?_, harr⟩
  have hde : a'.defers = [] := by
    obtain ⟨i0⟩ := hne
    have := st'.dr i0
    rw [hdf] at this
    exact this
  have hne' := hne
  obtain ⟨i0⟩ := hne'
  rcases hcase with ⟨he', rfl, vs, hvs⟩ | ⟨c, rfl, rfl⟩
  · obtain ⟨xs, r1, -⟩ := results_s (P := P) rfl (p' i0).sr (st'.tr i0) hvs
    have post : a'.defers = [] ∧ ∃ u', cs' = { c₀ with mode := u' } :: cs ∧ ∃ v, (results fn a'.tmps).run P w' = .ok v w' ∧ ((Ending.returned v ≠ .outgrown) ∧ ∃ m'' : ι → Mu, (∀ i, Post ν (m i) h w (m'' i) s.h w') ∧ MdR s.h.next m'' ν (settleA u1) (behind (.returned v) u')) :=
      ⟨hde, U', hcs, _, results_run r1, by simp, m', p', settle_R ⟨i0⟩ hU'⟩
    rcases he' with rfl | rfl
    · cases E with
      | normal => exact post
      | _ => exact hE.elim
    · cases E with
      | ret => exact post
      | _ => exact hE.elim
  · cases E with
    | panic ch => exact ⟨hde, U', hcs, by simp, m', p', raised_R hU' hE⟩
    | _ => exact hE.elim
end
section
variable {P : Program} {sm : Sum} {TT : Tells} {ν : Nat → Value} {ι : Type} {ih : Job → Option Out}
theorem wpSIn_mono {F : Fence} {n : Nat} {c : Code} {Q Q' : Exit → Act → List Frame → World → Prop} {a : Act} {cs : List Frame} {w : World} (h : c.wpSIn F n P Q a cs w) (hq : ∀ e a cs w, Q e a cs w → Q' e a cs w) : c.wpSIn F n P Q' a cs w :=
  fun b k h1 h2 h3 h4 => let ⟨e, a', cs', w', l, q, r⟩ := h b k h1 h2 h3 h4; ⟨e, a', cs', w', l, hq _ _ _ _ q, r⟩
def sm0 (sm : Sum) : Sum := ⟨fun _ => none, sm.eo, sm.g⟩
theorem ok0 (hok : OkSum P sm TT ν) : OkSum P (sm0 sm) (fun _ _ _ _ _ => False) ν := ⟨⟨hok.eq.eo⟩, fun f g h => (by cases h), hok.body⟩
theorem round_none (l : Nat) (args : List AV) (h : H) : roundA (fun _ => none) l args h = none := by
  unfold roundA
  split
  · rw [bcond]; split <;> rfl
  · rfl
theorem evOpsS_ok (hok : OkSum P sm TT ν) (hν : ∀ k, (ν k).oneCell' = true) (hne : Nonempty ι) (ops : Array Oper) {cs : List Frame} :
    ∀ (l : List Oper) (js : List Nat) (m : ι → Mu) (s s' : S) (e : Ex) (a : Act) (w : World), l.map some = js.map (fun j => ops[j]?) → ST sm m ν s a w → evOps P (sm0 sm) (fun _ => none) true ops l s = some (e, s') →
      ∀ Q : Exit → Act → List Frame → World → Prop, (∀ E a' w', CP sm m ν s.h w e s' E a' w' → Q E a' cs w') → wpOpsSIn (FW none) 0 P ops Q js a cs w
  | [], js, m, s, s', e, a, w, hjs, st, he, Q, hQ => by
    cases js with
    | cons => cases hjs
    | nil =>
      cases he
      exact hQ _ _ _ ⟨m, trivial, st, fun i => Post.refl (st.sr i)⟩
  | o :: l, js, m, s, s', e, a, w, hjs, st, he, Q, hQ => by
    cases js with
    | nil => cases hjs
    | cons j js =>
      simp only [List.map_cons, List.cons.injEq] at hjs
      obtain ⟨hj, hjs⟩ := hjs
      have hne' := hne
      obtain ⟨i0⟩ := hne'
      obtain ⟨⟨e1, s1⟩, hstep, he⟩ := bnd_eq he
      obtain ⟨b, hb, hstep⟩ := bnd_eq hstep
      have hw := (st.tr i0).want hb
      simp only [wpOpsSIn, ← hj, hw]
      refine ⟨fun _ _ => trivial, ?_⟩
      cases b with
      | false =>
        cases hstep
        simp only [Bool.false_eq_true, if_false]
        refine evOpsS_ok hok hν hne ops l js m _ s' e _ w hjs ⟨?_, ?_, ?_, ?_⟩ he Q fun E a' w' hc => hQ _ _ _ ?_
        · intro i; rw [(S.put_h _ _ _).1]; exact st.sr i
        · intro i; rw [(S.put_h _ _ _).1]; exact st.gl i
        · intro i; rw [(S.put_h _ _ _).1, (S.put_h _ _ _).2.1]; exact (st.tr i).put undef_R
        · intro i; rw [(S.put_h _ _ _).1, (S.put_h _ _ _).2.2, put_defers]; exact st.dr i
        · rw [(S.put_h _ _ _).1] at hc; exact hc
      | true =>
        simp only [if_true]
        obtain ⟨vs, hvs, hstep⟩ := bnd_eq hstep
        obtain ⟨⟨nx, h1⟩, hev, hstep⟩ := bnd_eq hstep
        obtain ⟨res, hres, hstep⟩ := goes_res _ s true o.dst h1 nx hstep
        have hrun : ∀ i, RunOK P (fun _ _ _ _ _ => False) ν (m i) s.h w h1 ((execOp a.eval o).run P w) nx := fun i =>
          evOp_run (ok0 hok) hν hev (st.sr i) (evOs_R (sm := sm0 sm) (st.gl i) (st.tr i) hvs)
        have goOn : ∀ (v : AV) (y : Value) (w' : World) (m' : ι → Mu), (e1, s1) = (Ex.normal, S.put ⟨s.nt, s.tm, s.df, h1⟩ o.dst v) → (∀ i, Post ν (m i) s.h w (m' i) h1 w') → (∀ i, R h1.next (m' i) ν v y) → wpOpsSIn (FW none) 0 P ops Q js (a.put o.dst y) cs w' := by
          intro v y w' m' heq p q
          cases heq
          have st' : ST sm m' ν (S.put ⟨s.nt, s.tm, s.df, h1⟩ o.dst v) (a.put o.dst y) w' := by
            refine st.step (fun i => by rw [(S.put_h _ _ _).1]; exact p i) (fun i => ?_) (fun i => ?_)
            · rw [(S.put_h _ _ _).1, (S.put_h _ _ _).2.1]; exact TR.put ((st.tr i).mono (p i).next (p i).agree) (q i)
            · rw [(S.put_h _ _ _).1, (S.put_h _ _ _).2.2, put_defers]; exact (st.dr i).mono (p i).next (p i).agree
          refine evOpsS_ok hok hν hne ops l js m' _ s' e _ w' hjs st' he Q fun E a' w'' ⟨m2, g1, g2, g3⟩ => hQ _ _ _ ⟨m2, g1, g2, fun i => (p i).trans ?_⟩
          have := g3 i
          rw [(S.put_h _ _ _).1] at this
          exact this
        cases nx with
        | val v =>
          cases hres
          rcases hrun i0 with ⟨x0, m0', w0', e0, -, -⟩ | ⟨f, A, -, hc, -⟩
          · have hrun' : ∀ i, SumVal P (fun _ _ _ _ _ => False) ν (m i) s.h w v h1 ((execOp a.eval o).run P w) := hrun
            rcases sum_fam hrun' with ⟨x, w', e2, m', p, q⟩ | ⟨f, A, e2, -⟩
            · rw [e2]
              exact goOn v x w' m' hstep p q
            · rw [e0] at e2; injection e2 with e2; cases e2
          · obtain ⟨ee, ww, fr, ⟨x, -, hF⟩, -⟩ := hc []
            exact hF.elim
        | skip =>
          cases hres
          obtain ⟨m0', w', e0, -⟩ := hrun i0
          have : ∀ i, ∃ m' : Mu, Post ν (m i) s.h w m' h1 w' := fun i => by
            obtain ⟨m1, w1, e1, p1⟩ := hrun i
            rw [e0] at e1
            injection e1 with e1 e2
            subst e2
            exact ⟨m1, p1⟩
          obtain ⟨m', p⟩ := fam this
          rw [e0]
          exact goOn (.tup []) undef w' m' hstep p fun i => undef_R
        | pan v =>
          cases hres
          cases hstep
          cases he
          obtain ⟨hh, x, e0, -⟩ := hrun i0
          subst hh
          rw [e0]
          refine hQ _ _ _ ⟨m, fun i => ?_, st, fun i => Post.refl (st.sr i)⟩
          obtain ⟨-, x1, e1, q1⟩ := hrun i
          rw [e0] at e1
          injection e1 with e1
          injection e1 with e1
          subst e1
          exact ⟨_, [], rfl, rfl, rfl, q1, rfl⟩
        | defer d => cases hres
        | enter f args => cases hres
        | round l' args => simp only [resOf, round_none, bnd_none] at hres; cases hres
theorem mode_same {c₀ : Frame} {U : FrameMode} (h : c₀.mode = U) : ({ c₀ with mode := U } : Frame) = c₀ := by subst h; rfl
theorem plainS_ok (hih : ∀ j o, ih j = some o → OutOK P sm ν j o) {c : Code} {s : S} {u : Md} {out : Out} (he : jPlain ih s u c = some out) : OutOK P sm ν (.codeS c s u) out := by
  obtain ⟨o1, ho1, he⟩ := bnd_eq he
  have O := hih _ _ ho1
  cases o1 with
  | code e s1 =>
    cases he
    intro ι hne m a U c₀ cs w st hu hc
    refine wpSIn_of_wpIn rfl (wpIn_mono (O ι hne m none a w rfl st).1 fun E a1 w1 ⟨m1, hE, st1, p1⟩ => ?_)
    exact ⟨m1, U, hE, st1, p1, hu.mono (by obtain ⟨i⟩ := hne; exact (p1 i).next) (fun i => (p1 i).agree), by rw [mode_same hc]⟩
  | _ => cases he
theorem recS_ok (hok : OkSum P sm TT ν) (hν : ∀ k, (ν k).oneCell' = true) (hih : ∀ j o, ih j = some o → OutOK P sm ν j o) {id : Nat} {ops : Array Oper} {s : S} {u : Md} {out : Out} (he : jRegS P sm ih ops s u (.region id ops false) ops.toList = some out) :
    OutOK P sm ν (.codeS (.region id ops false) s u) out := by
  unfold jRegS at he
  split at he
  case h_2 => exact plainS_ok hih he
  rename_i x0 dst args ats ty pos after l hl
  obtain ⟨⟨e, s1⟩, hev, he⟩ := map_eq he
  cases he
  intro ι hne m a U c₀ cs w st hu hc
  refine wpSIn_region ?_
  have hjs := range_ops ops
  rw [hl] at hjs
  cases hr : List.range ops.size with
  | nil => rw [hr] at hjs; cases hjs
  | cons j js =>
    rw [hr] at hjs
    simp only [List.map_cons, List.cons.injEq] at hjs
    obtain ⟨hj, hjs⟩ := hjs
    have hne' := hne
    obtain ⟨i0⟩ := hne'
    simp only [wpOpsSIn, ← hj]
    refine ⟨fun _ _ => trivial, ?_⟩
    have hwant : Region.wanted { op := .call { callee := .builtin .recover, args := args, argTypes := ats }, dst := dst, type := ty, pos := pos, after := after, guard := none } (yielded ops a.tmps) = true := rfl
    rw [if_pos hwant]
    have hrun : (execOp a.eval { op := .call { callee := .builtin .recover, args := args, argTypes := ats }, dst := dst, type := ty, pos := pos, after := after, guard := none }).run P w = .ok .recover w := rfl
    rw [hrun]
    simp only
    have tail : ∀ (v : AV) (y : Value) (u2 : Md) (U2 : FrameMode), recA u = (v, u2) → (∀ i, R s.h.next (m i) ν v y) → MdR s.h.next m ν u2 U2 →
        wpOpsSIn (FW none) 0 P ops (fun E a' cs' w' => ∃ m' : ι → Mu, ∃ U', ExR s1.h.next m' ν e E ∧ ST sm m' ν s1 a' w' ∧ (∀ i, Post ν (m i) s.h w (m' i) s1.h w') ∧ MdR s1.h.next m' ν (recA u).2 U' ∧ cs' = { c₀ with mode := U' } :: cs) js (a.put dst y) ({ c₀ with mode := U2 } :: cs) w := by
      intro v y u2 U2 hrec hvy hU2
      rw [hrec] at hev ⊢
      have st' : ST sm m ν (s.put dst v) (a.put dst y) w := by
        refine ⟨fun i => ?_, fun i => ?_, fun i => ?_, fun i => ?_⟩
        · rw [(S.put_h _ _ _).1]; exact st.sr i
        · rw [(S.put_h _ _ _).1]; exact st.gl i
        · rw [(S.put_h _ _ _).1, (S.put_h _ _ _).2.1]; exact (st.tr i).put (hvy i)
        · rw [(S.put_h _ _ _).1, (S.put_h _ _ _).2.2, put_defers]; exact st.dr i
      refine evOpsS_ok hok hν hne ops l js m _ s1 e _ w hjs st' hev _ fun E a' w' ⟨m', hE, st2, p⟩ => ?_
      rw [(S.put_h _ _ _).1] at p
      exact ⟨m', U2, hE, st2, p, hU2.mono (p i0).next (fun i => (p i).agree), rfl⟩
    have nil : recA u = (.nili, u) → recoverD (c₀ :: cs) = none → (match recoverD (c₀ :: cs) with
          | some (v, cs') => wpOpsSIn (FW none) 0 P ops (fun E a' cs' w' => ∃ m' : ι → Mu, ∃ U', ExR s1.h.next m' ν e E ∧ ST sm m' ν s1 a' w' ∧ (∀ i, Post ν (m i) s.h w (m' i) s1.h w') ∧ MdR s1.h.next m' ν (recA u).2 U' ∧ cs' = { c₀ with mode := U' } :: cs) js (a.put dst v) cs' w
          | none => wpOpsSIn (FW none) 0 P ops (fun E a' cs' w' => ∃ m' : ι → Mu, ∃ U', ExR s1.h.next m' ν e E ∧ ST sm m' ν s1 a' w' ∧ (∀ i, Post ν (m i) s.h w (m' i) s1.h w') ∧ MdR s1.h.next m' ν (recA u).2 U' ∧ cs' = { c₀ with mode := U' } :: cs) js (a.put dst .nilIface) (c₀ :: cs) w) := by
      intro h1 h2
      rw [h2]
      have := tail .nili .nilIface u U h1 (fun i => by simp only [R]) hu
      rw [mode_same hc] at this
      exact this
    cases u with
    | ret =>
      have hU : U = .returning := hu
      exact nil rfl (by simp only [recoverD, hc, hU])
    | pan c =>
      obtain ⟨ch, hU, hch⟩ := hu
      cases c with
      | nil =>
        have : ch = [] := hch i0
        subst this
        exact nil rfl (by simp only [recoverD, hc, hU])
      | cons q c =>
        obtain ⟨v, b⟩ := q
        obtain ⟨x, xs, hx, h1, h2, h3, h4⟩ := hch i0
        subst hx
        obtain ⟨xv, xr, xg⟩ := x
        simp only at h1 h2
        subst h1; subst h2
        cases xr with
        | true => exact nil rfl (by simp only [recoverD, hc, hU])
        | false =>
          have hrec : recoverD (c₀ :: cs) = some (xv, { c₀ with mode := .panicking ({ v := xv, recovered := true } :: xs) } :: cs) := by simp only [recoverD, hc, hU]
          rw [hrec]
          refine tail v xv (.pan ((v, true) :: c)) _ rfl (fun i => ?_) ⟨_, rfl, fun i => ?_⟩
          · obtain ⟨x', xs', e', g1, g2, g3, g4⟩ := hch i
            cases e'
            exact g3
          · obtain ⟨x', xs', e', g1, g2, g3, g4⟩ := hch i
            cases e'
            exact ⟨_, xs, rfl, rfl, rfl, g3, g4⟩
theorem codeS_ok (hok : OkSum P sm TT ν) (hν : ∀ k, (ν k).oneCell' = true) (hih : ∀ j o, ih j = some o → OutOK P sm ν j o) {c : Code} {s : S} {u : Md} {out : Out} (he : jCodeS P sm ih s u c = some out) : OutOK P sm ν (.codeS c s u) out := by
  unfold jCodeS at he
  split at he
  · rename_i x y
    obtain ⟨o1, ho1, he⟩ := bnd_eq he
    have O := hih _ _ ho1
    cases o1 with
    | codeS e1 s1 u1 =>
      have hout : ∃ e s2 u2, out = .codeS e s2 u2 ∧ ((e1 = .normal ∧ ih (.codeS y s1 u1) = some (.codeS e s2 u2)) ∨ (e1 ≠ .normal ∧ e = e1 ∧ s2 = s1 ∧ u2 = u1)) := by
        cases e1 with
        | normal =>
          have O2 := hih _ _ he
          cases out with
          | codeS e s2 u2 => exact ⟨e, s2, u2, rfl, .inl ⟨rfl, he⟩⟩
          | _ => exact O2.elim
        | _ => cases he; exact ⟨_, _, _, rfl, .inr ⟨by simp, rfl, rfl, rfl⟩⟩
      obtain ⟨e, s2, u2, rfl, hcase⟩ := hout
      intro ι hne m a U c₀ cs w st hu hc
      refine wpSIn_seq (wpSIn_mono (O ι hne m a U c₀ cs w st hu hc) fun E a1 cs1 w1 ⟨m1, U1, hE, st1, p1, hu1, hcs⟩ => ?_)
      rcases hcase with ⟨rfl, h2⟩ | ⟨hn, rfl, rfl, rfl⟩
      · cases E with
        | normal =>
          subst hcs
          refine wpSIn_mono (hih _ _ h2 ι hne m1 a1 U1 _ cs w1 st1 hu1 rfl) fun E2 a2 cs2 w2 ⟨m2, U2, hE2, st2, p2, hu2, hcs2⟩ => ?_
          exact ⟨m2, U2, hE2, st2, fun i => (p1 i).trans (p2 i), hu2, hcs2⟩
        | _ => exact hE.elim
      · cases E with
        | normal =>
          cases e <;> first | exact absurd rfl hn | exact (show False from hE).elim
        | _ => exact ⟨m1, U1, hE, st1, p1, hu1, hcs⟩
    | _ => exact O.elim
  · rename_i id ops draw
    rw [bcond] at he
    split at he
    · exact plainS_ok hih he
    · rename_i hd
      have hd : draw = false := by simpa using hd
      subst hd
      exact recS_ok hok hν hih he
  · rename_i c x y
    obtain ⟨v, hv, he⟩ := bnd_eq he
    cases v with
    | bool t =>
      have he' : ih (.codeS (bif t then x else y) s u) = some out := he
      have O := hih _ _ he'
      cases out with
      | codeS e s2 u2 =>
        intro ι hne m a U c₀ cs w st hu hc
        have hne' := hne
        obtain ⟨i0⟩ := hne'
        refine wpSIn_cond (t := t) (R_bool (evO_R hv (st.gl i0) (st.tr i0))) ?_
        rw [bcond] at O
        exact O ι hne m a U c₀ cs w st hu hc
      | _ => exact O.elim
    | _ => cases he
  · exact plainS_ok hih he
end
section
variable {P : Program} {sm : Sum} {TT : Tells} {ν : Nat → Value} {ι : Type} {ih : Job → Option Out}
theorem enter_loop {m : Mu} {h : H} {w : World} {nt : Nat} {tm : T AV} {tmps : Array Value} (hs : SR m ν h w) (ht : TR h.next m ν nt tm tmps) (fn : FuncId) (ps : Array Tmp) (assign body : Code) :
    Post ν m h w (fun b => if b = h.next + 1 then (w.heap.size + 1, 0, 0) else if b = h.next then (w.heap.size, 0, 0) else m b) ((h.new .mark).new (.loop .ready none nt tm ps assign body))
      ((w.alloc (.deferred (some []))).alloc (.loop { state := .ready, pending := none, fn, tmps, params := ps, assign, body, defers := w.heap.size })) := by
  have p1 := Post.new hs .mark (.deferred (some [])) 0 0 (fun m' w' hag hm hw => by
    show w'.heap[(m' h.next).1]? = _
    rw [hm, hw]; simp)
  have p1' : Post ν m h w (fun b => if b = h.next then (w.heap.size, 0, 0) else m b) (h.new .mark) (w.alloc (.deferred (some []))) := Post.heapR rfl p1
  have ht1 := ht.mono p1'.next p1'.agree
  have p2 := Post.new p1'.sr (.loop .ready none nt tm ps assign body) (.loop { state := .ready, pending := none, fn, tmps, params := ps, assign, body, defers := w.heap.size }) 0 0 (fun m' w' hag hm hw => by
    refine ⟨fn, tmps, w.heap.size, ?_, ht1.mono (Nat.le_succ _) hag⟩
    rw [hm, hw, Array.getElem?_push_size])
  have p3 := p1'.trans (Post.heapR (w2 := (w.alloc (.deferred (some []))).alloc (.loop { state := .ready, pending := none, fn, tmps, params := ps, assign, body, defers := w.heap.size })) rfl p2)
  have e : (fun b => if b = h.next + 1 then (w.heap.size + 1, 0, 0) else if b = h.next then (w.heap.size, 0, 0) else m b) = (fun b => if b = (h.new .mark).next then ((w.alloc (.deferred (some []))).heap.size, 0, 0) else if b = h.next then (w.heap.size, 0, 0) else m b) := by
    funext b
    rw [show (h.new .mark).next = h.next + 1 from rfl, World.size_alloc]
  rw [e]
  exact p3
theorem range_ok (hok : OkSum P sm TT ν) (hih : ∀ j o, ih j = some o → OutOK P sm ν j o) {rd : Bool} {f : Operand} {params : Array Tmp} {assign body : Code} {s : S} {out : Out} (he : jRange P sm ih rd f params assign body s = some out) :
    OutOK P sm ν (.code rd (.rangeFunc f params assign body) s) out := by
  unfold jRange at he
  rw [bcond] at he
  split at he
  · cases he
  rename_i hrd
  obtain ⟨g, hg, he⟩ := bnd_eq he
  obtain ⟨⟨nx, h1⟩, htgt, he⟩ := bnd_eq he
  cases nx with
  | enter f0 args =>
    obtain ⟨o1, ho1, he⟩ := bnd_eq he
    have O := hih _ _ ho1
    cases o1 with
    | fn r h2 =>
      have he3 : jRange3 ih s h2 = some out := he
      clear he
      unfold targetA at htgt
      split at htgt
      case h_2 => cases htgt
      case h_3 => cases htgt
      rename_i g0 first cap
      unfold callA at htgt
      split at htgt
      · obtain ⟨q, _, htgt⟩ := map_eq htgt; cases htgt
      obtain ⟨fn0, hfn0, htgt⟩ := bnd_eq htgt
      rw [bcond] at htgt
      split at htgt
      case isFalse => cases htgt
      rename_i hbody
      cases htgt
      unfold jRange3 at he3
      split at he3
      case h_2 => cases he3
      rename_i st pending nt' tm' pa' a' b' hl2
      rw [bcond] at he3
      split at he3
      · cases he3
      rename_i hbusy
      have he := he3
      clear he3
      have hbusy : st ≠ .busy := by simpa using hbusy
      have hout : ∃ e s', out = .code e s' := by
        cases pending with
        | none => cases he; exact ⟨_, _, rfl⟩
        | some j =>
          have O2 := hih _ _ he
          cases out with
          | code e s' => exact ⟨e, s', rfl⟩
          | _ => exact O2.elim
      obtain ⟨e, s', rfl⟩ := hout
      intro ι hne m ro a w hro st0
      have hron : ro = none := by
        cases ro with
        | none => rfl
        | some l => exact absurd hro.symm hrd
      subst hron
      refine noLoop ?_ (fun b => by simp)
      have hne' := hne
      obtain ⟨i0⟩ := hne'
      let M1 : ι → Mu := fun i b => if b = s.h.next + 1 then (w.heap.size + 1, 0, 0) else if b = s.h.next then (w.heap.size, 0, 0) else m i b
      have hgR : ∀ i, R s.h.next (m i) ν (.fn (.func f0) first cap) (a.eval f) := fun i => evO_R hg (st0.gl i) (st0.tr i)
      obtain ⟨gv, A, CC, hv, hgf, -, -⟩ := by have := hgR i0; simp only [R] at this; exact this
      have hgf : gv = .func f0 := hgf
      subst hgf
      have hparts : ∀ i, Rs s.h.next (m i) ν first A.toList ∧ Rs s.h.next (m i) ν cap CC.toList := fun i => by
        have := hgR i
        simp only [R] at this
        obtain ⟨gv', A', CC', hv', -, q1, q2⟩ := this
        rw [hv] at hv'
        injection hv' with z1 z2 z3
        subst z2; subst z3
        exact ⟨q1, q2⟩
      refine wpIn_rangeFunc fun fn _ => ?_
      have hpost : ∀ i, Post ν (m i) s.h w (M1 i) ((s.h.new .mark).new (.loop .ready none s.nt s.tm params assign body)) ((w.alloc (.deferred (some []))).alloc (.loop { state := .ready, pending := none, fn, tmps := a.tmps, params := params, assign, body, defers := w.heap.size })) := fun i =>
        enter_loop (st0.sr i) (st0.tr i) fn params assign body
      have hinv : (invoke (.fn (.func f0) CC) (A ++ #[Value.func (.yield (w.heap.size + 1)) #[] #[]])).run P ((w.alloc (.deferred (some []))).alloc (.loop { state := .ready, pending := none, fn, tmps := a.tmps, params := params, assign, body, defers := w.heap.size })) =
          .ok (.enter f0 (A ++ #[Value.func (.yield (w.heap.size + 1)) #[] #[]] ++ CC)) ((w.alloc (.deferred (some []))).alloc (.loop { state := .ready, pending := none, fn, tmps := a.tmps, params := params, assign, body, defers := w.heap.size })) :=
        hok.body f0 fn0 hfn0 hbody _ _
      refine ⟨w.heap.size + 1, [{ target := .collected w.heap.size, args := #[] }], _, { target := .fn (.func f0) CC, args := A ++ #[Value.func (.yield (w.heap.size + 1)) #[] #[]] }, _, f0, _, _, run_enterLoop_outer fn a.tmps params assign body, ?_, fun _ _ => trivial, hinv, fun h => (by simp [FW, Fence.wide] at h), ?_⟩
      · show (Deferred.ofValue (a.eval f) (#[Operand.const (.func (.yield (w.heap.size + 1)) #[] #[])].map a.eval)).run P _ = _
        rw [hv]
        simp [Deferred.ofValue, Act.eval]
      · have hargs : ∀ i, Rs ((s.h.new .mark).new (.loop .ready none s.nt s.tm params assign body)).next (M1 i) ν (first ++ ([AV.fn (.yield (Nat.succ s.h.next)) [] []] ++ cap)) (A ++ #[Value.func (.yield (w.heap.size + 1)) #[] #[]] ++ CC).toList := fun i => by
          rw [Array.toList_append, Array.toList_append, List.append_assoc]
          refine Rs.app ((hparts i).1.mono (hpost i).next (hpost i).agree) (Rs.app (Rs.one ?_) ((hparts i).2.mono (hpost i).next (hpost i).agree))
          simp only [R, Fm]
          refine ⟨_, _, _, rfl, ⟨Nat.lt_succ_self _, ?_⟩, Rs.nil, Rs.nil⟩
          show Fn.yield (w.heap.size + 1) = .yield (M1 i (s.h.next + 1)).1
          simp only [M1, if_true]
        refine calls_FW ((O ι ⟨i0⟩ M1 _ _ (fun i => (hpost i).sr) (fun i => (st0.gl i).mono (hpost i).next (hpost i).agree) hargs).mono fun ee w3 hc => ?_)
        obtain ⟨x, m3, rfl, p3, -⟩ := hc
        have hl3 : ∀ i, (m3 i (Nat.succ s.h.next)).1 = w.heap.size + 1 := fun i => by
          rw [(p3 i).agree (Nat.succ s.h.next) (Nat.lt_succ_self _)]
          simp only [M1, if_true]
        have hm3 : ∀ i, (m3 i s.h.next).1 = w.heap.size := fun i => by
          rw [(p3 i).agree s.h.next (Nat.lt_succ_of_lt (Nat.lt_succ_self _))]
          simp only [M1, if_neg (show ¬ s.h.next = s.h.next + 1 by omega), if_true]
        obtain ⟨Rb, hRb, b1, b2, b3, b4, b5, b6⟩ := loop_at ((p3 i0).sr) hl2
        have hRb' : w3.heap[w.heap.size + 1]? = some (.loop Rb) := by rw [← hl3 i0]; exact hRb
        have hend := run_endLoop (P := P) hRb' (by rw [b1]; exact hbusy)
        have hturn : ∀ i, Post ν (m3 i) h2 w3 (m3 i) (h2.put (Nat.succ s.h.next) (.loop .exhausted pending nt' tm' pa' a' b')) (w3.putObj (w.heap.size + 1) (.loop { Rb with state := .exhausted })) := fun i => by
          have := loop_turn (p3 i).sr hl2 (r := Rb) (by rw [hl3 i]; exact hRb') .exhausted pending
          rw [hl3 i] at this
          rw [← b2] at this ⊢
          exact this
        have hall : ∀ i, Post ν (m i) s.h w (m3 i) (h2.put (Nat.succ s.h.next) (.loop .exhausted pending nt' tm' pa' a' b')) (w3.putObj (w.heap.size + 1) (.loop { Rb with state := .exhausted })) := fun i => (hpost i).trans ((p3 i).trans (hturn i))
        refine ⟨_, _, hend, ?_⟩
        have hmlt : ∀ i, s.h.next < h2.next := fun i => Nat.lt_of_lt_of_le (Nat.lt_succ_of_lt (Nat.lt_succ_self _)) (p3 i).next
        have stN : ST sm m3 ν ⟨s.nt, s.tm, .mark s.h.next :: s.df, h2.put (Nat.succ s.h.next) (.loop .exhausted pending nt' tm' pa' a' b')⟩ { a with defers := [{ target := .collected w.heap.size, args := #[] }] ++ a.defers } (w3.putObj (w.heap.size + 1) (.loop { Rb with state := .exhausted })) := by
          refine st0.step hall (fun i => (st0.tr i).mono (hall i).next (hall i).agree) (fun i => ?_)
          exact ⟨_, _, rfl, ⟨hmlt i, by rw [hm3 i]⟩, (st0.dr i).mono (hall i).next (hall i).agree⟩
        generalize (w3.putObj (w.heap.size + 1) (.loop { Rb with state := .exhausted })) = W4 at hturn hall stN ⊢
        rw [b2]
        cases pending with
        | none =>
          cases he
          exact ⟨m3, trivial, stN, hall⟩
        | some j =>
          exact wpIn_mono (hih _ _ he ι ⟨i0⟩ m3 none _ _ rfl stN).1 fun E a2 w2 hc => hc.trans hall
    | _ => cases he
  | _ => cases he
theorem code_ok (hok : OkSum P sm TT ν) (hν : ∀ k, (ν k).oneCell' = true) (hmx : P.follows .mixedOrders = true) (hih : ∀ j o, ih j = some o → OutOK P sm ν j o) {rd : Bool} {c : Code} {s : S} {out : Out} (he : jCode P sm ih rd s c = some out) : OutOK P sm ν (.code rd c s) out := by
  have isCode : ∀ {b : Code} {o1 : Out} {k : Out → Option Out}, ih (.code rd b s) = some o1 → k o1 = some out → (∀ e1 s1, k (.code e1 s1) = some out → ∃ e s', out = .code e s') → ∃ e s', out = .code e s' := by
    intro b o1 k h1 h2 h3
    have O := hih _ _ h1
    cases o1 with
    | code e1 s1 => exact h3 e1 s1 h2
    | _ => exact O.elim
  have ofIh : ∀ {b : Code} {s1 : S}, ih (.code rd b s1) = some out → ∃ e s', out = .code e s' := by
    intro b s1 h1
    have O := hih _ _ h1
    cases out with
    | code e1 s1 => exact ⟨_, _, rfl⟩
    | _ => exact O.elim
  cases c with
  | skip =>
    cases he
    intro ι hne m ro a w hro st
    exact noLoop (wpIn_skip (CP.same st trivial)) (fun b => by simp)
  | label l =>
    cases he
    intro ι hne m ro a w hro st
    exact noLoop (wpIn_label (CP.same st trivial)) (fun b => by simp)
  | exit id =>
    cases he
    intro ι hne m ro a w hro st
    exact noLoop (wpIn_exit (CP.same st rfl)) (fun b => by simp)
  | goto l =>
    cases he
    intro ι hne m ro a w hro st
    exact noLoop (wpIn_goto (CP.same st rfl)) (fun b => by simp)
  | ret =>
    cases he
    intro ι hne m ro a w hro st
    exact noLoop (wpIn_ret (CP.same st trivial)) (fun b => by simp)
  | seq x y =>
    obtain ⟨o1, ho1, he⟩ := bnd_eq he
    obtain ⟨e, s', rfl⟩ := isCode ho1 he fun e1 s1 h => by
      cases e1 with
      | normal => exact ofIh h
      | _ => cases h; exact ⟨_, _, rfl⟩
    intro ι hne m ro a w hro st
    exact noLoop (seq_ok hih ho1 he hne m ro a w hro st) (fun b => by simp)
  | block id b =>
    obtain ⟨o1, ho1, he⟩ := bnd_eq he
    obtain ⟨e, s', rfl⟩ := isCode ho1 he fun e1 s1 h => by
      cases e1 <;> (cases h; exact ⟨_, _, rfl⟩)
    intro ι hne m ro a w hro st
    exact noLoop (block_ok hih ho1 he hne m ro a w hro st) (fun b => by simp)
  | loop b =>
    obtain ⟨o1, ho1, he⟩ := bnd_eq he
    obtain ⟨e, s', rfl⟩ := isCode ho1 he fun e1 s1 h => by
      cases e1 with
      | normal => exact ofIh h
      | _ => cases h; exact ⟨_, _, rfl⟩
    intro ι hne m ro a w hro st
    exact loop_ok hih ho1 he hne m ro a w hro st
  | scope b =>
    obtain ⟨o1, ho1, he⟩ := bnd_eq he
    obtain ⟨e, s', rfl⟩ := isCode ho1 he fun e1 s1 h => by
      cases e1 with
      | goto l =>
        simp only [jScope] at h
        split at h
        · have O2 := hih _ _ h
          cases out with
          | code e s' => exact ⟨e, s', rfl⟩
          | _ => exact O2.elim
        · cases h; exact ⟨_, _, rfl⟩
      | _ => cases h; exact ⟨_, _, rfl⟩
    intro ι hne m ro a w hro st
    exact noLoop (scope_ok hih ho1 he hne m ro a w hro st) (fun b => by simp)
  | cond c x y =>
    obtain ⟨v, hv, he⟩ := bnd_eq he
    cases v with
    | bool t =>
      have he' : ih (.code rd (bif t then x else y) s) = some out := he
      have O := hih _ _ he'
      obtain ⟨e, s', rfl⟩ := ofIh he'
      intro ι hne m ro a w hro st
      have hne' := hne
      obtain ⟨i0⟩ := hne'
      refine noLoop (wpIn_cond (t := t) (R_bool (evO_R hv (st.gl i0) (st.tr i0))) ?_) (fun b => by simp)
      rw [bcond] at O
      exact (O ι hne m ro a w hro st).1
    | _ => cases he
  | region id ops draw =>
    obtain ⟨⟨e, s'⟩, hr, he⟩ := map_eq he
    cases he
    intro ι hne m ro a w hro st
    refine noLoop ?_ (fun b => by simp)
    rw [bcond] at hr
    split at hr
    · rename_i hd
      subst hd
      exact drawn_ok hok hν hmx hih hro st hr
    · rename_i hd
      have hd : draw = false := by simpa using hd
      subst hd
      exact wpIn_region (evOps_ok hok hν hih hro ops _ _ m s s' e a w (range_ops ops) st hr _ fun _ _ _ h => h)
  | rangeFunc f params assign body => exact range_ok hok hih he
  | refuse _ => cases he
theorem run_ok (hok : OkSum P sm TT ν) (hν : ∀ k, (ν k).oneCell' = true) (hmx : P.follows .mixedOrders = true) : ∀ (n : Nat) (j : Job) (o : Out), run P sm n j = some o → OutOK P sm ν j o
  | 0, j, o, he => by cases he
  | n + 1, j, o, he => by
    have hih := run_ok hok hν hmx n
    have he' : stepJob P sm (run P sm n) j = some o := he
    cases j with
    | code rd c s => exact code_ok hok hν hmx hih he'
    | fn f args h => exact fn_ok hok hih he'
    | dfn f args u h => exact dfn_ok hih he'
    | codeS c s u => exact codeS_ok hok hν hih he'
    | jump rd b c s => exact jump_ok hih he'
theorem run_fn (hok : OkSum P sm TT ν) (hν : ∀ k, (ν k).oneCell' = true) (hmx : P.follows .mixedOrders = true) {n f : Nat} {args : List AV} {h h' : H} {r : AV} (he : run P sm n (.fn f args h) = some (.fn r h')) {m : Mu} {A : Array Value} {w : World}
    (hs : SR m ν h w) (hg : GL sm h.next m) (hA : Rs h.next m ν args A.toList) : Calls P f A w fun e w' => ∃ x m', e = .returned x ∧ Post ν m h w m' h' w' ∧ R h'.next m' ν r x := by
  have O := run_ok hok hν hmx n _ _ he
  refine (O Unit ⟨()⟩ (fun _ => m) A w (fun _ => hs) (fun _ => hg) (fun _ => hA)).mono fun e w' ⟨x, m', h1, h2, h3⟩ => ⟨x, m' (), h1, h2 (), h3 ()⟩
end
def posA : List Nat → Nat → Nat → Int
  | [], _, _ => -1
  | b :: l, c, i => bif Nat.beq b c then Int.ofNat i else posA l c (Nat.succ i)
def cntA : List Nat → Nat → Nat → Nat
  | [], _, n => n
  | b :: l, c, n => cntA l c (bif Nat.beq b c then Nat.succ n else n)
def okByte (c : Int) : Bool := decide (0 ≤ c) && Nat.blt c.toNat 256
noncomputable def textOf (h : H) : AV → Option (List Nat)
  | .str s => some s
  | v => bytesOf h v
noncomputable def idxA : List AV → H → Option (AV × H) := fun vs h => match vs with
  | [v, .int .u8 c] => bif okByte c then bnd (textOf h v) fun s => some (.int .i64 (posA s c.toNat 0), h) else none
  | _ => none
noncomputable def countA : List AV → H → Option (AV × H) := fun vs h => match vs with
  | [.str s, .int .u8 c] => bif okByte c then some (.int .i64 (Int.ofNat (cntA s c.toNat 0)), h) else none
  | _ => none
noncomputable def mkNZA (e : TypeId) : List AV → H → Option (AV × H) := fun vs h => match vs with
  | [.int .i64 n] => bif decide (0 ≤ n) && decide (n ≤ 1000000) then some (.slice h.next 0 n.toNat n.toNat 1 true, h.new (.row .e n.toNat e true 0 false)) else none
  | _ => none
noncomputable def copyA (ok : TypeId → Nat → Bool) : List AV → H → Option (AV × H) := fun vs h => match vs with
  | [.ptr b 0] => match h.t.get b with
    | some (.row c n e false 0 mk) => bif ok e n && Nat.blt 0 n then (match c.get 0 with
      | some .nilp => some (.tup [], h.put b (.row (c.set 0 (.ptr b 0)) n e false 0 mk))
      | some (.ptr b' 0) => bif Nat.beq b b' then some (.tup [], h) else none
      | _ => none) else none
    | _ => none
  | _ => none
noncomputable def constA (a : AV) : List AV → H → Option (AV × H) := fun vs h => match vs with
  | [] => some (a, h)
  | _ => none
theorem okByte_lt {c : Int} (h : okByte c = true) : 0 ≤ c ∧ c.toNat < 256 := by
  simp only [okByte, Bool.and_eq_true] at h
  exact ⟨dec_t h.1, by simpa [Nat.blt_eq] using h.2⟩
theorem u8_beq {a b : Nat} (ha : a < 256) (hb : b < 256) : (UInt8.ofNat a == UInt8.ofNat b) = Nat.beq a b := by
  cases h : Nat.beq a b with
  | true => rw [of_beq h]; simp
  | false =>
    rw [beq_eq_false_iff_ne]
    intro e
    have : (UInt8.ofNat a).toNat = (UInt8.ofNat b).toNat := by rw [e]
    simp only [UInt8.toNat_ofNat'] at this
    rw [Nat.mod_eq_of_lt (by omega), Nat.mod_eq_of_lt (by omega)] at this
    rw [this, Nat.beq_refl] at h
    cases h
theorem posA_eq {c : Nat} (hc : c < 256) : ∀ (s : List Nat) (i : Nat), (∀ x ∈ s, x < 256) →
    posA s c i = if Lib.indexByte (s.map UInt8.ofNat) (UInt8.ofNat c) = -1 then -1 else Lib.indexByte (s.map UInt8.ofNat) (UInt8.ofNat c) + i
  | [], i, _ => by simp [posA, Lib.indexByte]
  | b :: s, i, h => by
    have hb : b < 256 := h b (List.mem_cons_self ..)
    simp only [posA, List.map_cons, Lib.indexByte, u8_beq hb hc, bcond]
    cases hh : Nat.beq b c with
    | true => simp
    | false =>
      simp only [Bool.false_eq_true, if_false]
      rw [posA_eq hc s (i + 1) (fun x hx => h x (List.mem_cons_of_mem _ hx))]
      have hge := Lib.indexByte_ge (s.map UInt8.ofNat) (UInt8.ofNat c)
      by_cases e : Lib.indexByte (s.map UInt8.ofNat) (UInt8.ofNat c) = -1
      · simp [e]
      · have e2 : (Lib.indexByte (s.map UInt8.ofNat) (UInt8.ofNat c) == -1) = false := by simpa using e
        rw [if_neg e, e2]
        simp only [Bool.false_eq_true, if_false]
        rw [if_neg (by omega)]
        omega
theorem posA_zero {c : Nat} (hc : c < 256) (s : List Nat) (h : ∀ x ∈ s, x < 256) : posA s c 0 = Lib.indexByte (s.map UInt8.ofNat) (UInt8.ofNat c) := by
  rw [posA_eq hc s 0 h]
  split
  · rename_i e; exact e.symm
  · simp
theorem cntA_eq {c : Nat} (hc : c < 256) : ∀ (s : List Nat) (n : Nat), (∀ x ∈ s, x < 256) → cntA s c n = n + Lib.countByte (s.map UInt8.ofNat) (UInt8.ofNat c)
  | [], n, _ => by simp [cntA, Lib.countByte]
  | b :: s, n, h => by
    have hb : b < 256 := h b (List.mem_cons_self ..)
    simp only [cntA, bcond]
    rw [cntA_eq hc s _ (fun x hx => h x (List.mem_cons_of_mem _ hx))]
    simp only [Lib.countByte, List.map_cons, List.count_cons, u8_beq hb hc]
    cases hh : Nat.beq b c with
    | true => simp; omega
    | false => simp
section
variable {P : Program} {sm : Sum} {TT : Tells} {ν : Nat → Value} {m : Mu} {h h' : H} {w : World}
structure IsExt (P : Program) (f : Nat) (e : Array Value → Sem Value) : Prop where
  ex : ∃ fn, P.funcs[f]? = some fn ∧ (fn.name == "runtime.NumGoroutine") = false ∧ fn.body.isNone = true ∧ Extern.findNext fn = none ∧ Extern.find fn = some e
theorem IsExt.run {f : Nat} {e : Array Value → Sem Value} (h : IsExt P f e) (A : Array Value) (w : World) : (callFunc f A).run P w = ((e A).run P w).andThen fun v w' => .ok (.value v) w' := by
  obtain ⟨fn, h1, h2, h3, h4, h5⟩ := h.ex
  exact run_callFunc_extern h1 h2 h3 h4 h5 A w
theorem bs_toList (s : List Nat) : (bs s).data.toList = s.map UInt8.ofNat := by simp [bs]
theorem idx_str (s : List Nat) (hs : ∀ x ∈ s, x < 256) {c : Int} (hc : okByte c = true) (w : World) : (Extern.BytealgIndexByte.indexByte #[.string (bs s), .int .u8 c]).run P w = .ok (.int .i64 (posA s c.toNat 0)) w := by
  obtain ⟨-, hlt⟩ := okByte_lt hc
  rw [Lib.run_indexByteString, bs_toList, posA_zero hlt s hs]
theorem idx_sum {f : Nat} (hf : IsExt P f Extern.BytealgIndexByte.indexByte) {args : List AV} {v : AV} {A : Array Value} (he : idxA args h = some (v, h')) (hs : SR m ν h w) (hA : Rs h.next m ν args A.toList) : SumVal P TT ν m h w v h' ((callFunc f A).run P w) := by
  unfold idxA at he
  split at he
  case h_2 => cases he
  rename_i x c
  rw [bcond] at he
  split at he
  case isFalse => cases he
  rename_i hc
  obtain ⟨s, hb, he⟩ := bnd_eq he
  cases he
  obtain ⟨xv, xs, e1, h1, h2⟩ := Rs_cons.1 hA
  obtain ⟨yv, rfl, h3⟩ : ∃ yv, xs = [yv] ∧ R h.next m ν (.int .u8 c) yv := by
    obtain ⟨yv, ys, e2, h3, h4⟩ := Rs_cons.1 h2
    rw [Rs_nil] at h4
    subst h4
    exact ⟨yv, e2, h3⟩
  have hA2 : A = #[xv, yv] := Array.toList_inj.1 e1
  subst hA2
  have hyv := R_int h3
  subst hyv
  cases x with
  | str s =>
    cases hb
    obtain ⟨rfl, hlt⟩ := R_str h1
    refine .inl ⟨_, m, w, ?_, Post.refl hs, mkInt _ _⟩
    rw [hf.run, idx_str s hlt hc]; rfl
  | nils =>
    cases hb
    have hxv : xv = .slice none 0 0 := by simpa only [R] using h1
    subst hxv
    refine .inl ⟨_, m, w, ?_, Post.refl hs, mkInt _ _⟩
    have := idx_str (P := P) [] (by simp) hc w
    rw [hf.run]
    show Result.andThen ((Extern.BytealgIndexByte.indexByte #[.string (bs []), .int .u8 c]).run P w) _ = _
    rw [this]; rfl
  | slice b off len cap es op =>
    obtain ⟨ns, rfl, hlt, hge, hlen, hcell⟩ := bytesOf_s (cap := cap) (es := es) (op := op) hb hs
    simp only [R] at h1
    obtain ⟨hbn, o, cc, rfl, hle, ho, _⟩ := h1
    have hld := Lib.run_loadBytesX (P := P) (w := w) ns ⟨(m b).1, o, none⟩ ByteArray.empty (fun j z hj => by
      have hjl : j < ns.length := by
        rcases Nat.lt_or_ge j ns.length with h' | h'
        · exact h'
        · rw [List.getElem?_eq_none h'] at hj; cases hj
      rw [add_at, ho (by omega)]
      exact hcell j z hj)
    rw [hlen] at hld
    refine .inl ⟨_, m, w, ?_, Post.refl hs, mkInt _ _⟩
    have hbs : (⟨ByteArray.empty.data ++ (Lib.bytesOf ns).toArray⟩ : ByteArray) = bs (ns.map Int.toNat) := by
      apply ByteArray.ext
      simp [bs, Lib.bytesOf, List.map_map, Function.comp_def]
    have := idx_str (P := P) (ns.map Int.toNat) hlt hc w
    rw [hf.run]
    have hrun : (Extern.BytealgIndexByte.indexByte #[.slice (some ⟨(m b).1, o, none⟩) len cc, .int .u8 c]).run P w = (Extern.BytealgIndexByte.indexByte #[.string (bs (ns.map Int.toNat)), .int .u8 c]).run P w := by
      show Sem.run P (Bind.bind (Extern.Bytes.loadBytes ⟨(m b).1, o, none⟩ len .empty) _) w = Sem.run P (Bind.bind (pure (bs (ns.map Int.toNat))) _) w
      simp only [Sem.run_bind, hld, Result.andThen_ok, Sem.run_pure, hbs]
      rfl
    rw [hrun, this]; rfl
  | _ => cases hb
theorem count_sum {f : Nat} (hf : IsExt P f Extern.BytealgCount.count) {args : List AV} {v : AV} {A : Array Value} (he : countA args h = some (v, h')) (hs : SR m ν h w) (hA : Rs h.next m ν args A.toList) : SumVal P TT ν m h w v h' ((callFunc f A).run P w) := by
  unfold countA at he
  split at he
  case h_2 => cases he
  rename_i s c
  rw [bcond] at he
  split at he
  case isFalse => cases he
  rename_i hc
  cases he
  obtain ⟨xv, xs, e1, h1, h2⟩ := Rs_cons.1 hA
  obtain ⟨yv, ys, e2, h3, h4⟩ := Rs_cons.1 h2
  rw [Rs_nil] at h4
  subst h4; subst e2
  have hA2 : A = #[xv, yv] := Array.toList_inj.1 e1
  subst hA2
  obtain ⟨rfl, hlt⟩ := R_str h1
  have hyv := R_int h3
  subst hyv
  obtain ⟨-, hl⟩ := okByte_lt hc
  refine .inl ⟨.int .i64 (Int.ofNat (cntA s c.toNat 0)), m, w, ?_, Post.refl hs, mkInt _ _⟩
  rw [hf.run, Lib.run_countString, bs_toList, cntA_eq hl s 0 hlt, Nat.zero_add]
  rfl
theorem mkNZ_sum {f : Nat} {ps : Array TypeId} {t e : TypeId} (ht : P.underlying t = some (.slice e)) (hf : IsExt P f (Extern.BytealgMakeNoZero.makeNoZero ps #[t])) {args : List AV} {v : AV} {A : Array Value} (he : mkNZA e args h = some (v, h')) (hs : SR m ν h w)
    (hA : Rs h.next m ν args A.toList) : SumVal P TT ν m h w v h' ((callFunc f A).run P w) := by
  unfold mkNZA at he
  split at he
  case h_2 => cases he
  rename_i n
  rw [bcond] at he
  split at he
  case isFalse => cases he
  rename_i hc
  simp only [Bool.and_eq_true] at hc
  have c1 := dec_t hc.1
  have c2 := dec_t hc.2
  cases he
  obtain ⟨xv, xs, e1, h1, h2⟩ := Rs_cons.1 hA
  rw [Rs_nil] at h2
  subst h2
  have hA2 : A = #[xv] := Array.toList_inj.1 e1
  subst hA2
  have hxv := R_int h1
  subst hxv
  obtain ⟨k, rfl⟩ : ∃ k : Nat, n = (k : Int) := ⟨n.toNat, by omega⟩
  obtain ⟨cs, hrun, hle, -⟩ := Lib.run_makeNoZero (P := P) w ps t e ht k (by omega)
  have hp := Post.new hs (.row .e k e true 0 false) (.cells cs e) 0 cs.size (fun m' w' hag hm hw => by
    refine ⟨cs, 0, 0, ?_, by rw [hm], by rw [hm]; simpa using hle, fun h => (by cases h), fun i a hi ha => ?_, .inl rfl⟩
    · rw [hw, hm]; simp
    · cases ha)
  simp only [Int.toNat_natCast]
  refine .inl ⟨.slice (some ⟨w.heap.size, 0, none⟩) k cs.size, _, w.drew.drew.alloc (.cells cs e), ?_, Post.heapR (w' := { w with heap := w.heap.push (.cells cs e) }) (w2 := w.drew.drew.alloc (.cells cs e)) rfl hp, ?_⟩
  · rw [hf.run, hrun]; rfl
  · simp only [R]
    refine ⟨Nat.lt_succ_self _, 0, cs.size, by simp, hle, fun _ => by simp, ?_⟩
    simp only [if_true]
    exact ⟨hle, by simp⟩
def Still (w w' : World) : Prop := SameEnv w w' ∧ w.heap.size ≤ w'.heap.size ∧ ∀ r, r < w.heap.size → w'.heap[r]? = w.heap[r]?
theorem Post.still {w' : World} (hs : SR m ν h w) (hw : Still w w') : Post ν m h w m h w' where
  agree := Agree.refl _ _
  next := Nat.le_refl _
  sr := ⟨fun b o hb => ⟨(hs.obj b o hb).1, (hs.obj b o hb).2.heap (hw.2.2 _ (hs.obj b o hb).2.lt)⟩, hs.inj⟩
  size := hw.2.1
  frame := fun r hr _ => hw.2.2 r hr
  live := fun b o hb hwr => .inl ⟨b, o, hb, hwr, rfl⟩
  org := fun b o hb => .inl ⟨b, o, hb, rfl⟩
  keys := fun b o hb => .inl ⟨o, hb⟩
  env := hw.1
theorem Post.ofNone {m' : Mu} {n : Nat} {h1 : H} {w' : World} (p : Post ν m ⟨n, .e⟩ w m' h1 w') : Still w w' :=
  ⟨p.env, p.size, fun r hr => p.frame r hr fun b o hb => by cases hb⟩
def intsB : List AV → Bool
  | [] => true
  | .int _ _ :: l => intsB l
  | _ => false
theorem ints_R {n n' : Nat} {m m' : Mu} : ∀ {l : List AV} {xs : List Value}, intsB l = true → Rs n m ν l xs → Rs n' m' ν l xs
  | [], _, _, h => h
  | a :: l, xs, hb, h => by
    cases a with
    | int k i =>
      obtain ⟨x, ys, rfl, h1, h2⟩ := Rs_cons.1 h
      exact Rs.cons (by rw [R_int h1]; exact mkInt _ _) (ints_R hb h2)
    | _ => cases hb
theorem const_calls (hok : OkSum P sm TT ν) (hν : ∀ k, (ν k).oneCell' = true) (hmx : P.follows .mixedOrders = true) (hg : sm.g = 0) {n f : Nat} {l : List AV} {h' : H} (he : run P sm n (.fn f [] ⟨0, .e⟩) = some (.fn (.agg l) h')) (hl : intsB l = true) (w : World) :
    Calls P f #[] w fun e w' => ∃ x, e = .returned x ∧ (∀ n m, R n m ν (.agg l) x) ∧ Still w w' := by
  refine (run_fn (m := fun _ => (0, 0, 0)) (A := #[]) hok hν hmx he ⟨fun b o hb => (by cases hb), fun b b' o o' hb => (by cases hb)⟩ (fun g hgl => by rw [hg] at hgl; omega) Rs.nil).mono fun e w' ⟨x, m', e1, p, hr⟩ => ⟨x, e1, fun n m => ?_, p.ofNone⟩
  simp only [R] at hr ⊢
  obtain ⟨c, rfl, hr⟩ := hr
  exact ⟨c, rfl, ints_R hl hr⟩
theorem const_sum {f : Nat} {a : AV} (hcall : ∀ w, Calls P f #[] w fun e w' => ∃ x, e = .returned x ∧ TT f #[] w x w') (hT : ∀ w x w', TT f #[] w x w' → (∀ n m, R n m ν a x) ∧ Still w w') (henter : ∀ w, (callFunc f #[]).run P w = .ok (.enter f #[]) w)
    {args : List AV} {v : AV} {A : Array Value} (he : constA a args h = some (v, h')) (hs : SR m ν h w) (hA : Rs h.next m ν args A.toList) : SumVal P TT ν m h w v h' ((callFunc f A).run P w) := by
  unfold constA at he
  split at he
  case h_2 => cases he
  cases he
  rw [Rs_nil] at hA
  have hA2 : A = #[] := Array.toList_inj.1 hA
  subst hA2
  exact .inr ⟨f, #[], henter w, hcall w, fun x w' ht => ⟨m, Post.still hs (hT w x w' ht).2, (hT w x w' ht).1 _ _⟩⟩
def CopyT (A : Array Value) (w : World) (x : Value) (w' : World) : Prop :=
  ∃ b, A = #[.pointer (some ⟨b, 0, none⟩)] ∧ x = .tuple #[] ∧ ((w.cell? ⟨b, 0, none⟩ = some (.pointer none) ∧ w' = w.setCell ⟨b, 0, none⟩ (.pointer (some ⟨b, 0, none⟩))) ∨ (w.cell? ⟨b, 0, none⟩ = some (.pointer (some ⟨b, 0, none⟩)) ∧ w' = w))
theorem copy_sum {f : Nat} {ok : TypeId → Nat → Bool} (henter : ∀ A w, (callFunc f A).run P w = .ok (.enter f A) w) (hT : ∀ A w x w', TT f A w x w' ↔ CopyT A w x w')
    (hfresh : ∀ (b : Nat) (w : World) (e : TypeId) (n : Nat), ok e n = true → 0 < n → w.cell? ⟨b, 0, none⟩ = some (.pointer none) → w.shape? b = some (e, n) → w.frozen? ⟨b, 0, none⟩ = false →
      Calls P f #[.pointer (some ⟨b, 0, none⟩)] w fun e w' => e = .returned (.tuple #[]) ∧ w' = w.setCell ⟨b, 0, none⟩ (.pointer (some ⟨b, 0, none⟩)))
    (hused : ∀ (b : Nat) (w : World), w.cell? ⟨b, 0, none⟩ = some (.pointer (some ⟨b, 0, none⟩)) → Calls P f #[.pointer (some ⟨b, 0, none⟩)] w fun e w' => e = .returned (.tuple #[]) ∧ w' = w)
    {args : List AV} {v : AV} {A : Array Value} (he : copyA ok args h = some (v, h')) (hs : SR m ν h w) (hA : Rs h.next m ν args A.toList) : SumVal P TT ν m h w v h' ((callFunc f A).run P w) := by
  unfold copyA at he
  split at he
  case h_2 => cases he
  rename_i b
  split at he
  case h_2 => cases he
  rename_i c n e mk hb
  rw [bcond] at he
  split at he
  case isFalse => cases he
  rename_i hc
  simp only [Bool.and_eq_true] at hc
  have hn : 0 < n := by simpa [Nat.blt_eq] using hc.2
  obtain ⟨cc, lo, hi, h1, h2, h3, h4, h5, h6⟩ := (hs.obj b _ hb).2
  have hbn := (hs.obj b _ hb).1
  obtain ⟨h40, h41⟩ := h4 rfl
  obtain ⟨xv, xs, e1, hx, hxs⟩ := Rs_cons.1 hA
  rw [Rs_nil] at hxs
  subst hxs
  have hA2 : A = #[xv] := Array.toList_inj.1 e1
  subst hA2
  obtain ⟨-, hxv⟩ := R_ptr hx
  rw [h40] at hxv
  simp only [Nat.add_zero] at hxv
  subst hxv
  have hcell : w.cell? ⟨(m b).1, 0, none⟩ = cc[0]? := cell_of_row w _ _ _ _ _ h1
  have hnf : w.frozen? ⟨(m b).1, 0, none⟩ = false := by
    simp only [World.frozen?, h1, Bool.and_eq_false_iff, decide_eq_false_iff_not]
    rw [h40] at h6
    rcases h6 with h | h | h <;> omega
  have hshape : w.shape? (m b).1 = some (e, n) := by simp [World.shape?, h1, h41]
  have hcs : 0 < cc.size := by omega
  split at he
  · rename_i hg0
    cases he
    obtain ⟨y, hy, hry⟩ := h5 0 _ hn hg0
    rw [h40] at hy
    have hy2 : y = .pointer none := by simpa only [R] using hry
    subst hy2
    have hy0 : w.cell? ⟨(m b).1, 0, none⟩ = some (.pointer none) := by rw [hcell]; simpa using hy
    refine .inr ⟨f, _, henter _ w, (hfresh _ w e n hc.1 hn hy0 hshape hnf).mono fun ee w' ⟨q1, q2⟩ => ⟨_, q1, (hT _ _ _ _).2 ⟨_, rfl, rfl, .inl ⟨hy0, q2⟩⟩⟩, fun x w' ht => ?_⟩
    obtain ⟨b', hb', hx', hor⟩ := (hT _ _ _ _).1 ht
    have hbb : (m b).1 = b' := by simpa using hb'
    subst hbb
    subst hx'
    have hw' : w' = w.setCell ⟨(m b).1, 0, none⟩ (.pointer (some ⟨(m b).1, 0, none⟩)) := by
      rcases hor with ⟨-, hw⟩ | ⟨hq, -⟩
      · exact hw
      · rw [hy0] at hq; cases hq
    subst hw'
    refine ⟨m, ?_, by simp only [R]; exact ⟨#[], rfl, Rs.nil⟩⟩
    rw [setCell_eq_setRow w (m b).1 0 cc e (lo, hi) _ h1]
    refine Post.turn hs b _ _ hb (by simp [AO.wr]; omega) (setRow_size _ _ _) (fun r hr' => setRow_other _ _ _ _ hr') ?_
    refine ⟨_, lo, hi, setRow_heap w _ _ _ _ _ h1, by simp; omega, by simp; omega, fun _ => ⟨h40, by simp; omega⟩, fun i a hi' ha => ?_, ?_⟩
    · rw [T.get_set] at ha
      rw [h40, Nat.zero_add]
      by_cases e0 : i = 0
      · subst e0
        rw [if_pos rfl] at ha
        cases ha
        refine ⟨_, Array.getElem?_setIfInBounds_self_of_lt hcs, ?_⟩
        simp only [R]
        exact ⟨hbn, by rw [h40]⟩
      · rw [if_neg e0] at ha
        obtain ⟨z, hz, hrz⟩ := h5 i a hi' ha
        rw [h40, Nat.zero_add] at hz
        exact ⟨z, by rw [Array.getElem?_setIfInBounds_ne (fun q => e0 q.symm)]; exact hz, hrz⟩
    · rcases h6 with h6 | h6 | ⟨h6, h7⟩
      · exact .inl h6
      · exact .inr (.inl h6)
      · exact .inr (.inr ⟨h6, by simp; omega⟩)
  · rename_i b' hg0
    rw [bcond] at he
    split at he
    case isFalse => cases he
    rename_i hbeq
    have hbeq := of_beq hbeq
    subst hbeq
    cases he
    obtain ⟨y, hy, hry⟩ := h5 0 _ hn hg0
    rw [h40] at hy
    obtain ⟨-, hy2⟩ := R_ptr hry
    rw [h40] at hy2
    simp only [Nat.add_zero] at hy2
    subst hy2
    have hy0 : w.cell? ⟨(m b).1, 0, none⟩ = some (.pointer (some ⟨(m b).1, 0, none⟩)) := by rw [hcell]; simpa using hy
    refine .inr ⟨f, _, henter _ w, (hused _ w hy0).mono fun ee w' ⟨q1, q2⟩ => ⟨_, q1, (hT _ _ _ _).2 ⟨_, rfl, rfl, .inr ⟨hy0, q2⟩⟩⟩, fun x w' ht => ?_⟩
    obtain ⟨b', hb', hx', hor⟩ := (hT _ _ _ _).1 ht
    have hbb : (m b).1 = b' := by simpa using hb'
    subst hbb
    subst hx'
    have hw' : w' = w := by
      rcases hor with ⟨hq, -⟩ | ⟨-, hw⟩
      · rw [hy0] at hq; cases hq
      · exact hw
    subst hw'
    exact ⟨m, Post.refl hs, by simp only [R]; exact ⟨#[], rfl, Rs.nil⟩⟩
  · cases he
end
end Go.Proofs.YtemdgilifnhdpaaGreatDoor.Ev
