/-
Drawn regions in whatever order, and control: no condition.
-/
import Derived.Test.YtemdgilifnhdpaaGreatDoorEvC
set_option linter.unusedVariables false
set_option linter.unusedSimpArgs false
set_option linter.unusedSectionVars false
namespace Go.Proofs.YtemdgilifnhdpaaGreatDoor.Ev
section
variable {P : Program} {sm : Sum} {ih : Job → Option Out} {ops : Array Oper} {nt base : Nat} {rd : Bool}
theorem statAt_spec {b : Oper} {bits : Nat} : ∀ {l : List Oper} {i : Nat}, statAt P ops b bits l i = true → ∀ (k : Nat) (a : Oper), l[k]? = some a → (clash ops a b || (isW P a.op && isW P b.op)) = true → Nat.testBit bits (i + k) = true
  | [], i, h, k, a, hk, hc => by simp at hk
  | a' :: l, i, h, k, a, hk, hc => by
    simp only [statAt, Bool.and_eq_true, Bool.or_eq_true, Bool.not_eq_true'] at h
    obtain ⟨h1, h2⟩ := h
    cases k with
    | zero =>
      simp at hk
      subst hk
      rcases h1 with h1 | h1
      · rw [hc] at h1; cases h1
      · exact h1
    | succ k =>
      have := statAt_spec h2 k a (by simpa using hk) hc
      rwa [show i.succ + k = i + (k + 1) from by omega] at this
theorem statG_spec : ∀ {l done : List Oper} {bits : List Nat}, statG P ops done l bits = true → ∀ (k : Nat) (o : Oper), l[k]? = some o → ∃ x, bits[k]? = some x ∧ x < 2 ^ (done.length + k) ∧ statAt P ops o x (done ++ l.take k) 0 = true
  | [], done, bits, h, k, o, hk => by simp at hk
  | b :: l, done, bits, h, k, o, hk => by
    simp only [statG, Bool.and_eq_true] at h
    obtain ⟨h1, h2⟩ := h
    cases bits with
    | nil => cases h1
    | cons x bits =>
      simp only [Bool.and_eq_true] at h1
      cases k with
      | zero =>
        simp at hk
        subst hk
        refine ⟨x, rfl, ?_, by simpa using h1.2⟩
        have := h1.1
        rw [Nat.blt_eq] at this
        have e : Nat.shiftLeft 1 done.length = 2 ^ done.length := by
          show 1 <<< done.length = _
          rw [Nat.shiftLeft_eq, Nat.one_mul]
        rw [e] at this
        exact this
      | succ k =>
        obtain ⟨y, g1, g2, g3⟩ := statG_spec h2 k o (by simpa using hk)
        refine ⟨y, by simpa using g1, ?_, ?_⟩
        · rw [show done.length + (k + 1) = (done ++ [b]).length + k from by simp; omega]; exact g2
        · rw [List.take_succ_cons, show done ++ b :: l.take k = done ++ [b] ++ l.take k from by simp]; exact g3
theorem stabs_spec {objs : List (Nat × AO)} {h0 : H} {ws : List (Nat × Nat × H × Nat)} : ∀ {l : List Oper} {bs : List Nat} {ss : List DS} {i : Nat} {s : DS}, stabs P sm ops base objs h0 ws i l bs s ss = true →
    ∀ (k : Nat) (o : Oper) (b : Nat), k < ss.length → l[k]? = some o → bs[k]? = some b → stab1 P sm ops base objs h0 ws (i + k) b o (dsAt s ss k) = true
  | [], bs, ss, i, s, h, k, o, b, hk, ho, hb => by simp at ho
  | o' :: l, [], ss, i, s, h, k, o, b, hk, ho, hb => by simp at hb
  | o' :: l, b' :: bs, [], i, s, h, k, o, b, hk, ho, hb => by simp at hk
  | o' :: l, b' :: bs, s' :: ss, i, s, h, k, o, b, hk, ho, hb => by
    simp only [stabs, Bool.and_eq_true] at h
    cases k with
    | zero =>
      simp at ho hb
      subst ho; subst hb
      exact h.1
    | succ k =>
      have hk' : k < ss.length := by simpa using hk
      rw [dsAt_succ _ _ _ _ (Nat.le_of_lt hk'), show i + (k + 1) = i.succ + k from by omega]
      exact stabs_spec h.2 k o b hk' (by simpa using ho) (by simpa using hb)
structure TC (P : Program) (sm : Sum) (ih : Job → Option Out) (ops : Array Oper) (nt base : Nat) (rd : Bool) (bs : List Nat) (d0 : DS) (ss : List DS) (ex : Ex) : Prop where
  hbs : bs = befs ops.toList []
  hd0 : d0.objs = [] ∧ d0.ab = 0
  tr : evTr P sm ih ops nt base rd 0 ops.toList bs d0 = some (ss, ex)
  stat : statG P ops [] ops.toList bs = true
  stab : stabs P sm ops base (lastD d0 ss).objs d0.c (wsOf P 0 ops.toList bs ss) 0 ops.toList bs d0 ss = true
namespace TC
variable {bs : List Nat} {d0 : DS} {ss : List DS} {ex : Ex} (C : TC P sm ih ops nt base rd bs d0 ss ex)
include C
theorem at_ {k : Nat} {o : Oper} (h : ops[k]? = some o) : ops.toList[k]? = some o := by rw [Array.getElem?_toList]; exact h
theorem lt {k b : Nat} (h : bs[k]? = some b) : b < 2 ^ k := by
  have hk : k < ops.toList.length := by
    rcases Nat.lt_or_ge k bs.length with h1 | h1
    · rw [C.hbs, befs_len] at h1; simpa using h1
    · rw [List.getElem?_eq_none h1] at h; cases h
  obtain ⟨x, h1, h2, -⟩ := statG_spec C.stat k _ (List.getElem?_eq_getElem hk)
  rw [h] at h1
  cases h1
  simpa using h2
theorem bsN : bs.length = ops.size := by rw [C.hbs, befs_len]; simp
theorem bit_lt {k j : Nat} (h : Nat.testBit (bs.getD k 0) j = true) : j < k := by
  rw [List.getD_eq_getElem?_getD] at h
  cases hb : bs[k]? with
  | none => rw [hb] at h; simp at h
  | some b =>
    rw [hb, Option.getD_some] at h
    have h1 := C.lt hb
    rcases Nat.lt_or_ge j k with h2 | h2
    · exact h2
    · have h3 : 2 ^ j ≤ b := Nat.ge_two_pow_of_testBit h
      have h4 : 2 ^ k ≤ 2 ^ j := Nat.pow_le_pow_right (by omega) h2
      omega
theorem bit {k : Nat} {o : Oper} (ho : ops[k]? = some o) (j : Nat) :
    Nat.testBit (bs.getD k 0) j = true ↔ ∃ e ∈ o.after.toList, Region.binds .any e = true ∧ e.on < k ∧ (e.on = j ∨ Nat.testBit (bs.getD e.on 0) j = true) := by
  have := befs_bit (l := ops.toList) (C.at_ ho) (fun k b h => C.lt (by rw [C.hbs]; exact h)) j
  rw [← C.hbs] at this
  exact this
theorem edge {k : Nat} {o : Oper} (ho : ops[k]? = some o) {e : Edge} (he : e ∈ o.after) (hb : Region.binds .any e = true) : e.on < k := by
  have hk := befs_at ops.toList [] k o (C.at_ ho)
  simp only [List.length_nil, Nat.zero_add] at hk
  rw [← C.hbs] at hk
  have h1 : Nat.testBit (bs.getD k 0) e.on = true := by
    rw [List.getD_eq_getElem?_getD, hk, Option.getD_some, foldB_bit]
    exact .inr ⟨e, by simpa using he, hb, .inl rfl⟩
  exact C.bit_lt h1
theorem wait {k j : Nat} {ok oj : Oper} (hk : ops[k]? = some ok) (hj : ops[j]? = some oj) (hlt : k < j) (hc : (clash ops ok oj || (isW P ok.op && isW P oj.op)) = true) : Nat.testBit (bs.getD j 0) k = true := by
  obtain ⟨x, h1, -, h3⟩ := statG_spec C.stat j oj (C.at_ hj)
  have h4 := statAt_spec h3 k ok (by
    rw [List.nil_append, List.getElem?_take, if_pos hlt]
    exact C.at_ hk) hc
  rw [List.getD_eq_getElem?_getD, h1, Option.getD_some]
  simpa using h4
theorem lenN : ss.length ≤ ops.size := by have := (evTr_spec _ _ _ _ _ _ C.tr).1; simpa using this
theorem normN (h : ex = .normal) : ss.length = ops.size := by have := (evTr_spec _ _ _ _ _ _ C.tr).2.1 h; simpa using this
theorem pos (h : ex ≠ .normal) : 0 < ss.length := (evTr_spec _ _ _ _ _ _ C.tr).2.2.1 h
theorem step {k : Nat} (hk : k < ss.length) : ∃ o e, ops[k]? = some o ∧ StD P sm ih ops nt base k (bs.getD k 0) rd o (dsAt d0 ss k) e (dsAt d0 ss (k + 1)) ∧ (k + 1 < ss.length → e = .normal) ∧ (k + 1 = ss.length → e = ex) := by
  obtain ⟨o, b, e, h1, h2, h3, h4, h5⟩ := (evTr_spec _ _ _ _ _ _ C.tr).2.2.2 k hk
  refine ⟨o, e, by rw [Array.getElem?_toList] at h1; exact h1, ?_, h4, h5⟩
  rw [Nat.zero_add] at h3
  rw [List.getD_eq_getElem?_getD, h2, Option.getD_some]
  exact stepD_spec h3
theorem same {p : Nat} : ∀ (q : Nat), p ≤ q → q ≤ ss.length → (∀ k o, p ≤ k → k < q → ops[k]? = some o → isW P o.op = false) → (dsAt d0 ss q).c = (dsAt d0 ss p).c ∧ (dsAt d0 ss q).ab = (dsAt d0 ss p).ab ∧ (dsAt d0 ss q).df = (dsAt d0 ss p).df := by
  intro q
  induction q with
  | zero => intro h _ _; have : p = 0 := by omega
            subst this; exact ⟨rfl, rfl, rfl⟩
  | succ q ihq =>
    intro h hq hW
    by_cases e : p = q + 1
    · subst e; exact ⟨rfl, rfl, rfl⟩
    · obtain ⟨g1, g2, g3⟩ := ihq (by omega) (by omega) (fun k o h1 h2 h3 => hW k o h1 (by omega) h3)
      obtain ⟨o, ee, h1, h2, -⟩ := C.step (k := q) (by omega)
      obtain ⟨k1, k2, k3⟩ := h2.chain (hW q o (by omega) (by omega) h1)
      exact ⟨k1.trans g1, k2.trans g2, k3.trans g3⟩
theorem tm_same {p t : Nat} : ∀ (q : Nat), p ≤ q → q ≤ ss.length → (∀ k o, p ≤ k → k < q → ops[k]? = some o → o.dst ≠ some t) → (dsAt d0 ss q).tm.get t = (dsAt d0 ss p).tm.get t := by
  intro q
  induction q with
  | zero => intro h _ _; have : p = 0 := by omega
            subst this; rfl
  | succ q ihq =>
    intro h hq hW
    by_cases e : p = q + 1
    · subst e; rfl
    · rw [← ihq (by omega) (by omega) (fun k o h1 h2 h3 => hW k o h1 (by omega) h3)]
      obtain ⟨o, ee, h1, h2, -⟩ := C.step (k := q) (by omega)
      exact h2.tm t fun h => hW q o (by omega) (by omega) h1 h.1
theorem tm_big {t : Nat} (ht : nt ≤ t) : ∀ (q : Nat), q ≤ ss.length → (dsAt d0 ss q).tm.get t = d0.tm.get t := by
  intro q
  induction q with
  | zero => intro _; rfl
  | succ q ihq =>
    intro hq
    rw [← ihq (by omega)]
    obtain ⟨o, ee, h1, h2, -⟩ := C.step (k := q) (by omega)
    exact h2.tm t fun h => by omega
theorem lk_lt {k : Nat} {ob : AO} : ∀ (q : Nat), q ≤ ss.length → lk (dsAt d0 ss q).objs k = some ob → k < q ∧ ∃ o, ops[k]? = some o ∧ isA P o.op = true := by
  intro q
  induction q with
  | zero => intro _ h; rw [dsAt_zero, C.hd0.1] at h; cases h
  | succ q ihq =>
    intro hq h
    obtain ⟨o, ee, h1, h2, -⟩ := C.step (k := q) (by omega)
    rcases h2.objs with e | ⟨ob', e, ha⟩
    · rw [e] at h
      obtain ⟨g1, g2⟩ := ihq (by omega) h
      exact ⟨by omega, g2⟩
    · rw [e, lk_snoc] at h
      split at h
      · rename_i hqk; subst hqk; exact ⟨by omega, o, h1, ha⟩
      · obtain ⟨g1, g2⟩ := ihq (by omega) h
        exact ⟨by omega, g2⟩
theorem lk_stays {k : Nat} : ∀ (q : Nat), k < q → q ≤ ss.length → lk (dsAt d0 ss q).objs k = lk (dsAt d0 ss (k + 1)).objs k := by
  intro q
  induction q with
  | zero => intro h; omega
  | succ q ihq =>
    intro h hq
    by_cases e : k = q
    · subst e; rfl
    · rw [← ihq (by omega) (by omega)]
      obtain ⟨o, ee, h1, h2, -⟩ := C.step (k := q) (by omega)
      rcases h2.objs with e' | ⟨ob', e', ha⟩
      · rw [e']
      · rw [e', lk_snoc, if_neg (fun e2 => e e2.symm)]
theorem lk_of {q k : Nat} (hq : q ≤ ss.length) (hk : k < q) : lk (dsAt d0 ss q).objs k = lk (dsAt d0 ss ss.length).objs k := by
  rw [C.lk_stays q hk hq, C.lk_stays ss.length (by omega) (Nat.le_refl _)]
theorem reads {i : Nat} {o : Oper} {vs : List AV} {v : AV} {L : Nat → Bool} {p : Nat} (hp : p ≤ ss.length)
    (wch : ∀ k o, ops[k]? = some o → isW P o.op = true → (L k = true ↔ k < p)) (clos : ∀ k, L k = true → ∀ j, Nat.testBit (bs.getD k 0) j = true → L j = true) (hLi : L i = false) (hbits : ∀ j, Nat.testBit (bs.getD i 0) j = true → L j = true)
    (hst : stabAt P sm base (dsAt d0 ss ss.length).objs o.op vs v i (bs.getD i 0) d0.c 0 (wsOf P 0 ops.toList bs ss) = true) :
    sameV v (evOp P sm o.op vs (over base (dsAt d0 ss p).ab (bs.getD i 0) (dsAt d0 ss ss.length).objs (dsAt d0 ss p).c)) = true := by
  have key : ∀ (n i0 : Nat), n = ss.length - i0 → i0 ≤ ss.length → (∀ k o, k < i0 → ops[k]? = some o → isW P o.op = true → k < p) →
      stabAt P sm base (dsAt d0 ss ss.length).objs o.op vs v i (bs.getD i 0) (dsAt d0 ss i0).c (dsAt d0 ss i0).ab (wsOf P i0 (ops.toList.drop i0) (bs.drop i0) (ss.drop i0)) = true →
      sameV v (evOp P sm o.op vs (over base (dsAt d0 ss p).ab (bs.getD i 0) (dsAt d0 ss ss.length).objs (dsAt d0 ss p).c)) = true := by
    intro n
    induction n with
    | zero =>
      intro i0 hn hi0 hW hs
      have e : i0 = ss.length := by omega
      rw [show ss.drop i0 = [] from List.drop_of_length_le (by omega)] at hs
      have hws : wsOf P i0 (ops.toList.drop i0) (bs.drop i0) [] = [] := by
        cases ops.toList.drop i0 with
        | nil => rfl
        | cons => cases bs.drop i0 <;> rfl
      rw [hws] at hs
      obtain ⟨c1, c2, -⟩ := C.same (p := p) i0 (by omega) hi0 (fun k o h1 h2 h3 => by
        cases hw : isW P o.op with
        | false => rfl
        | true => have := hW k o h2 h3 hw; omega)
      rw [c1, c2] at hs
      exact hs
    | succ n ihn =>
      intro i0 hn hi0 hW hs
      have hlt : i0 < ss.length := by omega
      obtain ⟨ok, e, h1, h2, -⟩ := C.step hlt
      have hN := C.lenN
      have hb : i0 < bs.length := by rw [C.bsN]; omega
      have hgo : ops.toList.drop i0 = ok :: ops.toList.drop (i0 + 1) := by
        have hl : i0 < ops.toList.length := by simp; omega
        rw [List.drop_eq_getElem_cons hl]
        congr 1
        have := C.at_ h1
        rw [List.getElem?_eq_getElem hl] at this
        exact Option.some.inj this
      have hss : ss.drop i0 = dsAt d0 ss (i0 + 1) :: ss.drop (i0 + 1) := by
        rw [List.drop_eq_getElem_cons hlt]
        congr 1
        simp [dsAt, List.getD_eq_getElem?_getD, hlt]
      have hbb : bs.drop i0 = bs.getD i0 0 :: bs.drop (i0 + 1) := by
        rw [List.drop_eq_getElem_cons hb]
        congr 1
        simp [List.getD_eq_getElem?_getD, hb]
      rw [hgo, hss, hbb] at hs
      simp only [wsOf, bcond] at hs
      split at hs
      · rename_i hw
        simp only [stabAt, Bool.and_eq_true, Bool.or_eq_true] at hs
        by_cases hip : i0 < p
        · have hL : L i0 = true := (wch i0 ok h1 hw).2 hip
          have h3 : stabAt P sm base (dsAt d0 ss ss.length).objs o.op vs v i (bs.getD i 0) (dsAt d0 ss (i0 + 1)).c (dsAt d0 ss (i0 + 1)).ab (wsOf P (i0 + 1) (ops.toList.drop (i0 + 1)) (bs.drop (i0 + 1)) (ss.drop (i0 + 1))) = true := by
            rcases hs.2 with h | h
            · have := clos i0 hL i h
              rw [hLi] at this; cases this
            · exact h
          refine ihn (i0 + 1) (by omega) hlt (fun k o' hk ho hw' => ?_) h3
          by_cases e : k = i0
          · subst e; exact hip
          · exact hW k o' (by omega) ho hw'
        · have h3 : sameV v (evOp P sm o.op vs (over base (dsAt d0 ss i0).ab (bs.getD i 0) (dsAt d0 ss ss.length).objs (dsAt d0 ss i0).c)) = true := by
            rcases hs.1 with h | h
            · have := (wch i0 ok h1 hw).1 (hbits i0 h)
              exact absurd this hip
            · exact h
          obtain ⟨c1, c2, -⟩ := C.same (p := p) i0 (by omega) hi0 (fun k o h1 h2 h3 => by
            cases hw : isW P o.op with
            | false => rfl
            | true => have := hW k o h2 h3 hw; omega)
          rw [c1, c2] at h3
          exact h3
      · rename_i hw
        have hw : isW P ok.op = false := by simpa using hw
        obtain ⟨c1, c2, -⟩ := h2.chain hw
        refine ihn (i0 + 1) (by omega) hlt (fun k o' hk ho hw' => ?_) (by rw [c1, c2]; exact hs)
        by_cases e : k = i0
        · subst e; rw [h1] at ho; cases ho; rw [hw] at hw'; cases hw'
        · exact hW k o' (by omega) ho hw'
  refine key _ 0 rfl (Nat.zero_le _) (fun k o h => absurd h (Nat.not_lt_zero _)) ?_
  simp only [List.drop_zero, dsAt_zero, C.hd0.2]
  exact hst
end TC
end
abbrev Loc := Nat × Nat × Nat
abbrev FamL (ι : Type) (L : Nat → Bool) (loc : Nat → Loc) := { x : ι × (Nat → Loc) // ∀ k, L k = true → x.2 k = loc k }
def addL (L : Nat → Bool) (i : Nat) : Nat → Bool := fun k => if k = i then true else L k
noncomputable def HL (base : Nat) (objs : List (Nat × AO)) (L : Nat → Bool) (ab : Nat) (c : H) : H := overP (fun k => L k && !Nat.testBit ab k) base objs c
section
variable {P : Program} {sm : Sum} {TT : Tells} {ν : Nat → Value} {ι : Type} {ih : Job → Option Out} {ops : Array Oper} {nt base : Nat} {rd : Bool} {bs : List Nat} {d0 : DS} {ss : List DS} {ex : Ex}
structure INV (P : Program) (ν : Nat → Value) (ops : Array Oper) (nt base : Nat) (bs : List Nat) (d0 : DS) (ss : List DS) (ex : Ex) (m0 : ι → Mu) (h0 : H) (w0 : World) (L : Nat → Bool) (loc : Nat → Loc) (p : Nat) (M : FamL ι L loc → Mu) (a : Act) (w : World) : Prop where
  pK : p ≤ ss.length
  LK : ∀ k, L k = true → k < ss.length
  Lex : ∀ k, L k = true → k + 1 = ss.length → ex = .normal
  wch : ∀ k o, ops[k]? = some o → isW P o.op = true → (L k = true ↔ k < p)
  clos : ∀ k, L k = true → ∀ j, Nat.testBit (bs.getD k 0) j = true → L j = true
  ab : ∀ k, Nat.testBit (dsAt d0 ss p).ab k = true → L k = true
  dead : ∀ k, k < ops.size → Nat.testBit (dsAt d0 ss p).ab k = false → (dsAt d0 ss p).c.t.get (base + k) = none
  nxt : base + ops.size ≤ (dsAt d0 ss p).c.next
  num : ∀ x k, k < ops.size → M x (base + k) = x.1.2 k
  post : ∀ x, Post ν (m0 x.1.1) h0 w0 (M x) (HL base (dsAt d0 ss ss.length).objs L (dsAt d0 ss p).ab (dsAt d0 ss p).c) w
  tsz : a.tmps.size = nt
  tr : ∀ x t q v, q ≤ ss.length → (∀ k o, ops[k]? = some o → o.dst = some t → (L k = true ↔ k < q)) → (dsAt d0 ss q).tm.get t = some v → ∃ y, a.tmps[t]? = some y ∧ R (dsAt d0 ss p).c.next (M x) ν v y
  dr : ∀ x, DsR (dsAt d0 ss p).c.next (M x) ν (dsAt d0 ss p).df a.defers
theorem FamL.ne [Nonempty ι] (L : Nat → Bool) (loc : Nat → Loc) : Nonempty (FamL ι L loc) := by
  obtain ⟨i⟩ := ‹Nonempty ι›
  exact ⟨⟨(i, loc), fun _ _ => rfl⟩⟩
theorem HL_next (L : Nat → Bool) (objs : List (Nat × AO)) (ab : Nat) (c : H) : (HL base objs L ab c).next = c.next := overP_next _ _ _ _
theorem HL_get (L : Nat → Bool) (objs : List (Nat × AO)) (ab : Nat) (c : H) (b : Nat) : (HL base objs L ab c).t.get b = match (if base ≤ b ∧ (L (b - base) = true ∧ Nat.testBit ab (b - base) = false) then lk objs (b - base) else none) with | some o => some o | none => c.t.get b := by
  unfold HL
  rw [overP_get]
  by_cases h : base ≤ b ∧ (L (b - base) = true ∧ Nat.testBit ab (b - base) = false)
  · rw [if_pos h, if_pos ⟨h.1, by simp [h.2.1, h.2.2]⟩]; rfl
  · rw [if_neg h, if_neg (fun q => h ⟨q.1, by simpa using q.2⟩)]
theorem over_get (ab bits : Nat) (objs : List (Nat × AO)) (c : H) (b : Nat) : (over base ab bits objs c).t.get b = match (if base ≤ b ∧ (Nat.testBit bits (b - base) = true ∧ Nat.testBit ab (b - base) = false) then lk objs (b - base) else none) with | some o => some o | none => c.t.get b := by
  rw [over_eq, overP_get]
  by_cases h : base ≤ b ∧ (Nat.testBit bits (b - base) = true ∧ Nat.testBit ab (b - base) = false)
  · rw [if_pos h, if_pos ⟨h.1, by simp [h.2.1, h.2.2]⟩]; rfl
  · rw [if_neg h, if_neg (fun q => h ⟨q.1, by simpa using q.2⟩)]
theorem over_next (ab bits : Nat) (objs : List (Nat × AO)) (c : H) : (over base ab bits objs c).next = c.next := by rw [over_eq, overP_next]
variable (C : TC P sm ih ops nt base rd bs d0 ss ex)
theorem sub_over {L : Nat → Bool} {ab bits : Nat} {objs : List (Nat × AO)} {c : H} {N : Nat} (hb : ∀ j, Nat.testBit bits j = true → L j = true) (hob : ∀ j, Nat.testBit bits j = true → lk objs j = lk (dsAt d0 ss ss.length).objs j)
    (hlk : ∀ k o, lk (dsAt d0 ss ss.length).objs k = some o → k < N) (dead : ∀ k, k < N → Nat.testBit ab k = false → c.t.get (base + k) = none) : SubH (over base ab bits objs c) (HL base (dsAt d0 ss ss.length).objs L ab c) := by
  refine ⟨by rw [over_next, HL_next], fun b o h => ?_⟩
  rw [over_get] at h
  rw [HL_get]
  by_cases h1 : base ≤ b ∧ (Nat.testBit bits (b - base) = true ∧ Nat.testBit ab (b - base) = false)
  · rw [if_pos h1, hob _ h1.2.1] at h
    rw [if_pos ⟨h1.1, hb _ h1.2.1, h1.2.2⟩]
    exact h
  · rw [if_neg h1] at h
    simp only at h
    by_cases h2 : base ≤ b ∧ (L (b - base) = true ∧ Nat.testBit ab (b - base) = false)
    · rw [if_pos h2]
      cases hl : lk (dsAt d0 ss ss.length).objs (b - base) with
      | none => exact h
      | some o' =>
        have := dead (b - base) (hlk _ _ hl) h2.2.2
        rw [show base + (b - base) = b from by omega] at this
        rw [this] at h
        cases h
    · rw [if_neg h2]
      exact h
include C
theorem TC.lkN {k : Nat} {o : AO} (h : lk (dsAt d0 ss ss.length).objs k = some o) : k < ops.size := by
  have := (C.lk_lt ss.length (Nat.le_refl _) h).1
  have := C.lenN
  omega
theorem INV.rebase {m0 : ι → Mu} {h0 : H} {w0 : World} {L : Nat → Bool} {loc : Nat → Loc} {p : Nat} {M : FamL ι L loc → Mu} {a : Act} {w : World} (I : INV P ν ops nt base bs d0 ss ex m0 h0 w0 L loc p M a w)
    {i : Nat} {o : Oper} (ho : ops[i]? = some o) (hW : isW P o.op = true) (hi : i ≤ ss.length) (hLi : L i = false) (hbits : ∀ j, Nat.testBit (bs.getD i 0) j = true → L j = true) : INV P ν ops nt base bs d0 ss ex m0 h0 w0 L loc i M a w := by
  have hw : ∀ k ok, ops[k]? = some ok → isW P ok.op = true → (L k = true ↔ k < i) := fun k ok hk hwk => by
    constructor
    · intro hL
      rcases Nat.lt_trichotomy k i with h | h | h
      · exact h
      · subst h; rw [hLi] at hL; cases hL
      · have := C.wait ho hk h (by simp [hW, hwk])
        have := I.clos k hL i this
        rw [hLi] at this; cases this
    · intro h
      exact hbits k (C.wait hk ho h (by simp [hW, hwk]))
  have hsame : (dsAt d0 ss i).c = (dsAt d0 ss p).c ∧ (dsAt d0 ss i).ab = (dsAt d0 ss p).ab ∧ (dsAt d0 ss i).df = (dsAt d0 ss p).df := by
    rcases Nat.le_total p i with h | h
    · refine C.same i h hi fun k ok h1 h2 h3 => ?_
      cases hwk : isW P ok.op with
      | false => rfl
      | true =>
        have := (hw k ok h3 hwk).2 h2
        have := (I.wch k ok h3 hwk).1 this
        omega
    · have := C.same (p := i) p h I.pK fun k ok h1 h2 h3 => by
        cases hwk : isW P ok.op with
        | false => rfl
        | true =>
          have := (I.wch k ok h3 hwk).2 h2
          have := (hw k ok h3 hwk).1 this
          omega
      exact ⟨this.1.symm, this.2.1.symm, this.2.2.symm⟩
  obtain ⟨e1, e2, e3⟩ := hsame
  exact ⟨hi, I.LK, I.Lex, hw, I.clos, by rw [e2]; exact I.ab, by rw [e1, e2]; exact I.dead, by rw [e1]; exact I.nxt, I.num, by rw [e1, e2]; exact I.post, I.tsz, by rw [e1]; exact I.tr, by rw [e1, e3]; exact I.dr⟩
theorem INV.reads {m0 : ι → Mu} {h0 : H} {w0 : World} {L : Nat → Bool} {loc : Nat → Loc} {p : Nat} {M : FamL ι L loc → Mu} {a : Act} {w : World} (I : INV P ν ops nt base bs d0 ss ex m0 h0 w0 L loc p M a w)
    {i : Nat} {o : Oper} (ho : ops[i]? = some o) (hi : i ≤ ss.length) (hLi : L i = false) (hbits : ∀ j, Nat.testBit (bs.getD i 0) j = true → L j = true) (x : FamL ι L loc) {t : Nat} (ht : t ∈ readsA ops o) {v : AV} (hv : (dsAt d0 ss i).tm.get t = some v) :
    ∃ y, a.tmps[t]? = some y ∧ R (dsAt d0 ss p).c.next (M x) ν v y := by
  refine I.tr x t i v hi (fun k ok hk hd => ?_) hv
  have mt : ∀ (A : List Nat), t ∈ A → meet (dstL ok.dst) A = true := fun A hA => by
    simp only [meet, hd, dstL, List.any_cons, List.any_nil, Bool.or_false, List.any_eq_true]
    exact ⟨t, hA, Nat.beq_refl t⟩
  constructor
  · intro hL
    rcases Nat.lt_trichotomy k i with h | h | h
    · exact h
    · subst h; rw [hLi] at hL; cases hL
    · have := C.wait ho hk h (by simp [clash, mt _ ht])
      have := I.clos k hL i this
      rw [hLi] at this; cases this
  · intro h
    exact hbits k (C.wait hk ho h (by simp [clash, mt (dstL o.dst ++ readsA ops o) (List.mem_append_right _ ht)]))
theorem INV.operands {m0 : ι → Mu} {h0 : H} {w0 : World} {L : Nat → Bool} {loc : Nat → Loc} {p : Nat} {M : FamL ι L loc → Mu} {a : Act} {w : World} (I : INV P ν ops nt base bs d0 ss ex m0 h0 w0 L loc p M a w)
    {i : Nat} {o : Oper} (ho : ops[i]? = some o) (hi : i ≤ ss.length) (hLi : L i = false) (hbits : ∀ j, Nat.testBit (bs.getD i 0) j = true → L j = true) (x : FamL ι L loc) (hg : GL sm (dsAt d0 ss p).c.next (M x))
    {vs : List AV} (hvs : evOs sm (dsAt d0 ss i).tm (opnds o.op) = some vs) : Rs (dsAt d0 ss p).c.next (M x) ν vs ((opnds o.op).map a.eval) := by
  have key : ∀ (l : List Operand) (vs : List AV), (∀ q, q ∈ l → q ∈ opnds o.op) → evOs sm (dsAt d0 ss i).tm l = some vs → Rs (dsAt d0 ss p).c.next (M x) ν vs (l.map a.eval) := by
    intro l
    induction l with
    | nil => intro vs _ he; cases he; exact Rs.nil
    | cons q l ihl =>
      intro vs hl he
      obtain ⟨v, h1, he⟩ := bnd_eq he
      obtain ⟨us, h2, he⟩ := bnd_eq he
      cases he
      refine Rs.cons ?_ (ihl us (fun q hq => hl q (List.mem_cons_of_mem _ hq)) h2)
      have hq := hl q (List.mem_cons_self ..)
      cases q with
      | tmp t =>
        obtain ⟨y, hy, hr⟩ := I.reads C ho hi hLi hbits x (t := t) (List.mem_append_left _ (List.mem_flatMap.2 ⟨.tmp t, hq, List.mem_singleton.2 rfl⟩)) h1
        simp only [Act.eval, Array.getD_eq_getD_getElem?, hy, Option.getD_some]
        exact hr
      | const c => exact ofVal_R h1
      | global g =>
        simp only [evO, bcond] at h1
        split at h1
        · rename_i hlt
          cases h1
          obtain ⟨k1, k2, k3⟩ := hg g (by simpa [Nat.blt_eq] using hlt)
          simp only [R, Act.eval]
          exact ⟨k1, by rw [k2, k3]⟩
        · cases h1
      | func f =>
        cases h1
        simp only [R, Act.eval]
        exact ⟨_, _, _, rfl, rfl, Rs.nil, Rs.nil⟩
  exact key _ _ (fun _ h => h) hvs
theorem INV.list {m0 : ι → Mu} {h0 : H} {w0 : World} {L : Nat → Bool} {loc : Nat → Loc} {p : Nat} {M : FamL ι L loc → Mu} {a : Act} {w : World} (I : INV P ν ops nt base bs d0 ss ex m0 h0 w0 L loc p M a w)
    {i : Nat} {o : Oper} (ho : ops[i]? = some o) (hi : i < ss.length) (hLi : L i = false) (hbits : ∀ j, Nat.testBit (bs.getD i 0) j = true → L j = true) (hex : i + 1 = ss.length → ex = .normal)
    {loc' : Nat → Loc} (hloc : ∀ k, L k = true → loc' k = loc k) {p' : Nat} {M' : FamL ι (addL L i) loc' → Mu} {a' : Act} {w' : World} {v : AV} {y : Value}
    (hr : ∀ x : FamL ι (addL L i) loc', ∃ x0 : FamL ι L loc, x0.1 = x.1 ∧ Agree (dsAt d0 ss p).c.next (M x0) (M' x))
    (pK : p' ≤ ss.length) (hwp : ∀ k ok, ops[k]? = some ok → isW P ok.op = true → (addL L i k = true ↔ k < p'))
    (hab : ∀ k, Nat.testBit (dsAt d0 ss p').ab k = true → addL L i k = true)
    (hdead : ∀ k, k < ops.size → Nat.testBit (dsAt d0 ss p').ab k = false → (dsAt d0 ss p').c.t.get (base + k) = none)
    (hn : (dsAt d0 ss p).c.next ≤ (dsAt d0 ss p').c.next)
    (hpost : ∀ x, Post ν (m0 x.1.1) h0 w0 (M' x) (HL base (dsAt d0 ss ss.length).objs (addL L i) (dsAt d0 ss p').ab (dsAt d0 ss p').c) w')
    (ha : a'.tmps = (a.put o.dst y).tmps) (htm : ∀ u, (dsAt d0 ss (i + 1)).tm.get u = if o.dst = some u ∧ u < nt then some v else (dsAt d0 ss i).tm.get u) (hd0 : ∀ t v, d0.tm.get t = some v → t < nt)
    (hv : ∀ x, R (dsAt d0 ss p').c.next (M' x) ν v y) (hdr : ∀ x, DsR (dsAt d0 ss p').c.next (M' x) ν (dsAt d0 ss p').df a'.defers) :
    INV P ν ops nt base bs d0 ss ex m0 h0 w0 (addL L i) loc' p' M' a' w' := by
  have hadd : ∀ k, addL L i k = true ↔ k = i ∨ L k = true := fun k => by
    unfold addL
    by_cases e : k = i
    · simp [e]
    · simp [e]
  have hsz : a'.tmps.size = nt := by rw [ha, ← I.tsz]; cases o.dst <;> simp [Act.put]
  refine ⟨pK, fun k hk => ?_, fun k hk => ?_, hwp, fun k hk j hj => ?_, hab, hdead, Nat.le_trans I.nxt hn, fun x k hk => ?_, hpost, hsz, fun x t q v' hq hcond hget => ?_, hdr⟩
  · rcases (hadd k).1 hk with rfl | hk
    · exact hi
    · exact I.LK k hk
  · rcases (hadd k).1 hk with rfl | hk
    · exact hex
    · exact I.Lex k hk
  · rcases (hadd k).1 hk with rfl | hk
    · exact (hadd j).2 (.inr (hbits j hj))
    · exact (hadd j).2 (.inr (I.clos k hk j hj))
  · obtain ⟨x0, e, hag⟩ := hr x
    have hnx := I.nxt
    rw [hag (base + k) (by omega), I.num x0 k hk, e]
  · -- temporaries
    obtain ⟨x0, ex0, hag⟩ := hr x
    by_cases hdt : o.dst = some t
    · -- it is this operation's own
      have hiq : i < q := (hcond i o ho hdt).1 ((hadd i).2 (.inl rfl))
      have htl : t < nt := by
        rcases Nat.lt_or_ge t nt with h | h
        · exact h
        · rw [C.tm_big h q hq] at hget
          exact hd0 t v' hget
      have hs := C.tm_same (p := i + 1) (t := t) q (by omega) hq (fun k ok h1 h2 h3 hdk => by
        have hLk := (hcond k ok h3 hdk).2 h2
        rcases (hadd k).1 hLk with e | hLk
        · omega
        · have hc : clash ops o ok = true := by
            simp only [clash, Bool.or_eq_true]
            left
            simp only [meet, hdt, hdk, dstL, List.any_cons, List.any_nil, Bool.or_false, List.any_eq_true]
            exact ⟨t, by simp, Nat.beq_refl t⟩
          have := C.wait ho h3 (by omega) (by simp [hc])
          have := I.clos k hLk i this
          rw [hLi] at this; cases this)
      rw [hs, htm, if_pos ⟨hdt, htl⟩] at hget
      cases hget
      refine ⟨y, ?_, hv x⟩
      rw [ha, hdt]
      simp only [Act.put]
      rw [Array.getElem?_setIfInBounds_self_of_lt (by rw [I.tsz]; exact htl)]
    · obtain ⟨z, hz, hrz⟩ := I.tr x0 t q v' hq (fun k ok h1 h2 => by
        have := hcond k ok h1 h2
        rw [← this, hadd]
        constructor
        · exact .inr
        · rintro (e | h)
          · subst e; rw [ho] at h1; cases h1; exact absurd h2 hdt
          · exact h) hget
      refine ⟨z, ?_, hrz.mono hn hag⟩
      rw [ha]
      cases hd : o.dst with
      | none => exact hz
      | some d =>
        simp only [Act.put]
        rw [Array.getElem?_setIfInBounds_ne (fun e => hdt (by rw [hd, e]))]
        exact hz
theorem HL_same {L : Nat → Bool} {i : Nat} {p p' : Nat} (hc : (dsAt d0 ss p').c = (dsAt d0 ss p).c) (hab : (dsAt d0 ss p').ab = (dsAt d0 ss p).ab) (hlk : lk (dsAt d0 ss ss.length).objs i = none) (b : Nat) :
    (HL base (dsAt d0 ss ss.length).objs (addL L i) (dsAt d0 ss p').ab (dsAt d0 ss p').c).t.get b = (HL base (dsAt d0 ss ss.length).objs L (dsAt d0 ss p).ab (dsAt d0 ss p).c).t.get b := by
  rw [HL_get, HL_get, hc, hab]
  by_cases hb : b - base = i
  · rw [hb]
    have : ∀ (q : Prop) [Decidable q], (if q then lk (dsAt d0 ss ss.length).objs i else none) = none := fun q _ => by rw [hlk]; split <;> rfl
    rw [this, this]
  · have : addL L i (b - base) = L (b - base) := by unfold addL; rw [if_neg hb]
    rw [this]
theorem TC.noObj {i : Nat} (hi : i < ss.length) (he : (dsAt d0 ss (i + 1)).objs = (dsAt d0 ss i).objs) : lk (dsAt d0 ss ss.length).objs i = none := by
  rw [← C.lk_of (q := i + 1) hi (Nat.lt_succ_self i), he]
  cases h : lk (dsAt d0 ss i).objs i with
  | none => rfl
  | some o => have := (C.lk_lt i (by omega) h).1; omega
end
def cnt (f : Nat → Bool) : Nat → Nat
  | 0 => 0
  | n + 1 => cnt f n + if f n = true then 1 else 0
theorem cnt_zero {f : Nat → Bool} : ∀ {n : Nat}, cnt f n = 0 → ∀ k, k < n → f k = false
  | 0, _, k, h => by omega
  | n + 1, h0, k, h => by
    simp only [cnt] at h0
    by_cases hf : f n = true
    · rw [if_pos hf] at h0; omega
    · rw [if_neg hf] at h0
      by_cases e : k = n
      · subst e; simpa using hf
      · exact cnt_zero (f := f) (n := n) (by omega) k (by omega)
theorem cnt_same {f g : Nat → Bool} : ∀ {n : Nat}, (∀ k, k < n → g k = f k) → cnt g n = cnt f n
  | 0, _ => rfl
  | n + 1, h => by simp only [cnt, h n (Nat.lt_succ_self n), cnt_same (n := n) (fun k hk => h k (by omega))]
theorem cnt_less {f g : Nat → Bool} {i : Nat} (h1 : ∀ k, k ≠ i → g k = f k) (h2 : f i = true) (h3 : g i = false) : ∀ {n : Nat}, i < n → cnt g n + 1 = cnt f n
  | 0, h => by omega
  | n + 1, h => by
    simp only [cnt]
    by_cases e : i = n
    · subst e
      rw [cnt_same (f := f) (g := g) (n := i) (fun k hk => h1 k (by omega)), h2, h3]
      simp
    · have := cnt_less h1 h2 h3 (n := n) (by omega)
      rw [h1 n (fun q => e q.symm)]
      omega
section
variable {P : Program} {sm : Sum} {TT : Tells} {ν : Nat → Value} {ι : Type} {ih : Job → Option Out} {ops : Array Oper} {nt base : Nat} {rd : Bool} {bs : List Nat} {d0 : DS} {ss : List DS} {ex : Ex}
theorem isA_notW {o : Op} (h : isA P o = true) : isW P o = false := by
  cases o with
  | convert s d x =>
    simp only [isA] at h
    split at h
    · rename_i e1 e2
      simp only [isW, e1]
    · cases h
  | _ => first | rfl | cases h
theorem Post.reserve {m m' : Mu} {h h' : H} {w : World} (hs : SR m ν h w) (hag : Agree h.next m m') (hn : h.next ≤ h'.next) (hg : ∀ b o, h'.t.get b = some o → h.t.get b = some o) : Post ν m h w m' h' w where
  agree := hag
  next := hn
  sr := ⟨fun b o hb => by
      obtain ⟨q1, q2⟩ := hs.obj b o (hg b o hb)
      exact ⟨Nat.lt_of_lt_of_le q1 hn, q2.mono hn hag q1⟩, fun b b' o o' hb hb' e => by
      rw [hag b (hs.obj b o (hg b o hb)).1, hag b' (hs.obj b' o' (hg b' o' hb')).1] at e
      exact hs.inj b b' o o' (hg b o hb) (hg b' o' hb') e⟩
  size := Nat.le_refl _
  frame := fun _ _ _ => rfl
  live := fun b o hb hw => .inl ⟨b, o, hg b o hb, hw, by rw [hag b (hs.obj b o (hg b o hb)).1]⟩
  org := fun b o hb => .inl ⟨b, o, hg b o hb, by rw [hag b (hs.obj b o (hg b o hb)).1]⟩
  keys := fun b o hb => .inl ⟨o, hg b o hb⟩
  env := SameEnv.refl w
theorem any_ok [hne : Nonempty ι] (hok : OkSum P sm TT ν) (hν : ∀ k, (ν k).oneCell' = true) (hih : ∀ j o, ih j = some o → OutOK P sm ν j o) {ro : Option Nat} (hro : ro.isSome = rd) (C : TC P sm ih ops nt base rd bs d0 ss ex)
    {m0 : ι → Mu} {h0 : H} {w0 : World} (hbase : h0.next = base) (hgl : ∀ i, GL sm h0.next (m0 i)) (hd0 : ∀ t v, d0.tm.get t = some v → t < nt)
    (hpan : ex ≠ .normal → ∀ j, ss.length ≤ j → j < ops.size → Nat.testBit (bs.getD j 0) (ss.length - 1) = true)
    {Q : Exit → Act → World → Prop}
    (hQn : ∀ L loc p M a w, INV (ι := ι) P ν ops nt base bs d0 ss ex m0 h0 w0 L loc p M a w → (∀ k, k < ops.size → L k = true) → Q .normal a w)
    (hQp : ∀ c, ex = .pan c → ∀ L loc p M a w, INV (ι := ι) P ν ops nt base bs d0 ss ex m0 h0 w0 L loc p M a w → ∀ ch w' (m' : FamL ι L loc → Mu), (∀ x, Post ν (M x) (HL base (dsAt d0 ss ss.length).objs L (dsAt d0 ss p).ab (dsAt d0 ss p).c) w (m' x) (dsAt d0 ss ss.length).c w') →
      (∀ x, ChR (dsAt d0 ss ss.length).c.next (m' x) ν c ch) → (dsAt d0 ss ss.length).df = (dsAt d0 ss p).df → Q (.panic ch) a w') :
    ∀ (fuel : Nat) (listed : Array Bool) (L : Nat → Bool) (loc : Nat → Loc) (p : Nat) (M : FamL ι L loc → Mu) (a : Act) (w : World), INV P ν ops nt base bs d0 ss ex m0 h0 w0 L loc p M a w → listed.size = ops.size →
      (∀ k, k < ops.size → listed.getD k false = L k) → cnt (fun k => !L k) ops.size ≤ fuel → wpAnyIn (FW ro) 0 P .any ops Q fuel listed a w := by
  have ready_nil : ∀ (listed : Array Bool) (L : Nat → Bool), listed.size = ops.size → (∀ k, k < ops.size → listed.getD k false = L k) → Region.ready .any ops listed = [] → ∀ k, k < ops.size → L k = true := by
    intro listed L hsz hL hr
    have key : ∀ n k, k < n → k < ops.size → L k = true := by
      intro n
      induction n with
      | zero => intro k h; omega
      | succ n ihn =>
        intro k h hk
        by_cases e : k < n
        · exact ihn k e hk
        · have hk' : k = n := by omega
          subst hk'
          cases hLk : L k with
          | true => rfl
          | false =>
            have hmem : k ∈ Region.ready .any ops listed := by
              rw [mem_ready]
              refine ⟨?_, ops[k], Array.getElem?_eq_getElem hk, fun e he hb => ?_⟩
              · have := hL k hk
                rw [hLk] at this
                rw [Array.getD_eq_getD_getElem?] at this ⊢
                rw [Array.getElem?_eq_getElem (by omega)] at this ⊢
                exact this
              · have hlt := C.edge (Array.getElem?_eq_getElem hk) he hb
                rw [hL e.on (by omega)]
                exact ihn e.on hlt (by omega)
            rw [hr] at hmem
            cases hmem
    intro k hk
    exact key (k + 1) k (Nat.lt_succ_self k) hk
  intro fuel
  induction fuel with
  | zero =>
    intro listed L loc p M a w I hsz hL hc
    have hall : ∀ k, k < ops.size → L k = true := fun k hk => by
      have := cnt_zero (Nat.le_zero.1 hc) k hk
      simpa using this
    refine ⟨?_, hQn L loc p M a w I hall⟩
    cases hr : Region.ready .any ops listed with
    | nil => rfl
    | cons i rs =>
      have hmem : i ∈ Region.ready .any ops listed := by rw [hr]; exact List.mem_cons_self ..
      obtain ⟨h1, o, ho, -⟩ := mem_ready.1 hmem
      have hi : i < ops.size := (Array.getElem?_eq_some_iff.1 ho).1
      have h2 := hL i hi
      rw [hall i hi] at h2
      rw [Array.getD_eq_getD_getElem?] at h1 h2
      rw [Array.getElem?_eq_getElem (by omega)] at h1 h2
      simp only [Option.getD_some] at h1 h2
      rw [h1] at h2
      cases h2
  | succ fuel ihf =>
    intro listed L loc p M a w I hsz hL hc
    refine ⟨fun hr => hQn L loc p M a w I (ready_nil listed L hsz hL hr), fun i hi => ?_⟩
    obtain ⟨h1, o, ho, hedges⟩ := mem_ready.1 hi
    have hiN : i < ops.size := (Array.getElem?_eq_some_iff.1 ho).1
    have hLi : L i = false := by
      rw [← hL i hiN]
      rw [Array.getD_eq_getD_getElem?] at h1 ⊢
      rw [Array.getElem?_eq_getElem (by omega)] at h1 ⊢
      exact h1
    have hbits : ∀ j, Nat.testBit (bs.getD i 0) j = true → L j = true := fun j hj => by
      obtain ⟨e, he, hb, hlt, h⟩ := (C.bit ho j).1 hj
      have hLe : L e.on = true := by
        rw [← hL e.on (by omega)]
        exact hedges e (by simpa using he) hb
      rcases h with h | h
      · rw [← h]; exact hLe
      · exact I.clos e.on hLe j h
    have hiK : i < ss.length := by
      by_cases hex : ex = .normal
      · rw [C.normN hex]; exact hiN
      · rcases Nat.lt_or_ge i ss.length with h | h
        · exact h
        · have h2 := hbits _ (hpan hex i h hiN)
          have h3 := C.pos hex
          exact absurd (I.Lex _ h2 (by omega)) hex
    obtain ⟨o', e, ho', hst, he1, he2⟩ := C.step hiK
    rw [ho] at ho'
    cases ho'
    obtain ⟨p, M, I, hpi⟩ : ∃ (p' : Nat) (M' : FamL ι L loc → Mu), INV P ν ops nt base bs d0 ss ex m0 h0 w0 L loc p' M' a w ∧ (isW P o.op = true → p' = i) := by
      cases hW : isW P o.op with
      | false => exact ⟨p, M, I, fun h => by cases h⟩
      | true => exact ⟨i, M, I.rebase C ho hW (Nat.le_of_lt hiK) hLi hbits, fun _ => rfl⟩
    have hneF : Nonempty (FamL ι L loc) := FamL.ne L loc
    have hglx : ∀ x, GL sm (dsAt d0 ss p).c.next (M x) := fun x => by
      have h2 := (I.post x).next
      rw [HL_next] at h2
      exact (hgl x.1.1).mono h2 (I.post x).agree
    have hadd : ∀ k, addL L i k = true ↔ k = i ∨ L k = true := fun k => by
      unfold addL
      by_cases e : k = i
      · simp [e]
      · simp [e]
    have hcnt : cnt (fun k => !addL L i k) ops.size ≤ fuel := by
      have := cnt_less (f := fun k => !L k) (g := fun k => !addL L i k) (i := i) (fun k hk => by simp [addL, hk]) (by simp [hLi]) (by simp [addL]) hiN
      omega
    have hsz' : (listed.setIfInBounds i true).size = ops.size := by simp [hsz]
    have hL' : ∀ k, k < ops.size → (listed.setIfInBounds i true).getD k false = addL L i k := fun k hk => by
      unfold addL
      by_cases e : k = i
      · subst e
        rw [if_pos rfl, Array.getD_eq_getD_getElem?, Array.getElem?_setIfInBounds_self_of_lt (by omega)]; rfl
      · rw [if_neg e, getD_set_ne false (fun q => e q.symm), hL k hk]
    have hwp : isW P o.op = false → ∀ k ok, ops[k]? = some ok → isW P ok.op = true → (addL L i k = true ↔ k < p) := fun hnW k ok hk hw => by
      rw [hadd, ← I.wch k ok hk hw]
      constructor
      · rintro (e | h)
        · subst e; rw [ho] at hk; cases hk; rw [hnW] at hw; cases hw
        · exact h
      · exact .inr
    have hwp' : isW P o.op = true → ∀ k ok, ops[k]? = some ok → isW P ok.op = true → (addL L i k = true ↔ k < i + 1) := fun hWi k ok hk hw => by
      have hp := hpi hWi
      rw [hadd, I.wch k ok hk hw, hp]
      omega
    have lower : ∀ {loc' : Nat → Loc}, (∀ k, L k = true → loc' k = loc k) → ∀ x : FamL ι (addL L i) loc', ∀ k, L k = true → x.1.2 k = loc k := fun hl x k hk => (x.2 k ((hadd k).2 (.inr hk))).trans (hl k hk)
    unfold wpOpIn
    rw [ho]
    simp only
    generalize hd' : dsAt d0 ss (i + 1) = d' at hst
    cases hst with
    | no hw =>
      have hwant : Region.wanted o (yielded ops a.tmps) = false := by
        obtain ⟨x⟩ := hneF
        exact wanted_R (fun d v hg hv => I.reads C ho (Nat.le_of_lt hiK) hLi hbits x (by
          obtain ⟨j, want, g1, g2⟩ := hg
          simp only [readsA, g1, g2]
          exact List.mem_append_right _ (List.mem_singleton.2 rfl)) hv) hw
      rw [hwant]
      simp only [Bool.false_eq_true, if_false]
      refine ⟨fun _ _ => trivial, ?_⟩
      have hobj : lk (dsAt d0 ss ss.length).objs i = none := C.noObj hiK (by rw [hd']; rfl)
      have hchain : ∃ p', p' ≤ ss.length ∧ (∀ k ok, ops[k]? = some ok → isW P ok.op = true → (addL L i k = true ↔ k < p')) ∧ (dsAt d0 ss p').c = (dsAt d0 ss p).c ∧ (dsAt d0 ss p').ab = (dsAt d0 ss p).ab ∧ (dsAt d0 ss p').df = (dsAt d0 ss p).df := by
        cases hW : isW P o.op with
        | false => exact ⟨p, I.pK, hwp hW, rfl, rfl, rfl⟩
        | true =>
          refine ⟨i + 1, hiK, hwp' hW, ?_, ?_, ?_⟩ <;> rw [hd', hpi hW] <;> rfl
      obtain ⟨p', k1, k2, k3, k4, k5⟩ := hchain
      refine ihf _ (addL L i) loc p' (fun x => M ⟨x.1, lower (fun _ _ => rfl) x⟩) _ _ ?_ hsz' hL' hcnt
      refine I.list C ho hiK hLi hbits (fun h => (he2 h).symm) (loc' := loc) (fun _ _ => rfl) (v := .tup []) (y := undef) (fun x => ⟨⟨x.1, lower (fun _ _ => rfl) x⟩, rfl, Agree.refl _ _⟩) k1 k2 ?_ ?_ ?_ ?_ rfl ?_ hd0 ?_ ?_
      · intro k hk; rw [k4] at hk; exact (hadd k).2 (.inr (I.ab k hk))
      · rw [k3, k4]; exact I.dead
      · rw [k3]; exact Nat.le_refl _
      · intro x
        refine (I.post ⟨x.1, lower (fun _ _ => rfl) x⟩).sub ⟨by rw [HL_next, HL_next, k3], fun b ob hb => ?_⟩
        rw [HL_same C k3 k4 hobj] at hb
        exact hb
      · intro u; rw [hd', DS.put_get]
      · intro x; exact undef_R
      · intro x; rw [k3, k5, put_defers]; exact I.dr ⟨x.1, lower (fun _ _ => rfl) x⟩
    | mk hw vs hvs ha v h1 ob he hob =>
      have hwant : Region.wanted o (yielded ops a.tmps) = true := by
        obtain ⟨x⟩ := hneF
        exact wanted_R (fun d v hg hv => I.reads C ho (Nat.le_of_lt hiK) hLi hbits x (by
          obtain ⟨j, want, g1, g2⟩ := hg
          simp only [readsA, g1, g2]
          exact List.mem_append_right _ (List.mem_singleton.2 rfl)) hv) hw
      rw [hwant]
      simp only [if_true]
      have hnW := isA_notW ha
      obtain ⟨xx⟩ := hneF
      have hops : ∀ x, Rs (dsAt d0 ss p).c.next (M x) ν vs ((opnds o.op).map a.eval) := fun x => I.operands C ho (Nat.le_of_lt hiK) hLi hbits x (hglx x) hvs
      obtain ⟨sh, obA, g1, s, hexec, y, obj, w', hrun, hheap, henv, hmk⟩ := isA_run (w := w) hν ha he (hops xx)
      rw [g1] at he
      injection he with he
      injection he with hv0 hh1
      injection hv0 with hv0
      subst hh1
      have hob : ob = obA := by
        have : (T.set T.e (Nat.add base i) obA).get (Nat.add base i) = some ob := hob
        rw [T.get_set, if_pos rfl] at this
        exact (Option.some.inj this).symm
      subst hob
      have hnd : ∀ c, o.op ≠ .defer c := fun c hc => by rw [hc] at ha; cases ha
      refine ⟨fun _ _ => trivial, ?_⟩
      rw [show (FW ro).round = ro from rfl, Oper.semAt_eq _ _ _ hnd, hexec]
      simp only [Sem.run_bind, Sem.run_pure, hrun, Result.andThen_ok, Oper.uponIn_value]
      let loc' : Nat → Loc := fun k => if k = i then (w.heap.size, 0, osize obj) else loc k
      have hloc : ∀ k, L k = true → loc' k = loc k := fun k hk => by
        show (if k = i then _ else _) = _
        rw [if_neg]
        intro e; subst e; rw [hLi] at hk; cases hk
      have hplace : ∀ x : FamL ι (addL L i) loc', M ⟨x.1, lower hloc x⟩ (base + i) = (w.heap.size, 0, osize obj) := fun x => by
        rw [I.num ⟨x.1, lower hloc x⟩ i hiN]
        have := x.2 i ((hadd i).2 (.inl rfl))
        rw [this]
        exact if_pos rfl
      have hnx := I.nxt
      have hmade : ∀ x : FamL ι (addL L i) loc', OR (dsAt d0 ss p).c.next (M ⟨x.1, lower hloc x⟩) ν w' (base + i) ob ∧ R (dsAt d0 ss p).c.next (M ⟨x.1, lower hloc x⟩) ν (sh (base + i)) y := fun x =>
        hmk _ _ (base + i) (by omega) (hops ⟨x.1, lower hloc x⟩) (hplace x)
      have hlki : lk (dsAt d0 ss ss.length).objs i = some ob := by
        rw [← C.lk_of (q := i + 1) hiK (Nat.lt_succ_self i), hd']
        show lk ((dsAt d0 ss i).objs ++ [(i, ob)]) i = some ob
        rw [lk_snoc, if_pos rfl]
      have habi : Nat.testBit (dsAt d0 ss p).ab i = false := by
        cases h : Nat.testBit (dsAt d0 ss p).ab i with
        | false => rfl
        | true => have := I.ab i h; rw [hLi] at this; cases this
      refine ihf _ (addL L i) loc' p (fun x => M ⟨x.1, lower hloc x⟩) _ _ ?_ hsz' hL' hcnt
      refine I.list C ho hiK hLi hbits (fun h => (he2 h).symm) hloc (v := v) (y := y) (fun x => ⟨⟨x.1, lower hloc x⟩, rfl, Agree.refl _ _⟩) I.pK (hwp hnW) ?_ I.dead (Nat.le_refl _) ?_ rfl ?_ hd0 ?_ ?_
      · intro k hk; exact (hadd k).2 (.inr (I.ab k hk))
      · intro x
        refine Post.lay (I.post ⟨x.1, lower hloc x⟩) (b := base + i) (o := ob) (ob := obj) (by omega) (by rw [HL_next]; omega) ?_ (by rw [hplace x]) hheap (by rw [HL_next]; exact (hmade x).1) (by rw [HL_next, HL_next]) ?_ henv
        · rw [HL_get, if_neg (by rw [show base + i - base = i from by omega, hLi]; simp)]
          exact I.dead i hiN habi
        · intro b' z hz
          rw [HL_get] at hz
          rw [HL_get]
          by_cases hb : base ≤ b' ∧ b' - base = i
          · rw [if_pos ⟨hb.1, by rw [hb.2]; exact (hadd i).2 (.inl rfl), by rw [hb.2]; exact habi⟩, hb.2, hlki] at hz
            cases hz
            exact .inl ⟨by omega, rfl⟩
          · right
            by_cases hb2 : base ≤ b'
            · have hne2 : b' - base ≠ i := fun e => hb ⟨hb2, e⟩
              have : addL L i (b' - base) = L (b' - base) := by unfold addL; rw [if_neg hne2]
              rw [this] at hz
              exact hz
            · rw [if_neg (fun q => hb2 q.1)] at hz ⊢
              exact hz
      · intro u; rw [hd', DS.put_get]
      · intro x; rw [show v = sh (base + i) from hv0.symm]; exact (hmade x).2
      · intro x; rw [put_defers]; exact I.dr ⟨x.1, lower hloc x⟩
    | rd hw vs hvs ha hnW v h1 he =>
      have hwant : Region.wanted o (yielded ops a.tmps) = true := by
        obtain ⟨x⟩ := hneF
        exact wanted_R (fun d v hg hv => I.reads C ho (Nat.le_of_lt hiK) hLi hbits x (by
          obtain ⟨j, want, g1, g2⟩ := hg
          simp only [readsA, g1, g2]
          exact List.mem_append_right _ (List.mem_singleton.2 rfl)) hv) hw
      rw [hwant]
      simp only [if_true]
      have hbsi : bs[i]? = some (bs.getD i 0) := by
        have hb : i < bs.length := by rw [C.bsN]; exact hiN
        rw [List.getD_eq_getElem?_getD, List.getElem?_eq_getElem hb]; rfl
      have hstab := stabs_spec C.stab i o (bs.getD i 0) hiK (C.at_ ho) hbsi
      rw [Nat.zero_add] at hstab
      simp only [stab1, ha, hnW, Bool.false_or, hw, hvs, he, lastD_at] at hstab
      have hsame := C.reads I.pK I.wch I.clos hLi hbits hstab
      obtain ⟨h1', hev⟩ := sameV_eq hsame
      have := reads_h ha hnW hev
      subst this
      have hsub : SubH (over base (dsAt d0 ss p).ab (bs.getD i 0) (dsAt d0 ss ss.length).objs (dsAt d0 ss p).c) (HL base (dsAt d0 ss ss.length).objs L (dsAt d0 ss p).ab (dsAt d0 ss p).c) :=
        sub_over hbits (fun _ _ => rfl) (fun k ob h => C.lkN h) I.dead
      refine oper_ok (ι := FamL ι L loc) (m := M) (rd := rd) (res := .val v (over base (dsAt d0 ss p).ab (bs.getD i 0) (dsAt d0 ss ss.length).objs (dsAt d0 ss p).c)) hok hν hih (fun x => (I.post x).sr.sub hsub) (fun x => by rw [over_next]; exact hglx x) (fun x => by rw [over_next]; exact I.operands C ho (Nat.le_of_lt hiK) hLi hbits x (hglx x) hvs) hev rfl hro ?_ ?_ ?_
      · intro v2 h2 hres x w' m' pp qq
        cases hres
        have hobj : lk (dsAt d0 ss ss.length).objs i = none := C.noObj hiK (by rw [hd']; rfl)
        have hag : ∀ x, Agree (dsAt d0 ss p).c.next (M x) (m' x) := fun x => by have := (pp x).agree; rw [over_next] at this; exact this
        refine ihf _ (addL L i) loc p (fun x => m' ⟨x.1, lower (fun _ _ => rfl) x⟩) _ _ ?_ hsz' hL' hcnt
        refine I.list C ho hiK hLi hbits (fun h => (he2 h).symm) (loc' := loc) (fun _ _ => rfl) (v := v) (y := x) (fun x => ⟨⟨x.1, lower (fun _ _ => rfl) x⟩, rfl, hag _⟩) I.pK (hwp hnW) ?_ I.dead (Nat.le_refl _) ?_ rfl ?_ hd0 ?_ ?_
        · intro k hk; exact (hadd k).2 (.inr (I.ab k hk))
        · intro x
          refine (I.post ⟨x.1, lower (fun _ _ => rfl) x⟩).trans (Post.ext (pp _) (I.post _).sr hsub (by rw [HL_next, over_next]) fun b ob hb => ?_)
          rw [HL_same C rfl rfl hobj] at hb
          cases hh : (over base (dsAt d0 ss p).ab (bs.getD i 0) (dsAt d0 ss ss.length).objs (dsAt d0 ss p).c).t.get b with
          | none => exact .inr ⟨rfl, hb⟩
          | some o2 =>
            have := hsub.2 b o2 hh
            rw [hb] at this
            cases this
            exact .inl rfl
        · intro u; rw [hd', DS.put_get]
        · intro x; have := qq ⟨x.1, lower (fun _ _ => rfl) x⟩; rw [over_next] at this; exact this
        · intro x; rw [put_defers]; exact (I.dr ⟨x.1, lower (fun _ _ => rfl) x⟩).mono (Nat.le_refl _) (hag _)
      · intro d h2 hres; cases hres
      · intro c h2 hres; cases hres
    | wr hw vs hvs ha hW nx h1 res he hres =>
      have hp := hpi hW
      subst hp
      have hwant : Region.wanted o (yielded ops a.tmps) = true := by
        obtain ⟨x⟩ := hneF
        exact wanted_R (fun d v hg hv => I.reads C ho (Nat.le_of_lt hiK) hLi hbits x (by
          obtain ⟨j, want, g1, g2⟩ := hg
          simp only [readsA, g1, g2]
          exact List.mem_append_right _ (List.mem_singleton.2 rfl)) hv) hw
      rw [hwant]
      simp only [if_true]
      have hobj : lk (dsAt d0 ss ss.length).objs p = none := C.noObj hiK (by rw [hd'])
      have hsub : SubH (over base (dsAt d0 ss p).ab (bs.getD p 0) (dsAt d0 ss p).objs (dsAt d0 ss p).c) (HL base (dsAt d0 ss ss.length).objs L (dsAt d0 ss p).ab (dsAt d0 ss p).c) :=
        sub_over hbits (fun j hj => C.lk_of (Nat.le_of_lt hiK) (C.bit_lt hj)) (fun k ob h => C.lkN h) I.dead
      have hH1n := over_next (base := base) (dsAt d0 ss p).ab (bs.getD p 0) (dsAt d0 ss p).objs (dsAt d0 ss p).c
      have goOn : ∀ (h2 : H) (m' : FamL ι L loc → Mu) (a' : Act) (w' : World) (v : AV) (y : Value), (dsAt d0 ss (p + 1)).c = h2 → (dsAt d0 ss (p + 1)).ab = Nat.lor (dsAt d0 ss p).ab (bs.getD p 0) → (p + 1 = ss.length → ex = .normal) →
          (∀ x, Post ν (M x) (over base (dsAt d0 ss p).ab (bs.getD p 0) (dsAt d0 ss p).objs (dsAt d0 ss p).c) w (m' x) h2 w') → (∀ x, R h2.next (m' x) ν v y) → (∀ u, (dsAt d0 ss (p + 1)).tm.get u = if o.dst = some u ∧ u < nt then some v else (dsAt d0 ss p).tm.get u) →
          a'.tmps = (a.put o.dst y).tmps → (∀ x, DsR h2.next (m' x) ν (dsAt d0 ss (p + 1)).df a'.defers) → wpAnyIn (FW ro) 0 P .any ops Q fuel (listed.setIfInBounds p true) a' w' := by
        intro h2 m' a' w' v y hc2 hab2 hex pp qq htm hta hdr
        obtain ⟨xx⟩ := hneF
        have hnx := I.nxt
        have hn2 : (dsAt d0 ss p).c.next ≤ h2.next := by have := (pp xx).next; rw [hH1n] at this; exact this
        have hbn : ∀ k, Nat.testBit (dsAt d0 ss (p + 1)).ab k = true ↔ (Nat.testBit (dsAt d0 ss p).ab k = true ∨ Nat.testBit (bs.getD p 0) k = true) := fun k => by rw [hab2, tb_or, Bool.or_eq_true]
        have hbf : ∀ k, Nat.testBit (dsAt d0 ss (p + 1)).ab k = false → Nat.testBit (dsAt d0 ss p).ab k = false ∧ Nat.testBit (bs.getD p 0) k = false := fun k hk => by
          rw [hab2, tb_or, Bool.or_eq_false_iff] at hk; exact hk
        have hH1 : ∀ k, k < ops.size → Nat.testBit (dsAt d0 ss (p + 1)).ab k = false → (over base (dsAt d0 ss p).ab (bs.getD p 0) (dsAt d0 ss p).objs (dsAt d0 ss p).c).t.get (base + k) = none := fun k hk hkb => by
          obtain ⟨z1, z2⟩ := hbf k hkb
          rw [over_get, if_neg (by rw [show base + k - base = k from by omega, z2]; simp)]
          exact I.dead k hk z1
        refine ihf _ (addL L p) loc (p + 1) (fun x => m' ⟨x.1, lower (fun _ _ => rfl) x⟩) _ _ ?_ hsz' hL' hcnt
        refine I.list C ho hiK hLi hbits hex (loc' := loc) (fun _ _ => rfl) (v := v) (y := y) (fun x => ⟨⟨x.1, lower (fun _ _ => rfl) x⟩, rfl, by have := (pp ⟨x.1, lower (fun _ _ => rfl) x⟩).agree; rw [hH1n] at this; exact this⟩) hiK (hwp' hW) ?_ ?_ ?_ ?_ hta htm hd0 ?_ ?_
        · intro k hk
          rcases (hbn k).1 hk with h | h
          · exact (hadd k).2 (.inr (I.ab k h))
          · exact (hadd k).2 (.inr (hbits k h))
        · intro k hk hkb
          rw [hc2]
          cases hh : h2.t.get (base + k) with
          | none => rfl
          | some o2 =>
            rcases (pp xx).keys _ _ hh with ⟨o3, h3⟩ | h3
            · rw [hH1 k hk hkb] at h3; cases h3
            · rw [hH1n] at h3; omega
        · rw [hc2]; exact hn2
        · intro x
          refine (I.post ⟨x.1, lower (fun _ _ => rfl) x⟩).trans (Post.ext (pp _) (I.post _).sr hsub (by rw [HL_next, hc2]) fun b ob hb => ?_)
          rw [HL_get] at hb
          by_cases hsel : base ≤ b ∧ (addL L p (b - base) = true ∧ Nat.testBit (dsAt d0 ss (p + 1)).ab (b - base) = false)
          · rw [if_pos hsel] at hb
            cases hl : lk (dsAt d0 ss ss.length).objs (b - base) with
            | none => rw [hl] at hb; rw [hc2] at hb; exact .inl hb
            | some o2 =>
              rw [hl] at hb
              cases hb
              have hkN := C.lkN hl
              have hkp : b - base ≠ p := fun e => by rw [e, hobj] at hl; cases hl
              have hLk : L (b - base) = true := by
                rcases (hadd _).1 hsel.2.1 with e | h
                · exact absurd e hkp
                · exact h
              refine .inr ⟨?_, ?_⟩
              · have := hH1 (b - base) hkN hsel.2.2
                rw [show base + (b - base) = b from by omega] at this
                exact this
              · rw [HL_get, if_pos ⟨hsel.1, hLk, (hbf _ hsel.2.2).1⟩, hl]
          · rw [if_neg hsel, hc2] at hb
            exact .inl hb
        · intro x; rw [hc2]; exact qq _
        · intro x; rw [hc2]; exact hdr _
      refine oper_ok (ι := FamL ι L loc) (m := M) (rd := rd) (res := res) hok hν hih (fun x => (I.post x).sr.sub hsub) (fun x => by rw [hH1n]; exact hglx x) (fun x => by rw [hH1n]; exact I.operands C ho (Nat.le_of_lt hiK) hLi hbits x (hglx x) hvs) he hres hro ?_ ?_ ?_
      · intro v h2 hr x w' m' pp qq
        subst hr
        refine goOn h2 m' _ w' v x (by rw [hd']; exact (S.put_h _ _ _).1) (by rw [hd']) (fun h => (he2 h).symm) pp qq (fun u => by rw [hd']; exact S.put_get _ _ _ _) rfl fun x => ?_
        have e1 : (dsAt d0 ss (p + 1)).df = (dsAt d0 ss p).df := by rw [hd']; exact (S.put_h _ _ _).2.2
        rw [e1, put_defers]
        have h3 := (pp x).next
        have h4 := (pp x).agree
        rw [hH1n] at h3 h4
        exact (I.dr x).mono h3 h4
      · intro d h2 hr hrd hh x qq
        subst hr
        subst hh
        refine goOn _ M _ w (.tup []) undef (by rw [hd']; exact (S.put_h _ _ _).1) (by rw [hd']) (fun h => (he2 h).symm) (fun x => Post.refl ((I.post x).sr.sub hsub)) (fun x => undef_R) (fun u => by rw [hd']; exact S.put_get _ _ _ _) (by cases o.dst <;> rfl) fun x0 => ?_
        have e1 : (dsAt d0 ss (p + 1)).df = d :: (dsAt d0 ss p).df := by rw [hd']; exact (S.put_h _ _ _).2.2
        rw [e1, put_defers, hH1n]
        have := qq x0
        rw [hH1n] at this
        exact ⟨x, _, rfl, this, I.dr x0⟩
      · intro c h2 hr ch w' m' pp qq
        subst hr
        have hKe : p + 1 = ss.length := by
          rcases Nat.lt_or_ge (p + 1) ss.length with h | h
          · have := he1 h; cases this
          · omega
        have hexc : ex = .pan c := (he2 hKe).symm
        have hcK : (dsAt d0 ss ss.length).c = h2 := by rw [← hKe, hd']; rfl
        refine hQp c hexc L loc p M a w I ch w' m' (fun x => ?_) (fun x => by rw [hcK]; exact qq x) (by rw [← hKe, hd']; rfl)
        rw [hcK]
        exact Post.ext (pp x) (I.post x).sr hsub rfl fun b ob hb => .inl hb
end
section
variable {P : Program} {sm : Sum} {TT : Tells} {ν : Nat → Value} {ι : Type} {ih : Job → Option Out}
theorem wipe_get : ∀ (l : List Oper) (tm : T AV) (t : Nat) (v : AV), (wipe l tm).get t = some v → tm.get t = some v ∧ ∀ o ∈ l, o.dst ≠ some t
  | [], tm, t, v, h => ⟨h, fun o ho => by cases ho⟩
  | o :: l, tm, t, v, h => by
    have h' : (wipe l (match o.dst with | some d => tm.put none d | none => tm)).get t = some v := h
    obtain ⟨h1, h2⟩ := wipe_get l _ t v h'
    cases hd : o.dst with
    | none =>
      rw [hd] at h1
      exact ⟨h1, fun o' ho' => by
        rcases List.mem_cons.1 ho' with rfl | ho'
        · rw [hd]; simp
        · exact h2 o' ho'⟩
    | some d =>
      rw [hd] at h1
      simp only [T.get_put] at h1
      split at h1
      · cases h1
      · rename_i hne
        exact ⟨h1, fun o' ho' => by
          rcases List.mem_cons.1 ho' with rfl | ho'
          · rw [hd]; intro e; cases e; exact hne rfl
          · exact h2 o' ho'⟩
theorem drawn_ok [hne : Nonempty ι] (hok : OkSum P sm TT ν) (hν : ∀ k, (ν k).oneCell' = true) (hmx : P.follows .mixedOrders = true) (hih : ∀ j o, ih j = some o → OutOK P sm ν j o) {rd : Bool} {ro : Option Nat} (hro : ro.isSome = rd) {id : Nat} {ops : Array Oper}
    {m : ι → Mu} {s s' : S} {e : Ex} {a : Act} {w : World} (st : ST sm m ν s a w) (he : drawn P sm ih rd ops s = some (e, s')) : (Code.region id ops true).wpIn (FW ro) 0 P (CP sm m ν s.h w e s') a w := by
  unfold drawn drawn0 at he
  obtain ⟨⟨ss, ex⟩, htr, he⟩ := bnd_eq he
  unfold drawn1 at he
  rw [bcond] at he
  split at he
  case isFalse => cases he
  rename_i hchk
  simp only [Bool.and_eq_true] at hchk
  generalize hd0 : (⟨s.tm, s.df, ⟨Nat.add s.h.next ops.size, s.h.t⟩, 0, []⟩ : DS) = d0 at *
  have C : TC P sm ih ops s.nt s.h.next rd (befs ops.toList []) d0 ss ex := ⟨rfl, by subst hd0; exact ⟨rfl, rfl⟩, htr, hchk.1, by subst hd0; exact hchk.2⟩
  have htm0 : ∀ t v, d0.tm.get t = some v → t < s.nt := fun t v h => by
    obtain ⟨i0⟩ := hne
    subst hd0
    obtain ⟨x, hx, -⟩ := (st.tr i0).2 t v h
    have := (Array.getElem?_eq_some_iff.1 hx).1
    rw [(st.tr i0).1] at this
    exact this
  let loc0 : Nat → Loc := fun _ => (0, 0, 0)
  let M0 : FamL ι (fun _ => false) loc0 → Mu := fun x b => if s.h.next ≤ b ∧ b < s.h.next + ops.size then x.1.2 (b - s.h.next) else m x.1.1 b
  have hag0 : ∀ x, Agree s.h.next (m x.1.1) (M0 x) := fun x b hb => by
    show (if _ then _ else _) = _
    rw [if_neg (by omega)]
  have I0 : INV P ν ops s.nt s.h.next (befs ops.toList []) d0 ss ex m s.h w (fun _ => false) loc0 0 M0 a { w with drawn := w.drawn + 1 } := by
    subst hd0
    refine ⟨Nat.zero_le _, fun k h => (by cases h), fun k h => (by cases h), fun k o _ _ => (by simp), fun k h => (by cases h), fun k h => ?_, fun k hk h => ?_, Nat.le_refl _, fun x k hk => ?_, fun x => ?_, ?_, fun x t q v hq hc hv => ?_, fun x => ?_⟩
    · simp at h
    · cases hh : s.h.t.get (s.h.next + k) with
      | none => exact hh
      | some o =>
        obtain ⟨i0⟩ := hne
        have := ((st.sr i0).obj _ o hh).1
        omega
    · show (if _ then _ else _) = _
      rw [if_pos (by omega), Nat.add_sub_cancel_left]
    · refine Post.heapR (w' := w) rfl (Post.reserve (st.sr x.1.1) (hag0 x) (by rw [HL_next]; exact Nat.le_add_right _ _) fun b o hb => ?_)
      rw [HL_get, if_neg (by simp)] at hb
      exact hb
    · obtain ⟨i0⟩ := hne
      exact (st.tr i0).1
    · have e1 := C.tm_same (p := 0) (t := t) q (Nat.zero_le _) hq fun k o h1 h2 h3 h4 => by
        have := (hc k o h3 h4).2 h2
        cases this
      rw [e1] at hv
      obtain ⟨y, hy, hr⟩ := (st.tr x.1.1).2 t v hv
      exact ⟨y, hy, hr.mono (Nat.le_add_right _ _) (hag0 x)⟩
    · exact (st.dr x.1.1).mono (Nat.le_add_right _ _) (hag0 x)
  refine wpIn_region_any hmx ?_
  have hcnt : cnt (fun k => !(false : Bool)) ops.size ≤ ops.size := by
    have : ∀ n, cnt (fun _ => !(false : Bool)) n ≤ n := fun n => by
      induction n with
      | zero => exact Nat.le_refl _
      | succ n ih => simp only [cnt]; simp; exact ih
    exact this _
  have hlast := lastD_at d0 ss
  refine any_ok (TT := TT) hok hν hih hro C (m0 := m) (h0 := s.h) (w0 := w) rfl st.gl htm0 ?_ ?_ ?_ ops.size _ (fun _ => false) loc0 0 M0 a _ I0 (by simp) (fun k hk => by simp [Array.getD_eq_getD_getElem?, hk]) hcnt
  · -- a panic: what comes later waits for it
    intro hne2 j hj hjN
    cases ex with
    | normal => exact absurd rfl hne2
    | pan c =>
      simp only [drawn2, bcond] at he
      split at he
      case isFalse => cases he
      rename_i hp
      simp only [panOk, Bool.and_eq_true] at hp
      have hpos := C.pos hne2
      have h2 := List.all_eq_true.1 hp.2
      have hjb : j < (befs ops.toList []).length := by rw [C.bsN]; exact hjN
      have := h2 ((befs ops.toList []).getD j 0) (by
        rw [List.mem_iff_getElem?]
        refine ⟨j - ss.length, ?_⟩
        rw [List.getElem?_drop, show Nat.succ (ss.length - 1) + (j - ss.length) = j from by omega, List.getD_eq_getElem?_getD, List.getElem?_eq_getElem hjb]; rfl)
      exact this
    | _ => cases he
  · intro L loc p M a' w' I hall
    have hexn : ex = .normal := by
      by_cases h : ex = .normal
      · exact h
      · have hpos := C.pos h
        exact I.Lex _ (hall (ss.length - 1) (by have := C.lenN; omega)) (by omega)
    subst hexn
    have hN := C.normN rfl
    simp only [drawn2] at he
    cases he
    rw [hlast]
    have hchain := C.same (p := p) ss.length I.pK (Nat.le_refl _) fun k o h1 h2 h3 => by
      cases hW : isW P o.op with
      | false => rfl
      | true =>
        have := (I.wch k o h3 hW).1 (hall k (by omega))
        omega
    obtain ⟨c1, c2, c3⟩ := hchain
    have hnx : (over s.h.next (dsAt d0 ss ss.length).ab (2 ^ ops.toList.length - 1) (dsAt d0 ss ss.length).objs (dsAt d0 ss ss.length).c).next = (dsAt d0 ss p).c.next := by rw [over_next, c1]
    have hsub : SubH (over s.h.next (dsAt d0 ss ss.length).ab (2 ^ ops.toList.length - 1) (dsAt d0 ss ss.length).objs (dsAt d0 ss ss.length).c) (HL s.h.next (dsAt d0 ss ss.length).objs L (dsAt d0 ss p).ab (dsAt d0 ss p).c) := by
      rw [c1, c2]
      exact sub_over (fun j hj => by
        rw [Nat.testBit_two_pow_sub_one] at hj
        exact hall j (by simpa using hj)) (fun _ _ => rfl) (fun k ob h => C.lkN h) I.dead
    refine ⟨fun i => M ⟨(i, loc), fun _ _ => rfl⟩, trivial, ?_, fun i => (I.post ⟨(i, loc), fun _ _ => rfl⟩).sub hsub⟩
    have hp : ∀ i, Post ν (m i) s.h w (M ⟨(i, loc), fun _ _ => rfl⟩) _ w' := fun i => (I.post ⟨(i, loc), fun _ _ => rfl⟩).sub hsub
    refine st.step hp (fun i => ?_) (fun i => ?_)
    · refine ⟨I.tsz, fun t v hv => ?_⟩
      simp only at hv ⊢
      rw [hnx]
      refine I.tr ⟨(i, loc), fun _ _ => rfl⟩ t ss.length v (Nat.le_refl _) (fun k o h1 h2 => ?_) hv
      have hk := (Array.getElem?_eq_some_iff.1 h1).1
      exact ⟨fun _ => by omega, fun _ => hall k hk⟩
    · simp only
      rw [hnx, c3]
      exact I.dr _
  · intro c hexc L loc p M a' w' I ch w2 m' pp qq hdf
    subst hexc
    simp only [drawn2, bcond] at he
    split at he
    case isFalse => cases he
    cases he
    rw [hlast]
    have hp : ∀ i, Post ν (m i) s.h w (m' ⟨(i, loc), fun _ _ => rfl⟩) (dsAt d0 ss ss.length).c w2 := fun i => (I.post ⟨(i, loc), fun _ _ => rfl⟩).trans (pp _)
    have hn : ∀ x, (dsAt d0 ss p).c.next ≤ (dsAt d0 ss ss.length).c.next := fun x => by have := (pp x).next; rw [HL_next] at this; exact this
    have hag : ∀ x, Agree (dsAt d0 ss p).c.next (M x) (m' x) := fun x => by have := (pp x).agree; rw [HL_next] at this; exact this
    refine ⟨fun i => m' ⟨(i, loc), fun _ _ => rfl⟩, fun i => qq _, st.step hp (fun i => ?_) (fun i => ?_), hp⟩
    · refine ⟨I.tsz, fun t v hv => ?_⟩
      simp only at hv ⊢
      obtain ⟨h1, h2⟩ := wipe_get _ _ _ _ hv
      obtain ⟨y, hy, hr⟩ := I.tr ⟨(i, loc), fun _ _ => rfl⟩ t 0 v (Nat.zero_le _) (fun k o hk hd => absurd hd (h2 o (by
        have := C.at_ hk
        exact List.mem_of_getElem? this))) (by subst hd0; exact h1)
      exact ⟨y, hy, hr.mono (hn ⟨(i, loc), fun _ _ => rfl⟩) (hag _)⟩
    · simp only
      rw [hdf]
      exact (I.dr ⟨(i, loc), fun _ _ => rfl⟩).mono (hn ⟨(i, loc), fun _ _ => rfl⟩) (hag _)
end
section
variable {P : Program} {sm : Sum} {TT : Tells} {ν : Nat → Value} {ι : Type} {ih : Job → Option Out}
theorem calm (ro : Option Nat) (m : Machine) : m.fenced P (FW ro) := by
  intro g _
  refine ⟨fun h => ?_, Or.inl trivial, fun _ _ => trivial, fun _ h => ?_⟩
  · simp [FW, Fence.wide] at h
  · simp [FW, Fence.wide] at h
theorem noLoop {ro : Option Nat} {c : Code} {Q : Exit → Act → World → Prop} {a : Act} {w : World} (h : c.wpIn (FW ro) 0 P Q a w) (hc : ∀ b, c ≠ .loop b) : c.wpIn (FW ro) 0 P Q a w ∧ ∀ b, c = .loop b → Arr (FW ro) P (.inLoop b) Q a w :=
  ⟨h, fun b e => absurd e (hc b)⟩
theorem CP.same {m : ι → Mu} {s : S} {a : Act} {w : World} {e : Ex} {E : Exit} (st : ST sm m ν s a w) (hE : ExR s.h.next m ν e E) : CP sm m ν s.h w e s E a w := ⟨m, hE, st, fun i => Post.refl (st.sr i)⟩
theorem CP.trans {m m1 : ι → Mu} {h : H} {s1 s2 : S} {w w1 : World} {e : Ex} {E : Exit} {a' : Act} {w' : World} (p : ∀ i, Post ν (m i) h w (m1 i) s1.h w1) (c : CP sm m1 ν s1.h w1 e s2 E a' w') : CP sm m ν h w e s2 E a' w' := by
  obtain ⟨m2, h1, h2, h3⟩ := c
  exact ⟨m2, h1, h2, fun i => (p i).trans (h3 i)⟩
theorem block_ok (hih : ∀ j o, ih j = some o → OutOK P sm ν j o) {rd : Bool} {id : Nat} {b : Code} {s s' : S} {e : Ex} {o1 : Out} (ho : ih (.code rd b s) = some o1) (he : jBlock id o1 = some (.code e s'))
    (hne : Nonempty ι) (m : ι → Mu) (ro : Option Nat) (a : Act) (w : World) (hro : ro.isSome = rd) (st : ST sm m ν s a w) : (Code.block id b).wpIn (FW ro) 0 P (CP sm m ν s.h w e s') a w := by
  have O := hih _ _ ho
  cases o1 with
  | code e1 s1 =>
    refine wpIn_block (wpIn_mono (O ι hne m ro a w hro st).1 fun E a1 w1 hc => ?_)
    obtain ⟨m1, hE, st1, p1⟩ := hc
    cases e1 with
    | exit i =>
      cases E with
      | exit j =>
        have hij : i = j := hE
        subst hij
        simp only [jBlock, bcond] at he
        simp only [Exit.inBlock]
        split at he
        · rename_i hb
          cases he
          have hb := of_beq hb
          rw [if_pos hb]
          exact ⟨m1, trivial, st1, p1⟩
        · rename_i hb
          cases he
          rw [if_neg (fun e => hb (beq_t e))]
          exact ⟨m1, rfl, st1, p1⟩
      | _ => exact hE.elim
    | normal => cases he; cases E <;> first | exact ⟨m1, hE, st1, p1⟩ | exact hE.elim
    | goto l => cases he; cases E <;> first | exact ⟨m1, hE, st1, p1⟩ | exact hE.elim
    | ret => cases he; cases E <;> first | exact ⟨m1, hE, st1, p1⟩ | exact hE.elim
    | pan c => cases he; cases E <;> first | exact ⟨m1, hE, st1, p1⟩ | exact hE.elim
  | _ => exact O.elim
theorem seq_ok (hih : ∀ j o, ih j = some o → OutOK P sm ν j o) {rd : Bool} {b c : Code} {s s' : S} {e : Ex} {o1 : Out} (ho : ih (.code rd b s) = some o1) (he : jSeq ih rd c o1 = some (.code e s'))
    (hne : Nonempty ι) (m : ι → Mu) (ro : Option Nat) (a : Act) (w : World) (hro : ro.isSome = rd) (st : ST sm m ν s a w) : (Code.seq b c).wpIn (FW ro) 0 P (CP sm m ν s.h w e s') a w := by
  have O := hih _ _ ho
  cases o1 with
  | code e1 s1 =>
    refine wpIn_seq (wpIn_mono (O ι hne m ro a w hro st).1 fun E a1 w1 hc => ?_)
    obtain ⟨m1, hE, st1, p1⟩ := hc
    cases e1 with
    | normal =>
      cases E with
      | normal => exact wpIn_mono (hih _ _ he ι hne m1 ro a1 w1 hro st1).1 fun E2 a2 w2 hc => hc.trans p1
      | _ => exact hE.elim
    | exit i => cases he; cases E <;> first | exact ⟨m1, hE, st1, p1⟩ | exact hE.elim
    | goto l => cases he; cases E <;> first | exact ⟨m1, hE, st1, p1⟩ | exact hE.elim
    | ret => cases he; cases E <;> first | exact ⟨m1, hE, st1, p1⟩ | exact hE.elim
    | pan c => cases he; cases E <;> first | exact ⟨m1, hE, st1, p1⟩ | exact hE.elim
  | _ => exact O.elim
theorem loop_ok (hih : ∀ j o, ih j = some o → OutOK P sm ν j o) {rd : Bool} {b : Code} {s s' : S} {e : Ex} {o1 : Out} (ho : ih (.code rd b s) = some o1) (he : jSeq ih rd (.loop b) o1 = some (.code e s'))
    (hne : Nonempty ι) (m : ι → Mu) (ro : Option Nat) (a : Act) (w : World) (hro : ro.isSome = rd) (st : ST sm m ν s a w) :
    (Code.loop b).wpIn (FW ro) 0 P (CP sm m ν s.h w e s') a w ∧ ∀ b', Code.loop b = .loop b' → Arr (FW ro) P (.inLoop b') (CP sm m ν s.h w e s') a w := by
  have O := hih _ _ ho
  have body : ∀ (fr : Frame) (k : List Item) (cs : List Frame), fr.roundOf = ro → ∃ E a' w', CP sm m ν s.h w e s' E a' w' ∧ ArrivesIn (Machine.fenced P (FW ro)) P (lone (fr.atR a (.code b :: .inLoop b :: k)) cs w) fr k cs E a' w' := by
    intro fr k cs hfr
    cases o1 with
    | code e1 s1 =>
      obtain ⟨E, a1, w1, hc, harr⟩ := (O ι hne m ro a w hro st).1 fr (.inLoop b :: k) cs hfr trivial (room_FW _ _)
      obtain ⟨m1, hE, st1, p1⟩ := hc
      cases e1 with
      | normal =>
        cases E with
        | normal =>
          obtain ⟨E2, a2, w2, hc2, harr2⟩ := (hih _ _ he ι hne m1 ro a1 w1 hro st1).2 b rfl fr k cs hfr
          exact ⟨E2, a2, w2, hc2.trans p1, .of_steps harr harr2⟩
        | _ => exact hE.elim
      | exit i => cases he; cases E <;> first | exact (show False from hE).elim | exact ⟨_, a1, w1, ⟨m1, hE, st1, p1⟩, .pass (x := .inLoop b) rfl (fun _ _ => .inl (by simp)) harr⟩
      | goto l => cases he; cases E <;> first | exact (show False from hE).elim | exact ⟨_, a1, w1, ⟨m1, hE, st1, p1⟩, .pass (x := .inLoop b) rfl (fun _ _ => .inl (by simp)) harr⟩
      | ret => cases he; cases E <;> first | exact (show False from hE).elim | exact ⟨_, a1, w1, ⟨m1, hE, st1, p1⟩, .pass (x := .inLoop b) rfl (fun _ _ => .inl (by simp)) harr⟩
      | pan c => cases he; cases E <;> first | exact (show False from hE).elim | exact ⟨_, a1, w1, ⟨m1, hE, st1, p1⟩, .pass (x := .inLoop b) rfl (fun _ _ => .inl (by simp)) harr⟩
    | _ => exact O.elim
  refine ⟨fun fr k cs hfr _ _ => ?_, fun b' hb fr k cs hfr => ?_⟩
  · obtain ⟨E, a', w', hc, harr⟩ := body fr k cs hfr
    exact ⟨E, a', w', hc, .of_steps (.one (calm ro _) stepR_loop) harr⟩
  · cases hb
    obtain ⟨E, a', w', hc, harr⟩ := body fr k cs hfr
    exact ⟨E, a', w', hc, .of_steps (.one (calm ro _) stepR_inLoop) harr⟩
section
variable {b : Frame} {a : Act} {k : List Item} {cs : List Frame} {w : World}
theorem stepR_scope {c : Code} : step P (lone (b.atR a (.code (.scope c) :: k)) cs w) = .next (lone (b.atR a (.code c :: .inScope c :: k)) cs w) :=
  step_lone_go (by simp [stepG, stepG.exec, Frame.atR])
theorem stepR_inScope {c : Code} : step P (lone (b.atR a (.inScope c :: k)) cs w) = .next (lone (b.atR a k) cs w) :=
  step_lone_go (by simp [stepG, stepG.exec, Frame.atR])
end
theorem scope_pass (hih : ∀ j o, ih j = some o → OutOK P sm ν j o) {rd : Bool} {c : Code} {s1 s' : S} {e1 e : Ex} (he : jScope ih rd c (.code e1 s1) = some (.code e s'))
    (hne : Nonempty ι) (m m1 : ι → Mu) (ro : Option Nat) {h : H} {w w1 : World} {a1 : Act} {E : Exit} (hro : ro.isSome = rd) (hE : ExR s1.h.next m1 ν e1 E) (st1 : ST sm m1 ν s1 a1 w1) (p1 : ∀ i, Post ν (m i) h w (m1 i) s1.h w1)
    {fr : Frame} {k : List Item} {cs : List Frame} {M0 : Machine} (hfr : fr.roundOf = ro) (harr : ArrivesIn (Machine.fenced P (FW ro)) P M0 fr (.inScope c :: k) cs E a1 w1) :
    ∃ E' a' w', CP sm m ν h w e s' E' a' w' ∧ ArrivesIn (Machine.fenced P (FW ro)) P M0 fr k cs E' a' w' := by
  cases e1 with
  | normal =>
    cases he
    cases E with
    | normal => exact ⟨.normal, a1, w1, ⟨m1, hE, st1, p1⟩, StepsIn.trans harr (.one (calm ro _) stepR_inScope)⟩
    | _ => exact hE.elim
  | exit i =>
    cases he
    cases E with
    | exit j =>
      have hx : exitTo j (.inScope c :: k) = exitTo j k := by simp [exitTo]
      exact ⟨.exit j, a1, w1, ⟨m1, hE, st1, p1⟩, fun k' hk => harr.1 k' (by rw [hx]; exact hk), fun hr hk => harr.2 hr (by rw [hx]; exact hk)⟩
    | _ => exact hE.elim
  | goto l =>
    cases E with
    | goto j =>
      have hlj : l = j := hE
      subst hlj
      simp only [jScope] at he
      split at he
      · rename_i rest hf
        have hg : gotoIn l (.inScope c :: k) = some (.code rest :: .inScope c :: k) := by simp [gotoIn, hf]
        obtain ⟨E2, a2, w2, hc2, harr2⟩ := hih _ _ he ι hne m1 ro a1 w1 hro st1 fr k cs hfr
        exact ⟨E2, a2, w2, hc2.trans p1, .of_steps (harr.1 _ hg) harr2⟩
      · rename_i hf
        cases he
        have hg : gotoIn l (.inScope c :: k) = gotoIn l k := by simp [gotoIn, hf]
        exact ⟨.goto l, a1, w1, ⟨m1, rfl, st1, p1⟩, fun k' hk => harr.1 k' (by rw [hg]; exact hk), fun hr hk => harr.2 hr (by rw [hg]; exact hk)⟩
    | _ => exact hE.elim
  | ret =>
    cases he
    cases E with
    | ret => exact ⟨.ret, a1, w1, ⟨m1, hE, st1, p1⟩, harr⟩
    | _ => exact hE.elim
  | pan ch =>
    cases he
    cases E with
    | panic ch' => exact ⟨.panic ch', a1, w1, ⟨m1, hE, st1, p1⟩, harr⟩
    | _ => exact hE.elim
theorem scope_ok (hih : ∀ j o, ih j = some o → OutOK P sm ν j o) {rd : Bool} {c : Code} {s s' : S} {e : Ex} {o1 : Out} (ho : ih (.code rd c s) = some o1) (he : jScope ih rd c o1 = some (.code e s'))
    (hne : Nonempty ι) (m : ι → Mu) (ro : Option Nat) (a : Act) (w : World) (hro : ro.isSome = rd) (st : ST sm m ν s a w) : (Code.scope c).wpIn (FW ro) 0 P (CP sm m ν s.h w e s') a w := by
  have O := hih _ _ ho
  cases o1 with
  | code e1 s1 =>
    intro fr k cs hfr _ _
    obtain ⟨E, a1, w1, ⟨m1, hE, st1, p1⟩, harr⟩ := (O ι hne m ro a w hro st).1 fr (.inScope c :: k) cs hfr trivial (room_FW _ _)
    obtain ⟨E', a', w', hc, harr'⟩ := scope_pass hih he hne m m1 ro hro hE st1 p1 hfr harr
    exact ⟨E', a', w', hc, .of_steps (.one (calm ro _) stepR_scope) harr'⟩
  | _ => exact O.elim
theorem jump_ok (hih : ∀ j o, ih j = some o → OutOK P sm ν j o) {rd : Bool} {b c : Code} {s : S} {o : Out} (he : bnd (ih (.code rd c s)) (fun o => jScope ih rd b o) = some o) : OutOK P sm ν (.jump rd b c s) o := by
  obtain ⟨o1, ho, he⟩ := bnd_eq he
  have O := hih _ _ ho
  cases o1 with
  | code e1 s1 =>
    have hout : ∃ e s', o = .code e s' := by
      cases e1 with
      | goto l =>
        simp only [jScope] at he
        split at he
        · have O2 := hih _ _ he
          cases o with
          | code e s' => exact ⟨e, s', rfl⟩
          | _ => exact O2.elim
        · cases he; exact ⟨_, _, rfl⟩
      | _ => cases he; exact ⟨_, _, rfl⟩
    obtain ⟨e, s', rfl⟩ := hout
    intro ι hne m ro a w hro st fr k cs hfr
    obtain ⟨E, a1, w1, ⟨m1, hE, st1, p1⟩, harr⟩ := (O ι hne m ro a w hro st).1 fr (.inScope b :: k) cs hfr trivial (room_FW _ _)
    exact scope_pass hih he hne m m1 ro hro hE st1 p1 hfr harr
  | _ => exact O.elim
end
end Go.Proofs.YtemdgilifnhdpaaGreatDoor.Ev
