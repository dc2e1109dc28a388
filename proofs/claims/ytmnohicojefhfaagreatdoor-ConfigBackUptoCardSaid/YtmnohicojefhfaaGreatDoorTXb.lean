/-
A number written in ten signs is read as it was. Plain laws (turned from XBack1).
-/
import Derived.Test.YtmnohicojefhfaaGreatDoorPUa
import Derived.Test.YtmnohicojefhfaaGreatDoorUHa
import Derived.Test.YtmnohicojefhfaaGreatDoorTXa
import Derived.Test.YtmnohicojefhfaaGreatDoorCIa
import Derived.Test.YtmnohicojefhfaaGreatDoorCFa
set_option linter.unusedVariables false
set_option linter.unusedSimpArgs false
/-
A number written in ten signs is read as it was. Plain laws (turned from XBack1).
-/
section
namespace Go.Proofs.YtmnohicojefhfaaGreatDoor
open Go.RowKit

theorem valF_one (B a : Nat) (b : UInt8) : valF B a [b] = a * B + digV b := rfl
theorem dec_dig : ∀ d : Fin 10, isDig 10 (UInt8.ofNat (48 + d.val)) = true ∧ digV (UInt8.ofNat (48 + d.val)) = d.val ∧ lowB (UInt8.ofNat (48 + d.val)) = UInt8.ofNat (48 + d.val) := by decide +kernel
theorem decL_all : ∀ n : Nat, (Lib.decDigits n).all (isDig 10) = true ∧ valL 10 (Lib.decDigits n) = n ∧ lowL (Lib.decDigits n) = Lib.decDigits n ∧ 0 < (Lib.decDigits n).length := by
  intro n
  induction n using Nat.strongRecOn with
  | ind n ih =>
    by_cases h : n < 10
    · have t := dec_dig ⟨n, h⟩
      have t1 : isDig 10 (UInt8.ofNat (48 + n)) = true := t.1
      have t2 : digV (UInt8.ofNat (48 + n)) = n := t.2.1
      have t3 : lowB (UInt8.ofNat (48 + n)) = UInt8.ofNat (48 + n) := t.2.2
      rw [Lib.decDigits_one h]
      generalize UInt8.ofNat (48 + n) = b at *
      refine ⟨by simp [t1], ?_, by simp [lowL, t3], by simp⟩
      have e : valL 10 [b] = 0 * 10 + digV b := rfl
      rw [e, t2]; simp
    · have t := dec_dig ⟨n % 10, Nat.mod_lt _ (by omega)⟩
      have t1 : isDig 10 (UInt8.ofNat (48 + n % 10)) = true := t.1
      have t2 : digV (UInt8.ofNat (48 + n % 10)) = n % 10 := t.2.1
      have t3 : lowB (UInt8.ofNat (48 + n % 10)) = UInt8.ofNat (48 + n % 10) := t.2.2
      obtain ⟨h1, h2, h3, _⟩ := ih (n / 10) (by omega)
      rw [Lib.decDigits, dif_neg h]
      generalize UInt8.ofNat (48 + n % 10) = b at *
      refine ⟨by simp [h1, t1], ?_, ?_, by simp⟩
      · unfold valL at h2 ⊢
        rw [valF_app, h2, valF_one, t2]; omega
      · unfold lowL at h3 ⊢
        rw [List.map_append, h3]; simp [t3]
theorem num_dec (n : Nat) (h : n ≤ 1000000000000000000) : numL 10 1000000000000000000 (Lib.itoa n) = ((n : Int), 0) := by
  obtain ⟨h1, h2, h3, hp⟩ := decL_all n
  rw [Lib.itoa_nonneg]
  unfold numL
  rw [h3, h2, if_neg, if_pos h]
  intro hh
  rcases hh with hh | hh
  · rw [hh] at hp; simp at hp
  · rw [h1] at hh; cases hh
end Go.Proofs.YtmnohicojefhfaaGreatDoor
end

/-
A configuration's text: plain words.
-/
section
namespace Go.Proofs.YtmnohicojefhfaaGreatDoor
open Go.RowKit

def peT (p : Pe14) : List UInt8 := lineT semi [112, 101, 101, 114] [.num p.id, .num p.most]
def upT (u : Up14) : List UInt8 := lineT beg [117, 112, 115, 116, 114, 101, 97, 109] [.txt u.name] ++ u.peers.flatMap peT ++ lineT semi [116, 105, 109, 101, 111, 117, 116] [.num u.timeout] ++ lineT semi [114, 101, 116, 114, 105, 101, 115] [.num u.retries] ++ shut
def nmT (n : List UInt8) : List UInt8 := lineT semi [110, 97, 109, 101] [.txt n]
def dfT (b : Bool) : List UInt8 := if b then lineT semi [100, 101, 102, 97, 117, 108, 116] [] else []
def srT (s : Sr14) : List UInt8 := lineT beg [115, 101, 114, 118, 101, 114] [] ++ s.names.flatMap nmT ++ dfT s.dflt ++ s.locs.flatMap loT ++ shut
def hdT (c : Cf14) : List UInt8 := lineT semi [107, 101, 101, 112] [.num c.keep] ++ lineT semi [98, 111, 100, 121] [.num c.body] ++ lineT semi [115, 116, 111, 114, 101] [.num c.store] ++ lineT semi [99, 111, 110, 110, 115] [.num c.conns]
/-- A configuration's text. -/
def textC (c : Cf14) : List UInt8 := hdT c ++ c.ups.flatMap upT ++ c.srvs.flatMap srT
structure UpN (u : Up14) : Prop where
  name : ArOk (.txt u.name)
  id : ∀ p ∈ u.peers, ArOk (.num p.id)
  most : ∀ p ∈ u.peers, ArOk (.num p.most)
  timeout : ArOk (.num u.timeout)
  retries : ArOk (.num u.retries)
structure CfN (c : Cf14) : Prop where
  keep : ArOk (.num c.keep)
  body : ArOk (.num c.body)
  store : ArOk (.num c.store)
  conns : ArOk (.num c.conns)
  ups : ∀ u ∈ c.ups, UpN u
  names : ∀ s ∈ c.srvs, ∀ n ∈ s.names, ArOk (.txt n)
  locs : ∀ s ∈ c.srvs, ∀ l ∈ s.locs, LoN l
  len : (textC c).length ≤ 140737488355328
/-- Text: the text; its error. -/
def textR (c : Cf14) : List UInt8 × Int := if goodC c then (if (textC c).length ≤ 65536 then (textC c, 0) else ([], 6)) else ([], 60)
theorem fmT_take {α : Type} (f : α → List UInt8) (l : List α) (i : Nat) (h : i < l.length) : (l.take (i + 1)).flatMap f = (l.take i).flatMap f ++ f l[i] := by
  rw [List.take_succ_eq_append_getElem h, List.flatMap_append]; simp
theorem fmT_le {α : Type} (f : α → List UInt8) (l : List α) (i : Nat) : ((l.take i).flatMap f).length ≤ (l.flatMap f).length := by
  conv => rhs; rw [← List.take_append_drop i l, List.flatMap_append, List.length_append]
  omega
theorem fmT_le1 {α : Type} (f : α → List UInt8) (l : List α) (i : Nat) (h : i < l.length) : ((l.take i).flatMap f).length + (f l[i]).length ≤ (l.flatMap f).length := by
  have := fmT_le f l (i + 1)
  rw [fmT_take f l i h, List.length_append] at this
  exact this
theorem ne_textC (c : Cf14) : textC c ≠ [] := by
  intro h
  have := congrArg List.length h
  simp only [textC, hdT, lineT, List.length_append, List.length_cons, List.length_nil] at this
  omega
end Go.Proofs.YtmnohicojefhfaaGreatDoor
end

/-
A configuration's text, read again: lines; plain laws.
-/
section
namespace Go.Proofs.YtmnohicojefhfaaGreatDoor
open Go.RowKit

theorem wd_all : ∀ b : Fin 256, (isDig 10 b.val.toUInt8 = true → wordB b.val.toUInt8 = true) ∧ (wordB b.val.toUInt8 = true → otherB b.val.toUInt8 ∧ ¬ (b.val.toUInt8.toNat < 33 ∨ 126 < b.val.toUInt8.toNat)) := by
  unfold otherB
  decide +kernel
theorem wd_u8 (b : UInt8) : (isDig 10 b = true → wordB b = true) ∧ (wordB b = true → otherB b ∧ ¬ (b.toNat < 33 ∨ 126 < b.toNat)) := by
  have := wd_all ⟨b.toNat, UInt8.toNat_lt b⟩
  simpa using this
/-- Behind a word no sign of a word stands. -/
def offW (r : List UInt8) : Prop := ∀ c, r.head? = some c → wordB c = false
theorem offW.take {r : List UInt8} (h : offW r) : r.takeWhile wordB = [] := by
  cases r with
  | nil => rfl
  | cons c r => rw [List.takeWhile_cons, h c rfl]; rfl
theorem lexT_wd {w : List UInt8} (h0 : w ≠ []) (hw : w.all wordB = true) {r : List UInt8} (hr : offW r) (n : Nat) : lexT (w ++ r) n = (⟨0, w, n⟩ :: (lexT r n).1, (lexT r n).2) := by
  cases w with
  | nil => exact absurd rfl h0
  | cons c w =>
    have hc : wordB c = true := by
      rw [List.all_cons, Bool.and_eq_true] at hw
      exact hw.1
    obtain ⟨h1, h2⟩ := (wd_u8 c).2 hc
    have ht : (c :: (w ++ r)).takeWhile wordB = c :: w := by
      rw [← List.cons_append, List.takeWhile_append_of_pos (List.all_eq_true.1 hw), hr.take, List.append_nil]
    rw [List.cons_append, lexT_word h1 h2, ht, ← List.cons_append, List.drop_left]
theorem bytes_ne {s : List UInt8} (h : bytesC 32 s = true) : ∀ x ∈ s, (x != 34) = true := by
  intro x hx
  have := List.all_eq_true.1 h x hx
  simp only [Bool.and_eq_true] at this
  exact this.2
theorem lexT_qt {s : List UInt8} (h : bytesC 32 s = true) (r : List UInt8) (n : Nat) : lexT (34 :: (s ++ 34 :: r)) n = (⟨0, s, n⟩ :: (lexT r n).1, (lexT r n).2) := by
  have ht : (s ++ 34 :: r).takeWhile (· != 34) = s := by
    rw [List.takeWhile_append_of_pos (bytes_ne h), List.takeWhile_cons]
    simp
  rw [lexT_quote (by
    rw [ht]
    intro h2
    rcases h2 with h2 | h2
    · rw [List.length_append, List.length_cons] at h2; omega
    · rw [h] at h2; cases h2), ht]
  have : (s ++ 34 :: r).drop (s.length + 1) = r := by
    rw [← List.drop_drop, List.drop_left]; rfl
  rw [this]
/-- A number or a word that may be written. -/
def ArL : Ar → Prop
  | .num n => 0 ≤ n ∧ n ≤ 1000000000000000000
  | .txt s => bytesC 32 s = true
def wordA : Ar → List UInt8
  | .num n => decT n
  | .txt s => s
theorem decT_eq (n : Nat) : decT (n : Int) = Lib.decDigits n := by
  unfold decT decB
  rw [str_data, Lib.itoa_nonneg]
theorem dec_word {n : Int} (h : 0 ≤ n) : decT n ≠ [] ∧ (decT n).all wordB = true := by
  obtain ⟨m, rfl⟩ := Int.eq_ofNat_of_zero_le h
  rw [decT_eq]
  obtain ⟨h1, _, _, hp⟩ := decL_all m
  exact ⟨List.length_pos_iff.1 hp, List.all_eq_true.2 fun b hb => (wd_u8 b).1 (List.all_eq_true.1 h1 b hb)⟩
theorem numC_dec {n : Int} (h : 0 ≤ n) (h2 : n ≤ 1000000000000000000) : numC (decT n) = some n := by
  obtain ⟨m, rfl⟩ := Int.eq_ofNat_of_zero_le h
  have := num_dec m (by omega)
  rw [Lib.itoa_nonneg] at this
  unfold numC
  rw [decT_eq, this]
  rfl
theorem offW.cons {c : UInt8} (h : wordB c = false) (r : List UInt8) : offW (c :: r) := fun x hx => by cases hx; exact h
theorem offW.args {r : List UInt8} (h : offW r) : ∀ (xs : List Ar), offW (argsT xs ++ r) := by
  intro xs
  cases xs with
  | nil => exact h
  | cons x xs =>
    cases x with
    | num n => exact offW.cons (by decide) _
    | txt s => exact offW.cons (by decide) _
theorem lexT_args {r : List UInt8} (hr : offW r) (n : Nat) : ∀ (xs : List Ar), (∀ x ∈ xs, ArL x) → lexT (argsT xs ++ r) n = (xs.map (fun x => (⟨0, wordA x, n⟩ : Tk14)) ++ (lexT r n).1, (lexT r n).2) := by
  intro xs
  induction xs with
  | nil => intro _; rfl
  | cons x xs ih =>
    intro h
    have h0 := h x (by simp)
    have ih := ih fun y hy => h y (by simp [hy])
    have e : argsT (x :: xs) ++ r = argT x ++ (argsT xs ++ r) := by
      show (argT x ++ argsT xs) ++ r = _
      rw [List.append_assoc]
    rw [e]
    cases x with
    | num m =>
      obtain ⟨h1, h2⟩ := dec_word h0.1
      show lexT (32 :: (decT m ++ (argsT xs ++ r))) n = _
      rw [lexT_blank (.inr (.inr rfl)), lexT_wd h1 h2 (hr.args xs), ih]
      rfl
    | txt s =>
      have e2 : argT (.txt s) ++ (argsT xs ++ r) = 32 :: 34 :: (s ++ 34 :: (argsT xs ++ r)) := by
        show ([32, 34] ++ s ++ [34]) ++ _ = _
        simp
      rw [e2, lexT_blank (.inr (.inr rfl)), lexT_qt h0, ih]
      rfl
theorem name_word (k : Dk) : nameD k ≠ [] ∧ (nameD k).all wordB = true := by cases k <;> exact ⟨by decide, by decide⟩
theorem lexT_semi (k : Dk) (xs : List Ar) (h : ∀ x ∈ xs, ArL x) (r : List UInt8) (n : Nat) :
    lexT (lineT semi (nameD k) xs ++ r) n = ((⟨0, nameD k, n⟩ :: xs.map (fun x => (⟨0, wordA x, n⟩ : Tk14)) ++ [⟨59, [], n⟩]) ++ (lexT r (n + 1)).1, (lexT r (n + 1)).2) := by
  have e : lineT semi (nameD k) xs ++ r = nameD k ++ (argsT xs ++ (59 :: 10 :: r)) := by simp [lineT, semi]
  have h1 : offW (59 :: 10 :: r) := offW.cons (by decide) _
  rw [e, lexT_wd (name_word k).1 (name_word k).2 (h1.args xs), lexT_args h1 n xs h, lexT_mark (.inl rfl), lexT_line]
  simp
theorem lexT_beg (k : Dk) (xs : List Ar) (h : ∀ x ∈ xs, ArL x) (r : List UInt8) (n : Nat) :
    lexT (lineT beg (nameD k) xs ++ r) n = ((⟨0, nameD k, n⟩ :: xs.map (fun x => (⟨0, wordA x, n⟩ : Tk14)) ++ [⟨123, [], n⟩]) ++ (lexT r (n + 1)).1, (lexT r (n + 1)).2) := by
  have e : lineT beg (nameD k) xs ++ r = nameD k ++ (argsT xs ++ (32 :: 123 :: 10 :: r)) := by simp [lineT, beg]
  have h1 : offW (32 :: 123 :: 10 :: r) := offW.cons (by decide) _
  rw [e, lexT_wd (name_word k).1 (name_word k).2 (h1.args xs), lexT_args h1 n xs h, lexT_blank (.inr (.inr rfl)), lexT_mark (.inr (.inl rfl)), lexT_line]
  simp
theorem lexT_shut (r : List UInt8) (n : Nat) : lexT (shut ++ r) n = ([⟨125, [], n⟩] ++ (lexT r (n + 1)).1, (lexT r (n + 1)).2) := by
  show lexT (125 :: 10 :: r) n = _
  rw [lexT_mark (.inr (.inr rfl)), lexT_line]
  rfl
theorem nodes_words (n d : Nat) (ts : List Tk14) : ∀ (xs : List Ar) (m : Nd14), nodesF (xs.map (fun x => (⟨0, wordA x, n⟩ : Tk14)) ++ ts) (some m) d = nodesF ts (some { m with words := m.words ++ xs.map wordA }) d := by
  intro xs
  induction xs with
  | nil => intro m; simp
  | cons x xs ih =>
    intro m
    rw [List.map_cons, List.cons_append]
    rw [nodesF, if_pos rfl]
    dsimp only
    rw [ih]
    simp [List.append_assoc]
/-- What stands first is not deeper. -/
def hdD (ns : List Nd14) (d : Nat) : Prop := ∀ x, ns.head? = some x → x.deep ≤ d
/-- A part of a text: what it does. -/
def Rds (t : List UInt8) (d : Nat) (st : List Fr14 × Cf14) (d' : Nat) (st' : List Fr14 × Cf14) : Prop :=
  ∀ n, ∃ (ts : List Tk14) (ns : List Nd14) (k : Nat), (∀ r, lexT (t ++ r) n = (ts ++ (lexT r (n + k)).1, (lexT r (n + k)).2)) ∧ (∀ ts', nodesF (ts ++ ts') none d = (nodesF ts' none d').map fun q => (ns ++ q.1, q.2)) ∧
    (∀ ns', hdD ns' d' → hdD (ns ++ ns') d ∧ (runD st (ns ++ ns')).map (·.2) = (runD st' ns').map (·.2))
theorem Rds.nil_ (d : Nat) (st : List Fr14 × Cf14) : Rds [] d st d st := fun n => ⟨[], [], 0, fun r => rfl, fun ts' => by
  cases h : nodesF ts' none d with
  | error e => simp [h, Except.map]
  | ok q => simp [h, Except.map], fun ns' h => ⟨h, rfl⟩⟩
theorem Rds.tr {t t2 : List UInt8} {d d1 d2 : Nat} {st st1 st2 : List Fr14 × Cf14} (h : Rds t d st d1 st1) (k : Rds t2 d1 st1 d2 st2) : Rds (t ++ t2) d st d2 st2 := by
  intro n
  obtain ⟨ts, ns, a, h1, h2, h3⟩ := h n
  obtain ⟨ts2, ns2, b, k1, k2, k3⟩ := k (n + a)
  refine ⟨ts ++ ts2, ns ++ ns2, a + b, fun r => ?_, fun ts' => ?_, fun ns' hn => ?_⟩
  · rw [List.append_assoc, h1, k1, Nat.add_assoc, List.append_assoc]
  · rw [List.append_assoc, h2, k2]
    cases nodesF ts' none d2 with
    | error e => rfl
    | ok q => simp [Except.map]
  · obtain ⟨q1, q2⟩ := k3 ns' hn
    obtain ⟨r1, r2⟩ := h3 _ q1
    rw [List.append_assoc]
    exact ⟨r1, r2.trans q2⟩
theorem dk_name (k : Dk) : dkOf (nameD k) = some k := by cases k <;> decide
theorem step_ok (k : Dk) (ws : List (List UInt8)) (F : Option Dk) (came : List Dk) (rest : List Fr14) (c c' : Cf14) (d n : Nat) (hd : rest.length = d) (hin : inD k = F) (hl : leastD k ≤ ws.length) (hm : ws.length ≤ mostD k)
    (hc : came.contains (kindD k) = false ∨ manyD k = true) (hdo : doD k ws c = some c') : stepD ((F, came) :: rest, c) ⟨nameD k :: ws, d, blockD k, n⟩ = .ok ((if blockD k then [(some k, [])] else []) ++ (F, kindD k :: came) :: rest, c') := by
  subst hd
  have hfit : fitD k ⟨nameD k :: ws, rest.length, blockD k, n⟩ (F, came) = true := by
    unfold fitD
    simp only [List.length_cons, Nat.add_sub_cancel, beq_self_eq_true, Bool.and_true]
    rw [decide_eq_true hin, decide_eq_true hl, decide_eq_true hm]
    rcases hc with h | h
    · rw [h]; rfl
    · rw [h]; simp
  unfold stepD
  simp only [List.length_cons, Nat.sub_self, List.drop_zero, List.headD_cons, List.drop_one, List.tail_cons]
  rw [dk_name]
  simp only [hfit, if_true, hdo]
theorem Rds.line (k : Dk) (xs : List Ar) (F : Option Dk) (came : List Dk) (rest : List Fr14) (c c' : Cf14) (d : Nat) (hx : ∀ x ∈ xs, ArL x) (hd : rest.length = d) (hin : inD k = F) (hl : leastD k ≤ xs.length) (hm : xs.length ≤ mostD k)
    (hc : came.contains (kindD k) = false ∨ manyD k = true) (hdo : doD k (xs.map wordA) c = some c') (hb : blockD k = false) : Rds (lineT semi (nameD k) xs) d ((F, came) :: rest, c) d ((F, kindD k :: came) :: rest, c') := by
  intro n
  refine ⟨_, [⟨nameD k :: xs.map wordA, d, false, n⟩], 1, fun r => lexT_semi k xs hx r n, fun ts' => ?_, fun ns' hn => ⟨fun x hx => by cases hx; exact Nat.le_refl _, ?_⟩⟩
  · rw [List.cons_append, List.cons_append, nodesF, if_pos rfl, List.append_assoc]
    dsimp only
    rw [nodes_words, List.cons_append, List.nil_append, nodesF]
    rfl
  · have hs := step_ok k (xs.map wordA) F came rest c c' d n hd hin (by rw [List.length_map]; exact hl) (by rw [List.length_map]; exact hm) hc hdo
    rw [hb] at hs
    rw [List.cons_append, List.nil_append, runD, hs]
    rfl
theorem Rds.block (k : Dk) (xs : List Ar) (F : Option Dk) (came : List Dk) (rest : List Fr14) (c c' : Cf14) (d : Nat) (hx : ∀ x ∈ xs, ArL x) (hd : rest.length = d) (h3 : d < 3) (hin : inD k = F) (hl : leastD k ≤ xs.length) (hm : xs.length ≤ mostD k)
    (hc : came.contains (kindD k) = false ∨ manyD k = true) (hdo : doD k (xs.map wordA) c = some c') (hb : blockD k = true) : Rds (lineT beg (nameD k) xs) d ((F, came) :: rest, c) (d + 1) ((some k, []) :: (F, kindD k :: came) :: rest, c') := by
  intro n
  refine ⟨_, [⟨nameD k :: xs.map wordA, d, true, n⟩], 1, fun r => lexT_beg k xs hx r n, fun ts' => ?_, fun ns' hn => ⟨fun x hx => by cases hx; exact Nat.le_refl _, ?_⟩⟩
  · rw [List.cons_append, List.cons_append, nodesF, if_pos rfl, List.append_assoc]
    dsimp only
    rw [nodes_words, List.cons_append, List.nil_append, nodesF, if_neg (show ¬ (123 : UInt8) = 0 from by decide), if_neg (show ¬ (123 : UInt8) = 125 from by decide)]
    dsimp only
    rw [if_pos rfl, if_neg (by omega)]
    rfl
  · have hs := step_ok k (xs.map wordA) F came rest c c' d n hd hin (by rw [List.length_map]; exact hl) (by rw [List.length_map]; exact hm) hc hdo
    rw [hb] at hs
    rw [List.cons_append, List.nil_append, runD, hs]
    rfl
theorem Rds.shut (fr : Fr14) (rest : List Fr14) (c : Cf14) (d : Nat) (hd : rest.length = d + 1) : Rds shut (d + 1) (fr :: rest, c) d (rest, c) := by
  intro n
  refine ⟨_, [], 1, fun r => lexT_shut r n, fun ts' => ?_, fun ns' hn => ⟨fun x hx => Nat.le_succ_of_le (hn x hx), ?_⟩⟩
  · rw [List.cons_append, List.nil_append, nodesF, if_neg (show ¬ (125 : UInt8) = 0 from by decide), if_pos rfl, if_neg (by simp), Nat.add_sub_cancel]
    cases nodesF ts' none d with
    | error e => rfl
    | ok q => rfl
  · rw [List.nil_append]
    cases ns' with
    | nil => rfl
    | cons x ns' =>
      have hx := hn x rfl
      have hs : stepD (fr :: rest, c) x = stepD (rest, c) x := by
        unfold stepD
        have e : (fr :: rest).drop ((fr :: rest).length - (x.deep + 1)) = rest.drop (rest.length - (x.deep + 1)) := by
          rw [List.length_cons, show rest.length + 1 - (x.deep + 1) = (rest.length - (x.deep + 1)) + 1 from by omega, List.drop_succ_cons]
        simp only [e]
      rw [runD, runD, hs]
end Go.Proofs.YtmnohicojefhfaaGreatDoor
end

/-
A configuration's text, read again: what may be is read as it was. Plain laws.
-/
section
namespace Go.Proofs.YtmnohicojefhfaaGreatDoor
open Go.RowKit

theorem modLast_end {α : Type} (f : α → α) : ∀ (l : List α) (x : α), modLast f (l ++ [x]) = l ++ [f x] := by
  intro l
  induction l with
  | nil => intro x; rfl
  | cons y l ih =>
    intro x
    cases l with
    | nil => rfl
    | cons z l =>
      have := ih x
      simp only [List.cons_append, modLast] at *
      rw [this]
theorem byte_facts : ∀ b : Fin 256, ((adrB b.val.toUInt8 = true ∨ plnB b.val.toUInt8 = true ∨ tokB b.val.toUInt8.toNat = true) → (decide (32 ≤ b.val.toUInt8.toNat) && decide (b.val.toUInt8.toNat ≤ 126) && !(b.val.toUInt8 == 34)) = true) := by decide +kernel
theorem byte_ok (b : UInt8) (h : adrB b = true ∨ plnB b = true ∨ tokB b.toNat = true) : (decide (32 ≤ b.toNat) && decide (b.toNat ≤ 126) && !(b == 34)) = true := by
  have := byte_facts ⟨b.toNat, UInt8.toNat_lt b⟩
  simp only [UInt8.ofNat_toNat] at this
  exact this h
theorem bytes_up {s : List UInt8} (h : bytesC 33 s = true) : bytesC 32 s = true := by
  refine List.all_eq_true.2 fun x hx => ?_
  have := List.all_eq_true.1 h x hx
  simp only [Bool.and_eq_true, decide_eq_true_eq] at this ⊢
  exact ⟨⟨by omega, this.1.2⟩, this.2⟩
theorem bytes_tok {s : List UInt8} (h : tokC s = true) : bytesC 32 s = true := by
  unfold tokC at h
  rw [Bool.and_eq_true] at h
  exact List.all_eq_true.2 fun x hx => byte_ok x (.inr (.inr (List.all_eq_true.1 h.2 x hx)))
theorem bytes_bare {b : List UInt8} (h0 : nameL b ≠ 0) (h1 : b.drop (nameL b) = []) : bytesC 32 b = true := by
  have hl : b.length ≤ nameL b := by
    have := congrArg List.length h1
    rw [List.length_drop, List.length_nil] at this
    omega
  unfold nameL at h0 hl
  split at h0
  · rename_i hh
    rw [if_pos hh] at hl
    dsimp only at h0 hl
    split at h0
    · rename_i ha
      rw [if_pos ha] at hl
      cases b with
      | nil => cases hh
      | cons c t =>
        simp only [List.head?_cons, Option.some.injEq] at hh
        subst hh
        simp only [List.tail_cons, List.length_cons] at ha hl
        refine List.all_eq_true.2 fun x hx => ?_
        rcases List.mem_cons.1 hx with rfl | hx
        · rfl
        · have hs : t = t.takeWhile adrB ++ t.dropWhile adrB := List.takeWhile_append_dropWhile.symm
          have hd : (t.dropWhile adrB).length ≤ 1 := by
            have := congrArg List.length hs
            rw [List.length_append] at this
            omega
          rw [hs] at hx
          rcases List.mem_append.1 hx with hx | hx
          · exact byte_ok x (.inl (List.all_eq_true.1 (tw_all adrB t) x hx))
          · have h93 := ha.1
            rw [hs, List.getElem?_append_right (by rw [← hs]; exact Nat.le_refl _)] at h93
            rw [← hs, Nat.sub_self] at h93
            cases hq : t.dropWhile adrB with
            | nil => rw [hq] at hx; cases hx
            | cons y q =>
              rw [hq] at hx hd h93
              simp only [List.length_cons] at hd
              have : q = [] := List.length_eq_zero_iff.1 (by omega)
              subst this
              simp only [List.getElem?_cons_zero, Option.some.injEq] at h93
              rw [List.mem_singleton] at hx
              subst hx
              subst h93
              rfl
    · exact absurd rfl h0
  · rename_i hh
    rw [if_neg hh] at hl
    dsimp only at h0 hl
    split at h0
    · rename_i ha
      rw [if_pos ha] at hl
      have hle := tw_len plnB b
      have : b.takeWhile plnB = b := by rw [← tw_take, List.take_of_length_le (by omega)]
      refine List.all_eq_true.2 fun x hx => byte_ok x (.inr (.inl ?_))
      have h2 := tw_all plnB b
      rw [this] at h2
      exact List.all_eq_true.1 h2 x hx
    · exact absurd rfl h0
theorem num_nn (B M : Nat) (l : List UInt8) : 0 ≤ (numL B M l).1 := by
  unfold numL
  split
  · exact Int.le_refl _
  · split
    · exact Int.natCast_nonneg _
    · exact Int.le_refl _
theorem bytes_host {s : List UInt8} (h : hostC s = true) : bytesC 32 s = true := by
  unfold hostC at h
  simp only [Bool.and_eq_true, decide_eq_true_eq] at h
  obtain ⟨⟨h1, h2⟩, h3⟩ := h
  have hb : bytesC 32 (bareL s) = true := by
    unfold hostL at h1 h2
    split at h1
    · cases h1
    · rename_i h0
      rw [if_neg h0] at h2
      unfold portL at h1 h2
      split at h1
      · rename_i hr
        exact bytes_bare h0 hr
      · rename_i hr
        rw [if_neg hr] at h2
        split at h1
        · rename_i hc
          rw [if_pos hc] at h2
          have := num_nn 10 1000000000000000000 ((bareL s).drop (nameL (bareL s))).tail
          dsimp only at h2
          omega
        · cases h1
  unfold bareL at hb
  split at hb
  · rename_i hs
    have e : s = [42, 46] ++ s.drop 2 := by rw [← hs.2, List.take_append_drop]
    rw [e]
    unfold bytesC at hb ⊢
    rw [List.all_append, hb]
    rfl
  · exact hb
theorem inB_i {n a b : Int} (h : inB n a b = true) : a ≤ n ∧ n ≤ b := by
  unfold inB at h
  simpa using h
theorem arl1 {x : Ar} (h : ArL x) : ∀ y ∈ [x], ArL y := fun y hy => by rw [List.mem_singleton] at hy; rw [hy]; exact h
theorem arl2 {x z : Ar} (h : ArL x) (h2 : ArL z) : ∀ y ∈ [x, z], ArL y := fun y hy => by
  rcases List.mem_cons.1 hy with h3 | h3
  · rw [h3]; exact h
  · rw [List.mem_singleton] at h3; rw [h3]; exact h2
theorem arl0 : ∀ y ∈ ([] : List Ar), ArL y := fun y hy => by cases hy
theorem inB_L {n a b : Int} (h : inB n a b = true) (ha : 0 ≤ a) (hb : b ≤ 1000000000000000000) : ArL (.num n) := by
  have := inB_i h
  exact ⟨by omega, by omega⟩
theorem num_L {n : Int} (h : ArL (.num n)) : numC (decT n) = some n := numC_dec h.1 h.2

theorem head_rds (c : Cf14) (h1 : ArL (.num c.keep)) (h2 : ArL (.num c.body)) (h3 : ArL (.num c.store)) (h4 : ArL (.num c.conns)) :
    Rds (hdT c) 0 ([(none, [])], cf0) 0 ([(none, [.conns, .store, .body, .keep])], { cf0 with keep := c.keep, body := c.body, store := c.store, conns := c.conns }) := by
  have a1 := Rds.line .keep [.num c.keep] none [] [] cf0 { cf0 with keep := c.keep } 0 (arl1 h1) rfl rfl (by simp [leastD]) (by simp [mostD]) (.inl rfl) (by show (numC (decT c.keep)).map _ = _; rw [num_L h1]; rfl) rfl
  have a2 := Rds.line .body [.num c.body] none [.keep] [] { cf0 with keep := c.keep } { cf0 with keep := c.keep, body := c.body } 0 (arl1 h2) rfl rfl (by simp [leastD]) (by simp [mostD]) (.inl rfl) (by show (numC (decT c.body)).map _ = _; rw [num_L h2]; rfl) rfl
  have a3 := Rds.line .store [.num c.store] none [.body, .keep] [] { cf0 with keep := c.keep, body := c.body } { cf0 with keep := c.keep, body := c.body, store := c.store } 0 (arl1 h3) rfl rfl (by simp [leastD]) (by simp [mostD]) (.inl rfl) (by show (numC (decT c.store)).map _ = _; rw [num_L h3]; rfl) rfl
  have a4 := Rds.line .conns [.num c.conns] none [.store, .body, .keep] [] { cf0 with keep := c.keep, body := c.body, store := c.store } { cf0 with keep := c.keep, body := c.body, store := c.store, conns := c.conns } 0 (arl1 h4) rfl rfl (by simp [leastD]) (by simp [mostD]) (.inl rfl) (by show (numC (decT c.conns)).map _ = _; rw [num_L h4]; rfl) rfl
  exact ((a1.tr a2).tr a3).tr a4
/-- The last upstream is so. -/
def cU (c : Cf14) (L : List Up14) (u : Up14) : Cf14 := { c with ups := L ++ [u] }
theorem cfUp_cU (c : Cf14) (L : List Up14) (u : Up14) (f : Up14 → Up14) : cfUp (cU c L u) f = cU c L (f u) := by unfold cfUp cU; rw [modLast_end]
theorem peers_rds (c : Cf14) (L : List Up14) (R : List Fr14) (hR : R.length = 1) : ∀ (ps : List Pe14) (cm : List Dk) (u : Up14), (∀ p ∈ ps, peC p = true) →
    ∃ cm', (∀ k, k ≠ .peer → cm'.contains k = cm.contains k) ∧ Rds (ps.flatMap peT) 1 ((some .upstream, cm) :: R, cU c L u) 1 ((some .upstream, cm') :: R, cU c L { u with peers := u.peers ++ ps }) := by
  intro ps
  induction ps with
  | nil => intro cm u _; exact ⟨cm, fun _ _ => rfl, by simpa using Rds.nil_ 1 ((some .upstream, cm) :: R, cU c L u)⟩
  | cons p ps ih =>
    intro cm u h
    have hp := h p (by simp)
    unfold peC at hp
    rw [Bool.and_eq_true] at hp
    have h1 := inB_L hp.1 (by omega) (by omega)
    have h2 := inB_L hp.2 (by omega) (by omega)
    have a := Rds.line .peer [.num p.id, .num p.most] (some .upstream) cm R (cU c L u) (cU c L { u with peers := u.peers ++ [p] }) 1 (arl2 h1 h2) hR rfl (by simp [leastD]) (by simp [mostD]) (.inr rfl)
      (by
        show (numC (decT p.id)).bind (fun n => if 2 = 2 then (numC (decT p.most)).map (fun m => cfUp (cU c L u) fun u => { u with peers := u.peers ++ [⟨n, m⟩] }) else _) = _
        rw [num_L h1, num_L h2]
        simp only [Option.bind_some, if_true, Option.map_some, cfUp_cU]) rfl
    obtain ⟨cm', hk, b⟩ := ih (.peer :: cm) { u with peers := u.peers ++ [p] } (fun q hq => h q (by simp [hq]))
    refine ⟨cm', fun k hne => by rw [hk k hne]; simp [hne], ?_⟩
    have e : ({ u with peers := u.peers ++ p :: ps } : Up14) = { u with peers := u.peers ++ [p] ++ ps } := by simp
    rw [List.flatMap_cons, e]
    exact a.tr b
theorem up_rds (c : Cf14) (u : Up14) (hu : upC u = true) (cm : List Dk) : Rds (upT u) 0 ([(none, cm)], c) 0 ([(none, .upstream :: cm)], { c with ups := c.ups ++ [u] }) := by
  unfold upC at hu
  simp only [Bool.and_eq_true] at hu
  obtain ⟨⟨⟨⟨⟨h1, h2⟩, h3⟩, h4⟩, h5⟩, h6⟩ := hu
  have n3 := inB_L h3 (by omega) (by omega)
  have n4 := inB_L h4 (by omega) (by omega)
  have a := Rds.block .upstream [.txt u.name] none cm [] c (cU c c.ups ⟨u.name, [], 10, 1⟩) 0 (arl1 (bytes_tok h1)) rfl (by omega) rfl (by simp [leastD]) (by simp [mostD]) (.inr rfl) rfl rfl
  obtain ⟨cm2, hk, b⟩ := peers_rds c c.ups [(none, .upstream :: cm)] rfl u.peers [] ⟨u.name, [], 10, 1⟩ (fun p hp => List.all_eq_true.1 h5 p hp)
  have d := Rds.line .timeout [.num u.timeout] (some .upstream) cm2 [(none, .upstream :: cm)] (cU c c.ups ⟨u.name, [] ++ u.peers, 10, 1⟩) (cU c c.ups ⟨u.name, [] ++ u.peers, u.timeout, 1⟩) 1 (arl1 n3) rfl rfl (by simp [leastD]) (by simp [mostD]) (.inl (hk .timeout (by decide)))
    (by show (numC (decT u.timeout)).map _ = _; rw [num_L n3]; simp only [Option.map_some, cfUp_cU]) rfl
  have e := Rds.line .retries [.num u.retries] (some .upstream) (.timeout :: cm2) [(none, .upstream :: cm)] (cU c c.ups ⟨u.name, [] ++ u.peers, u.timeout, 1⟩) (cU c c.ups ⟨u.name, [] ++ u.peers, u.timeout, u.retries⟩) 1 (arl1 n4) rfl rfl (by simp [leastD]) (by simp [mostD]) (.inl (by
      have := hk .retries (by decide)
      show (List.contains (Dk.timeout :: cm2) .retries) = false
      rw [List.contains_cons, this]; rfl))
    (by show (numC (decT u.retries)).map _ = _; rw [num_L n4]; simp only [Option.map_some, cfUp_cU]) rfl
  have f := Rds.shut (some .upstream, [.retries, .timeout] ++ cm2) [(none, .upstream :: cm)] (cU c c.ups ⟨u.name, [] ++ u.peers, u.timeout, u.retries⟩) 0 rfl
  exact (((a.tr b).tr d).tr e).tr f
theorem ups_rds : ∀ (us : List Up14) (c : Cf14) (cm : List Dk), (∀ u ∈ us, upC u = true) → ∃ cm', Rds (us.flatMap upT) 0 ([(none, cm)], c) 0 ([(none, cm')], { c with ups := c.ups ++ us }) := by
  intro us
  induction us with
  | nil => intro c cm _; exact ⟨cm, by simpa using Rds.nil_ 0 ([(none, cm)], c)⟩
  | cons u us ih =>
    intro c cm h
    have a := up_rds c u (h u (by simp)) cm
    obtain ⟨cm', b⟩ := ih { c with ups := c.ups ++ [u] } (.upstream :: cm) (fun x hx => h x (by simp [hx]))
    refine ⟨cm', ?_⟩
    have e : ({ c with ups := c.ups ++ u :: us } : Cf14) = { c with ups := c.ups ++ [u] ++ us } := by simp
    rw [List.flatMap_cons, e]
    exact a.tr b
end Go.Proofs.YtmnohicojefhfaaGreatDoor
end

/-
A configuration's text, read again: servers; the whole. Plain laws.
-/
section
namespace Go.Proofs.YtmnohicojefhfaaGreatDoor
open Go.RowKit

/-- The last server is so. -/
def cS (c : Cf14) (L : List Sr14) (s : Sr14) : Cf14 := { c with srvs := L ++ [s] }
theorem cfSr_cS (c : Cf14) (L : List Sr14) (s : Sr14) (f : Sr14 → Sr14) : cfSr (cS c L s) f = cS c L (f s) := by unfold cfSr cS; rw [modLast_end]
/-- The last location is so. -/
def cL (c : Cf14) (L : List Sr14) (s : Sr14) (K : List Lo14) (l : Lo14) : Cf14 := cS c L { s with locs := K ++ [l] }
theorem cfLo_cL (c : Cf14) (L : List Sr14) (s : Sr14) (K : List Lo14) (l : Lo14) (f : Lo14 → Lo14) : cfLo (cL c L s K l) f = cL c L s K (f l) := by
  unfold cfLo cL
  rw [cfSr_cS]
  dsimp only
  rw [modLast_end]
theorem names_rds (c : Cf14) (L : List Sr14) (R : List Fr14) (hR : R.length = 1) : ∀ (ns : List (List UInt8)) (cm : List Dk) (s : Sr14), (∀ n ∈ ns, hostC n = true) →
    ∃ cm', (∀ k, k ≠ .name → cm'.contains k = cm.contains k) ∧ Rds (ns.flatMap nmT) 1 ((some .server, cm) :: R, cS c L s) 1 ((some .server, cm') :: R, cS c L { s with names := s.names ++ ns }) := by
  intro ns
  induction ns with
  | nil => intro cm s _; exact ⟨cm, fun _ _ => rfl, by simpa using Rds.nil_ 1 ((some .server, cm) :: R, cS c L s)⟩
  | cons n ns ih =>
    intro cm s h
    have hn := h n (by simp)
    have a := Rds.line .name [.txt n] (some .server) cm R (cS c L s) (cS c L { s with names := s.names ++ [n] }) 1 (arl1 (bytes_host hn)) hR rfl (by simp [leastD]) (by simp [mostD]) (.inr rfl)
      (by
        show some (cfSr (cS c L s) fun s => { s with names := s.names ++ [n] }) = _
        rw [cfSr_cS]) rfl
    obtain ⟨cm', hk, b⟩ := ih (.name :: cm) { s with names := s.names ++ [n] } (fun q hq => h q (by simp [hq]))
    refine ⟨cm', fun k hne => by rw [hk k hne]; simp [hne], ?_⟩
    have e : ({ s with names := s.names ++ n :: ns } : Sr14) = { s with names := s.names ++ [n] ++ ns } := by simp
    rw [List.flatMap_cons, e]
    exact a.tr b
section
variable (c : Cf14) (L : List Sr14) (s : Sr14) (K : List Lo14) (R : List Fr14) (hR : R.length = 2)
include hR
/-- A line of a location with a number. -/
theorem num_rds (k : Dk) (n : Int) (hn : ArL (.num n)) (cm : List Dk) (l l' : Lo14) (hin : inD k = some .location) (hl : leastD k ≤ 1) (hm : 1 ≤ mostD k) (hc : cm.contains (kindD k) = false) (hb : blockD k = false)
    (f : Int → Lo14 → Lo14) (hdo : doD k [decT n] (cL c L s K l) = (numC (decT n)).map fun m => cfLo (cL c L s K l) (f m)) (hf : f n l = l') :
    Rds (lineT semi (nameD k) [.num n]) 2 ((some .location, cm) :: R, cL c L s K l) 2 ((some .location, kindD k :: cm) :: R, cL c L s K l') :=
  Rds.line k [.num n] (some .location) cm R (cL c L s K l) (cL c L s K l') 2 (arl1 hn) hR hin hl hm (.inl hc) (by
    show doD k [decT n] _ = _
    rw [hdo, num_L hn, Option.map_some, cfLo_cL, hf]) hb
theorem txt_rds (k : Dk) (t : List UInt8) (ht : bytesC 32 t = true) (cm : List Dk) (l l' : Lo14) (hin : inD k = some .location) (hl : leastD k ≤ 1) (hm : 1 ≤ mostD k) (hc : cm.contains (kindD k) = false) (hb : blockD k = false)
    (f : Lo14 → Lo14) (hdo : doD k [t] (cL c L s K l) = some (cfLo (cL c L s K l) f)) (hf : f l = l') :
    Rds (lineT semi (nameD k) [.txt t]) 2 ((some .location, cm) :: R, cL c L s K l) 2 ((some .location, kindD k :: cm) :: R, cL c L s K l') :=
  Rds.line k [.txt t] (some .location) cm R (cL c L s K l) (cL c L s K l') 2 (arl1 ht) hR hin hl hm (.inl hc) (by
    show doD k [t] _ = _
    rw [hdo, cfLo_cL, hf]) hb
theorem kind1_rds (l : Lo14) (h : loc1 l = true) : ∃ cm, cm.contains .limit = false ∧ Rds (loT1 l) 2 ((some .location, []) :: R, cL c L s K { lo0 with pre := l.pre }) 2 ((some .location, cm) :: R, cL c L s K { lo0 with pre := l.pre, kind := 1, root := l.root, index := l.index, gzip := l.gzip, expires := l.expires }) := by
  unfold loc1 at h
  simp only [Bool.and_eq_true] at h
  obtain ⟨⟨⟨⟨⟨⟨⟨h1, h2⟩, h3⟩, h4⟩, h5⟩, h6⟩, h7⟩, h8⟩ := h
  have hr : bytesC 32 l.root = true := by
    unfold pathC at h1
    rw [Bool.and_eq_true] at h1
    exact bytes_up h1.2
  have a := txt_rds c L s K R hR .root l.root hr [] { lo0 with pre := l.pre } { lo0 with pre := l.pre, kind := 1, root := l.root } rfl (by simp [leastD]) (by simp [mostD]) rfl rfl (fun x => { x with kind := 1, root := l.root }) rfl rfl
  by_cases hi : l.index = []
  · have g := num_rds c L s K R hR .gzip l.gzip (inB_L h7 (by omega) (by omega)) [.root] { lo0 with pre := l.pre, kind := 1, root := l.root } { lo0 with pre := l.pre, kind := 1, root := l.root, gzip := l.gzip } rfl (by simp [leastD]) (by simp [mostD]) rfl rfl (fun m x => { x with gzip := m }) rfl rfl
    have e := num_rds c L s K R hR .expires l.expires (inB_L h8 (by omega) (by omega)) [.gzip, .root] { lo0 with pre := l.pre, kind := 1, root := l.root, gzip := l.gzip } { lo0 with pre := l.pre, kind := 1, root := l.root, gzip := l.gzip, expires := l.expires } rfl (by simp [leastD]) (by simp [mostD]) rfl rfl (fun m x => { x with expires := m }) rfl rfl
    refine ⟨[.expires, .gzip, .root], rfl, ?_⟩
    unfold loT1
    rw [if_pos hi, List.append_nil, hi]
    exact (a.tr g).tr e
  · have b := txt_rds c L s K R hR .index l.index (bytes_up h3) [.root] { lo0 with pre := l.pre, kind := 1, root := l.root } { lo0 with pre := l.pre, kind := 1, root := l.root, index := l.index } rfl (by simp [leastD]) (by simp [mostD]) rfl rfl (fun x => { x with index := l.index }) rfl rfl
    have g := num_rds c L s K R hR .gzip l.gzip (inB_L h7 (by omega) (by omega)) [.index, .root] { lo0 with pre := l.pre, kind := 1, root := l.root, index := l.index } { lo0 with pre := l.pre, kind := 1, root := l.root, index := l.index, gzip := l.gzip } rfl (by simp [leastD]) (by simp [mostD]) rfl rfl (fun m x => { x with gzip := m }) rfl rfl
    have e := num_rds c L s K R hR .expires l.expires (inB_L h8 (by omega) (by omega)) [.gzip, .index, .root] { lo0 with pre := l.pre, kind := 1, root := l.root, index := l.index, gzip := l.gzip } { lo0 with pre := l.pre, kind := 1, root := l.root, index := l.index, gzip := l.gzip, expires := l.expires } rfl (by simp [leastD]) (by simp [mostD]) rfl rfl (fun m x => { x with expires := m }) rfl rfl
    refine ⟨[.expires, .gzip, .index, .root], rfl, ?_⟩
    unfold loT1
    rw [if_neg hi]
    exact ((a.tr b).tr g).tr e
theorem kind2_rds (ups : List Up14) (hups : ∀ u ∈ ups, upC u = true) (l : Lo14) (h : loc2 ups l = true) : ∃ cm, cm.contains .limit = false ∧ Rds (loT2 l) 2 ((some .location, []) :: R, cL c L s K { lo0 with pre := l.pre }) 2 ((some .location, cm) :: R, cL c L s K { lo0 with pre := l.pre, kind := 2, up := l.up, cache := l.cache, gzip := l.gzip }) := by
  unfold loc2 at h
  rw [Bool.and_eq_true] at h
  obtain ⟨h1, h7⟩ := h
  have hr : bytesC 32 l.up = true := by
    rw [List.any_eq_true] at h1
    obtain ⟨u, hu, he⟩ := h1
    rw [← of_decide_eq_true he]
    have := hups u hu
    unfold upC at this
    simp only [Bool.and_eq_true] at this
    exact bytes_tok this.1.1.1.1.1
  have a := txt_rds c L s K R hR .proxy l.up hr [] { lo0 with pre := l.pre } { lo0 with pre := l.pre, kind := 2, up := l.up } rfl (by simp [leastD]) (by simp [mostD]) rfl rfl (fun x => { x with kind := 2, up := l.up }) rfl rfl
  by_cases hi : l.cache = true
  · have b := Rds.line .cache [] (some .location) [.root] R (cL c L s K { lo0 with pre := l.pre, kind := 2, up := l.up }) (cL c L s K { lo0 with pre := l.pre, kind := 2, up := l.up, cache := true }) 2 arl0 hR rfl (by simp [leastD]) (by simp [mostD]) (.inl rfl) (by
      show some (cfLo _ _) = _
      rw [cfLo_cL]) rfl
    have g := num_rds c L s K R hR .gzip l.gzip (inB_L h7 (by omega) (by omega)) [.cache, .root] { lo0 with pre := l.pre, kind := 2, up := l.up, cache := true } { lo0 with pre := l.pre, kind := 2, up := l.up, cache := true, gzip := l.gzip } rfl (by simp [leastD]) (by simp [mostD]) rfl rfl (fun m x => { x with gzip := m }) rfl rfl
    refine ⟨[.gzip, .cache, .root], rfl, ?_⟩
    unfold loT2
    rw [if_pos hi, hi]
    exact (a.tr b).tr g
  · have hi' : l.cache = false := by simpa using hi
    have g := num_rds c L s K R hR .gzip l.gzip (inB_L h7 (by omega) (by omega)) [.root] { lo0 with pre := l.pre, kind := 2, up := l.up } { lo0 with pre := l.pre, kind := 2, up := l.up, gzip := l.gzip } rfl (by simp [leastD]) (by simp [mostD]) rfl rfl (fun m x => { x with gzip := m }) rfl rfl
    refine ⟨[.gzip, .root], rfl, ?_⟩
    unfold loT2
    rw [if_neg hi, List.append_nil, hi']
    exact a.tr g
theorem kind3_rds (l : Lo14) (h : loc3 l = true) : ∃ cm, cm.contains .limit = false ∧ Rds (loT3 l) 2 ((some .location, []) :: R, cL c L s K { lo0 with pre := l.pre }) 2 ((some .location, cm) :: R, cL c L s K { lo0 with pre := l.pre, kind := 3, status := l.status, goal := l.goal }) := by
  unfold loc3 at h
  simp only [Bool.and_eq_true] at h
  obtain ⟨⟨⟨h1, h2⟩, h3⟩, h4⟩ := h
  have n1 := inB_L h1 (by omega) (by omega)
  refine ⟨[.root], rfl, ?_⟩
  exact Rds.line .ret [.num l.status, .txt l.goal] (some .location) [] R (cL c L s K { lo0 with pre := l.pre }) (cL c L s K { lo0 with pre := l.pre, kind := 3, status := l.status, goal := l.goal }) 2 (arl2 n1 h3) hR rfl (by simp [leastD]) (by simp [mostD]) (.inl rfl) (by
    show (numC (decT l.status)).map (fun n => cfLo _ fun x => if 2 = 2 then { x with kind := 3, status := n, goal := l.goal } else _) = _
    rw [num_L n1, Option.map_some, cfLo_cL]
    rfl) rfl
theorem limit_rds (l : Lo14) (cm : List Dk) (hc : cm.contains .limit = false) (x : Lo14) (h1 : ArL (.num l.rate)) (h2 : ArL (.num l.burst)) (h3 : ¬ 0 < l.rate → l.rate = x.rate ∧ l.burst = x.burst) :
    ∃ cm', Rds (loTr l) 2 ((some .location, cm) :: R, cL c L s K x) 2 ((some .location, cm') :: R, cL c L s K { x with rate := l.rate, burst := l.burst }) := by
  by_cases hr : 0 < l.rate
  · have a := Rds.line .limit [.num l.rate, .num l.burst] (some .location) cm R (cL c L s K x) (cL c L s K { x with rate := l.rate, burst := l.burst }) 2 (arl2 h1 h2) hR rfl (by simp [leastD]) (by simp [mostD]) (.inl hc) (by
      show (numC (decT l.rate)).bind (fun n => (numC (decT l.burst)).map fun m => cfLo _ fun x => { x with rate := n, burst := m }) = _
      rw [num_L h1, num_L h2, Option.bind_some, Option.map_some, cfLo_cL]) rfl
    exact ⟨_, by unfold loTr; rw [if_pos hr]; exact a⟩
  · obtain ⟨e1, e2⟩ := h3 hr
    refine ⟨cm, ?_⟩
    unfold loTr
    rw [if_neg hr, e1, e2]
    exact Rds.nil_ _ _
end
theorem lo_rds (ups : List Up14) (hups : ∀ u ∈ ups, upC u = true) (c : Cf14) (L : List Sr14) (s : Sr14) (R : List Fr14) (hR : R.length = 1) (l : Lo14) (h : locC ups l = true) (cm : List Dk) :
    Rds (loT l) 1 ((some .server, cm) :: R, cS c L s) 1 ((some .server, .location :: cm) :: R, cS c L { s with locs := s.locs ++ [l] }) := by
  have hR2 : ((some Dk.server, Dk.location :: cm) :: R).length = 2 := by rw [List.length_cons, hR]
  obtain ⟨h0, hk⟩ : loc0 l = true ∧ ((l.kind = 1 ∧ loc1 l = true ∧ restC l = lo0) ∨ (l.kind ≠ 1 ∧ l.kind = 2 ∧ loc2 ups l = true ∧ restC l = lo0) ∨ (l.kind ≠ 1 ∧ l.kind ≠ 2 ∧ l.kind = 3 ∧ loc3 l = true ∧ restC l = lo0)) := by
    unfold locC at h
    split at h
    · simp only [Bool.and_eq_true, decide_eq_true_eq] at h
      exact ⟨h.1.1, .inl ⟨‹_›, h.1.2, h.2⟩⟩
    · split at h
      · simp only [Bool.and_eq_true, decide_eq_true_eq] at h
        exact ⟨h.1.1, .inr (.inl ⟨‹_›, ‹_›, h.1.2, h.2⟩)⟩
      · split at h
        · simp only [Bool.and_eq_true, decide_eq_true_eq] at h
          exact ⟨h.1.1, .inr (.inr ⟨‹_›, ‹_›, ‹_›, h.1.2, h.2⟩)⟩
        · cases h
  unfold loc0 at h0
  simp only [Bool.and_eq_true, Bool.or_eq_true, decide_eq_true_eq] at h0
  obtain ⟨⟨⟨p1, p2⟩, p3⟩, p4⟩ := h0
  have hpre : bytesC 32 l.pre = true := by
    unfold pathC at p1
    rw [Bool.and_eq_true] at p1
    exact bytes_up p1.2
  have n1 := inB_L p2 (by omega) (by omega)
  have n2 := inB_L p3 (by omega) (by omega)
  have hz : ¬ 0 < l.rate → l.rate = 0 ∧ l.burst = 0 := fun hn => ⟨by have := inB_i p2; omega, by rcases p4 with h | h; exact absurd h hn; exact h⟩
  have a := Rds.block .location [.txt l.pre] (some .server) cm R (cS c L s) (cL c L s s.locs { lo0 with pre := l.pre }) 1 (arl1 hpre) hR (by omega) rfl (by simp [leastD]) (by simp [mostD]) (.inr rfl) (by
    show some (cfSr _ _) = _
    rw [cfSr_cS]; rfl) rfl
  have fin : ∀ (cm1 : List Dk) (x : Lo14), cm1.contains .limit = false → x.rate = 0 → x.burst = 0 → { x with rate := l.rate, burst := l.burst } = l →
      Rds (loTk l) 2 ((some .location, []) :: (some .server, .location :: cm) :: R, cL c L s s.locs { lo0 with pre := l.pre }) 2 ((some .location, cm1) :: (some .server, .location :: cm) :: R, cL c L s s.locs x) →
      Rds (loT l) 1 ((some .server, cm) :: R, cS c L s) 1 ((some .server, .location :: cm) :: R, cS c L { s with locs := s.locs ++ [l] }) := by
    intro cm1 x hc hx1 hx2 he hb
    obtain ⟨cm2, hd⟩ := limit_rds c L s s.locs ((some .server, .location :: cm) :: R) hR2 l cm1 hc x n1 n2 (fun hn => by rw [hx1, hx2]; exact hz hn)
    rw [he] at hd
    have hf := Rds.shut (some .location, cm2) ((some .server, .location :: cm) :: R) (cL c L s s.locs l) 1 hR2
    exact ((a.tr hb).tr hd).tr hf
  rcases hk with ⟨k1, g, hq⟩ | ⟨k1, k2, g, hq⟩ | ⟨k1, k2, k3, g, hq⟩
  · obtain ⟨cm1, hc, hb⟩ := kind1_rds c L s s.locs ((some .server, .location :: cm) :: R) hR2 l g
    refine fin cm1 _ hc rfl rfl ?_ (by unfold loTk; rw [if_pos k1]; exact hb)
    unfold restC at hq
    rw [if_pos k1] at hq
    obtain ⟨pre, kind, root, index, gzip, expires, up, cache, rate, burst, status, goal⟩ := l
    simp only [lo0, Lo14.mk.injEq] at hq k1 ⊢
    simp_all
  · obtain ⟨cm1, hc, hb⟩ := kind2_rds c L s s.locs ((some .server, .location :: cm) :: R) hR2 ups hups l g
    refine fin cm1 _ hc rfl rfl ?_ (by unfold loTk; rw [if_neg k1, if_pos k2]; exact hb)
    unfold restC at hq
    rw [if_neg k1, if_pos k2] at hq
    obtain ⟨pre, kind, root, index, gzip, expires, up, cache, rate, burst, status, goal⟩ := l
    simp only [lo0, Lo14.mk.injEq] at hq k2 ⊢
    simp_all
  · obtain ⟨cm1, hc, hb⟩ := kind3_rds c L s s.locs ((some .server, .location :: cm) :: R) hR2 l g
    refine fin cm1 _ hc rfl rfl ?_ (by unfold loTk; rw [if_neg k1, if_neg k2]; exact hb)
    unfold restC at hq
    rw [if_neg k1, if_neg k2] at hq
    obtain ⟨pre, kind, root, index, gzip, expires, up, cache, rate, burst, status, goal⟩ := l
    simp only [lo0, Lo14.mk.injEq] at hq k3 ⊢
    simp_all
theorem los_rds (ups : List Up14) (hups : ∀ u ∈ ups, upC u = true) (c : Cf14) (L : List Sr14) (R : List Fr14) (hR : R.length = 1) : ∀ (ls : List Lo14) (cm : List Dk) (s : Sr14), (∀ l ∈ ls, locC ups l = true) →
    ∃ cm', Rds (ls.flatMap loT) 1 ((some .server, cm) :: R, cS c L s) 1 ((some .server, cm') :: R, cS c L { s with locs := s.locs ++ ls }) := by
  intro ls
  induction ls with
  | nil => intro cm s _; exact ⟨cm, by simpa using Rds.nil_ 1 ((some .server, cm) :: R, cS c L s)⟩
  | cons l ls ih =>
    intro cm s h
    have a := lo_rds ups hups c L s R hR l (h l (by simp)) cm
    obtain ⟨cm', b⟩ := ih (.location :: cm) { s with locs := s.locs ++ [l] } (fun q hq => h q (by simp [hq]))
    refine ⟨cm', ?_⟩
    have e : ({ s with locs := s.locs ++ l :: ls } : Sr14) = { s with locs := s.locs ++ [l] ++ ls } := by simp
    rw [List.flatMap_cons, e]
    exact a.tr b
theorem sr_rds (ups : List Up14) (hups : ∀ u ∈ ups, upC u = true) (c : Cf14) (s : Sr14) (hs : srC ups s = true) (cm : List Dk) : Rds (srT s) 0 ([(none, cm)], c) 0 ([(none, .server :: cm)], { c with srvs := c.srvs ++ [s] }) := by
  unfold srC at hs
  simp only [Bool.and_eq_true] at hs
  obtain ⟨⟨⟨⟨h1, h2⟩, h3⟩, h4⟩, h5⟩ := hs
  have a := Rds.block .server [] none cm [] c (cS c c.srvs ⟨[], false, []⟩) 0 arl0 rfl (by omega) rfl (by simp [leastD]) (by simp [mostD]) (.inr rfl) rfl rfl
  obtain ⟨cm2, hk, b⟩ := names_rds c c.srvs [(none, .server :: cm)] rfl s.names [] ⟨[], false, []⟩ (fun p hp => List.all_eq_true.1 h2 p hp)
  obtain ⟨cm3, d⟩ : ∃ cm3, Rds (dfT s.dflt) 1 ((some .server, cm2) :: [(none, .server :: cm)], cS c c.srvs ⟨[] ++ s.names, false, []⟩) 1 ((some .server, cm3) :: [(none, .server :: cm)], cS c c.srvs ⟨[] ++ s.names, s.dflt, []⟩) := by
    cases hd : s.dflt with
    | false => exact ⟨cm2, Rds.nil_ _ _⟩
    | true =>
      exact ⟨_, Rds.line .dflt [] (some .server) cm2 [(none, .server :: cm)] (cS c c.srvs ⟨[] ++ s.names, false, []⟩) (cS c c.srvs ⟨[] ++ s.names, true, []⟩) 1 arl0 rfl rfl (by simp [leastD]) (by simp [mostD]) (.inl (hk .dflt (by decide))) (by
        show some (cfSr _ _) = _
        rw [cfSr_cS]) rfl⟩
  obtain ⟨cm4, e⟩ := los_rds ups hups c c.srvs [(none, .server :: cm)] rfl s.locs cm3 ⟨[] ++ s.names, s.dflt, []⟩ (fun p hp => List.all_eq_true.1 h4 p hp)
  have f := Rds.shut (some .server, cm4) [(none, .server :: cm)] (cS c c.srvs ⟨[] ++ s.names, s.dflt, [] ++ s.locs⟩) 0 rfl
  exact (((a.tr b).tr d).tr e).tr f
theorem srs_rds (ups : List Up14) (hups : ∀ u ∈ ups, upC u = true) : ∀ (ss : List Sr14) (c : Cf14) (cm : List Dk), (∀ s ∈ ss, srC ups s = true) → ∃ cm', Rds (ss.flatMap srT) 0 ([(none, cm)], c) 0 ([(none, cm')], { c with srvs := c.srvs ++ ss }) := by
  intro ss
  induction ss with
  | nil => intro c cm _; exact ⟨cm, by simpa using Rds.nil_ 0 ([(none, cm)], c)⟩
  | cons s ss ih =>
    intro c cm h
    have a := sr_rds ups hups c s (h s (by simp)) cm
    obtain ⟨cm', b⟩ := ih { c with srvs := c.srvs ++ [s] } (.server :: cm) (fun x hx => h x (by simp [hx]))
    refine ⟨cm', ?_⟩
    have e : ({ c with srvs := c.srvs ++ s :: ss } : Cf14) = { c with srvs := c.srvs ++ [s] ++ ss } := by simp
    rw [List.flatMap_cons, e]
    exact a.tr b
/-- What may be is read as it was written. -/
theorem text_rds (c : Cf14) (h : goodC c = true) : ∃ cm, Rds (textC c) 0 ([(none, [])], cf0) 0 ([(none, cm)], c) := by
  unfold goodC at h
  simp only [Bool.and_eq_true] at h
  obtain ⟨⟨⟨⟨⟨⟨⟨⟨⟨⟨h1, h2⟩, h3⟩, h4⟩, h5⟩, h6⟩, h7⟩, h8⟩, h9⟩, h10⟩, h11⟩ := h
  have hu : ∀ u ∈ c.ups, upC u = true := fun u hu => List.all_eq_true.1 h6 u hu
  have a := head_rds c (inB_L h1 (by omega) (by omega)) (inB_L h2 (by omega) (by omega)) (inB_L h3 (by omega) (by omega)) (inB_L h4 (by omega) (by omega))
  obtain ⟨cm1, b⟩ := ups_rds c.ups { cf0 with keep := c.keep, body := c.body, store := c.store, conns := c.conns } [.conns, .store, .body, .keep] hu
  obtain ⟨cm2, d⟩ := srs_rds c.ups hu c.srvs { cf0 with keep := c.keep, body := c.body, store := c.store, conns := c.conns, ups := [] ++ c.ups } cm1 (fun s hs => List.all_eq_true.1 h9 s hs)
  exact ⟨cm2, (a.tr b).tr d⟩
theorem parse_text (c : Cf14) (h : goodC c = true) (hl : (textC c).length ≤ 65536) : parseC (textC c) = (c, 0, 0) := by
  obtain ⟨cm, hr⟩ := text_rds c h
  obtain ⟨ts, ns, k, h1, h2, h3⟩ := hr 1
  have e1 : lexL (textC c) = (ts, 0) := by
    have := h1 []
    rw [List.append_nil, lexT_nil, List.append_nil] at this
    exact this
  have e2 : nodesF ts none 0 = .ok (ns, none, 0) := by
    have := h2 []
    rw [List.append_nil] at this
    rw [this]
    simp [nodesF, Except.map]
  have e3 := (h3 [] (fun x hx => by cases hx)).2
  rw [List.append_nil] at e3
  have e4 : treeL (textC c) = .ok ns := by
    unfold treeL
    rw [e1]
    simp only [e2]
    simp
  unfold parseC
  rw [if_neg (by omega), e4]
  dsimp only
  cases hrun : runD ([(none, [])], cf0) ns with
  | error e => rw [hrun] at e3; simp [runD, Except.map] at e3
  | ok st =>
    rw [hrun] at e3
    simp only [runD, Except.map, Except.ok.injEq] at e3
    show (if goodC st.2 = true then (st.2, 0, 0) else (cfZ, 0, 60)) = (c, (0 : Nat), (0 : Int))
    rw [e3, if_pos h]
end Go.Proofs.YtmnohicojefhfaaGreatDoor
end

/-
A configuration's text: how long it may be; what may be written. Plain laws.
-/
section
namespace Go.Proofs.YtmnohicojefhfaaGreatDoor
open Go.RowKit

/-- A location whose words are short. -/
def LoM (l : Lo14) : Prop := l.pre.length ≤ 1048576 ∧ l.root.length ≤ 1048576 ∧ l.index.length ≤ 1048576 ∧ l.goal.length ≤ 1048576
/-- A configuration whose words are short. -/
structure CfL (c : Cf14) : Prop where
  ups : ∀ u ∈ c.ups, u.name.length ≤ 1048576
  srvs : ∀ s ∈ c.srvs, (∀ n ∈ s.names, n.length ≤ 1048576) ∧ ∀ l ∈ s.locs, LoM l
def ArS (x : Ar) : Prop := (argT x).length ≤ 1048579
theorem ars_txt {s : List UInt8} (h : s.length ≤ 1048576) : ArS (.txt s) := by
  show ([32, 34] ++ s ++ [34]).length ≤ 1048579
  simp only [List.length_append, List.length_cons, List.length_nil]; omega
theorem ars_num {n : Int} (h : ArL (.num n)) : ArS (.num n) := by
  have := decT_len n (by have := h.1; omega) (by have := h.2; omega)
  show (32 :: decT n).length ≤ 1048579
  rw [List.length_cons]; omega
theorem arok_txt {s : List UInt8} (h : s.length ≤ 1048576) : ArOk (.txt s) := by
  show s.length ≤ 140737488355328
  omega
theorem arok_num {n : Int} (h : ArL (.num n)) : ArOk (.num n) := ⟨by have := h.1; omega, by have := h.2; omega⟩
theorem args_b : ∀ (xs : List Ar), (∀ x ∈ xs, ArS x) → (argsT xs).length ≤ xs.length * 1048579 := by
  intro xs
  induction xs with
  | nil => intro _; exact Nat.zero_le _
  | cons x xs ih =>
    intro h
    have h1 : (argT x).length ≤ 1048579 := h x (by simp)
    have h2 := ih fun y hy => h y (by simp [hy])
    have e : argsT (x :: xs) = argT x ++ argsT xs := rfl
    rw [e, List.length_append, List.length_cons, Nat.add_mul]
    omega
theorem line_b (en nm : List UInt8) (xs : List Ar) (h1 : en.length ≤ 2) (h2 : nm.length ≤ 8) (h3 : xs.length ≤ 2) (h : ∀ x ∈ xs, ArS x) : (lineT en nm xs).length ≤ 2100000 := by
  have := args_b xs h
  have e : (lineT en nm xs).length = nm.length + (argsT xs).length + (en.length + 1) := by simp [lineT]; omega
  have : xs.length * 1048579 ≤ 2 * 1048579 := Nat.mul_le_mul_right _ h3
  omega
theorem fmT_b {α : Type} (f : α → List UInt8) (M : Nat) : ∀ (l : List α), (∀ x ∈ l, (f x).length ≤ M) → (l.flatMap f).length ≤ l.length * M := by
  intro l
  induction l with
  | nil => intro _; simp
  | cons x l ih =>
    intro h
    have h1 := h x (by simp)
    have h2 := ih fun y hy => h y (by simp [hy])
    rw [List.flatMap_cons, List.length_append, List.length_cons, Nat.add_mul]
    omega
theorem ars1 {x : Ar} (h : ArS x) : ∀ y ∈ [x], ArS y := fun y hy => by rw [List.mem_singleton] at hy; rw [hy]; exact h
theorem ars2 {x z : Ar} (h : ArS x) (h2 : ArS z) : ∀ y ∈ [x, z], ArS y := fun y hy => by
  rcases List.mem_cons.1 hy with h3 | h3
  · rw [h3]; exact h
  · rw [List.mem_singleton] at h3; rw [h3]; exact h2
theorem ars0 : ∀ y ∈ ([] : List Ar), ArS y := fun y hy => by cases hy
theorem shut_b : shut.length = 2 := rfl
theorem up_b (u : Up14) (hu : upC u = true) (hn : u.name.length ≤ 1048576) : UpN u ∧ (upT u).length ≤ 42000000 := by
  unfold upC at hu
  simp only [Bool.and_eq_true] at hu
  obtain ⟨⟨⟨⟨⟨h1, h2⟩, h3⟩, h4⟩, h5⟩, h6⟩ := hu
  have n3 := inB_L h3 (by omega) (by omega)
  have n4 := inB_L h4 (by omega) (by omega)
  have hp : ∀ p ∈ u.peers, ArL (.num p.id) ∧ ArL (.num p.most) := fun p hp => by
    have := List.all_eq_true.1 h5 p hp
    unfold peC at this
    rw [Bool.and_eq_true] at this
    exact ⟨inB_L this.1 (by omega) (by omega), inB_L this.2 (by omega) (by omega)⟩
  refine ⟨⟨arok_txt hn, fun p h => arok_num (hp p h).1, fun p h => arok_num (hp p h).2, arok_num n3, arok_num n4⟩, ?_⟩
  have b1 := line_b beg [117, 112, 115, 116, 114, 101, 97, 109] [.txt u.name] (by decide) (by decide) (by simp) (ars1 (ars_txt hn))
  have b2 := fmT_b peT 2100000 u.peers fun p h => line_b semi [112, 101, 101, 114] [.num p.id, .num p.most] (by decide) (by decide) (by simp) (ars2 (ars_num (hp p h).1) (ars_num (hp p h).2))
  have b3 := line_b semi [116, 105, 109, 101, 111, 117, 116] [.num u.timeout] (by decide) (by decide) (by simp) (ars1 (ars_num n3))
  have b4 := line_b semi [114, 101, 116, 114, 105, 101, 115] [.num u.retries] (by decide) (by decide) (by simp) (ars1 (ars_num n4))
  have h7 := inB_i h2
  have b5 : u.peers.length * 2100000 ≤ 16 * 2100000 := Nat.mul_le_mul_right _ (by omega)
  have b6 := shut_b
  unfold upT
  simp only [List.length_append]
  omega
theorem lo_b (ups : List Up14) (hups : ∀ u ∈ ups, u.name.length ≤ 1048576) (l : Lo14) (h : locC ups l = true) (ht : LoM l) : LoN l ∧ (loT l).length ≤ 15000000 := by
  have hk : loc0 l = true ∧ restC l = lo0 ∧ ((l.kind = 1 ∧ loc1 l = true) ∨ (l.kind ≠ 1 ∧ l.kind = 2 ∧ loc2 ups l = true) ∨ (l.kind ≠ 1 ∧ l.kind ≠ 2 ∧ loc3 l = true)) := by
    unfold locC at h
    split at h
    · simp only [Bool.and_eq_true, decide_eq_true_eq] at h
      exact ⟨h.1.1, h.2, .inl ⟨‹_›, h.1.2⟩⟩
    · split at h
      · simp only [Bool.and_eq_true, decide_eq_true_eq] at h
        exact ⟨h.1.1, h.2, .inr (.inl ⟨‹_›, ‹_›, h.1.2⟩)⟩
      · split at h
        · simp only [Bool.and_eq_true, decide_eq_true_eq] at h
          exact ⟨h.1.1, h.2, .inr (.inr ⟨‹_›, ‹_›, h.1.2⟩)⟩
        · cases h
  obtain ⟨h0, hq, hk⟩ := hk
  unfold loc0 at h0
  simp only [Bool.and_eq_true, Bool.or_eq_true, decide_eq_true_eq] at h0
  obtain ⟨⟨⟨p1, p2⟩, p3⟩, p4⟩ := h0
  have n1 := inB_L p2 (by omega) (by omega)
  have n2 := inB_L p3 (by omega) (by omega)
  have z0 : ArL (.num 0) := ⟨by omega, by omega⟩
  obtain ⟨t1, t2, t3, t4⟩ := ht
  have hN : ArL (.num l.gzip) ∧ ArL (.num l.expires) ∧ ArL (.num l.status) ∧ l.up.length ≤ 1048576 := by
    rcases hk with ⟨k1, g⟩ | ⟨k1, k2, g⟩ | ⟨k1, k2, g⟩
    · unfold restC at hq
      rw [if_pos k1] at hq
      unfold loc1 at g
      simp only [Bool.and_eq_true] at g
      have e1 : l.status = 0 := congrArg Lo14.status hq
      have e2 : l.up = [] := congrArg Lo14.up hq
      rw [e1, e2]
      exact ⟨inB_L g.1.2 (by omega) (by omega), inB_L g.2 (by omega) (by omega), z0, Nat.zero_le _⟩
    · unfold restC at hq
      rw [if_neg k1, if_pos k2] at hq
      unfold loc2 at g
      rw [Bool.and_eq_true] at g
      have e1 : l.status = 0 := congrArg Lo14.status hq
      have e2 : l.expires = 0 := congrArg Lo14.expires hq
      rw [e1, e2]
      have hu : l.up.length ≤ 1048576 := by
        obtain ⟨u, hu, he⟩ := List.any_eq_true.1 g.1
        rw [← of_decide_eq_true he]
        exact hups u hu
      exact ⟨inB_L g.2 (by omega) (by omega), z0, z0, hu⟩
    · unfold restC at hq
      rw [if_neg k1, if_neg k2] at hq
      unfold loc3 at g
      simp only [Bool.and_eq_true] at g
      have e1 : l.gzip = 0 := congrArg Lo14.gzip hq
      have e2 : l.expires = 0 := congrArg Lo14.expires hq
      have e3 : l.up = [] := congrArg Lo14.up hq
      rw [e1, e2, e3]
      exact ⟨z0, z0, inB_L g.1.1.1 (by omega) (by omega), Nat.zero_le _⟩
  obtain ⟨n3, n4, n5, t5⟩ := hN
  refine ⟨⟨arok_num n3, arok_num n4, arok_num n1, arok_num n2, arok_num n5, arok_txt t1, arok_txt t2, arok_txt t3, arok_txt t5, arok_txt t4⟩, ?_⟩
  have b0 := line_b beg [108, 111, 99, 97, 116, 105, 111, 110] [.txt l.pre] (by decide) (by decide) (by simp) (ars1 (ars_txt t1))
  have b1 := line_b semi [114, 111, 111, 116] [.txt l.root] (by decide) (by decide) (by simp) (ars1 (ars_txt t2))
  have b2 := line_b semi [105, 110, 100, 101, 120] [.txt l.index] (by decide) (by decide) (by simp) (ars1 (ars_txt t3))
  have b3 := line_b semi [103, 122, 105, 112] [.num l.gzip] (by decide) (by decide) (by simp) (ars1 (ars_num n3))
  have b4 := line_b semi [101, 120, 112, 105, 114, 101, 115] [.num l.expires] (by decide) (by decide) (by simp) (ars1 (ars_num n4))
  have b5 := line_b semi [112, 114, 111, 120, 121] [.txt l.up] (by decide) (by decide) (by simp) (ars1 (ars_txt t5))
  have b6 := line_b semi [99, 97, 99, 104, 101] [] (by decide) (by decide) (by simp) ars0
  have b7 := line_b semi [114, 101, 116, 117, 114, 110] [.num l.status, .txt l.goal] (by decide) (by decide) (by simp) (ars2 (ars_num n5) (ars_txt t4))
  have b8 := line_b semi [108, 105, 109, 105, 116] [.num l.rate, .num l.burst] (by decide) (by decide) (by simp) (ars2 (ars_num n1) (ars_num n2))
  have b9 := shut_b
  have c1 : (loTk l).length ≤ 8400000 := by
    unfold loTk loT1 loT2 loT3
    split
    · split <;> simp only [List.length_append, List.length_nil] <;> omega
    · split
      · split <;> simp only [List.length_append, List.length_nil] <;> omega
      · omega
  have c2 : (loTr l).length ≤ 2100000 := by
    unfold loTr
    split
    · exact b8
    · simp
  unfold loT
  simp only [List.length_append]
  omega
/-- What may be and has short words may be written. -/
theorem cfn_ofL (c : Cf14) (h : goodC c = true) (ht : CfL c) : CfN c := by
  unfold goodC at h
  simp only [Bool.and_eq_true] at h
  obtain ⟨⟨⟨⟨⟨⟨⟨⟨⟨⟨h1, h2⟩, h3⟩, h4⟩, h5⟩, h6⟩, h7⟩, h8⟩, h9⟩, h10⟩, h11⟩ := h
  have n1 := inB_L h1 (by omega) (by omega)
  have n2 := inB_L h2 (by omega) (by omega)
  have n3 := inB_L h3 (by omega) (by omega)
  have n4 := inB_L h4 (by omega) (by omega)
  have hu : ∀ u ∈ c.ups, UpN u ∧ (upT u).length ≤ 42000000 := fun u hu => up_b u (List.all_eq_true.1 h6 u hu) (ht.ups u hu)
  have hs : ∀ s ∈ c.srvs, (∀ n ∈ s.names, n.length ≤ 1048576) ∧ (∀ l ∈ s.locs, LoN l ∧ (loT l).length ≤ 15000000) ∧ (srT s).length ≤ 600000000 := fun s hs => by
    have hc := List.all_eq_true.1 h9 s hs
    unfold srC at hc
    simp only [Bool.and_eq_true] at hc
    obtain ⟨⟨⟨⟨q1, q2⟩, q3⟩, q4⟩, q5⟩ := hc
    have hl : ∀ l ∈ s.locs, LoN l ∧ (loT l).length ≤ 15000000 := fun l hl => lo_b c.ups (fun u hu => (ht.ups u hu)) l (List.all_eq_true.1 q4 l hl) ((ht.srvs s hs).2 l hl)
    refine ⟨(ht.srvs s hs).1, hl, ?_⟩
    have b1 := line_b beg [115, 101, 114, 118, 101, 114] [] (by decide) (by decide) (by simp) ars0
    have b2 := fmT_b nmT 2100000 s.names fun n hn => line_b semi [110, 97, 109, 101] [.txt n] (by decide) (by decide) (by simp) (ars1 (ars_txt ((ht.srvs s hs).1 n hn)))
    have b3 := fmT_b loT 15000000 s.locs fun l h => (hl l h).2
    have b4 : (dfT s.dflt).length ≤ 2100000 := by
      unfold dfT
      split
      · exact line_b semi [100, 101, 102, 97, 117, 108, 116] [] (by decide) (by decide) (by simp) ars0
      · simp
    have q6 := of_decide_eq_true q1
    have q7 := inB_i q3
    have b5 : s.names.length * 2100000 ≤ 32 * 2100000 := Nat.mul_le_mul_right _ q6
    have b6 : s.locs.length * 15000000 ≤ 32 * 15000000 := Nat.mul_le_mul_right _ (by omega)
    have b7 := shut_b
    unfold srT
    simp only [List.length_append]
    omega
  refine ⟨arok_num n1, arok_num n2, arok_num n3, arok_num n4, fun u h => (hu u h).1, fun s h n hn => arok_txt ((hs s h).1 n hn), fun s h l hl => ((hs s h).2.1 l hl).1, ?_⟩
  have b1 := line_b semi [107, 101, 101, 112] [.num c.keep] (by decide) (by decide) (by simp) (ars1 (ars_num n1))
  have b2 := line_b semi [98, 111, 100, 121] [.num c.body] (by decide) (by decide) (by simp) (ars1 (ars_num n2))
  have b3 := line_b semi [115, 116, 111, 114, 101] [.num c.store] (by decide) (by decide) (by simp) (ars1 (ars_num n3))
  have b4 := line_b semi [99, 111, 110, 110, 115] [.num c.conns] (by decide) (by decide) (by simp) (ars1 (ars_num n4))
  have b5 := fmT_b upT 42000000 c.ups fun u h => (hu u h).2
  have b6 := fmT_b srT 600000000 c.srvs fun s h => (hs s h).2.2
  have q6 := of_decide_eq_true h5
  have q7 := inB_i h8
  have b7 : c.ups.length * 42000000 ≤ 16 * 42000000 := Nat.mul_le_mul_right _ q6
  have b8 : c.srvs.length * 600000000 ≤ 32 * 600000000 := Nat.mul_le_mul_right _ (by omega)
  unfold textC hdT
  simp only [List.length_append]
  omega
end Go.Proofs.YtmnohicojefhfaaGreatDoor
end

/-
What a text is read as: its fault's line; what may be. Plain laws.
-/
section
namespace Go.Proofs.YtmnohicojefhfaaGreatDoor
open Go.RowKit

/-- What a text is read as. -/
structure PaOk (l : List UInt8) (r : Cf14 × Nat × Int) : Prop where
  bad : r.2.2 ≠ 0 → r.1 = cfZ
  line : r.2.1 ≤ l.length + 1
  good : r.2.2 = 0 → goodC r.1 = true ∧ r.2.1 = 0
end Go.Proofs.YtmnohicojefhfaaGreatDoor
end
