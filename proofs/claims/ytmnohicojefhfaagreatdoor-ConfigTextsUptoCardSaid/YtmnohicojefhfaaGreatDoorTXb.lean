/-
A number written in ten signs is read as it was. Plain laws (turned from XBack1).
-/
import Derived.Test.YtmnohicojefhfaaGreatDoorPUa
import Derived.Test.YtmnohicojefhfaaGreatDoorUHa
import Derived.Test.YtmnohicojefhfaaGreatDoorTXa
import Derived.Test.YtmnohicojefhfaaGreatDoorCIa
import Derived.Test.YtmnohicojefhfaaGreatDoorCFa
set_option linter.unusedVariables false
set_option linter.unusedSimpArgs false
section
namespace Go.Proofs.YtmnohicojefhfaaGreatDoor
open Go.RowKit

theorem valF_one (B a : Nat) (b : UInt8) : valF B a [b] = a * B + digV b := rfl
theorem dec_dig : ∀ d : Fin 10, isDig 10 (UInt8.ofNat (48 + d.val)) = true ∧ digV (UInt8.ofNat (48 + d.val)) = d.val ∧ lowB (UInt8.ofNat (48 + d.val)) = UInt8.ofNat (48 + d.val) := by decide +kernel
theorem decL_all : ∀ n : Nat, (Lib.decDigits n).all (isDig 10) = true ∧ valL 10 (Lib.decDigits n) = n ∧ lowL (Lib.decDigits n) = Lib.decDigits n ∧ 0 < (Lib.decDigits n).length := by
 intro n
 induction n using Nat.strongRecOn with
 | ind n ih =>
  by_cases h : n < 10
  ·have t := dec_dig ⟨n, h⟩
   have t1 : isDig 10 (UInt8.ofNat (48 + n)) = true := t.1
   have t2 : digV (UInt8.ofNat (48 + n)) = n := t.2.1
   have t3 : lowB (UInt8.ofNat (48 + n)) = UInt8.ofNat (48 + n) := t.2.2
   rw [Lib.decDigits_one h]
   generalize UInt8.ofNat (48 + n) = b at *
   refine ⟨by simp [t1], ?_, by simp [lowL, t3], by simp⟩
   have e : valL 10 [b] = 0 * 10 + digV b := rfl
   rw [e, t2]; simp
  ·have t := dec_dig ⟨n % 10, Nat.mod_lt _ (by omega)⟩
   have t1 : isDig 10 (UInt8.ofNat (48 + n % 10)) = true := t.1
   have t2 : digV (UInt8.ofNat (48 + n % 10)) = n % 10 := t.2.1
   have t3 : lowB (UInt8.ofNat (48 + n % 10)) = UInt8.ofNat (48 + n % 10) := t.2.2
   obtain ⟨h1, h2, h3, _⟩ := ih (n / 10) (by omega)
   rw [Lib.decDigits, dif_neg h]
   generalize UInt8.ofNat (48 + n % 10) = b at *
   refine ⟨by simp [h1, t1], ?_, ?_, by simp⟩
   ·unfold valL at h2 ⊢
    rw [valF_app, h2, valF_one, t2]; omega
   ·unfold lowL at h3 ⊢
    rw [List.map_append, h3]; simp [t3]
end Go.Proofs.YtmnohicojefhfaaGreatDoor
end

section
namespace Go.Proofs.YtmnohicojefhfaaGreatDoor
open Go.RowKit

def peT (p : Pe14) : List UInt8 := lineT semi [112, 101, 101, 114] [.num p.id, .num p.most]
def upT (u : Up14) : List UInt8 := lineT beg [117, 112, 115, 116, 114, 101, 97, 109] [.txt u.name] ++ u.peers.flatMap peT ++ lineT semi [116, 105, 109, 101, 111, 117, 116] [.num u.timeout] ++ lineT semi [114, 101, 116, 114, 105, 101, 115] [.num u.retries] ++ shut
def nmT (n : List UInt8) : List UInt8 := lineT semi [110, 97, 109, 101] [.txt n]
def dfT (b : Bool) : List UInt8 := if b then lineT semi [100, 101, 102, 97, 117, 108, 116] [] else []
def srT (s : Sr14) : List UInt8 := lineT beg [115, 101, 114, 118, 101, 114] [] ++ s.names.flatMap nmT ++ dfT s.dflt ++ s.locs.flatMap loT ++ shut
def hdT (c : Cf14) : List UInt8 := lineT semi [107, 101, 101, 112] [.num c.keep] ++ lineT semi [98, 111, 100, 121] [.num c.body] ++ lineT semi [115, 116, 111, 114, 101] [.num c.store] ++ lineT semi [99, 111, 110, 110, 115] [.num c.conns]
def textC (c : Cf14) : List UInt8 := hdT c ++ c.ups.flatMap upT ++ c.srvs.flatMap srT
structure UpN (u : Up14) : Prop where
 name : ArOk (.txt u.name)
 id : ∀ p ∈ u.peers, ArOk (.num p.id)
 most : ∀ p ∈ u.peers, ArOk (.num p.most)
 timeout : ArOk (.num u.timeout)
 retries : ArOk (.num u.retries)
structure CfN (c : Cf14) : Prop where
 keep : ArOk (.num c.keep)
 body : ArOk (.num c.body)
 store : ArOk (.num c.store)
 conns : ArOk (.num c.conns)
 ups : ∀ u ∈ c.ups, UpN u
 names : ∀ s ∈ c.srvs, ∀ n ∈ s.names, ArOk (.txt n)
 locs : ∀ s ∈ c.srvs, ∀ l ∈ s.locs, LoN l
 len : (textC c).length ≤ 140737488355328
def textR (c : Cf14) : List UInt8 × Int := if goodC c then (if (textC c).length ≤ 65536 then (textC c, 0) else ([], 6)) else ([], 60)
theorem fmT_take {α : Type} (f : α → List UInt8) (l : List α) (i : Nat) (h : i < l.length) : (l.take (i + 1)).flatMap f = (l.take i).flatMap f ++ f l[i] := by
 rw [List.take_succ_eq_append_getElem h, List.flatMap_append]; simp
theorem fmT_le {α : Type} (f : α → List UInt8) (l : List α) (i : Nat) : ((l.take i).flatMap f).length ≤ (l.flatMap f).length := by
 conv => rhs; rw [← List.take_append_drop i l, List.flatMap_append, List.length_append]
 omega
theorem fmT_le1 {α : Type} (f : α → List UInt8) (l : List α) (i : Nat) (h : i < l.length) : ((l.take i).flatMap f).length + (f l[i]).length ≤ (l.flatMap f).length := by
 have := fmT_le f l (i + 1)
 rw [fmT_take f l i h, List.length_append] at this
 exact this
theorem ne_textC (c : Cf14) : textC c ≠ [] := by
 intro h
 have := congrArg List.length h
 simp only [textC, hdT, lineT, List.length_append, List.length_cons, List.length_nil] at this
 omega
end Go.Proofs.YtmnohicojefhfaaGreatDoor
end

section
namespace Go.Proofs.YtmnohicojefhfaaGreatDoor
open Go.RowKit

theorem wd_all : ∀ b : Fin 256, (isDig 10 b.val.toUInt8 = true → wordB b.val.toUInt8 = true) ∧ (wordB b.val.toUInt8 = true → otherB b.val.toUInt8 ∧ ¬ (b.val.toUInt8.toNat < 33 ∨ 126 < b.val.toUInt8.toNat)) := by
 unfold otherB
 decide +kernel
theorem wd_u8 (b : UInt8) : (isDig 10 b = true → wordB b = true) ∧ (wordB b = true → otherB b ∧ ¬ (b.toNat < 33 ∨ 126 < b.toNat)) := by
 have := wd_all ⟨b.toNat, UInt8.toNat_lt b⟩
 simpa using this
def offW (r : List UInt8) : Prop := ∀ c, r.head? = some c → wordB c = false
theorem offW.take {r : List UInt8} (h : offW r) : r.takeWhile wordB = [] := by
 cases r with
 | nil => rfl
 | cons c r => rw [List.takeWhile_cons, h c rfl]; rfl
theorem lexT_wd {w : List UInt8} (h0 : w ≠ []) (hw : w.all wordB = true) {r : List UInt8} (hr : offW r) (n : Nat) : lexT (w ++ r) n = (⟨0, w, n⟩ :: (lexT r n).1, (lexT r n).2) := by
 cases w with
 | nil => exact absurd rfl h0
 | cons c w =>
  have hc : wordB c = true := by
   rw [List.all_cons, Bool.and_eq_true] at hw
   exact hw.1
  obtain ⟨h1, h2⟩ := (wd_u8 c).2 hc
  have ht : (c :: (w ++ r)).takeWhile wordB = c :: w := by
   rw [← List.cons_append, List.takeWhile_append_of_pos (List.all_eq_true.1 hw), hr.take, List.append_nil]
  rw [List.cons_append, lexT_word h1 h2, ht, ← List.cons_append, List.drop_left]
theorem bytes_ne {s : List UInt8} (h : bytesC 32 s = true) : ∀ x ∈ s, (x != 34) = true := by
 intro x hx
 have := List.all_eq_true.1 h x hx
 simp only [Bool.and_eq_true] at this
 exact this.2
theorem lexT_qt {s : List UInt8} (h : bytesC 32 s = true) (r : List UInt8) (n : Nat) : lexT (34 :: (s ++ 34 :: r)) n = (⟨0, s, n⟩ :: (lexT r n).1, (lexT r n).2) := by
 have ht : (s ++ 34 :: r).takeWhile (· != 34) = s := by
  rw [List.takeWhile_append_of_pos (bytes_ne h), List.takeWhile_cons]
  simp
 rw [lexT_quote (by
  rw [ht]
  intro h2
  rcases h2 with h2 | h2
  ·rw [List.length_append, List.length_cons] at h2; omega
  ·rw [h] at h2; cases h2), ht]
 have : (s ++ 34 :: r).drop (s.length + 1) = r := by
  rw [← List.drop_drop, List.drop_left]; rfl
 rw [this]
def ArL : Ar → Prop
 | .num n => 0 ≤ n ∧ n ≤ 1000000000000000000
 | .txt s => bytesC 32 s = true
def wordA : Ar → List UInt8
 | .num n => decT n
 | .txt s => s
theorem decT_eq (n : Nat) : decT (n : Int) = Lib.decDigits n := by
 unfold decT decB
 rw [str_data, Lib.itoa_nonneg]
theorem dec_word {n : Int} (h : 0 ≤ n) : decT n ≠ [] ∧ (decT n).all wordB = true := by
 obtain ⟨m, rfl⟩ := Int.eq_ofNat_of_zero_le h
 rw [decT_eq]
 obtain ⟨h1, _, _, hp⟩ := decL_all m
 exact ⟨List.length_pos_iff.1 hp, List.all_eq_true.2 fun b hb => (wd_u8 b).1 (List.all_eq_true.1 h1 b hb)⟩
theorem offW.cons {c : UInt8} (h : wordB c = false) (r : List UInt8) : offW (c :: r) := fun x hx => by cases hx; exact h
theorem offW.args {r : List UInt8} (h : offW r) : ∀ (xs : List Ar), offW (argsT xs ++ r) := by
 intro xs
 cases xs with
 | nil => exact h
 | cons x xs =>
  cases x with
  | num n => exact offW.cons (by decide) _
  | txt s => exact offW.cons (by decide) _
theorem lexT_args {r : List UInt8} (hr : offW r) (n : Nat) : ∀ (xs : List Ar), (∀ x ∈ xs, ArL x) → lexT (argsT xs ++ r) n = (xs.map (fun x => (⟨0, wordA x, n⟩ : Tk14)) ++ (lexT r n).1, (lexT r n).2) := by
 intro xs
 induction xs with
 | nil => intro _; rfl
 | cons x xs ih =>
  intro h
  have h0 := h x (by simp)
  have ih := ih fun y hy => h y (by simp [hy])
  have e : argsT (x :: xs) ++ r = argT x ++ (argsT xs ++ r) := by
   show (argT x ++ argsT xs) ++ r = _
   rw [List.append_assoc]
  rw [e]
  cases x with
  | num m =>
   obtain ⟨h1, h2⟩ := dec_word h0.1
   show lexT (32 :: (decT m ++ (argsT xs ++ r))) n = _
   rw [lexT_blank (.inr (.inr rfl)), lexT_wd h1 h2 (hr.args xs), ih]
   rfl
  | txt s =>
   have e2 : argT (.txt s) ++ (argsT xs ++ r) = 32 :: 34 :: (s ++ 34 :: (argsT xs ++ r)) := by
    show ([32, 34] ++ s ++ [34]) ++ _ = _
    simp
   rw [e2, lexT_blank (.inr (.inr rfl)), lexT_qt h0, ih]
   rfl
theorem name_word (k : Dk) : nameD k ≠ [] ∧ (nameD k).all wordB = true := by cases k <;> exact ⟨by decide, by decide⟩
theorem lexT_semi (k : Dk) (xs : List Ar) (h : ∀ x ∈ xs, ArL x) (r : List UInt8) (n : Nat) :
  lexT (lineT semi (nameD k) xs ++ r) n = ((⟨0, nameD k, n⟩ :: xs.map (fun x => (⟨0, wordA x, n⟩ : Tk14)) ++ [⟨59, [], n⟩]) ++ (lexT r (n + 1)).1, (lexT r (n + 1)).2) := by
 have e : lineT semi (nameD k) xs ++ r = nameD k ++ (argsT xs ++ (59 :: 10 :: r)) := by simp [lineT, semi]
 have h1 : offW (59 :: 10 :: r) := offW.cons (by decide) _
 rw [e, lexT_wd (name_word k).1 (name_word k).2 (h1.args xs), lexT_args h1 n xs h, lexT_mark (.inl rfl), lexT_line]
 simp
theorem lexT_beg (k : Dk) (xs : List Ar) (h : ∀ x ∈ xs, ArL x) (r : List UInt8) (n : Nat) :
  lexT (lineT beg (nameD k) xs ++ r) n = ((⟨0, nameD k, n⟩ :: xs.map (fun x => (⟨0, wordA x, n⟩ : Tk14)) ++ [⟨123, [], n⟩]) ++ (lexT r (n + 1)).1, (lexT r (n + 1)).2) := by
 have e : lineT beg (nameD k) xs ++ r = nameD k ++ (argsT xs ++ (32 :: 123 :: 10 :: r)) := by simp [lineT, beg]
 have h1 : offW (32 :: 123 :: 10 :: r) := offW.cons (by decide) _
 rw [e, lexT_wd (name_word k).1 (name_word k).2 (h1.args xs), lexT_args h1 n xs h, lexT_blank (.inr (.inr rfl)), lexT_mark (.inr (.inl rfl)), lexT_line]
 simp
theorem lexT_shut (r : List UInt8) (n : Nat) : lexT (shut ++ r) n = ([⟨125, [], n⟩] ++ (lexT r (n + 1)).1, (lexT r (n + 1)).2) := by
 show lexT (125 :: 10 :: r) n = _
 rw [lexT_mark (.inr (.inr rfl)), lexT_line]
 rfl
theorem nodes_words (n d : Nat) (ts : List Tk14) : ∀ (xs : List Ar) (m : Nd14), nodesF (xs.map (fun x => (⟨0, wordA x, n⟩ : Tk14)) ++ ts) (some m) d = nodesF ts (some { m with words := m.words ++ xs.map wordA }) d := by
 intro xs
 induction xs with
 | nil => intro m; simp
 | cons x xs ih =>
  intro m
  rw [List.map_cons, List.cons_append]
  rw [nodesF, if_pos rfl]
  dsimp only
  rw [ih]
  simp [List.append_assoc]
def hdD (ns : List Nd14) (d : Nat) : Prop := ∀ x, ns.head? = some x → x.deep ≤ d
def Rds (t : List UInt8) (d : Nat) (st : List Fr14 × Cf14) (d' : Nat) (st' : List Fr14 × Cf14) : Prop :=
 ∀ n, ∃ (ts : List Tk14) (ns : List Nd14) (k : Nat), (∀ r, lexT (t ++ r) n = (ts ++ (lexT r (n + k)).1, (lexT r (n + k)).2)) ∧ (∀ ts', nodesF (ts ++ ts') none d = (nodesF ts' none d').map fun q => (ns ++ q.1, q.2)) ∧
  (∀ ns', hdD ns' d' → hdD (ns ++ ns') d ∧ (runD st (ns ++ ns')).map (·.2) = (runD st' ns').map (·.2))
theorem Rds.nil_ (d : Nat) (st : List Fr14 × Cf14) : Rds [] d st d st := fun n => ⟨[], [], 0, fun r => rfl, fun ts' => by
 cases h : nodesF ts' none d with
 | error e => simp [h, Except.map]
 | ok q => simp [h, Except.map], fun ns' h => ⟨h, rfl⟩⟩
theorem Rds.tr {t t2 : List UInt8} {d d1 d2 : Nat} {st st1 st2 : List Fr14 × Cf14} (h : Rds t d st d1 st1) (k : Rds t2 d1 st1 d2 st2) : Rds (t ++ t2) d st d2 st2 := by
 intro n
 obtain ⟨ts, ns, a, h1, h2, h3⟩ := h n
 obtain ⟨ts2, ns2, b, k1, k2, k3⟩ := k (n + a)
 refine ⟨ts ++ ts2, ns ++ ns2, a + b, fun r => ?_, fun ts' => ?_, fun ns' hn => ?_⟩
 ·rw [List.append_assoc, h1, k1, Nat.add_assoc, List.append_assoc]
 ·rw [List.append_assoc, h2, k2]
  cases nodesF ts' none d2 with
  | error e => rfl
  | ok q => simp [Except.map]
 ·obtain ⟨q1, q2⟩ := k3 ns' hn
  obtain ⟨r1, r2⟩ := h3 _ q1
  rw [List.append_assoc]
  exact ⟨r1, r2.trans q2⟩
theorem dk_name (k : Dk) : dkOf (nameD k) = some k := by cases k <;> decide
theorem step_ok (k : Dk) (ws : List (List UInt8)) (F : Option Dk) (came : List Dk) (rest : List Fr14) (c c' : Cf14) (d n : Nat) (hd : rest.length = d) (hin : inD k = F) (hl : leastD k ≤ ws.length) (hm : ws.length ≤ mostD k)
  (hc : came.contains (kindD k) = false ∨ manyD k = true) (hdo : doD k ws c = some c') : stepD ((F, came) :: rest, c) ⟨nameD k :: ws, d, blockD k, n⟩ = .ok ((if blockD k then [(some k, [])] else []) ++ (F, kindD k :: came) :: rest, c') := by
 subst hd
 have hfit : fitD k ⟨nameD k :: ws, rest.length, blockD k, n⟩ (F, came) = true := by
  unfold fitD
  simp only [List.length_cons, Nat.add_sub_cancel, beq_self_eq_true, Bool.and_true]
  rw [decide_eq_true hin, decide_eq_true hl, decide_eq_true hm]
  rcases hc with h | h
  ·rw [h]; rfl
  ·rw [h]; simp
 unfold stepD
 simp only [List.length_cons, Nat.sub_self, List.drop_zero, List.headD_cons, List.drop_one, List.tail_cons]
 rw [dk_name]
 simp only [hfit, if_true, hdo]
theorem Rds.line (k : Dk) (xs : List Ar) (F : Option Dk) (came : List Dk) (rest : List Fr14) (c c' : Cf14) (d : Nat) (hx : ∀ x ∈ xs, ArL x) (hd : rest.length = d) (hin : inD k = F) (hl : leastD k ≤ xs.length) (hm : xs.length ≤ mostD k)
  (hc : came.contains (kindD k) = false ∨ manyD k = true) (hdo : doD k (xs.map wordA) c = some c') (hb : blockD k = false) : Rds (lineT semi (nameD k) xs) d ((F, came) :: rest, c) d ((F, kindD k :: came) :: rest, c') := by
 intro n
 refine ⟨_, [⟨nameD k :: xs.map wordA, d, false, n⟩], 1, fun r => lexT_semi k xs hx r n, fun ts' => ?_, fun ns' hn => ⟨fun x hx => by cases hx; exact Nat.le_refl _, ?_⟩⟩
 ·rw [List.cons_append, List.cons_append, nodesF, if_pos rfl, List.append_assoc]
  dsimp only
  rw [nodes_words, List.cons_append, List.nil_append, nodesF]
  rfl
 ·have hs := step_ok k (xs.map wordA) F came rest c c' d n hd hin (by rw [List.length_map]; exact hl) (by rw [List.length_map]; exact hm) hc hdo
  rw [hb] at hs
  rw [List.cons_append, List.nil_append, runD, hs]
  rfl
theorem Rds.block (k : Dk) (xs : List Ar) (F : Option Dk) (came : List Dk) (rest : List Fr14) (c c' : Cf14) (d : Nat) (hx : ∀ x ∈ xs, ArL x) (hd : rest.length = d) (h3 : d < 3) (hin : inD k = F) (hl : leastD k ≤ xs.length) (hm : xs.length ≤ mostD k)
  (hc : came.contains (kindD k) = false ∨ manyD k = true) (hdo : doD k (xs.map wordA) c = some c') (hb : blockD k = true) : Rds (lineT beg (nameD k) xs) d ((F, came) :: rest, c) (d + 1) ((some k, []) :: (F, kindD k :: came) :: rest, c') := by
 intro n
 refine ⟨_, [⟨nameD k :: xs.map wordA, d, true, n⟩], 1, fun r => lexT_beg k xs hx r n, fun ts' => ?_, fun ns' hn => ⟨fun x hx => by cases hx; exact Nat.le_refl _, ?_⟩⟩
 ·rw [List.cons_append, List.cons_append, nodesF, if_pos rfl, List.append_assoc]
  dsimp only
  rw [nodes_words, List.cons_append, List.nil_append, nodesF, if_neg (show ¬ (123 : UInt8) = 0 from by decide), if_neg (show ¬ (123 : UInt8) = 125 from by decide)]
  dsimp only
  rw [if_pos rfl, if_neg (by omega)]
  rfl
 ·have hs := step_ok k (xs.map wordA) F came rest c c' d n hd hin (by rw [List.length_map]; exact hl) (by rw [List.length_map]; exact hm) hc hdo
  rw [hb] at hs
  rw [List.cons_append, List.nil_append, runD, hs]
  rfl
theorem Rds.shut (fr : Fr14) (rest : List Fr14) (c : Cf14) (d : Nat) (hd : rest.length = d + 1) : Rds shut (d + 1) (fr :: rest, c) d (rest, c) := by
 intro n
 refine ⟨_, [], 1, fun r => lexT_shut r n, fun ts' => ?_, fun ns' hn => ⟨fun x hx => Nat.le_succ_of_le (hn x hx), ?_⟩⟩
 ·rw [List.cons_append, List.nil_append, nodesF, if_neg (show ¬ (125 : UInt8) = 0 from by decide), if_pos rfl, if_neg (by simp), Nat.add_sub_cancel]
  cases nodesF ts' none d with
  | error e => rfl
  | ok q => rfl
 ·rw [List.nil_append]
  cases ns' with
  | nil => rfl
  | cons x ns' =>
   have hx := hn x rfl
   have hs : stepD (fr :: rest, c) x = stepD (rest, c) x := by
    unfold stepD
    have e : (fr :: rest).drop ((fr :: rest).length - (x.deep + 1)) = rest.drop (rest.length - (x.deep + 1)) := by
     rw [List.length_cons, show rest.length + 1 - (x.deep + 1) = (rest.length - (x.deep + 1)) + 1 from by omega, List.drop_succ_cons]
    simp only [e]
   rw [runD, runD, hs]
end Go.Proofs.YtmnohicojefhfaaGreatDoor
end

section
namespace Go.Proofs.YtmnohicojefhfaaGreatDoor
open Go.RowKit

theorem inB_i {n a b : Int} (h : inB n a b = true) : a ≤ n ∧ n ≤ b := by
 unfold inB at h
 simpa using h
theorem inB_L {n a b : Int} (h : inB n a b = true) (ha : 0 ≤ a) (hb : b ≤ 1000000000000000000) : ArL (.num n) := by
 have := inB_i h
 exact ⟨by omega, by omega⟩
end Go.Proofs.YtmnohicojefhfaaGreatDoor
end

section
namespace Go.Proofs.YtmnohicojefhfaaGreatDoor
open Go.RowKit

def LoM (l : Lo14) : Prop := l.pre.length ≤ 1048576 ∧ l.root.length ≤ 1048576 ∧ l.index.length ≤ 1048576 ∧ l.goal.length ≤ 1048576
structure CfL (c : Cf14) : Prop where
 ups : ∀ u ∈ c.ups, u.name.length ≤ 1048576
 srvs : ∀ s ∈ c.srvs, (∀ n ∈ s.names, n.length ≤ 1048576) ∧ ∀ l ∈ s.locs, LoM l
def ArS (x : Ar) : Prop := (argT x).length ≤ 1048579
theorem ars_txt {s : List UInt8} (h : s.length ≤ 1048576) : ArS (.txt s) := by
 show ([32, 34] ++ s ++ [34]).length ≤ 1048579
 simp only [List.length_append, List.length_cons, List.length_nil]; omega
theorem ars_num {n : Int} (h : ArL (.num n)) : ArS (.num n) := by
 have := decT_len n (by have := h.1; omega) (by have := h.2; omega)
 show (32 :: decT n).length ≤ 1048579
 rw [List.length_cons]; omega
theorem arok_txt {s : List UInt8} (h : s.length ≤ 1048576) : ArOk (.txt s) := by
 show s.length ≤ 140737488355328
 omega
theorem arok_num {n : Int} (h : ArL (.num n)) : ArOk (.num n) := ⟨by have := h.1; omega, by have := h.2; omega⟩
theorem args_b : ∀ (xs : List Ar), (∀ x ∈ xs, ArS x) → (argsT xs).length ≤ xs.length * 1048579 := by
 intro xs
 induction xs with
 | nil => intro _; exact Nat.zero_le _
 | cons x xs ih =>
  intro h
  have h1 : (argT x).length ≤ 1048579 := h x (by simp)
  have h2 := ih fun y hy => h y (by simp [hy])
  have e : argsT (x :: xs) = argT x ++ argsT xs := rfl
  rw [e, List.length_append, List.length_cons, Nat.add_mul]
  omega
theorem line_b (en nm : List UInt8) (xs : List Ar) (h1 : en.length ≤ 2) (h2 : nm.length ≤ 8) (h3 : xs.length ≤ 2) (h : ∀ x ∈ xs, ArS x) : (lineT en nm xs).length ≤ 2100000 := by
 have := args_b xs h
 have e : (lineT en nm xs).length = nm.length + (argsT xs).length + (en.length + 1) := by simp [lineT]; omega
 have : xs.length * 1048579 ≤ 2 * 1048579 := Nat.mul_le_mul_right _ h3
 omega
theorem fmT_b {α : Type} (f : α → List UInt8) (M : Nat) : ∀ (l : List α), (∀ x ∈ l, (f x).length ≤ M) → (l.flatMap f).length ≤ l.length * M := by
 intro l
 induction l with
 | nil => intro _; simp
 | cons x l ih =>
  intro h
  have h1 := h x (by simp)
  have h2 := ih fun y hy => h y (by simp [hy])
  rw [List.flatMap_cons, List.length_append, List.length_cons, Nat.add_mul]
  omega
theorem ars1 {x : Ar} (h : ArS x) : ∀ y ∈ [x], ArS y := fun y hy => by rw [List.mem_singleton] at hy; rw [hy]; exact h
theorem ars2 {x z : Ar} (h : ArS x) (h2 : ArS z) : ∀ y ∈ [x, z], ArS y := fun y hy => by
 rcases List.mem_cons.1 hy with h3 | h3
 ·rw [h3]; exact h
 ·rw [List.mem_singleton] at h3; rw [h3]; exact h2
theorem ars0 : ∀ y ∈ ([] : List Ar), ArS y := fun y hy => by cases hy
theorem shut_b : shut.length = 2 := rfl
theorem up_b (u : Up14) (hu : upC u = true) (hn : u.name.length ≤ 1048576) : UpN u ∧ (upT u).length ≤ 42000000 := by
 unfold upC at hu
 simp only [Bool.and_eq_true] at hu
 obtain ⟨⟨⟨⟨⟨h1, h2⟩, h3⟩, h4⟩, h5⟩, h6⟩ := hu
 have n3 := inB_L h3 (by omega) (by omega)
 have n4 := inB_L h4 (by omega) (by omega)
 have hp : ∀ p ∈ u.peers, ArL (.num p.id) ∧ ArL (.num p.most) := fun p hp => by
  have := List.all_eq_true.1 h5 p hp
  unfold peC at this
  rw [Bool.and_eq_true] at this
  exact ⟨inB_L this.1 (by omega) (by omega), inB_L this.2 (by omega) (by omega)⟩
 refine ⟨⟨arok_txt hn, fun p h => arok_num (hp p h).1, fun p h => arok_num (hp p h).2, arok_num n3, arok_num n4⟩, ?_⟩
 have b1 := line_b beg [117, 112, 115, 116, 114, 101, 97, 109] [.txt u.name] (by decide) (by decide) (by simp) (ars1 (ars_txt hn))
 have b2 := fmT_b peT 2100000 u.peers fun p h => line_b semi [112, 101, 101, 114] [.num p.id, .num p.most] (by decide) (by decide) (by simp) (ars2 (ars_num (hp p h).1) (ars_num (hp p h).2))
 have b3 := line_b semi [116, 105, 109, 101, 111, 117, 116] [.num u.timeout] (by decide) (by decide) (by simp) (ars1 (ars_num n3))
 have b4 := line_b semi [114, 101, 116, 114, 105, 101, 115] [.num u.retries] (by decide) (by decide) (by simp) (ars1 (ars_num n4))
 have h7 := inB_i h2
 have b5 : u.peers.length * 2100000 ≤ 16 * 2100000 := Nat.mul_le_mul_right _ (by omega)
 have b6 := shut_b
 unfold upT
 simp only [List.length_append]
 omega
theorem lo_b (ups : List Up14) (hups : ∀ u ∈ ups, u.name.length ≤ 1048576) (l : Lo14) (h : locC ups l = true) (ht : LoM l) : LoN l ∧ (loT l).length ≤ 15000000 := by
 have hk : loc0 l = true ∧ restC l = lo0 ∧ ((l.kind = 1 ∧ loc1 l = true) ∨ (l.kind ≠ 1 ∧ l.kind = 2 ∧ loc2 ups l = true) ∨ (l.kind ≠ 1 ∧ l.kind ≠ 2 ∧ loc3 l = true)) := by
  unfold locC at h
  split at h
  ·simp only [Bool.and_eq_true, decide_eq_true_eq] at h
   exact ⟨h.1.1, h.2, .inl ⟨‹_›, h.1.2⟩⟩
  ·split at h
   ·simp only [Bool.and_eq_true, decide_eq_true_eq] at h
    exact ⟨h.1.1, h.2, .inr (.inl ⟨‹_›, ‹_›, h.1.2⟩)⟩
   ·split at h
    ·simp only [Bool.and_eq_true, decide_eq_true_eq] at h
     exact ⟨h.1.1, h.2, .inr (.inr ⟨‹_›, ‹_›, h.1.2⟩)⟩
    ·cases h
 obtain ⟨h0, hq, hk⟩ := hk
 unfold loc0 at h0
 simp only [Bool.and_eq_true, Bool.or_eq_true, decide_eq_true_eq] at h0
 obtain ⟨⟨⟨p1, p2⟩, p3⟩, p4⟩ := h0
 have n1 := inB_L p2 (by omega) (by omega)
 have n2 := inB_L p3 (by omega) (by omega)
 have z0 : ArL (.num 0) := ⟨by omega, by omega⟩
 obtain ⟨t1, t2, t3, t4⟩ := ht
 have hN : ArL (.num l.gzip) ∧ ArL (.num l.expires) ∧ ArL (.num l.status) ∧ l.up.length ≤ 1048576 := by
  rcases hk with ⟨k1, g⟩ | ⟨k1, k2, g⟩ | ⟨k1, k2, g⟩
  ·unfold restC at hq
   rw [if_pos k1] at hq
   unfold loc1 at g
   simp only [Bool.and_eq_true] at g
   have e1 : l.status = 0 := congrArg Lo14.status hq
   have e2 : l.up = [] := congrArg Lo14.up hq
   rw [e1, e2]
   exact ⟨inB_L g.1.2 (by omega) (by omega), inB_L g.2 (by omega) (by omega), z0, Nat.zero_le _⟩
  ·unfold restC at hq
   rw [if_neg k1, if_pos k2] at hq
   unfold loc2 at g
   rw [Bool.and_eq_true] at g
   have e1 : l.status = 0 := congrArg Lo14.status hq
   have e2 : l.expires = 0 := congrArg Lo14.expires hq
   rw [e1, e2]
   have hu : l.up.length ≤ 1048576 := by
    obtain ⟨u, hu, he⟩ := List.any_eq_true.1 g.1
    rw [← of_decide_eq_true he]
    exact hups u hu
   exact ⟨inB_L g.2 (by omega) (by omega), z0, z0, hu⟩
  ·unfold restC at hq
   rw [if_neg k1, if_neg k2] at hq
   unfold loc3 at g
   simp only [Bool.and_eq_true] at g
   have e1 : l.gzip = 0 := congrArg Lo14.gzip hq
   have e2 : l.expires = 0 := congrArg Lo14.expires hq
   have e3 : l.up = [] := congrArg Lo14.up hq
   rw [e1, e2, e3]
   exact ⟨z0, z0, inB_L g.1.1.1 (by omega) (by omega), Nat.zero_le _⟩
 obtain ⟨n3, n4, n5, t5⟩ := hN
 refine ⟨⟨arok_num n3, arok_num n4, arok_num n1, arok_num n2, arok_num n5, arok_txt t1, arok_txt t2, arok_txt t3, arok_txt t5, arok_txt t4⟩, ?_⟩
 have b0 := line_b beg [108, 111, 99, 97, 116, 105, 111, 110] [.txt l.pre] (by decide) (by decide) (by simp) (ars1 (ars_txt t1))
 have b1 := line_b semi [114, 111, 111, 116] [.txt l.root] (by decide) (by decide) (by simp) (ars1 (ars_txt t2))
 have b2 := line_b semi [105, 110, 100, 101, 120] [.txt l.index] (by decide) (by decide) (by simp) (ars1 (ars_txt t3))
 have b3 := line_b semi [103, 122, 105, 112] [.num l.gzip] (by decide) (by decide) (by simp) (ars1 (ars_num n3))
 have b4 := line_b semi [101, 120, 112, 105, 114, 101, 115] [.num l.expires] (by decide) (by decide) (by simp) (ars1 (ars_num n4))
 have b5 := line_b semi [112, 114, 111, 120, 121] [.txt l.up] (by decide) (by decide) (by simp) (ars1 (ars_txt t5))
 have b6 := line_b semi [99, 97, 99, 104, 101] [] (by decide) (by decide) (by simp) ars0
 have b7 := line_b semi [114, 101, 116, 117, 114, 110] [.num l.status, .txt l.goal] (by decide) (by decide) (by simp) (ars2 (ars_num n5) (ars_txt t4))
 have b8 := line_b semi [108, 105, 109, 105, 116] [.num l.rate, .num l.burst] (by decide) (by decide) (by simp) (ars2 (ars_num n1) (ars_num n2))
 have b9 := shut_b
 have c1 : (loTk l).length ≤ 8400000 := by
  unfold loTk loT1 loT2 loT3
  split
  ·split <;> simp only [List.length_append, List.length_nil] <;> omega
  ·split
   ·split <;> simp only [List.length_append, List.length_nil] <;> omega
   ·omega
 have c2 : (loTr l).length ≤ 2100000 := by
  unfold loTr
  split
  ·exact b8
  ·simp
 unfold loT
 simp only [List.length_append]
 omega
theorem cfn_ofL (c : Cf14) (h : goodC c = true) (ht : CfL c) : CfN c := by
 unfold goodC at h
 simp only [Bool.and_eq_true] at h
 obtain ⟨⟨⟨⟨⟨⟨⟨⟨⟨⟨h1, h2⟩, h3⟩, h4⟩, h5⟩, h6⟩, h7⟩, h8⟩, h9⟩, h10⟩, h11⟩ := h
 have n1 := inB_L h1 (by omega) (by omega)
 have n2 := inB_L h2 (by omega) (by omega)
 have n3 := inB_L h3 (by omega) (by omega)
 have n4 := inB_L h4 (by omega) (by omega)
 have hu : ∀ u ∈ c.ups, UpN u ∧ (upT u).length ≤ 42000000 := fun u hu => up_b u (List.all_eq_true.1 h6 u hu) (ht.ups u hu)
 have hs : ∀ s ∈ c.srvs, (∀ n ∈ s.names, n.length ≤ 1048576) ∧ (∀ l ∈ s.locs, LoN l ∧ (loT l).length ≤ 15000000) ∧ (srT s).length ≤ 600000000 := fun s hs => by
  have hc := List.all_eq_true.1 h9 s hs
  unfold srC at hc
  simp only [Bool.and_eq_true] at hc
  obtain ⟨⟨⟨⟨q1, q2⟩, q3⟩, q4⟩, q5⟩ := hc
  have hl : ∀ l ∈ s.locs, LoN l ∧ (loT l).length ≤ 15000000 := fun l hl => lo_b c.ups (fun u hu => (ht.ups u hu)) l (List.all_eq_true.1 q4 l hl) ((ht.srvs s hs).2 l hl)
  refine ⟨(ht.srvs s hs).1, hl, ?_⟩
  have b1 := line_b beg [115, 101, 114, 118, 101, 114] [] (by decide) (by decide) (by simp) ars0
  have b2 := fmT_b nmT 2100000 s.names fun n hn => line_b semi [110, 97, 109, 101] [.txt n] (by decide) (by decide) (by simp) (ars1 (ars_txt ((ht.srvs s hs).1 n hn)))
  have b3 := fmT_b loT 15000000 s.locs fun l h => (hl l h).2
  have b4 : (dfT s.dflt).length ≤ 2100000 := by
   unfold dfT
   split
   ·exact line_b semi [100, 101, 102, 97, 117, 108, 116] [] (by decide) (by decide) (by simp) ars0
   ·simp
  have q6 := of_decide_eq_true q1
  have q7 := inB_i q3
  have b5 : s.names.length * 2100000 ≤ 32 * 2100000 := Nat.mul_le_mul_right _ q6
  have b6 : s.locs.length * 15000000 ≤ 32 * 15000000 := Nat.mul_le_mul_right _ (by omega)
  have b7 := shut_b
  unfold srT
  simp only [List.length_append]
  omega
 refine ⟨arok_num n1, arok_num n2, arok_num n3, arok_num n4, fun u h => (hu u h).1, fun s h n hn => arok_txt ((hs s h).1 n hn), fun s h l hl => ((hs s h).2.1 l hl).1, ?_⟩
 have b1 := line_b semi [107, 101, 101, 112] [.num c.keep] (by decide) (by decide) (by simp) (ars1 (ars_num n1))
 have b2 := line_b semi [98, 111, 100, 121] [.num c.body] (by decide) (by decide) (by simp) (ars1 (ars_num n2))
 have b3 := line_b semi [115, 116, 111, 114, 101] [.num c.store] (by decide) (by decide) (by simp) (ars1 (ars_num n3))
 have b4 := line_b semi [99, 111, 110, 110, 115] [.num c.conns] (by decide) (by decide) (by simp) (ars1 (ars_num n4))
 have b5 := fmT_b upT 42000000 c.ups fun u h => (hu u h).2
 have b6 := fmT_b srT 600000000 c.srvs fun s h => (hs s h).2.2
 have q6 := of_decide_eq_true h5
 have q7 := inB_i h8
 have b7 : c.ups.length * 42000000 ≤ 16 * 42000000 := Nat.mul_le_mul_right _ q6
 have b8 : c.srvs.length * 600000000 ≤ 32 * 600000000 := Nat.mul_le_mul_right _ (by omega)
 unfold textC hdT
 simp only [List.length_append]
 omega
end Go.Proofs.YtmnohicojefhfaaGreatDoor
end
