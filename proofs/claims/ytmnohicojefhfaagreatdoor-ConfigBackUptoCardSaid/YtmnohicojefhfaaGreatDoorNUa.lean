/-
Rows of digits to the bases 10 and 16, read by the library's ParseUint at 63 bits.
-/
import Derived.Test.YtmnohicojefhfaaGreatDoorASb
import Derived.Test.YtmnohicojefhfaaGreatDoorUPn
set_option linter.unusedVariables false
set_option linter.unusedSimpArgs false
/-
Rows of digits to the bases 10 and 16, read by the library's ParseUint at 63 bits.
-/
section
namespace Go.Proofs.YtmnohicojefhfaaGreatDoor
open Go.RowKit

/-- The worth of a digit (of small letters), and of a row of digits. -/
def digV (b : UInt8) : Nat := if b.toNat ≤ 57 then b.toNat - 48 else b.toNat - 87
def isDig (B : Nat) (b : UInt8) : Bool := ((decide (48 ≤ b.toNat) && decide (b.toNat ≤ 57)) || (decide (97 ≤ b.toNat) && decide (b.toNat ≤ 102))) && decide (digV b < B)
def valF (B : Nat) (a : Nat) (l : List UInt8) : Nat := l.foldl (fun a b => a * B + digV b) a
def valL (B : Nat) (l : List UInt8) : Nat := valF B 0 l
theorem valF_cons (B a : Nat) (b : UInt8) (l : List UInt8) : valF B a (b :: l) = valF B (a * B + digV b) l := rfl
theorem valF_ge (B : Nat) (hB : 1 ≤ B) : ∀ (l : List UInt8) (a : Nat), a ≤ valF B a l
  | [], a => Nat.le_refl _
  | b :: l, a => by
    rw [valF_cons]
    have h1 := valF_ge B hB l (a * B + digV b)
    have h2 : a ≤ a * B := Nat.le_mul_of_pos_right a hB
    omega
/-- What ParseUint answers: the number, or the greatest and an error. -/
def puV (t : TypeId) (n : Nat) : Value := if n < 9223372036854775808 then .tuple #[.int .u64 (n : Int), .nilIface] else .tuple #[.int .u64 9223372036854775807, .iface t (.int .i64 1)]
theorem puV_lt {t : TypeId} {n : Nat} (h : n < 9223372036854775808) : puV t n = .tuple #[.int .u64 (n : Int), .nilIface] := by unfold puV; rw [if_pos h]
theorem puV_ge {t : TypeId} {n : Nat} (h : 9223372036854775808 ≤ n) : puV t n = .tuple #[.int .u64 9223372036854775807, .iface t (.int .i64 1)] := by unfold puV; rw [if_neg (by omega)]
end Go.Proofs.YtmnohicojefhfaaGreatDoor
end

/-
Numbers to a base: plain words, and the reference's worth of a digit.
-/
section
namespace Go.Proofs.YtmnohicojefhfaaGreatDoor
open Go.RowKit

def worthV (B : Int) (c : Nat) : Int :=
  let n : Int := if 48 ≤ c ∧ c ≤ 57 then (c : Int) - 48 else if 97 ≤ c ∧ c ≤ 102 then (c : Int) - 87 else if 65 ≤ c ∧ c ≤ 70 then (c : Int) - 55 else -1
  if B ≤ n then -1 else n
/-- A number to a base, at most most, or a fault. -/
def numL (B most : Nat) (l : List UInt8) : Int × Int :=
  if l = [] ∨ (lowL l).all (isDig B) = false then (0, 21) else if valL B (lowL l) ≤ most then ((valL B (lowL l) : Int), 0) else (0, 11)

end Go.Proofs.YtmnohicojefhfaaGreatDoor
end

/-
The reference's numbers to the bases 10 and 16.
-/
section
namespace Go.Proofs.YtmnohicojefhfaaGreatDoor
open Go.RowKit

theorem all_succ_l (l : List UInt8) (p : UInt8 → Bool) (k : Nat) (h : k < l.length) : (l.take (k + 1)).all p = ((l.take k).all p && p l[k]) := by
  rw [List.take_succ_eq_append_getElem h, List.all_append]; simp only [List.all_cons, List.all_nil, Bool.and_true]
theorem valF_app (B : Nat) : ∀ (a : Nat) (l m : List UInt8), valF B a (l ++ m) = valF B (valF B a l) m := by
  intro a l m; unfold valF; rw [List.foldl_append]
end Go.Proofs.YtmnohicojefhfaaGreatDoor
end

/-
Hosts, and bytes by % and two digits: plain words and laws. No program in sight.
-/
section
namespace Go.Proofs.YtmnohicojefhfaaGreatDoor
open Go.RowKit

theorem tw_eq (p : UInt8 → Bool) : ∀ (l : List UInt8) (k : Nat), k ≤ l.length → (l.take k).all p = true → (∀ h : k < l.length, p l[k] = false) → l.takeWhile p = l.take k
  | [], k, _, _, _ => by simp
  | b :: l, 0, _, _, h => by
    have := h (by simp)
    simp only [List.getElem_cons_zero] at this
    simp [List.takeWhile_cons, this]
  | b :: l, k + 1, hk, ha, h => by
    simp only [List.take_succ_cons, List.all_cons, Bool.and_eq_true] at ha
    rw [List.takeWhile_cons, ha.1]
    simp only [if_true, List.take_succ_cons]
    rw [tw_eq p l k (by simpa using hk) ha.2 (fun h' => h (Nat.succ_lt_succ h'))]
theorem tw_all (p : UInt8 → Bool) (l : List UInt8) : (l.takeWhile p).all p = true := by
  induction l with
  | nil => rfl
  | cons b l ih =>
    rw [List.takeWhile_cons]
    split
    · rename_i h; simp only [List.all_cons, h, ih, Bool.and_self]
    · rfl
theorem tw_len (p : UInt8 → Bool) (l : List UInt8) : (l.takeWhile p).length ≤ l.length := (List.takeWhile_prefix p).length_le
theorem tw_take (p : UInt8 → Bool) (l : List UInt8) : l.take (l.takeWhile p).length = l.takeWhile p := (List.prefix_iff_eq_take.1 (List.takeWhile_prefix p)).symm
theorem tw_stop (p : UInt8 → Bool) : ∀ (l : List UInt8) (h : (l.takeWhile p).length < l.length), p l[(l.takeWhile p).length] = false
  | [], h => by simp at h
  | b :: l, h => by
    by_cases hb : p b = true
    · have e : (b :: l).takeWhile p = b :: l.takeWhile p := by rw [List.takeWhile_cons, if_pos hb]
      simp only [e, List.length_cons, List.getElem_cons_succ] at h ⊢
      exact tw_stop p l (by simpa using h)
    · have e : (b :: l).takeWhile p = [] := by rw [List.takeWhile_cons, if_neg hb]
      simp only [e, List.length_nil, List.getElem_cons_zero]
      simpa using hb

/-- A byte that stands for itself; a byte between brackets. -/
def plnB (b : UInt8) : Bool := alB b.toNat || (b == 45 || b == 46 || b == 95 || b == 126)
def adrB (b : UInt8) : Bool := isDig 16 (lowB b) || (b == 58 || b == 46)
/-- How many bytes are a host's name; 0: none. -/
def nameL (l : List UInt8) : Nat :=
  if l.head? = some 91 then
    let a := (l.tail.takeWhile adrB).length
    if l.tail[a]? = some 93 ∧ 2 ≤ a ∧ a ≤ 60 then a + 2 else 0
  else
    let n := (l.takeWhile plnB).length
    if n ≤ 255 then n else 0
/-- What stands behind a host's name. -/
def portL (h r : List UInt8) : List UInt8 × Int × Int :=
  if r = [] then (lowL h, -1, 0)
  else if r.head? = some 58 ∧ (numL 10 1000000000000000000 r.tail).2 = 0 ∧ r.tail.length ≤ 5 ∧ (numL 10 1000000000000000000 r.tail).1 ≤ 65535 then (lowL h, (numL 10 1000000000000000000 r.tail).1, 0)
  else ([], 0, 40)
/-- A host and its port. -/
def hostL (l : List UInt8) : List UInt8 × Int × Int := if nameL l = 0 then ([], 0, 40) else portL (l.take (nameL l)) (l.drop (nameL l))
theorem adr_93 : adrB 93 = false := by decide
theorem pln_58 : plnB 58 = false := by decide
/-- In brackets: the first closing one. -/
theorem name_br {l : List UInt8} (h : l.head? = some 91) (i : Nat) (hi : i < l.length) (h1 : 1 ≤ i) (hb : l[i] = 93) (hno : ∀ j (hj : j < i), l[j]'(by omega) ≠ 93) :
    nameL l = if (3 ≤ i ∧ i ≤ 61) ∧ ((l.take i).tail.all adrB) = true then i + 1 else 0 := by
  unfold nameL
  rw [if_pos h]
  have ht : l.tail.length = l.length - 1 := List.length_tail
  have hti : l.tail[i - 1]? = some 93 := by
    rw [List.getElem?_tail, show i - 1 + 1 = i by omega, List.getElem?_eq_getElem hi, hb]
  have htt : (l.take i).tail = l.tail.take (i - 1) := by
    cases l with
    | nil => simp
    | cons a l => cases i with | zero => omega | succ i => simp
  rw [htt]
  have htg : ∀ (hk : i - 1 < l.tail.length), l.tail[i - 1] = 93 := fun hk => by
    rw [List.getElem?_eq_getElem hk] at hti; exact Option.some.inj hti
  by_cases ha : (l.tail.take (i - 1)).all adrB = true
  · have e : l.tail.takeWhile adrB = l.tail.take (i - 1) := tw_eq adrB l.tail (i - 1) (by omega) ha (fun hk => by rw [htg hk]; exact adr_93)
    have e2 : (l.tail.takeWhile adrB).length = i - 1 := by rw [e, List.length_take]; omega
    dsimp only
    rw [e2, hti, ha]
    by_cases hc : 3 ≤ i ∧ i ≤ 61
    · rw [if_pos ⟨rfl, by omega, by omega⟩, if_pos ⟨hc, rfl⟩]; omega
    · rw [if_neg (by intro h; omega), if_neg (fun h => hc h.1)]
  · have e0 : (if (3 ≤ i ∧ i ≤ 61) ∧ ((l.tail.take (i - 1)).all adrB) = true then i + 1 else 0) = 0 := if_neg (fun h => ha h.2)
    rw [e0]
    dsimp only
    rw [if_neg]
    rintro ⟨h93, _, _⟩
    -- the byte behind the row is no 93 ahead of i
    have hlt := (List.getElem?_eq_some_iff.1 h93).1
    have hv := (List.getElem?_eq_some_iff.1 h93).2
    have hge : i - 1 ≤ (l.tail.takeWhile adrB).length := by
      refine Classical.byContradiction fun hlt2 => ?_
      refine hno ((l.tail.takeWhile adrB).length + 1) (by omega) ?_
      rw [List.getElem_tail] at hv; exact hv
    refine ha ?_
    have := tw_all adrB l.tail
    rw [← tw_take] at this
    rw [List.all_eq_true] at this ⊢
    intro x hx
    refine this x ?_
    have e : l.tail.take (i - 1) = (l.tail.take (l.tail.takeWhile adrB).length).take (i - 1) := by rw [List.take_take, Nat.min_eq_left hge]
    rw [e] at hx
    exact List.mem_of_mem_take hx
theorem name_br0 {l : List UInt8} (h : l.head? = some 91) (hno : 93 ∉ l) : nameL l = 0 := by
  unfold nameL
  rw [if_pos h]
  dsimp only
  rw [if_neg]
  rintro ⟨h93, _⟩
  exact hno (List.mem_of_mem_tail (List.mem_of_getElem? h93))
/-- Without brackets: up to the first byte 58, or the end. -/
theorem name_pl {l : List UInt8} (h : l.head? ≠ some 91) (n : Nat) (hn : n ≤ l.length) (hb : ∀ h : n < l.length, l[n] = 58) (ha : (l.take n).all plnB = true) : nameL l = if n ≤ 255 then n else 0 := by
  unfold nameL
  rw [if_neg h]
  have e : l.takeWhile plnB = l.take n := tw_eq plnB l n hn ha (fun hk => by rw [hb hk]; exact pln_58)
  have e2 : (l.takeWhile plnB).length = n := by rw [e, List.length_take]; omega
  dsimp only
  rw [e2]
theorem host_pl_bad {l : List UInt8} (h : l.head? ≠ some 91) (n : Nat) (hn : n ≤ l.length) (hno : 58 ∉ l.take n) (ha : (l.take n).all plnB = false) : hostL l = ([], 0, 40) := by
  have hlt : (l.takeWhile plnB).length < n := by
    refine Classical.byContradiction fun hge => ?_
    rw [Bool.eq_false_iff] at ha
    refine ha ?_
    have := tw_all plnB l
    rw [← tw_take] at this
    rw [List.all_eq_true] at this ⊢
    intro x hx
    refine this x ?_
    have e : l.take n = (l.take (l.takeWhile plnB).length).take n := by rw [List.take_take, Nat.min_eq_left (by omega)]
    rw [e] at hx
    exact List.mem_of_mem_take hx
  have hm : nameL l = (if (l.takeWhile plnB).length ≤ 255 then (l.takeWhile plnB).length else 0) := by unfold nameL; rw [if_neg h]
  unfold hostL
  by_cases h0 : nameL l = 0
  · rw [if_pos h0]
  · rw [if_neg h0]
    have he : nameL l = (l.takeWhile plnB).length := by rw [hm] at h0 ⊢; split at h0 <;> simp_all
    unfold portL
    have hd : (l.drop (nameL l)) ≠ [] := by
      intro e
      have := congrArg List.length e
      rw [List.length_drop, he] at this
      simp at this; omega
    rw [if_neg hd, if_neg]
    rintro ⟨h58, _⟩
    rw [List.head?_drop, he] at h58
    refine hno ?_
    have hg := List.getElem?_eq_some_iff.1 h58
    rw [← hg.2]
    exact List.mem_take_iff_getElem.2 ⟨_, by omega, rfl⟩

/-- % and two digits as the byte that they say. -/
def decL : List UInt8 → Option (List UInt8)
  | [] => some []
  | 37 :: a :: b :: l => if isDig 16 (lowB a) = true ∧ isDig 16 (lowB b) = true then (decL l).map (UInt8.ofNat (digV (lowB a) * 16 + digV (lowB b)) :: ·) else none
  | c :: l => if c = 37 then none else (decL l).map (c :: ·)
def hexD (n : Nat) : UInt8 := if n < 10 then UInt8.ofNat (48 + n) else UInt8.ofNat (55 + n)
def encB (b : UInt8) : List UInt8 := if plnB b || b == 47 then [b] else [37, hexD (b.toNat / 16), hexD (b.toNat % 16)]
def encL (l : List UInt8) : List UInt8 := l.flatMap encB
theorem dec_plain (c : UInt8) (l : List UInt8) (h : c ≠ 37) : decL (c :: l) = (decL l).map (c :: ·) := by
  conv => lhs; unfold decL
  split
  · simp_all
  · simp_all
  · rename_i heq
    injection heq with h1 h2
    subst h1; subst h2
    rw [if_neg h]
theorem dec_pct (a b : UInt8) (l : List UInt8) : decL (37 :: a :: b :: l) = if isDig 16 (lowB a) = true ∧ isDig 16 (lowB b) = true then (decL l).map (UInt8.ofNat (digV (lowB a) * 16 + digV (lowB b)) :: ·) else none := by
  rw [decL]
theorem dec_len : ∀ (l x : List UInt8), decL l = some x → x.length ≤ l.length
  | [], x, h => by simp [decL] at h; subst h; simp
  | c :: l, x, h => by
    by_cases hc : c = 37
    · subst hc
      match l, h with
      | [], h => cases h
      | [a], h => cases h
      | a :: b :: l, h =>
        rw [dec_pct] at h
        split at h
        · cases hd : decL l with
          | none => rw [hd] at h; cases h
          | some y =>
            rw [hd] at h
            have := dec_len l y hd
            have e := Option.some.inj h
            rw [← e]; simp; omega
        · cases h
    · rw [dec_plain _ _ hc] at h
      cases hd : decL l with
      | none => rw [hd] at h; cases h
      | some y =>
        rw [hd] at h
        have := dec_len l y hd
        have e := Option.some.inj h
        rw [← e]; simp; omega
end Go.Proofs.YtmnohicojefhfaaGreatDoor
end

/-
Targets: plain words and laws. No program in sight.
-/
section
namespace Go.Proofs.YtmnohicojefhfaaGreatDoor
open Go.RowKit

/-- May a byte stand in a path; in a query? -/
def mayB (q : Bool) (b : UInt8) : Bool :=
  (decide (33 ≤ b.toNat) && decide (b.toNat ≤ 126)) && (!(b == 34 || b == 35 || b == 60 || b == 62 || b == 92 || b == 94 || b == 96 || b == 123 || b == 124 || b == 125) && (b != 63 || q))
/-- A path and a query; whether there is one. -/
def localL (r : List UInt8) : Option (List UInt8 × List UInt8 × Bool) :=
  let p := r.takeWhile (fun b => b != 63)
  if p.all (mayB false) = true ∧ (r.drop (p.length + 1)).all (mayB true) = true then some (p, r.drop (p.length + 1), decide (p.length < r.length)) else none
abbrev TgtT := Int × List UInt8 × Int × List UInt8 × List UInt8 × Bool
def badT : TgtT × Int := ((0, [], 0, [], [], false), 40)
def finT (form : Int) (host : List UInt8) (port : Int) (r : List UInt8) : TgtT × Int :=
  match localL r with
  | none => badT
  | some (p, q, a) => ((form, host, port, if p = [] then [47] else p, q, a), 0)
def httpL : List UInt8 := [104, 116, 116, 112, 58, 47, 47]
/-- Where a host ends. -/
def authL (r : List UInt8) : Nat := (r.takeWhile fun b => !(b == 47 || b == 63)).length
/-- A target. -/
def tgtL (m t : List UInt8) : TgtT × Int :=
  if 8192 < t.length ∨ t = [] then badT
  else if m = [67, 79, 78, 78, 69, 67, 84] then (if (hostL t).2.2 = 0 ∧ 0 ≤ (hostL t).2.1 then ((3, (hostL t).1, (hostL t).2.1, [], [], false), 0) else badT)
  else if m = [79, 80, 84, 73, 79, 78, 83] ∧ t = [42] then ((4, [], -1, [], [], false), 0)
  else if 7 ≤ t.length ∧ lowL (t.take 7) = httpL then
    (if (hostL ((t.drop 7).take (authL (t.drop 7)))).2.2 = 0 then finT 2 (hostL ((t.drop 7).take (authL (t.drop 7)))).1 (hostL ((t.drop 7).take (authL (t.drop 7)))).2.1 ((t.drop 7).drop (authL (t.drop 7))) else badT)
  else if t.head? = some 47 then finT 1 [] (-1) t
  else badT
end Go.Proofs.YtmnohicojefhfaaGreatDoor
end
