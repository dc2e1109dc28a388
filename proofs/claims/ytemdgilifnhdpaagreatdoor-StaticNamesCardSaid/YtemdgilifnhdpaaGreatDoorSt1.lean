/-
Static, plain: kinds by names, tags.
-/
import Derived.Test.YtemdgilifnhdpaaGreatDoorBytes
import Derived.Test.YtemdgilifnhdpaaGreatDoorAsc7
import Derived.Lib.LastIndexByte
set_option linter.unusedVariables false
set_option linter.unusedSimpArgs false
namespace Go.Proofs.YtemdgilifnhdpaaGreatDoor
open Go.RowKit

/-- What stands behind the last c. -/
def aftL (c : UInt8) : List UInt8 → Option (List UInt8)
  | [] => none
  | x :: t => match aftL c t with
    | some r => some r
    | none => if x = c then some t else none
theorem aft_none {c : UInt8} : ∀ {l : List UInt8}, (∀ x ∈ l, x ≠ c) → aftL c l = none
  | [], _ => rfl
  | x :: t, h => by
    unfold aftL
    rw [aft_none (l := t) (fun y hy => h y (List.mem_cons_of_mem _ hy)), if_neg (h x List.mem_cons_self)]
theorem aft_at {c : UInt8} : ∀ (a : List UInt8) {b : List UInt8}, (∀ x ∈ b, x ≠ c) → aftL c (a ++ c :: b) = some b
  | [], b, h => by
    show (match aftL c b with | some r => some r | none => if c = c then some b else none) = some b
    rw [aft_none h, if_pos rfl]
  | x :: a, b, h => by
    show (match aftL c (a ++ c :: b) with | some r => some r | none => if x = c then some (a ++ c :: b) else none) = some b
    rw [aft_at a h]
theorem aft_no {c : UInt8} {l : List UInt8} (h : aftL c l = none) : ∀ x ∈ l, x ≠ c := by
  induction l with
  | nil => intro x hx; cases hx
  | cons z u ih =>
    unfold aftL at h
    cases hu : aftL c u with
    | some r' => rw [hu] at h; cases h
    | none =>
      rw [hu] at h
      by_cases hz : z = c
      · rw [if_pos hz] at h; cases h
      · intro x hx
        rcases List.mem_cons.1 hx with rfl | hx
        · exact hz
        · exact ih hu x hx
theorem aft_some {c : UInt8} : ∀ {l r : List UInt8}, aftL c l = some r → ∃ a, l = a ++ c :: r ∧ ∀ x ∈ r, x ≠ c
  | x :: t, r, h => by
    unfold aftL at h
    cases ht : aftL c t with
    | some r' =>
      rw [ht] at h
      obtain ⟨a, h1, h2⟩ := aft_some ht
      cases h
      exact ⟨x :: a, by rw [h1]; rfl, h2⟩
    | none =>
      rw [ht] at h
      dsimp only at h
      by_cases hx : x = c
      · rw [if_pos hx] at h
        injection h with h
        subst h
        exact ⟨[], by rw [hx]; rfl, aft_no ht⟩
      · rw [if_neg hx] at h; cases h
/-- A name's end. -/
def nameL (l : List UInt8) : List UInt8 := (aftL 47 l).getD l
def extL (l : List UInt8) : Option (List UInt8) := aftL 46 (nameL l)
def octT : List UInt8 := [97, 112, 112, 108, 105, 99, 97, 116, 105, 111, 110, 47, 111, 99, 116, 101, 116, 45, 115, 116, 114, 101, 97, 109]
/-- The kinds that are known. -/
def typT : List (List UInt8 × List UInt8) := [([104, 116, 109, 108], [116, 101, 120, 116, 47, 104, 116, 109, 108]), ([104, 116, 109], [116, 101, 120, 116, 47, 104, 116, 109, 108]), ([99, 115, 115], [116, 101, 120, 116, 47, 99, 115, 115]), ([106, 115], [116, 101, 120, 116, 47, 106, 97, 118, 97, 115, 99, 114, 105, 112, 116]), ([106, 115, 111, 110], [97, 112, 112, 108, 105, 99, 97, 116, 105, 111, 110, 47, 106, 115, 111, 110]), ([116, 120, 116], [116, 101, 120, 116, 47, 112, 108, 97, 105, 110]), ([115, 118, 103], [105, 109, 97, 103, 101, 47, 115, 118, 103, 43, 120, 109, 108]), ([112, 110, 103], [105, 109, 97, 103, 101, 47, 112, 110, 103]), ([106, 112, 103], [105, 109, 97, 103, 101, 47, 106, 112, 101, 103]), ([106, 112, 101, 103], [105, 109, 97, 103, 101, 47, 106, 112, 101, 103]), ([103, 122], [97, 112, 112, 108, 105, 99, 97, 116, 105, 111, 110, 47, 103, 122, 105, 112])]
def typL (e : List UInt8) : List UInt8 := ((typT.find? fun p => decide (p.1 = e)).map Prod.snd).getD octT
def mimeL (l : List UInt8) : List UInt8 := match extL l with
  | none => octT
  | some e => typL (lowL e)
/-- As the document looks: from the end on. -/
theorem ext_from {l : List UInt8} {k : Nat} (hk : k ≤ l.length) (h : ∀ x ∈ l.drop k, x ≠ 47 ∧ x ≠ 46) :
    (k = 0 → extL l = none) ∧ ∀ j, k = j + 1 → (l[j]? = some 47 → extL l = none) ∧ (l[j]? = some 46 → extL l = some (l.drop k)) := by
  refine ⟨fun h0 => ?_, fun j hj => ⟨fun hx => ?_, fun hx => ?_⟩⟩
  · subst h0
    rw [List.drop_zero] at h
    unfold extL nameL
    rw [aft_none (fun x hx => (h x hx).1)]
    exact aft_none (fun x hx => (h x hx).2)
  · subst hj
    obtain ⟨hl, he⟩ := List.getElem?_eq_some_iff.1 hx
    have hs : l = l.take j ++ 47 :: l.drop (j + 1) := by rw [← he, ← List.drop_eq_getElem_cons hl, List.take_append_drop]
    have ha : aftL 47 l = some (l.drop (j + 1)) := by
      conv => lhs; rw [hs]
      exact aft_at _ (fun x hx => (h x hx).1)
    unfold extL nameL
    rw [ha]
    exact aft_none (fun x hx => (h x hx).2)
  · subst hj
    obtain ⟨hl, he⟩ := List.getElem?_eq_some_iff.1 hx
    have hs : l = l.take j ++ 46 :: l.drop (j + 1) := by rw [← he, ← List.drop_eq_getElem_cons hl, List.take_append_drop]
    unfold extL nameL
    cases ha : aftL 47 l with
    | none =>
      show aftL 46 l = _
      conv => lhs; rw [hs]
      exact aft_at _ (fun x hx => (h x hx).2)
    | some r =>
      obtain ⟨a, h1, h2⟩ := aft_some ha
      show aftL 46 r = _
      have hlen : l.length = a.length + 1 + r.length := by rw [h1]; simp; omega
      have haj : a.length < j := by
        rcases Nat.lt_trichotomy a.length j with h3 | h3 | h3
        · exact h3
        · exfalso
          have : l[j]? = some 47 := by rw [h1, ← h3]; simp
          rw [hx] at this; cases this
        · exfalso
          have h4 : (47 : UInt8) ∈ l.drop (j + 1) := by
            rw [h1, List.drop_append_of_le_length (by omega)]
            exact List.mem_append_right _ List.mem_cons_self
          exact (h _ h4).1 rfl
      have hr : r = (r.take (j - a.length - 1)) ++ 46 :: l.drop (j + 1) := by
        have e1 : l.drop (a.length + 1) = r := by rw [h1, ← List.drop_drop, List.drop_left]; rfl
        have e2 : r[j - a.length - 1]? = some 46 := by
          rw [← e1, List.getElem?_drop, show a.length + 1 + (j - a.length - 1) = j from by omega]; exact hx
        obtain ⟨hl2, he2⟩ := List.getElem?_eq_some_iff.1 e2
        have e3 : l.drop (j + 1) = r.drop (j - a.length - 1 + 1) := by
          rw [← e1, List.drop_drop]; congr 1; omega
        rw [e3, ← he2, ← List.drop_eq_getElem_cons hl2, List.take_append_drop]
      rw [hr]
      exact aft_at _ (fun x hx => (h x hx).2)
/-- Where the last c stands, as the library says it. -/
theorem last_at (l : List UInt8) (c : UInt8) : (aftL c l = none ∧ Lib.lastIndexByte (str l) (c.toNat : Int) = -1) ∨ ∃ r, aftL c l = some r ∧ r.length < l.length ∧ Lib.lastIndexByte (str l) (c.toNat : Int) = ((l.length - r.length - 1 : Nat) : Int) ∧ l.drop (l.length - r.length) = r := by
  have hz : (str l).size = l.length := str_size l
  have hb : ∀ j, j < l.length → (str l).data[j]! = l[j]! := fun j hj => by
    rw [getElem!_pos (str l).data j (by simpa [str] using hj), getElem!_pos l j hj]
    simp [str]
  have hs := Lib.lastIdx_spec (str l) (c.toNat : Int) (str l).size
  rw [hz] at hs
  have hne : ∀ j, j < l.length → (((str l).data[j]!).toNat : Int) ≠ (c.toNat : Int) → l[j]! ≠ c := fun j hj h1 h2 => by
    rw [hb j hj, h2] at h1; exact h1 rfl
  unfold Lib.lastIndexByte
  rw [hz]
  rcases hs with ⟨h1, h2⟩ | ⟨i, hi, h1, h2, h3⟩
  · left
    refine ⟨aft_none (fun x hx => ?_), h1⟩
    obtain ⟨j, hj, he⟩ := List.getElem_of_mem hx
    have := hne j hj (h2 j hj)
    rw [getElem!_pos l j hj, he] at this
    exact this
  · right
    have hic : l[i] = c := by
      rw [hb i hi, getElem!_pos l i hi] at h2
      exact UInt8.toNat_inj.1 (by omega)
    have hs : l = l.take i ++ c :: l.drop (i + 1) := by rw [← hic, ← List.drop_eq_getElem_cons hi, List.take_append_drop]
    have ha : aftL c l = some (l.drop (i + 1)) := by
      conv => lhs; rw [hs]
      refine aft_at _ (fun x hx => ?_)
      obtain ⟨j, hj, he⟩ := List.getElem_of_mem hx
      rw [List.length_drop] at hj
      rw [List.getElem_drop] at he
      have := hne (i + 1 + j) (by omega) (h3 (i + 1 + j) (by omega) (by omega))
      rw [getElem!_pos l (i + 1 + j) (by omega), he] at this
      exact this
    refine ⟨_, ha, by rw [List.length_drop]; omega, by rw [h1, List.length_drop]; congr 1; omega, by rw [List.length_drop]; congr 1; omega⟩
end Go.Proofs.YtemdgilifnhdpaaGreatDoor
