/-
Static, plain: tags' bytes; files that are put again.
-/
import Derived.Test.YtemdgilifnhdpaaGreatDoorZan
import Derived.Test.YtemdgilifnhdpaaGreatDoorSu4
import Derived.Test.YtemdgilifnhdpaaGreatDoorStX
set_option linter.unusedVariables false
set_option linter.unusedSimpArgs false
namespace Go.Proofs.YtemdgilifnhdpaaGreatDoor
open Go.RowKit

def HexD (b : UInt8) : Prop := (48 ≤ b.toNat ∧ b.toNat ≤ 57) ∨ (97 ≤ b.toNat ∧ b.toNat ≤ 102)
theorem hxB_hex {n : Nat} (h : n < 16) : HexD (hxB n) := by
  have : ∀ n : Fin 16, HexD (hxB n.val) := by unfold HexD; decide
  exact this ⟨n, h⟩
theorem hxL_hex (n : Nat) : ∀ b ∈ hxL n, HexD b := by
  induction n using Nat.strongRecOn with
  | _ n ih =>
    by_cases h : n < 16
    · rw [hxL_lt h]; intro b hb
      simp at hb; subst hb; exact hxB_hex h
    · rw [hxL_ge h]; intro b hb
      rcases List.mem_append.1 hb with hb | hb
      · exact ih _ (by omega) b hb
      · simp at hb; subst hb; exact hxB_hex (by omega)
theorem tagL_in (n mt ve : Int) : InTag (tagL n mt ve) := by
  intro j h
  have hm : (tagL n mt ve)[j] ∈ tagL n mt ve := List.getElem_mem h
  obtain ⟨b, hb⟩ : ∃ b, b = (tagL n mt ve)[j] := ⟨_, rfl⟩
  rw [← hb] at hm ⊢
  have : HexD b ∨ b = 45 := by
    unfold tagL at hm
    simp only [List.mem_append, List.mem_singleton] at hm
    rcases hm with (((hm | hm) | hm) | hm) | hm
    · exact .inl (hxL_hex _ b hm)
    · exact .inr hm
    · exact .inl (hxL_hex _ b hm)
    · exact .inr hm
    · exact .inl (hxL_hex _ b hm)
  rcases this with h | h
  · unfold HexD at h; omega
  · subst h; decide
theorem hxB_inj {a b : Nat} (ha : a < 16) (hb : b < 16) (h : hxB a = hxB b) : a = b := by
  have : ∀ a b : Fin 16, hxB a.val = hxB b.val → a.val = b.val := by decide
  exact this ⟨a, ha⟩ ⟨b, hb⟩ h
theorem hxL_ne (n : Nat) : hxL n ≠ [] := by
  by_cases h : n < 16
  · rw [hxL_lt h]; simp
  · rw [hxL_ge h]; simp
theorem hxL_inj : ∀ (a b : Nat), hxL a = hxL b → a = b := by
  intro a
  induction a using Nat.strongRecOn with
  | _ a ih =>
    intro b h
    by_cases ha : a < 16
    · by_cases hb : b < 16
      · rw [hxL_lt ha, hxL_lt hb] at h
        exact hxB_inj ha hb (by simpa using h)
      · rw [hxL_lt ha, hxL_ge hb] at h
        exfalso
        have h1 := congrArg List.length h
        have := List.length_pos_iff.2 (hxL_ne (b / 16))
        rw [List.length_append] at h1
        simp only [List.length_cons, List.length_nil] at h1
        omega
    · by_cases hb : b < 16
      · rw [hxL_ge ha, hxL_lt hb] at h
        exfalso
        have h1 := congrArg List.length h
        have := List.length_pos_iff.2 (hxL_ne (a / 16))
        rw [List.length_append] at h1
        simp only [List.length_cons, List.length_nil] at h1
        omega
      · rw [hxL_ge ha, hxL_ge hb] at h
        obtain ⟨h1, h2⟩ := List.append_inj' h rfl
        have h3 := ih _ (by omega) _ h1
        have h4 := hxB_inj (Nat.mod_lt _ (by omega)) (Nat.mod_lt _ (by omega)) (by simpa using h2)
        omega
theorem split_last {a b c d : List UInt8} (h : a ++ [45] ++ b = c ++ [45] ++ d) (hb : 45 ∉ b) (hd : 45 ∉ d) : b = d := by
  have h1 : (a ++ [45] ++ b).reverse = (c ++ [45] ++ d).reverse := by rw [h]
  simp only [List.reverse_append, List.reverse_cons, List.reverse_nil, List.nil_append, List.singleton_append] at h1
  have key : ∀ (x y u v : List UInt8), 45 ∉ x → 45 ∉ y → x ++ 45 :: u = y ++ 45 :: v → x = y := by
    intro x
    induction x with
    | nil =>
      intro y u v _ hy h
      cases y with
      | nil => rfl
      | cons p q => simp at h; exact absurd (by rw [← h.1]; simp) hy
    | cons p q ih =>
      intro y u v hx hy h
      cases y with
      | nil => simp at h; exact absurd (by rw [h.1]; simp) hx
      | cons r t =>
        simp at h
        rw [h.1, ih t u v (fun hh => hx (List.mem_cons_of_mem _ hh)) (fun hh => hy (List.mem_cons_of_mem _ hh)) h.2]
  have := key b.reverse d.reverse _ _ (by simpa using hb) (by simpa using hd) (by simpa using h1)
  exact List.reverse_inj.1 this
theorem hxL_no45 (n : Nat) : (45 : UInt8) ∉ hxL n := fun h => by
  have := hxL_hex n 45 h
  revert this; unfold HexD; decide
theorem tagL_ne {n mt n' mt' : Int} {ve ve' : Nat} (h : ve ≠ ve') (h1 : ve < 9223372036854775808) (h2 : ve' < 9223372036854775808) : tagL n mt (ve : Int) ≠ tagL n' mt' (ve' : Int) := by
  intro e
  unfold tagL at e
  have := hxL_inj _ _ (split_last e (hxL_no45 _) (hxL_no45 _))
  unfold u64N at this
  omega
theorem vals_etag (kd tl : List UInt8) (mt : Int) (n : Nat) : valsH (fullF kd tl mt ++ [lenF n]) [101, 116, 97, 103] = [qTag tl] := by
  rfl
def inmF (tl : List UInt8) : Fld := ([73, 102, 45, 78, 111, 110, 101, 45, 77, 97, 116, 99, 104], qTag tl)
theorem inm_1 (tl : List UInt8) : valsH [inmF tl] [73, 102, 45, 77, 97, 116, 99, 104] = [] := by rfl
theorem inm_2 (tl : List UInt8) : valsH [inmF tl] [73, 102, 45, 85, 110, 109, 111, 100, 105, 102, 105, 101, 100, 45, 83, 105, 110, 99, 101] = [] := by rfl
theorem inm_3 (tl : List UInt8) : valsH [inmF tl] [73, 102, 45, 78, 111, 110, 101, 45, 77, 97, 116, 99, 104] = [qTag tl] := by rfl
theorem inm_4 (tl : List UInt8) : valsH [inmF tl] [73, 102, 45, 77, 111, 100, 105, 102, 105, 101, 100, 45, 83, 105, 110, 99, 101] = [] := by rfl
theorem inm_5 (tl : List UInt8) : valsH [inmF tl] [73, 102, 45, 82, 97, 110, 103, 101] = [] := by rfl
theorem inm_6 (tl : List UInt8) : valsH [inmF tl] [82, 97, 110, 103, 101] = [] := by rfl
structure PutI (s : Wrl) (more : List UInt8) (names : List (List UInt8)) (k : Nat) (t : Wrl) : Prop where
  ok : Wok t
  now : t.now = s.now
  ver : s.ver ≤ t.ver ∧ t.ver ≤ s.ver + k
  keys : t.L.map (·.1) = s.L.map (·.1)
  done : ∀ j (h : j < names.length), j < k → ∃ f, lkM t.L names[j] = some f ∧ f.b = more ∧ s.ver < f.ve
theorem PutI.start {s : Wrl} (h : Wok s) (more : List UInt8) (names : List (List UInt8)) : PutI s more names 0 s := ⟨h, rfl, ⟨Nat.le_refl _, Nat.le_refl _⟩, rfl, fun j _ h => by omega⟩
theorem lk_key {α : Type} {M : List (List UInt8 × α)} {l : List UInt8} (h : l ∈ M.map (·.1)) : (lkM M l).isSome = true := by
  obtain ⟨x, hx, rfl⟩ := List.mem_map.1 h
  cases e : lkM M x.1 with
  | none => exact absurd rfl (lk_none_mem e x hx)
  | some _ => rfl
theorem PutI.next {s t : Wrl} {more : List UInt8} {names : List (List UInt8)} {k : Nat} (h : PutI s more names k t) (hs : Wok s) (hk : k < names.length) (hm : more.length ≤ 1048576) (hn : ∀ l ∈ names, l ∈ s.L.map (·.1)) :
    (putW t names[k] more).2 = 0 ∧ PutI s more names (k + 1) (putW t names[k] more).1 := by
  have hin := hn _ (List.getElem_mem hk)
  have hp : pathF names[k] = true := by
    obtain ⟨x, hx, he⟩ := List.mem_map.1 hin
    rw [← he]; exact hs.path x hx
  have hlk := lk_key (show names[k] ∈ t.L.map (·.1) by rw [h.keys]; exact hin)
  have hput : putW t names[k] more = (⟨putM t.L names[k] ⟨more, t.now, t.ver + 1⟩, t.now, t.ver + 1⟩, 0) := by
    unfold putW
    rw [if_neg (by rw [hp]; simp), if_neg (by rw [hlk]; simp; omega)]
  have hok := (putW_ok h.ok names[k] more).1
  rw [hput] at hok ⊢
  refine ⟨rfl, hok, h.now, ⟨by have := h.ver.1; show s.ver ≤ t.ver + 1; omega, by have := h.ver.2; show t.ver + 1 ≤ s.ver + (k + 1); omega⟩, ?_, fun j hj hjk => ?_⟩
  · show (putM t.L names[k] _).map (·.1) = _
    rw [put_keys, hlk, if_pos rfl, h.keys]
  · by_cases e : names[j] = names[k]
    · rw [e]
      exact ⟨_, lk_put_same _ _ _, rfl, by have := h.ver.1; show s.ver < t.ver + 1; omega⟩
    · show ∃ f, lkM (putM t.L names[k] _) names[j] = some f ∧ _
      rw [lk_put_other _ e]
      refine h.done j hj ?_
      rcases Nat.lt_or_ge j k with h1 | h1
      · exact h1
      · exfalso
        obtain rfl : j = k := by omega
        exact e rfl
theorem list_keys {s : Wrl} {l : List UInt8} : l ∈ listW s ↔ l ∈ s.L.map (·.1) := (List.mergeSort_perm _ _).mem_iff
theorem find_other {s t : Wrl} {pre root index path nm : List UInt8} {f g : Fil} (h : findS s pre root index path = .inl (nm, f)) (hg : lkM t.L nm = some g) : findS t pre root index path = .inl (nm, g) := by
  unfold findS at h ⊢
  split at h
  · cases h
  · cases h
  · rename_i nm' ha
    split at h
    · rename_i f' hf
      injection h with h
      obtain ⟨rfl, rfl⟩ := Prod.mk.inj h
      rw [hg]
    · split at h <;> cases h
end Go.Proofs.YtemdgilifnhdpaaGreatDoor
