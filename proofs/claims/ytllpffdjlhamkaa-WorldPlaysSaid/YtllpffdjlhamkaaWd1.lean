/-
Files and a clock: plain words. No program in sight.
-/
import Derived.Test.YtllpffdjlhamkaaUri1
import Derived.Test.YtllpffdjlhamkaaWm1
set_option linter.unusedVariables false
set_option linter.unusedSimpArgs false
namespace Go.Proofs.Ytllpffdjlhamkaa
open Go.RowKit

section
variable {α β : Type}
theorem lk_map (f : List UInt8 → α → β) (M : List (List UInt8 × α)) (l : List UInt8) : lkM (M.map fun x => (x.1, f x.1 x.2)) l = (lkM M l).map (f l) := by
  induction M with
  | nil => rfl
  | cons x r ih =>
    obtain ⟨k, u⟩ := x
    simp only [List.map_cons, lkM]
    by_cases h : k = l
    · subst h; simp
    · simp [h, ih]
theorem del_map (f : List UInt8 → α → β) (M : List (List UInt8 × α)) (l : List UInt8) : delM (M.map fun x => (x.1, f x.1 x.2)) l = (delM M l).map fun x => (x.1, f x.1 x.2) := by
  induction M with
  | nil => rfl
  | cons x r ih =>
    obtain ⟨k, u⟩ := x
    simp only [List.map_cons, delM]
    by_cases h : k = l
    · simp [h]
    · simp [h, ih]
theorem map_keys {f g : List UInt8 → α → β} {M : List (List UInt8 × α)} (h : ∀ x ∈ M, f x.1 = g x.1) : (M.map fun x => (x.1, f x.1 x.2)) = M.map fun x => (x.1, g x.1 x.2) :=
  List.map_congr_left fun x hx => by rw [h x hx]
theorem put_map {f g : List UInt8 → α → β} {M : List (List UInt8 × α)} (h1 : OneM M) {l : List UInt8} (h : ∀ k, k ≠ l → f k = g k) (v : α) :
    putM (M.map fun x => (x.1, f x.1 x.2)) l (g l v) = (putM M l v).map fun x => (x.1, g x.1 x.2) := by
  induction M with
  | nil => rfl
  | cons x r ih =>
    obtain ⟨k, u⟩ := x
    have h2 := List.pairwise_cons.1 h1
    simp only [List.map_cons, putM]
    by_cases hk : k = l
    · subst hk
      simp only [if_true, List.map_cons]
      rw [map_keys (fun x hx => h x.1 (h2.1 x hx).symm)]
    · simp only [if_neg hk, List.map_cons, ih h2.2, h k hk]
theorem one_map (f : List UInt8 → α → β) {M : List (List UInt8 × α)} (h : OneM M) : OneM (M.map fun x => (x.1, f x.1 x.2)) := by
  unfold OneM; rw [List.pairwise_map]; exact h
theorem keys_map (f : List UInt8 → α → β) (M : List (List UInt8 × α)) : (M.map fun x => (x.1, f x.1 x.2)).map (·.1) = M.map (·.1) := by simp [List.map_map]
theorem put_keys (M : List (List UInt8 × α)) (l : List UInt8) (v : α) : (putM M l v).map (·.1) = if (lkM M l).isSome then M.map (·.1) else M.map (·.1) ++ [l] := by
  induction M with
  | nil => rfl
  | cons x r ih =>
    obtain ⟨k, u⟩ := x
    simp only [putM, lkM]
    by_cases h : k = l
    · simp [h]
    · simp only [if_neg h, List.map_cons, ih]; split <;> simp
end

/-- A file: its bytes, its time, its version. -/
structure Fil where
  b : List UInt8
  mt : Int
  ve : Nat
/-- A world: its files in the order in which they came, the clock, the last version. -/
structure Wrl where
  L : List (List UInt8 × Fil)
  now : Int
  ver : Nat
def wlast : Int := 253402300799
/-- May a file have this path? -/
def pathF (l : List UInt8) : Bool := decide (cleanL l = (l, 0)) && !(l.getLast? == some 47)
def putW (s : Wrl) (l b : List UInt8) : Wrl × Int :=
  if pathF l = false then (s, 1) else
  if 1048576 < b.length ∨ ((lkM s.L l).isSome = false ∧ s.L.length = 1000) then (s, 6) else
  (⟨putM s.L l ⟨b, s.now, s.ver + 1⟩, s.now, s.ver + 1⟩, 0)
def removeW (s : Wrl) (l : List UInt8) : Wrl × Int := if (lkM s.L l).isSome then (⟨delM s.L l, s.now, s.ver⟩, 0) else (s, 3)
def tickW (s : Wrl) (n : Int) : Wrl × Int := if n < 0 then (s, 1) else (⟨s.L, s.now + min n (wlast - s.now), s.ver⟩, 0)
def folderW (s : Wrl) (l : List UInt8) : Bool := decide (l.head? = some 47) && decide (l.getLast? = some 47) && (decide (l = [47]) || s.L.any fun x => decide (l <+: x.1))
def listW (s : Wrl) : List (List UInt8) := (s.L.map (·.1)).mergeSort (fun x y => decide (x ≤ y))
def newW (now : Int) : Option Wrl := if now < 0 ∨ wlast < now then none else some ⟨[], now, 0⟩
/-- What may be relied on. -/
structure Wok (s : Wrl) : Prop where
  one : OneM s.L
  few : s.L.length ≤ 1000
  now0 : 0 ≤ s.now
  now1 : s.now ≤ wlast
  path : ∀ x ∈ s.L, pathF x.1 = true
  size : ∀ x ∈ s.L, x.2.b.length ≤ 1048576
  mt : ∀ x ∈ s.L, x.2.mt ≤ s.now ∧ 0 ≤ x.2.mt
  ve : ∀ x ∈ s.L, x.2.ve ≤ s.ver

theorem newW_ok {now : Int} {s : Wrl} (h : newW now = some s) : Wok s ∧ s.L = [] ∧ s.now = now ∧ s.ver = 0 := by
  unfold newW at h
  split at h
  · cases h
  · rename_i hn
    injection h with h; subst h
    exact ⟨⟨List.Pairwise.nil, by simp, by simp; omega, by simp; omega, by simp, by simp, by simp, by simp⟩, rfl, rfl, rfl⟩
theorem putW_ok {s : Wrl} (h : Wok s) (l b : List UInt8) : Wok (putW s l b).1 ∧ (putW s l b).1.now = s.now ∧ s.ver ≤ (putW s l b).1.ver ∧ (putW s l b).1.ver ≤ s.ver + 1 := by
  unfold putW
  split
  · exact ⟨h, rfl, Nat.le_refl _, Nat.le_succ _⟩
  · rename_i hp
    split
    · exact ⟨h, rfl, Nat.le_refl _, Nat.le_succ _⟩
    · rename_i hb
      have hb1 : ¬ 1048576 < b.length := fun e => hb (.inl e)
      have hb2 : ¬ ((lkM s.L l).isSome = false ∧ s.L.length = 1000) := fun e => hb (.inr e)
      refine ⟨⟨h.one.put _ _, ?_, h.now0, h.now1, fun x hx => ?_, fun x hx => ?_, fun x hx => ?_, fun x hx => ?_⟩, rfl, Nat.le_succ _, Nat.le_refl _⟩
      · show (putM s.L l _).length ≤ 1000
        rw [put_len]
        have := h.few
        split
        · omega
        · rename_i hn
          have : s.L.length ≠ 1000 := fun e => hb2 ⟨by simpa using hn, e⟩
          omega
      · rcases mem_put hx with rfl | hx
        · simpa using hp
        · exact h.path x hx
      · rcases mem_put hx with rfl | hx
        · show b.length ≤ _; omega
        · exact h.size x hx
      · rcases mem_put hx with rfl | hx
        · exact ⟨Int.le_refl _, h.now0⟩
        · exact h.mt x hx
      · rcases mem_put hx with rfl | hx
        · exact Nat.le_refl _
        · exact Nat.le_succ_of_le (h.ve x hx)
theorem removeW_ok {s : Wrl} (h : Wok s) (l : List UInt8) : Wok (removeW s l).1 ∧ (removeW s l).1.now = s.now ∧ (removeW s l).1.ver = s.ver := by
  unfold removeW
  split
  · have hd := del_len s.L l
    exact ⟨⟨h.one.del _, by show (delM s.L l).length ≤ 1000; have := h.few; omega, h.now0, h.now1, fun x hx => h.path x (mem_del hx), fun x hx => h.size x (mem_del hx), fun x hx => h.mt x (mem_del hx), fun x hx => h.ve x (mem_del hx)⟩, rfl, rfl⟩
  · exact ⟨h, rfl, rfl⟩
theorem tickW_ok {s : Wrl} (h : Wok s) (n : Int) : Wok (tickW s n).1 ∧ s.now ≤ (tickW s n).1.now ∧ (tickW s n).1.ver = s.ver := by
  unfold tickW
  have h0 := h.now0
  have h1 := h.now1
  split
  · exact ⟨h, Int.le_refl _, rfl⟩
  · exact ⟨⟨h.one, h.few, by show (0 : Int) ≤ s.now + min n (wlast - s.now); omega, by show s.now + min n (wlast - s.now) ≤ wlast; omega, h.path, h.size, fun x hx => ⟨by have := (h.mt x hx).1; show _ ≤ s.now + min n (wlast - s.now); omega, (h.mt x hx).2⟩, h.ve⟩, by show s.now ≤ s.now + min n (wlast - s.now); omega, rfl⟩
end Go.Proofs.Ytllpffdjlhamkaa
