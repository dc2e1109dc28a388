/-
Numbers written to the base 16: plain words, and the reference's HexDigits.
-/
import Derived.Test.YtolfpfdmgelhhaaDoorDig
import Derived.Test.YtolfpfdmgelhhaaDoorNum3
import Derived.Test.YtolfpfdmgelhhaaDoorAPl
set_option linter.unusedVariables false
set_option linter.unusedSimpArgs false
/-
Numbers written to the base 16: plain words, and the reference's HexDigits.
-/
section
namespace Go.Proofs.YtolfpfdmgelhhaaDoor
open Go.RowKit

def hxB (n : Nat) : UInt8 := if n < 10 then UInt8.ofNat (48 + n) else UInt8.ofNat (87 + n)
def hxL (n : Nat) : List UInt8 := if h : n < 16 then [hxB n] else hxL (n / 16) ++ [hxB (n % 16)]
termination_by n
decreasing_by omega
theorem hxL_lt {n : Nat} (h : n < 16) : hxL n = [hxB n] := by rw [hxL, dif_pos h]
theorem hxL_ge {n : Nat} (h : ¬ n < 16) : hxL n = hxL (n / 16) ++ [hxB (n % 16)] := by rw [hxL, dif_neg h]
theorem hx_step {N : Nat} {y : Nat} {out : List UInt8} (h : hxL N = hxL y ++ out) (hy : ¬ y < 16) : hxL N = hxL (y / 16) ++ (hxB (y % 16) :: out) := by
  rw [h, hxL_ge hy]; simp
theorem hx_last {N : Nat} {y : Nat} {out : List UInt8} (h : hxL N = hxL y ++ out) (hy : y < 16) : hxL N = hxB (y % 16) :: out := by
  rw [h, hxL_lt hy, Nat.mod_eq_of_lt hy]; rfl
/-- At most so many digits. -/
theorem hx_len : ∀ (k n : Nat), n < 16 ^ (k + 1) → (hxL n).length ≤ k + 1
  | 0, n, h => by rw [hxL_lt (by simpa using h)]; simp
  | k + 1, n, h => by
    by_cases hn : n < 16
    · rw [hxL_lt hn]; simp
    · rw [hxL_ge hn, List.length_append]
      have := hx_len k (n / 16) (by rw [Nat.pow_succ] at h; omega)
      simp only [List.length_cons, List.length_nil]; omega
theorem hx_pos (n : Nat) : 0 < (hxL n).length := by
  by_cases hn : n < 16
  · rw [hxL_lt hn]; simp
  · rw [hxL_ge hn]; simp
theorem hx_cut : ∀ d : Fin 16, ((⟨#[48, 49, 50, 51, 52, 53, 54, 55, 56, 57, 97, 98, 99, 100, 101, 102]⟩ : ByteArray).extract d.val (d.val + 1)) = str [hxB d.val] := by decide +kernel

/-- A number as a word of 64 bits. -/
def u64N (n : Int) : Nat := (n % 18446744073709551616).toNat
theorem u64N_lt (n : Int) : u64N n < 18446744073709551616 := by unfold u64N; omega
/-- The text to the base 16. -/
def hexB (n : Int) : ByteArray := str (hxL (u64N n))

end Go.Proofs.YtolfpfdmgelhhaaDoor
end

/-
What is written is read as it was: plain laws on numbers and texts. No program in sight.
-/
section
namespace Go.Proofs.YtolfpfdmgelhhaaDoor
open Go.RowKit

theorem low_idem (l : List UInt8) : lowL (lowL l) = lowL l := by
  unfold lowL
  rw [List.map_map]
  refine List.map_congr_left fun b _ => ?_
  have : ∀ c : Fin 256, lowB (lowB c.val.toUInt8) = lowB c.val.toUInt8 := by decide +kernel
  have h := this ⟨b.toNat, UInt8.toNat_lt b⟩
  simpa using h
theorem dw_idem (p : UInt8 → Bool) : ∀ l : List UInt8, (l.dropWhile p).dropWhile p = l.dropWhile p
  | [] => rfl
  | a :: l => by by_cases h : p a = true <;> simp [List.dropWhile_cons, h, dw_idem p l]
theorem trim_idem (l : List UInt8) : trimL (trimL l) = trimL l := by
  rw [trimL_eq (trimL l)]
  have h1 : (trimL l).dropWhile blk = trimL l := by
    rw [trimL_eq l, ← trim_comm blk l, dw_idem]
  rw [h1]
  have h2 : (trimL l).reverse.dropWhile blk = (trimL l).reverse := by
    rw [trimL_eq l, List.reverse_reverse, dw_idem]
  rw [h2, List.reverse_reverse]
theorem valF_one (B a : Nat) (b : UInt8) : valF B a [b] = a * B + digV b := rfl
theorem hxB_dig : ∀ d : Fin 16, isDig 16 (hxB d.val) = true ∧ digV (hxB d.val) = d.val ∧ lowB (hxB d.val) = hxB d.val := by decide +kernel
theorem hxL_all : ∀ n : Nat, (hxL n).all (isDig 16) = true ∧ valL 16 (hxL n) = n ∧ lowL (hxL n) = hxL n := by
  intro n
  induction n using Nat.strongRecOn with
  | ind n ih =>
    by_cases h : n < 16
    · have := hxB_dig ⟨n, h⟩
      rw [hxL_lt h]
      refine ⟨by simp [this.1], ?_, by simp [lowL, this.2.2]⟩
      have e : valL 16 [hxB n] = 0 * 16 + digV (hxB n) := rfl
      rw [e, this.2.1]; simp
    · have := hxB_dig ⟨n % 16, Nat.mod_lt _ (by omega)⟩
      obtain ⟨h1, h2, h3⟩ := ih (n / 16) (by omega)
      rw [hxL_ge h]
      refine ⟨by simp [h1, this.1], ?_, ?_⟩
      · unfold valL at h2 ⊢
        rw [valF_app, h2, valF_one, this.2.1]; simp only; omega
      · unfold lowL at h3 ⊢
        rw [List.map_append, h3]; simp [this.2.2]
theorem dec_dig : ∀ d : Fin 10, isDig 10 (UInt8.ofNat (48 + d.val)) = true ∧ digV (UInt8.ofNat (48 + d.val)) = d.val ∧ lowB (UInt8.ofNat (48 + d.val)) = UInt8.ofNat (48 + d.val) := by decide +kernel
theorem decL_all : ∀ n : Nat, (Lib.decDigits n).all (isDig 10) = true ∧ valL 10 (Lib.decDigits n) = n ∧ lowL (Lib.decDigits n) = Lib.decDigits n ∧ 0 < (Lib.decDigits n).length := by
  intro n
  induction n using Nat.strongRecOn with
  | ind n ih =>
    by_cases h : n < 10
    · have t := dec_dig ⟨n, h⟩
      have t1 : isDig 10 (UInt8.ofNat (48 + n)) = true := t.1
      have t2 : digV (UInt8.ofNat (48 + n)) = n := t.2.1
      have t3 : lowB (UInt8.ofNat (48 + n)) = UInt8.ofNat (48 + n) := t.2.2
      rw [Lib.decDigits_one h]
      generalize UInt8.ofNat (48 + n) = b at *
      refine ⟨by simp [t1], ?_, by simp [lowL, t3], by simp⟩
      have e : valL 10 [b] = 0 * 10 + digV b := rfl
      rw [e, t2]; simp
    · have t := dec_dig ⟨n % 10, Nat.mod_lt _ (by omega)⟩
      have t1 : isDig 10 (UInt8.ofNat (48 + n % 10)) = true := t.1
      have t2 : digV (UInt8.ofNat (48 + n % 10)) = n % 10 := t.2.1
      have t3 : lowB (UInt8.ofNat (48 + n % 10)) = UInt8.ofNat (48 + n % 10) := t.2.2
      obtain ⟨h1, h2, h3, _⟩ := ih (n / 10) (by omega)
      rw [Lib.decDigits, dif_neg h]
      generalize UInt8.ofNat (48 + n % 10) = b at *
      refine ⟨by simp [h1, t1], ?_, ?_, by simp⟩
      · unfold valL at h2 ⊢
        rw [valF_app, h2, valF_one, t2]; omega
      · unfold lowL at h3 ⊢
        rw [List.map_append, h3]; simp [t3]
/-- A number of digits that is not too great is read as it was. -/
theorem num_hex (n : Nat) (h : n ≤ 1152921504606846976) : numL 16 1152921504606846976 (hxL n) = ((n : Int), 0) := by
  obtain ⟨h1, h2, h3⟩ := hxL_all n
  have hp := hx_pos n
  unfold numL
  rw [h3, h2, if_neg, if_pos h]
  intro hh
  rcases hh with hh | hh
  · rw [hh] at hp; simp at hp
  · rw [h1] at hh; cases hh
theorem num_dec (n : Nat) (h : n ≤ 1000000000000000000) : numL 10 1000000000000000000 (Lib.itoa n) = ((n : Int), 0) := by
  obtain ⟨h1, h2, h3, hp⟩ := decL_all n
  rw [Lib.itoa_nonneg]
  unfold numL
  rw [h3, h2, if_neg, if_pos h]
  intro hh
  rcases hh with hh | hh
  · rw [hh] at hp; simp at hp
  · rw [h1] at hh; cases hh
end Go.Proofs.YtolfpfdmgelhhaaDoor
end

/-
What is written as a line is read as it was: plain laws. No program in sight.
-/
section
namespace Go.Proofs.YtolfpfdmgelhhaaDoor
open Go.RowKit

theorem pct_back0 : ∀ b : Fin 256, pctN (hexl (b.val / 16)) (hexl (b.val % 16)) = b.val := by decide +kernel
theorem pct_back (b : UInt8) : UInt8.ofNat (pctN (hexl (b.toNat / 16)) (hexl (b.toNat % 16))) = b := by
  have h := pct_back0 ⟨b.toNat, UInt8.toNat_lt b⟩
  dsimp only at h
  rw [h]
  exact UInt8.toNat_inj.1 (by rw [UInt8.toNat_ofNat']; have := UInt8.toNat_lt b; omega)
theorem ok_no37 {b : UInt8} (h : okB b = true) : b ≠ 37 := by
  rintro rfl
  exact absurd h (by decide)
theorem unF_nil : unF [] = [] := by rw [unF]
theorem unF_esc (d : Bool) : ∀ l : List UInt8, unF (l.flatMap (escB d)) = l
  | [] => unF_nil
  | b :: l => by
    rw [List.flatMap_cons]
    have ih := unF_esc d l
    unfold escB
    split
    · rename_i h
      have h1 : okB b = true := by revert h; cases okB b <;> simp
      show unF (b :: _) = _
      rw [unF_plain b _ (ok_no37 h1)]
      exact congrArg (b :: ·) ih
    · show unF (37 :: _ :: _ :: _) = _
      rw [unF_pct, pct_back]
      exact congrArg (b :: ·) ih
theorem unL_esc (l : List UInt8) : unL (escL l) = l := by
  by_cases h0 : l = []
  · subst h0; rfl
  · unfold unL
    split
    · rename_i h
      have h1 : l = [45] := by
        have h2 := unF_esc (l == [45]) l
        unfold escL at h
        rw [if_neg h0] at h
        rw [h] at h2
        rw [← h2]; decide
      subst h1
      exact absurd h (by decide)
    · unfold escL
      rw [if_neg h0]
      exact unF_esc _ l
theorem numW_dig {n : Int} (h : inN n) : numW (digL n) = (n, 0) := by
  obtain ⟨k, rfl⟩ : ∃ k : Nat, n = (k : Int) := ⟨n.toNat, by have := h.1; omega⟩
  have h2 := h.2
  unfold digL numW
  rw [dec_natA, str_data]
  have := num_dec k (by omega)
  rw [Lib.itoa_nonneg] at this
  exact this
theorem ent_back {x : Ent} (hn : x.nums) : entW (digL x.t) (escL x.c) (escL x.m) (escL x.h) (escL x.g) (digL x.s) (digL x.b) (escL x.a) = x := by
  unfold entW
  rw [numW_dig hn.1, numW_dig hn.2.1, numW_dig hn.2.2, unL_esc, unL_esc, unL_esc, unL_esc, unL_esc]
theorem back_pars {x : Ent} (h : (lineL x).2 = 0) : parsL (lineL x).1 = (x, 0) := by
  obtain ⟨hn, hs, he⟩ := line_ok h
  have hw : wdsL (lineL x).1 = [digL x.t, escL x.c, escL x.m, escL x.h, escL x.g, digL x.s, digL x.b, escL x.a] := by
    rw [he]; exact join_wds _ (by simp [Ent.parts]) (parts_no hn)
  unfold parsL
  rw [hw]
  dsimp only
  rw [ent_back hn, if_pos]
  exact ⟨by rw [numW_dig hn.1], by rw [numW_dig hn.2.1], by rw [numW_dig hn.2.2], h, rfl⟩
/-- A byte that may stand in a line's part. -/
def prt (b : UInt8) : Prop := 32 < b.toNat ∧ b.toNat < 127
theorem hexl_prt : ∀ n : Fin 16, 32 < (hexl n.val).toNat ∧ (hexl n.val).toNat < 127 := by decide
theorem dec_prt : ∀ (k : Nat), ∀ b ∈ Lib.decDigits k, prt b := by
  intro k
  induction k using Nat.strongRecOn with
  | ind k ih =>
    intro b hb
    rw [Lib.decDigits] at hb
    split at hb
    · simp only [List.mem_singleton] at hb
      rw [hb]; unfold prt; rw [UInt8.toNat_ofNat']; omega
    · rcases List.mem_append.1 hb with h | h
      · exact ih (k / 10) (by omega) b h
      · simp only [List.mem_singleton] at h
        rw [h]; unfold prt; rw [UInt8.toNat_ofNat']; omega
theorem dig_prt {n : Int} (h : 0 ≤ n) : ∀ b ∈ digL n, prt b := by
  obtain ⟨k, rfl⟩ : ∃ k : Nat, n = (k : Int) := ⟨n.toNat, by omega⟩
  unfold digL
  rw [dec_natA, str_data]
  exact dec_prt k
theorem esc_prt (l : List UInt8) : ∀ b ∈ escL l, prt b := by
  intro b hb
  unfold escL at hb
  split at hb
  · simp only [List.mem_singleton] at hb; subst hb; exact ⟨by decide, by decide⟩
  · obtain ⟨c, _, hc⟩ := List.mem_flatMap.1 hb
    unfold escB at hc
    split at hc
    · rename_i h
      simp only [List.mem_singleton] at hc
      subst hc
      have h1 : okB b = true := by revert h; cases okB b <;> simp
      unfold okB at h1
      simp only [Bool.and_eq_true, decide_eq_true_eq] at h1
      exact ⟨h1.1.1, h1.1.2⟩
    · have h1 := hexl_prt ⟨c.toNat / 16, by have := UInt8.toNat_lt c; omega⟩
      have h2 := hexl_prt ⟨c.toNat % 16, by omega⟩
      simp only [List.mem_cons, List.mem_nil_iff, or_false] at hc
      rcases hc with h | h | h
      · subst h; exact ⟨by decide, by decide⟩
      · rw [h]; exact h1
      · rw [h]; exact h2
theorem parts_prt {x : Ent} (hn : x.nums) : ∀ p ∈ x.parts, ∀ b ∈ p, prt b := by
  intro p hp
  simp only [Ent.parts, List.mem_cons, List.mem_nil_iff, or_false] at hp
  rcases hp with rfl | rfl | rfl | rfl | rfl | rfl | rfl | rfl
  · exact dig_prt hn.1.1
  · exact esc_prt _
  · exact esc_prt _
  · exact esc_prt _
  · exact esc_prt _
  · exact dig_prt hn.2.1.1
  · exact dig_prt hn.2.2.1
  · exact esc_prt _
theorem cnt_no {l : List UInt8} (h : ∀ b ∈ l, prt b) : l.count 32 = 0 := by
  rw [List.count_eq_zero]
  intro hm
  have := (h 32 hm).1
  exact absurd this (by decide)
theorem cnt_flat (ps : List (List UInt8)) (h : ∀ p ∈ ps, ∀ b ∈ p, prt b) : (ps.flatMap fun s => 32 :: s).count 32 = ps.length := by
  induction ps with
  | nil => rfl
  | cons p ps ih =>
    rw [List.flatMap_cons, List.count_append, ih (fun q hq => h q (by simp [hq])), List.count_cons_self, cnt_no (h p (by simp))]
    simp; omega
theorem cnt_join {ps : List (List UInt8)} (hp : ps ≠ []) (h : ∀ p ∈ ps, ∀ b ∈ p, prt b) : (joinW ps).count 32 + 1 = ps.length := by
  rw [← cnt_flat ps h]
  cases ps with
  | nil => exact absurd rfl hp
  | cons p ps => unfold joinW; rw [List.flatMap_cons]; simp
theorem join_prt {ps : List (List UInt8)} (h : ∀ p ∈ ps, ∀ b ∈ p, prt b) : ∀ b ∈ joinW ps, 32 ≤ b.toNat ∧ b.toNat ≤ 126 := by
  intro b hb
  unfold joinW at hb
  obtain ⟨p, hp, hm⟩ := List.mem_flatMap.1 (List.mem_of_mem_tail hb)
  rcases List.mem_cons.1 hm with rfl | hm
  · exact ⟨by decide, by decide⟩
  · have := h p hp b hm
    exact ⟨by have := this.1; omega, by have := this.2; omega⟩
/-- A line: its bytes, its blanks, its length. -/
theorem line_prt {x : Ent} (h : (lineL x).2 = 0) : (∀ b ∈ (lineL x).1, 32 ≤ b.toNat ∧ b.toNat ≤ 126) ∧ (lineL x).1.count 32 = 7 ∧ (lineL x).1.length ≤ 200000 := by
  obtain ⟨hn, hs, he⟩ := line_ok h
  rw [he]
  refine ⟨join_prt (parts_prt hn), ?_, ?_⟩
  · have := cnt_join (ps := x.parts) (by simp [Ent.parts]) (parts_prt hn)
    have h8 : x.parts.length = 8 := rfl
    omega
  · exact Nat.le_trans (joinW_len _) (parts_tot hs hn)
theorem line_bad {x : Ent} (h : (lineL x).2 ≠ 0) : (lineL x).1 = [] := by
  unfold lineL at h ⊢
  split
  · split
    · rename_i h1 h2
      rw [if_pos h1, if_pos h2] at h
      exact absurd rfl h
    · rfl
  · rfl
end Go.Proofs.YtolfpfdmgelhhaaDoor
end
