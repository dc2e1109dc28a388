/-
A queue of bytes: the reference's Line.
-/
import Derived.Test.YteklakibcboepabDoorLine1
import Derived.Test.YteklakibcboepabDoorRq2
set_option linter.unusedVariables false
set_option linter.unusedSimpArgs false
namespace Go.Proofs.YteklakibcboepabDoor
open Go.RowKit

theorem strip_yes (l : List UInt8) (i : Nat) (hi : i + 1 ≤ l.length) (h : l[i]? = some 13) : strip13 (l.take (i + 1)) = l.take i := by
  have hs : Lib.hasSuffix (l.take (i + 1)) [13] = true := by
    unfold Lib.hasSuffix
    rw [List.isSuffixOf_iff_suffix]
    refine ⟨l.take i, ?_⟩
    obtain ⟨hl, hg⟩ := List.getElem?_eq_some_iff.1 h
    rw [List.take_succ_eq_append_getElem hl, hg]
  unfold strip13
  rw [if_pos hs, List.take_take, List.length_take]
  congr 1; omega
theorem strip_no (l : List UInt8) (i : Nat) (hi : i + 1 ≤ l.length) (h : l[i]? ≠ some 13) : strip13 (l.take (i + 1)) = l.take (i + 1) := by
  have hs : ¬ Lib.hasSuffix (l.take (i + 1)) [13] = true := by
    unfold Lib.hasSuffix
    rw [List.isSuffixOf_iff_suffix]
    rintro ⟨t, ht⟩
    have e : l.take (i + 1) = l.take i ++ [l[i]] := List.take_succ_eq_append_getElem (by omega)
    rw [e] at ht
    have := (List.append_inj' ht rfl).2
    simp only [List.cons.injEq, and_true] at this
    exact h (by rw [List.getElem?_eq_getElem (by omega), ← this])
  unfold strip13
  rw [if_neg hs]
theorem strip_nil : strip13 [] = [] := by unfold strip13; split <;> rfl

set_option maxRecDepth 100000 in
set_option maxHeartbeats 1000000 in
theorem rLine_no (k p lim : Nat) (l : List UInt8) (w : World) (o : Ow) (hq : RIs w o k p l lim) (hn : (10 : UInt8) ∉ l) :
    Calls Tryd.prog 36 #[.pointer (some ⟨p, 0, none⟩)] w fun e w' => e = .returned (.tuple #[.slice none 0 0, .bool false]) ∧ w = w' := by
  obtain ⟨A, c, hh, hs, hna⟩ := hq.at_
  obtain ⟨c0, c1, f0⟩ := q_facts hh
  have hhi := hq.hi
  have hle := hq.le
  have hpl := row_lt hh
  go_enter Tryd.func36, Tryd.ntmps36
  go_wp2
  go_loopw [4] (fun i wr => ∃ t : Nat, i = .int .i64 (t : Int) ∧ t ≤ l.length ∧ w = wr) (fun i _ => l.length - (intOf i).toNat)
  case atStart => exact ⟨0, rfl, Nat.zero_le _, rfl⟩
  case round =>
    obtain ⟨t, rfl, ht, rfl⟩ := hrel
    by_cases hlt : t < l.length
    · obtain ⟨b, f, rfl, hb, hc⟩ := hs.rd.at_ (by rw [bc_len]; omega)
      have a0 := hc t _ (bc_at l t hlt)
      have hne : l[t] ≠ 10 := fun h => hn (by rw [← h]; exact List.getElem_mem hlt)
      have b1 : ((l[t].toNat : Int) != 10) = true := by rw [bne_iff_ne]; intro h; exact hne (UInt8.toNat_inj.1 (by show l[t].toNat = 10; omega))
      have t0 : (0 : Int) ≤ (t : Int) := by omega
      have t1 : (t : Int) < (l.length : Int) := by omega
      have HS := Lib.hid hs
      have HN := Lib.hid hne
      clear hc hs hne
      go_wp2
      go_roundw
      case rel => exact ⟨t + 1, by go_num, by omega, by trivial⟩
      case measure => simp [intOf]; omega
    · obtain rfl : t = l.length := by omega
      go_wp2
      go_ret2
      exact ⟨rfl, rfl⟩
set_option maxRecDepth 100000 in
set_option maxHeartbeats 2000000 in
theorem rLine_at (j k p lim : Nat) (hj : j ≠ k) (l : List UInt8) (i : Nat) (w : World) (o : Ow) (hq : RIs w o k p l lim) (hl : i < l.length) (hi : l[i] = 10) (hn : ∀ t, t < i → l[t]? ≠ some 10) :
    Calls Tryd.prog 36 #[.pointer (some ⟨p, 0, none⟩)] w (Turns (KQ k) w o fun v w' o' => (∃ A c, v = .tuple #[.slice A (strip13 (l.take i)).length c, .bool true] ∧ Rd w' A (bc (strip13 (l.take i)))) ∧ RIs w' o' k p (l.drop (i + 1)) lim) := by
  have CT := fun w o hq => rTake_c j k p lim hj l ((i : Int) + 1) w o hq (by omega) (by have := hq.hi; have := hq.le; omega)
  rw [show ((i : Int) + 1).toNat = i + 1 from by omega] at CT
  obtain ⟨A, c, hh, hs, hna⟩ := hq.at_
  obtain ⟨c0, c1, f0⟩ := q_facts hh
  have hhi := hq.hi
  have hle := hq.le
  have hpl := row_lt hh
  have hlen : (l.take (i + 1)).length = i + 1 := by rw [List.length_take]; omega
  have HQ := Lib.hid hq
  have CT := Lib.hid CT
  clear hq
  go_enter Tryd.func36, Tryd.ntmps36
  go_wp2
  go_loopw [4] (fun x wr => ∃ t : Nat, x = .int .i64 (t : Int) ∧ t ≤ i ∧ w = wr) (fun x _ => l.length - (intOf x).toNat)
  case atStart => exact ⟨0, rfl, Nat.zero_le _, rfl⟩
  case round =>
    obtain ⟨t, rfl, ht, rfl⟩ := hrel
    have hlt : t < l.length := by omega
    obtain ⟨b, f, rfl, hb, hc⟩ := hs.rd.at_ (by rw [bc_len]; omega)
    have a0 := hc t _ (bc_at l t hlt)
    have t0 : (0 : Int) ≤ (t : Int) := by omega
    have t1 : (t : Int) < (l.length : Int) := by omega
    have HS := Lib.hid hs
    clear hc hs
    by_cases he : t < i
    · have hne : l[t] ≠ 10 := fun h => hn t he (by rw [List.getElem?_eq_getElem hlt, h])
      have b1 : ((l[t].toNat : Int) != 10) = true := by rw [bne_iff_ne]; intro h; exact hne (UInt8.toNat_inj.1 (by show l[t].toNat = 10; omega))
      clear hne
      go_wp2
      go_roundw
      case rel => exact ⟨t + 1, by go_num, by omega, by trivial⟩
      case measure => simp [intOf]; omega
    · obtain rfl : t = i := by omega
      rw [hi] at a0
      have s0 : IntKind.i64.wrap ((t : Int) + 1) = (t : Int) + 1 := by rw [IntKind.wrap_i64]; omega
      clear hn
      rcases Nat.eq_zero_or_pos t with h0 | h0
      · subst h0
        have E : Hid (strip13 (l.take 0) = []) := Lib.hid strip_nil
        rw [Nat.add_zero] at a0
        have CT1 : ∀ w o, RIs w o k p l lim → Calls Tryd.prog 34 #[.pointer (some ⟨p, 0, none⟩), .int .i64 1] w _ := CT.out
        have CT := Lib.hid CT1
        clear CT1
        go_wp2_with (go_at_call 34; refine (CT.out _ o HQ.out).mono ?_; rintro e w3 ⟨v, o3, rfl, ⟨⟨A3, d3, rfl, hs3, hn3⟩, hq3⟩, hst3⟩; rw [hlen] at hs3; have hd3 := hs3.le; simp only [hlen])
        go_ret2
        exact Turns.mk o3 rfl ⟨⟨A3, d3, by rw [E.out]; rfl, by rw [E.out]; exact .inl rfl⟩, hq3⟩ hst3
      · obtain ⟨u, rfl⟩ : ∃ u, t = u + 1 := ⟨t - 1, by omega⟩
        have hu2 : (l.take (u + 1 + 1)).length = u + 2 := by rw [List.length_take]; omega
        by_cases h13 : l[u]? = some 13
        · have E := Lib.hid (strip_yes l u (by omega) h13)
          have hlu : (l.take u).length = u := by rw [List.length_take]; omega
          have hv : (l.take (u + 1 + 1))[u]'(by omega) = 13 := by
            rw [List.getElem_take]; obtain ⟨_, h⟩ := List.getElem?_eq_some_iff.1 h13; exact h
          go_wp2_with (go_at_call 34; refine (CT.out _ o HQ.out).mono ?_; rintro e w3 ⟨v, o3, rfl, ⟨⟨A3, d3, rfl, hs3, hn3⟩, hq3⟩, hst3⟩; rw [hlen] at hs3; have hd3 := hs3.le; simp only [hlen]; obtain ⟨b3, f3, rfl, hb3, hc3⟩ := hs3.rd.at_ (by rw [bc_len]; omega); have a3 := hc3 u _ (bc_at _ u (by omega)); rw [hv] at a3)
          go_ret2
          exact Turns.mk o3 rfl ⟨⟨_, d3, by rw [E.out, hlu]; rfl, by rw [E.out]; exact (by have := hs3.rd.take u; rw [bc_take, List.take_take, Nat.min_eq_left (by omega)] at this; exact this)⟩, hq3⟩ hst3
        · have E := Lib.hid (strip_no l u (by omega) h13)
          have hlu : (l.take (u + 1)).length = u + 1 := by rw [List.length_take]; omega
          obtain ⟨z, hz⟩ : ∃ z, z = (l.take (u + 1 + 1))[u]'(by omega) := ⟨_, rfl⟩
          have hz2 : ((z.toNat : Int) == 13) = false := by
            rw [beq_eq_false_iff_ne]; intro h
            refine h13 ?_
            rw [List.getElem_take] at hz
            rw [List.getElem?_eq_getElem (by omega), ← hz]
            exact congrArg some (UInt8.toNat_inj.1 (by show z.toNat = 13; omega))
          have HZ := Lib.hid hz
          clear hz h13
          go_wp2_with (go_at_call 34; refine (CT.out _ o HQ.out).mono ?_; rintro e w3 ⟨v, o3, rfl, ⟨⟨A3, d3, rfl, hs3, hn3⟩, hq3⟩, hst3⟩; rw [hlen] at hs3; have hd3 := hs3.le; simp only [hlen]; obtain ⟨b3, f3, rfl, hb3, hc3⟩ := hs3.rd.at_ (by rw [bc_len]; omega); have a3 := hc3 u _ (bc_at _ u (by omega)); rw [← HZ.out] at a3)
          go_ret2
          exact Turns.mk o3 rfl ⟨⟨_, d3, by rw [E.out, hlu]; rfl, by rw [E.out]; exact (by have := hs3.rd.take (u + 1); rw [bc_take, List.take_take, Nat.min_eq_left (by omega)] at this; exact this)⟩, hq3⟩ hst3
end Go.Proofs.YteklakibcboepabDoor
