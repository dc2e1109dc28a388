/-
Static: a tag's text is read as it was.
-/
import Derived.Test.YtemdgilifnhdpaaGreatDoorZaj
import Derived.Test.YtemdgilifnhdpaaGreatDoorZae
import Derived.RangeFuncNested
import Derived.RangeFuncBound
import Derived.RangeFuncCalls
import Derived.RangeFuncLeaves
import Derived.RangeFuncBox
import Derived.Shelf.Abstract
import Derived.Shelf.RegionOpen
import Derived.OwnWalkIn
import Derived.TacticsInMore
import Derived.LoopNIn
import Derived.LoopIn
set_option linter.unusedVariables false
set_option linter.unusedSimpArgs false
section
namespace Go.Proofs.YtemdgilifnhdpaaGreatDoor
open Go.RowKit

def InTag (l : List UInt8) : Prop := ∀ j (h : j < l.length), 32 < l[j].toNat ∧ l[j].toNat ≠ 34 ∧ l[j].toNat ≠ 127 ∧ l[j].toNat ≠ 44 ∧ l[j].toNat ≠ 92
def qTag (l : List UInt8) : List UInt8 := [34] ++ l ++ [34]
theorem qTag_len (l : List UInt8) : (qTag l).length = l.length + 2 := by unfold qTag; simp
theorem qTag_idx0 (l : List UInt8) (w : World) : (Instr.index 9 (.string (str (qTag l))) (.int .i64 0)).run Tryz.prog w = .ok (.int .u8 34) w := by
  rw [run_index_string w 9 _ .i64 0 Tryz.underlying9, dif_pos (by rw [str_size, qTag_len]; omega)]
  rfl
theorem qTag_last (l : List UInt8) (m : Nat) (hm : m = l.length + 1) (w : World) : (Instr.index 9 (.string (str (qTag l))) (.int .i64 (m : Int))).run Tryz.prog w = .ok (.int .u8 34) w := by
  have hml : m < (qTag l).length := by rw [qTag_len]; omega
  rw [run_index_string w 9 _ .i64 (m : Int) Tryz.underlying9, dif_pos (by rw [str_size]; omega)]
  have : (str (qTag l))[((m : Int)).toNat]'(by rw [Int.toNat_natCast, str_size]; exact hml) = 34 := by
    simp only [Int.toNat_natCast]
    rw [str_get _ _ (by rw [str_size]; exact hml)]
    subst hm
    simp [qTag]
  rw [this]; rfl
set_option maxRecDepth 100000 in
set_option maxHeartbeats 4000000 in
theorem flTag_c (tl : List UInt8) (hall : InTag tl) (htl : tl.length ≤ 1000) (w : World) :
    Calls Tryz.prog 54 #[.string (str (qTag tl))] w (Gives (.tuple #[.agg #[.bool false, .string (str tl)], .bool true]) w) := by
  have CC := fun w => Tryz.strings_CutPrefix (str (qTag tl)) ⟨#[87, 47]⟩ w
  rw [str_data] at CC
  have h2 : Lib.hasPrefix (qTag tl) [87, 47] = false := rfl
  have h1 : Lib.trimPrefix (qTag tl) [87, 47] = qTag tl := by unfold Lib.trimPrefix; rw [h2]; rfl
  have CC : Hid (∀ w, Calls Tryz.prog 87 #[.string (str (qTag tl)), .string ⟨#[87, 47]⟩] w fun e w' => e = .returned (.tuple #[.string (str (qTag tl)), .bool false]) ∧ w' = w) := Lib.hid (fun w => by
    have := CC w
    rw [show (⟨#[87, 47]⟩ : ByteArray).data.toList = [87, 47] from rfl, h1, h2] at this
    exact this)
  have hi0 := qTag_idx0 tl
  obtain ⟨m, hm⟩ : ∃ m : Nat, m = tl.length + 1 := ⟨_, rfl⟩
  have hi1 := qTag_last tl m hm
  obtain ⟨L, hL⟩ : ∃ L : Nat, L = m + 1 := ⟨_, rfl⟩
  have hz : (str (qTag tl)).size = L := by rw [str_size, qTag_len]; omega
  have hsl : (str (qTag tl)).extract 1 m = str tl := by
    apply ByteArray.ext
    apply Array.ext'
    subst hm
    simp [str, qTag]
  have hzt : (str tl).size = tl.length := str_size tl
  obtain ⟨sq, hsq⟩ : ∃ x, x = str (qTag tl) := ⟨_, rfl⟩
  obtain ⟨st, hst⟩ : ∃ x, x = str tl := ⟨_, rfl⟩
  rw [← hsq] at CC hi0 hi1 hz hsl
  rw [← hst] at hsl hzt
  rw [← hsq, ← hst]
  have CV := fun w => Lib.run_convert_string_bytes (P := Tryz.prog) w 9 22 5 st Tryz.underlying9 Tryz.underlying22 Tryz.underlying5
  have HCL := fun w j (h : j < tl.length) => (show (Lib.bytesWorld w 5 st).cell? ⟨w.heap.size, j, none⟩ = some (.int .u8 (tl[j].toNat : Int)) from by
    have hc := Lib.bytesWorld_cell w 5 st j (by rw [hst]; simpa using h)
    rw [hc, hst]
    simp [List.getD, h])
  have HALL := Lib.hid hall
  obtain ⟨N, hN⟩ : ∃ N, N = tl.length := ⟨_, rfl⟩
  have HCL := Lib.hid HCL
  rw [← hN] at hzt hm htl
  have HN := Lib.hid hN
  have hw1 : wrap64 ((L : Int) - 1) = (m : Int) := by unfold wrap64; omega
  have hm1 : (1 : Int) ≤ (m : Int) := by omega
  have hm2 : (m : Int) ≤ (L : Int) := by omega
  have hm3 : ¬ ((L : Int) < 2) := by omega
  have hm4 : decide ((L : Int) < 2) = false := by simpa using hm3
  have HM := Lib.hid hm
  clear h1 h2 hall hsq hst hN hm hL
  go_enter Tryz.func54, Tryz.ntmps54
  go_upto_region 5 with (first
    | (go_at_call 87; refine (CC.out _).mono ?_; rintro e w1 ⟨rfl, rfl⟩))
  obtain ⟨W0, hW0⟩ : ∃ X, X = w.alloc (.cells #[.bool false, .string ⟨#[]⟩] 29) := ⟨_, rfl⟩
  have hr0 : W0.heap[w.heap.size]? = some (.cells #[.bool false, .string ⟨#[]⟩] 29 (0, 0)) := by rw [hW0]; exact heap_alloc_new w _
  have hx0 : Ext w W0 := by rw [hW0]; (repeat (first | exact Ext.rfl' _ | assumption | refine Ext.dr ?_ | refine Ext.drN ?_ _ | refine Ext.al ?_ _ | refine Ext.st ?_ (by simp) _ | refine Ext.tr ?_ (by assumption)))
  rw [← hW0]
  clear hW0 hi0 hi1 hz hsl hw1 hm1 hm2 hm3 hm4 CC
  go_wp2
  obtain ⟨W1, hW1⟩ : ∃ W1, W1 = Lib.bytesWorld W0 5 st := ⟨_, rfl⟩
  rw [← hW1]
  have hX1 : Ext W0 W1 := by rw [hW1]; exact Ext.bwS (Ext.rfl' _) _ _
  have HC := Lib.hid (show ∀ j (h : j < tl.length), W1.cell? ⟨W0.heap.size, j, none⟩ = some (.int .u8 (tl[j].toNat : Int)) from fun j h => by rw [hW1]; exact HCL.out W0 j h)
  have hr1 := (hX1.block _ (row_lt hr0)).trans hr0
  obtain ⟨z0, g0⟩ := row_facts hr1 0 _ rfl
  obtain ⟨z1, g1⟩ := row_facts hr1 1 _ rfl
  have hxw : Ext w W1 := hx0.tr hX1
  have HR1 := Lib.hid hr1
  clear hW1 CV HCL hr0 hx0 hX1 hr1
  go_loopw [38] (fun v38 wr => ∃ j : Nat, v38 = .int .i64 (j : Int) ∧ j ≤ N ∧ W1 = wr) (fun v38 _ => N - (intOf v38).toNat)
  case atStart => exact ⟨0, rfl, Nat.zero_le _, by trivial⟩
  case round =>
    obtain ⟨j, rfl, hj, rfl⟩ := hrel
    by_cases hlt : j < N
    · have hjl : j < tl.length := by rw [← HN.out]; exact hlt
      have hck := HC.out j hjl
      obtain ⟨b1, b2, b3, -⟩ := HALL.out j hjl
      obtain ⟨b, hb⟩ : ∃ b : Int, b = (tl[j].toNat : Int) := ⟨_, rfl⟩
      rw [← hb] at hck
      have c1 : ¬ b ≤ 32 := by omega
      have c2 : (b == 34) = false := by rw [beq_eq_false_iff_ne]; omega
      have c3 : (b == 127) = false := by rw [beq_eq_false_iff_ne]; omega
      have hj0 : (0 : Int) ≤ (j : Int) := by omega
      have hj1 : (j : Int) < (N : Int) := by omega
      clear hb b1 b2 b3 hjl
      go_wp2
      go_roundw
      case rel => exact ⟨j + 1, by go_num, by omega, trivial⟩
      case measure => simp [intOf]; omega
    · obtain rfl : j = N := by omega
      go_wp2
      have hr2 := row_set (row_set HR1.out 0 (.bool false)) 1 (.string st)
      have q0 := (row_facts hr2 0 _ rfl).1
      have q1 := (row_facts hr2 1 _ rfl).1
      refine bodyPost_ret (v := .tuple #[.agg #[.bool false, .string st], .bool true]) (by simp [results, Tryz.results54, go_sem, q0, q1]) rfl ?_
      exact ⟨rfl, Ext.st (Ext.st hxw (by show w.heap.size ≤ w.heap.size; omega) _) (by show w.heap.size ≤ w.heap.size; omega) _⟩
set_option maxRecDepth 100000 in
set_option maxHeartbeats 2000000 in
theorem flParseT_c (tl : List UInt8) (hall : InTag tl) (htl : tl.length ≤ 1000) (w : World) :
    Calls Tryz.prog 23 #[.string (str (qTag tl))] w (Gives (.tuple #[.agg #[.bool false, .string (str tl)], .int .i64 0]) w) := by
  have CT := Lib.hid (fun w => flTag_c tl hall htl w)
  obtain ⟨sq, hsq⟩ : ∃ x, x = str (qTag tl) := ⟨_, rfl⟩
  obtain ⟨st, hst⟩ : ∃ x, x = str tl := ⟨_, rfl⟩
  rw [← hsq, ← hst] at CT ⊢
  clear hsq hst hall htl
  go_enter Tryz.func23, Tryz.ntmps23
  go_wp2_with (go_at_call 54; refine (CT.out _).mono ?_; rintro e w1 ⟨rfl, hx1⟩; have e1 := ((hx1.al (.cells #[.bool false, .string st] 29)).block _ (row_lt (heap_alloc_new w (.cells #[.bool false, .string ⟨#[]⟩] 29)))).trans (heap_alloc_new w _); obtain ⟨z0, g0⟩ := row_facts e1 0 _ rfl; obtain ⟨z1, g1⟩ := row_facts e1 1 _ rfl; have hr2 := row_set (row_set e1 0 (.bool false)) 1 (.string st); have q0 := (row_facts hr2 0 _ rfl).1; have q1 := (row_facts hr2 1 _ rfl).1; have hxz : Ext w (w1.alloc (.cells #[.bool false, .string st] 29)) := (by (repeat (first | exact Ext.rfl' _ | assumption | refine Ext.dr ?_ | refine Ext.drN ?_ _ | refine Ext.al ?_ _ | refine Ext.st ?_ (by simp) _ | refine Ext.tr ?_ (by assumption)))); clear e1 hr2)
  refine bodyPost_ret (v := .tuple #[.agg #[.bool false, .string st], .int .i64 0]) (by simp [results, Tryz.results23, go_sem, q0, q1]) rfl ?_
  exact ⟨rfl, Ext.st (Ext.st hxz (by show w.heap.size ≤ w.heap.size; omega) _) (by show w.heap.size ≤ w.heap.size; omega) _⟩
set_option maxRecDepth 100000 in
set_option maxHeartbeats 2000000 in
theorem flWeak_yes (a b : Bool) (s : ByteArray) (w : World) : Calls Tryz.prog 68 #[.agg #[.bool a, .string s], .agg #[.bool b, .string s]] w (Gives (.bool true) w) := by
  go_enter Tryz.func68, Tryz.ntmps68
  go_wp2
  go_ret
  exact ⟨rfl, by (repeat (first | exact Ext.rfl' _ | assumption | refine Ext.dr ?_ | refine Ext.drN ?_ _ | refine Ext.al ?_ _ | refine Ext.st ?_ (by simp) _ | refine Ext.tr ?_ (by assumption)))⟩
set_option maxRecDepth 100000 in
set_option maxHeartbeats 2000000 in
theorem flWeak_no (a b : Bool) (s t : ByteArray) (h : ¬ s.toList = t.toList) (w : World) : Calls Tryz.prog 68 #[.agg #[.bool a, .string s], .agg #[.bool b, .string t]] w (Gives (.bool false) w) := by
  have h2 : (s.toList == t.toList) = false := by rw [beq_eq_false_iff_ne]; exact h
  go_enter Tryz.func68, Tryz.ntmps68
  go_wp2
  go_ret
  exact ⟨rfl, by (repeat (first | exact Ext.rfl' _ | assumption | refine Ext.dr ?_ | refine Ext.drN ?_ _ | refine Ext.al ?_ _ | refine Ext.st ?_ (by simp) _ | refine Ext.tr ?_ (by assumption)))⟩
end Go.Proofs.YtemdgilifnhdpaaGreatDoor
end

section
namespace Go.Proofs.YtemdgilifnhdpaaGreatDoor
open Go.RowKit Go.Shelf

attribute [local go_sem] Oper.semAt_some

def kdT : Array Value := #[.bool true, .bool false, .func (.func 54) #[] #[]]
theorem grown_extU {a b : World} (h : Ext a b) : a.grownBy b none := ⟨h.os, h.tape, h.output, h.size, fun k hk _ => h.block k hk⟩
def KpU (n c : Nat) (W W' : World) : Prop := Below n W W' ∧ W'.heap[c]? = W.heap[c]? ∧ W'.heap[c + 1]? = W.heap[c + 1]?
theorem kpU_t {n c : Nat} {A B C : World} (h : KpU n c A B) (k : KpU n c B C) : KpU n c A C := ⟨h.1.trans k.1, k.2.1.trans h.2.1, k.2.2.trans h.2.2⟩
theorem kpU_b {n c : Nat} {w : World} (hn : n ≤ w.heap.size) (hc : c + 2 ≤ w.heap.size) (W : World) (l : Nat) (o o' : Obj) (hl : w.heap.size ≤ l) (h : W.heap[l]? = some o) (h1 : o.isCells = false) (h2 : o.isWalk = false) : KpU n c W (W.putObj l o') :=
  ⟨belowK_b hn W l o o' hl h h1 h2, World.putObj_heap_other (by omega), World.putObj_heap_other (by omega)⟩
def inQ (n i : Nat) : Bool := decide (0 < i ∧ i ≤ n + 1)
theorem trim_qTag (tl : List UInt8) : trimL (qTag tl) = qTag tl := by
  unfold trimL Lib.trimS
  have h1 : Lib.trimRightS (qTag tl) [32, 9] = qTag tl := by
    rw [Lib.trimRightS_take (qTag tl) [32, 9] (qTag tl).length (Nat.le_refl _) (fun j b h1 h2 => by rw [List.getElem?_eq_none h1] at h2; cases h2) (fun b _ hb => by
      rw [qTag_len, show tl.length + 2 - 1 = tl.length + 1 from rfl] at hb
      have : (qTag tl)[tl.length + 1]? = some 34 := by simp [qTag]
      rw [this] at hb
      obtain rfl := Option.some.inj hb
      rfl)]
    exact List.take_of_length_le (Nat.le_refl _)
  rw [h1, Lib.trimLeftS_drop (qTag tl) [32, 9] 0 (Nat.zero_le _) (fun j b h => by omega) (fun b hb => by
    have : (qTag tl)[0]? = some 34 := rfl
    rw [this] at hb
    obtain rfl := Option.some.inj hb
    rfl)]
  rfl
theorem qTag_at0 (tl : List UInt8) : (qTag tl)[0]? = some 34 := rfl
theorem qTag_mid (tl : List UInt8) (i : Nat) (h : i < tl.length) : (qTag tl)[i + 1]? = some tl[i] := by
  show (34 :: (tl ++ [34]))[i + 1]? = some tl[i]
  rw [List.getElem?_cons_succ, List.getElem?_append_left h, List.getElem?_eq_getElem h]
theorem qTag_end (tl : List UInt8) : (qTag tl)[tl.length + 1]? = some 34 := by simp [qTag]
set_option maxRecDepth 100000 in
set_option maxHeartbeats 4000000 in
theorem elemT_in (l Sn Kn : Nat) (Kp : World → World → Prop) (tl : List UInt8) (hall : InTag tl) (htl : tl.length ≤ 1000) (J Jx : List Unit → World → Prop)
    (hJ : ∀ pre W W', J pre W → Ext W W' → J pre W')
    (hY : ∀ pre (x : Unit) W, J pre W → pre.length < 1 → YieldAt Fence.wide 6 Tryz.prog l #[.string (str (qTag tl))] W fun e W' =>
      (e = .returned (.bool true) ∧ J (pre ++ [x]) W' ∧ Kp W W') ∨ (e = .returned (.bool false) ∧ Jx (pre ++ [x]) W'))
    (W : World) (hS : W.cell? ⟨Sn, 0, none⟩ = some (.string (str (qTag tl)))) (hK0 : W.cell? ⟨Kn, 0, none⟩ = some (.bool true)) (hK1 : W.cell? ⟨Kn, 1, none⟩ = some (.bool false)) (h0 : J [] W) :
    CallsIn Fence.wide 7 Tryz.prog 210 #[.func (.yield l) #[] #[], .pointer (some ⟨Sn, 0, none⟩), .pointer (some ⟨Kn, 0, none⟩)] W fun e W' => (∃ v, e = .returned v) ∧
      ((∃ ys, ys.length = 1 ∧ J ys W') ∨ (∃ pre, pre.length ≤ 1 ∧ Jx pre W')) := by
  have HS := Lib.hid hS
  have HK0 := Lib.hid hK0
  have HK1 := Lib.hid hK1
  have HALL := Lib.hid hall
  have H0 := Lib.hid h0
  have hz : (str (qTag tl)).size = tl.length + 2 := by rw [str_size, qTag_len]
  have hidx := fun (i : Nat) (b : UInt8) (h : (qTag tl)[i]? = some b) (w : World) => (show (Instr.index 9 (.string (str (qTag tl))) (.int .i64 (i : Int))).run Tryz.prog w = .ok (.int .u8 (b.toNat : Int)) w from by
    obtain ⟨h1, h2⟩ := List.getElem?_eq_some_iff.1 h
    rw [run_index_string w 9 _ .i64 (i : Int) Tryz.underlying9, dif_pos (by rw [str_size]; omega)]
    have : (str (qTag tl))[((i : Int)).toNat]'(by rw [Int.toNat_natCast, str_size]; exact h1) = b := by
      simp only [Int.toNat_natCast]
      rw [str_get _ _ (by rw [str_size]; exact h1)]
      exact h2
    rw [this])
  have CT := fun w => Trim_c (qTag tl) (by rw [qTag_len]; unfold maxLen; omega) w
  rw [trim_qTag] at CT
  have CT := Lib.hid CT
  have hqn : ¬ (str (qTag tl)).toList = [] := by rw [str_tl]; simp [qTag]
  have hqm : ((str (qTag tl)).toList == []) = false := by rw [beq_eq_false_iff_ne]; exact hqn
  have hsl : (str (qTag tl)).extract 0 (tl.length + 2) = str (qTag tl) := by
    apply ByteArray.ext
    apply Array.ext'
    simp [str, qTag]
    rw [List.take_of_length_le (by simp)]
  have HI0 := Lib.hid (hidx 0 34 (qTag_at0 tl))
  have HIM := Lib.hid (fun i (h : i < tl.length) => hidx (i + 1) tl[i] (qTag_mid tl i h))
  have HIE := Lib.hid (hidx (tl.length + 1) 34 (qTag_end tl))
  obtain ⟨n, hn⟩ : ∃ n, n = tl.length := ⟨_, rfl⟩
  rw [← hn] at hz hsl HIE htl
  have HN := Lib.hid hn
  obtain ⟨sq, hsq⟩ : ∃ x, x = str (qTag tl) := ⟨_, rfl⟩
  rw [← hsq] at HS hz hsl HI0 HIM HIE CT hqn hqm hY
  have HY := Lib.hid hY
  obtain ⟨L, hL⟩ : ∃ L, L = n + 2 := ⟨_, rfl⟩
  rw [← hL] at hz hsl
  have hLb : L ≤ 2000 := by omega
  have HL := Lib.hid hL
  clear hL hS hK0 hK1 hall h0 hidx hn hsq hY
  refine callsIn_of_wp Tryz.func210 rfl trivial ?_ rfl
  simp only [Tryz.ntmps210, List.size_toArray, List.length_cons, List.length_nil, Nat.reduceAdd, Nat.reduceSub, Array.replicate_succ, Array.replicate_zero, List.push_toArray, List.append_toArray, List.nil_append, List.cons_append]
  gi_wp2
  gi_loopw [4, 5, 6] (fun iv fv nv wr => ∃ i : Nat, iv = .bool (inQ n i) ∧ fv = .int .i64 0 ∧ nv = .int .i64 ((i : Nat) : Int) ∧ i ≤ L ∧ W = wr)
    (fun _ _ nv _ => L - (intOf nv).toNat)
  case atStart => exact ⟨0, rfl, rfl, rfl, Nat.zero_le _, by trivial⟩
  case round =>
    obtain ⟨i, rfl, rfl, rfl, hil, rfl⟩ := hrel
    have hL := HL.out
    have c0 := HS.out
    have c1 := HK0.out
    have c2 := HK1.out
    rcases Nat.lt_or_ge 0 i with hi0 | hi0
    · rcases Nat.lt_or_ge n i with hin | hin
      · rcases Nat.lt_or_ge (n + 1) i with hin1 | hin1
        · obtain rfl : i = L := by omega
          have hq0 : inQ n i = false := by unfold inQ; rw [decide_eq_false_iff_not]; omega
          rw [hq0]
          have hi : (0 : Int) ≤ (i : Int) := by omega
          clear hq0 hi0 hin hin1 hL
          gi_wp2_with (first
            | (refine ⟨trivial, ?_⟩; gi_at_call 132; refine (callsIn_wide.2 (CT.out _)).mono ?_; rintro e w1 ⟨rfl, hx1⟩; obtain ⟨fn, tmps, assign, body, hy, hR⟩ := HY.out [] () w1 (hJ _ _ _ H0.out hx1) (by simp)))
          refine hR.mono ?_
          rintro e W3 (⟨rfl, hJ3, hk3⟩ | ⟨rfl, hJx3⟩)
          · gi_wp2
            refine bodyPost_end (results_none rfl _ _ _) rfl ?_
            exact ⟨⟨_, rfl⟩, .inl ⟨[()], rfl, hJ3⟩⟩
          · gi_wp2
            refine bodyPost_end (results_none rfl _ _ _) rfl ?_
            exact ⟨⟨_, rfl⟩, .inr ⟨[()], Nat.le_refl _, hJx3⟩⟩
        · have hie : i = n + 1 := by omega
          have hb := HIE.out
          rw [← hie] at hb
          have hq0 : inQ n i = true := by unfold inQ; rw [decide_eq_true_eq]; omega
          have hq1 : inQ n (i + 1) = false := by unfold inQ; rw [decide_eq_false_iff_not]; omega
          rw [hq0]
          have hi : (0 : Int) ≤ (i : Int) := by omega
          have hj : (i : Int) < (L : Int) := by omega
          have HQ1 := Lib.hid hq1
          have HI2 := Lib.hid (show i + 1 ≤ L by omega)
          clear hq0 hq1 hi0 hin hin1 hie hL
          gi_wp2
          go_roundw
          case rel => exact ⟨i + 1, by rw [HQ1.out], rfl, by go_num, HI2.out, trivial⟩
          case measure => have := HI2.out; simp [intOf]; omega
      · have hb := HIM.out (i - 1) (by have := HN.out; omega)
        rw [show i - 1 + 1 = i from by omega] at hb
        obtain ⟨-, b2, -, b4, b5⟩ := HALL.out (i - 1) (by have := HN.out; omega)
        obtain ⟨b, hbb⟩ : ∃ b : Int, b = ((tl[i - 1]'(by have := HN.out; omega)).toNat : Int) := ⟨_, rfl⟩
        rw [← hbb] at hb
        have d1 : (b == 34) = false := by rw [beq_eq_false_iff_ne]; omega
        have d2 : (b == 44) = false := by rw [beq_eq_false_iff_ne]; omega
        have d3 : (b == 92) = false := by rw [beq_eq_false_iff_ne]; omega
        have hq0 : inQ n i = true := by unfold inQ; rw [decide_eq_true_eq]; omega
        have hq1 : inQ n (i + 1) = true := by unfold inQ; rw [decide_eq_true_eq]; omega
        rw [hq0]
        have hi : (0 : Int) ≤ (i : Int) := by omega
        have hj : (i : Int) < (L : Int) := by omega
        have HQ1 := Lib.hid hq1
        have HI2 := Lib.hid (show i + 1 ≤ L by omega)
        clear hq0 hq1 hi0 hin hbb b2 b4 b5 hL
        gi_wp2
        go_roundw
        case rel => exact ⟨i + 1, by rw [HQ1.out], rfl, by go_num, HI2.out, trivial⟩
        case measure => have := HI2.out; simp [intOf]; omega
    · have hie : i = 0 := by omega
      have hb : ∀ w, (Instr.index 9 (.string sq) (.int .i64 0)).run Tryz.prog w = .ok (.int .u8 34) w := HI0.out
      have hq0 : inQ n i = false := by unfold inQ; rw [decide_eq_false_iff_not]; omega
      have hq1 : inQ n (i + 1) = true := by unfold inQ; rw [decide_eq_true_eq]; omega
      rw [hq0]
      have hi : (0 : Int) ≤ (i : Int) := by omega
      have hj : (i : Int) < (L : Int) := by omega
      have HQ1 := Lib.hid hq1
      subst hie
      have HI2 := Lib.hid (show 0 + 1 ≤ L by omega)
      clear hq0 hq1 hi0 hL
      gi_wp2
      go_roundw
      case rel => exact ⟨0 + 1, by rw [HQ1.out], rfl, by first | rfl | go_num, HI2.out, trivial⟩
      case measure => have := HI2.out; simp [intOf]; omega
end Go.Proofs.YtemdgilifnhdpaaGreatDoor
end

section
namespace Go.Proofs.YtemdgilifnhdpaaGreatDoor
open Go.RowKit Go.Shelf

attribute [local go_sem] Oper.semAt_some

theorem elemT_stops (n c : Nat) (tl : List UInt8) (hall : InTag tl) (htl : tl.length ≤ 1000) (w : World) (hc : c + 1 < w.heap.size) (hS : w.cell? ⟨c + 1, 0, none⟩ = some (.string (str (qTag tl)))) (hK0 : w.cell? ⟨c, 0, none⟩ = some (.bool true)) (hK1 : w.cell? ⟨c, 1, none⟩ = some (.bool false)) :
    SeqStopsK Fence.wide 7 Tryz.prog 210 #[.pointer (some ⟨c + 1, 0, none⟩), .pointer (some ⟨c, 0, none⟩)] (fun _ : Unit => #[.string (str (qTag tl))]) (KpU n c) (fun ys => ys.length = 1) (fun pre => pre.length ≤ 1) 1 w := fun l J Jx W hW hJ _ hY h0 =>
  elemT_in l (c + 1) c (KpU n c) tl hall htl J Jx (fun pre A B hj hx => hJ pre A B none hj (grown_extU hx) (fun r e => by cases e)) hY W ((hW.cell (p := ⟨c + 1, 0, none⟩) hc).trans hS) ((hW.cell (p := ⟨c, 0, none⟩) (by show c < _; omega)).trans hK0) ((hW.cell (p := ⟨c, 1, none⟩) (by show c < _; omega)).trans hK1) h0
theorem flElemT_c (sq : ByteArray) (w : World) :
    Calls Tryz.prog 176 #[.agg kdT, .string sq] w fun e w' => e = .returned (.func (.func 210) #[] #[.pointer (some ⟨w.heap.size + 1, 0, none⟩), .pointer (some ⟨w.heap.size, 0, none⟩)]) ∧ w' = (w.alloc (.cells kdT 212)).alloc (.cells #[.string sq] 9) := by
  unfold kdT
  go_enter Tryz.func176, Tryz.ntmps176
  go_wp2
  go_ret
  exact ⟨rfl, rfl⟩
theorem own_andU {β : Type} {I J : β → World → Prop} (h : _root_.Go.Own I) (k : _root_.Go.Own J) : _root_.Go.Own (fun s W => I s W ∧ J s W) := fun s A B row hs hg hr => ⟨h s A B row hs.1 hg hr, k s A B row hs.2 hg hr⟩
theorem own_setU {W : World} {B base k size : Nat} {e : TypeId} {v : Value} {xs : List Value} (u' : Value) (h : W.ownsRow base e size v k xs) (hlt : B < base) : (W.setCell ⟨B, 0, none⟩ u').ownsRow base e size v k xs :=
  h.kept (grownBy_setCell' W B u') (.inr (fun e => by have := (h.lt _ e).1; omega))
theorem own_monoU {W : World} {base base' k size : Nat} {e : TypeId} {v : Value} {xs : List Value} (h : W.ownsRow base e size v k xs) (hb : base' ≤ base) : W.ownsRow base' e size v k xs := by
  refine ⟨h.1, ?_⟩
  rcases h.2 with h2 | ⟨g, cap, cur, hv, hg, r⟩
  · exact .inl h2
  · exact .inr ⟨g, cap, cur, hv, by omega, r⟩
theorem box_keptU {W w1 : World} {B base k size : Nat} {t e : TypeId} {u v : Value} {xs : List Value} {tmp : Obj} (hb : Boxed W B t u) (h : W.ownsRow base e size v k xs) (hlt : B < base) (hg : (W.alloc tmp).grownBy w1 v.ownBlock) : Boxed w1 B t u :=
  (hb.alloc tmp).kept hg (fun e => by have := (h.lt _ e.symm).1; omega)
theorem kpU_ext {n c : Nat} {W W' : World} (h : Ext W W') (hn : n ≤ W.heap.size) (hc : c + 2 ≤ W.heap.size) : KpU n c W W' := ⟨h.mono hn, h.block _ (by omega), h.block _ (by omega)⟩
theorem kpU_grown {n c : Nat} {W W' : World} {row : Option Nat} (h : W.grownBy W' row) (hn : n ≤ c + 2) (hs : c + 2 ≤ W.heap.size) (hr : ∀ k, row = some k → c + 2 ≤ k) : KpU n c W W' :=
  ⟨(Below.refl n W).grown h (by omega) (fun k e => by have := hr k e; omega), h.block _ (by omega) (fun e => by have := hr _ e.symm; omega), h.block _ (by omega) (fun e => by have := hr _ e.symm; omega)⟩
theorem kpU_set {n c B : Nat} (W : World) (u : Value) (hn : n ≤ B) (hb : B < c) : KpU n c W (W.setCell ⟨B, 0, none⟩ u) :=
  ⟨(Below.refl n W).setCell (p := ⟨B, 0, none⟩) hn u, Below.heap_setCell _ _ _ _ (by show c ≠ B; omega), Below.heap_setCell _ _ _ _ (by show c + 1 ≠ B; omega)⟩
theorem keeps_extU {W W' : World} (h : Ext W W') : KeepsOthers W W' := KeepsOthers.of_grownBy (grown_extU h) (fun _ _ e _ => (by cases e))
abbrev w1U (w : World) : World := w.alloc (.cells kdT 212)
def tgC (st : ByteArray) (k : Nat) : List Value := (List.replicate k [Value.bool false, .string st]).flatten
theorem tgC_succ (st : ByteArray) (k : Nat) : tgC st (k + 1) = tgC st k ++ [.bool false, .string st] := by
  unfold tgC
  rw [List.replicate_succ', List.flatten_append]
  simp
def TgI (w : World) (t st : ByteArray) (pre : List Unit) (W : World) : Prop :=
  ((∃ v, Boxed W (w.heap.size + 1 + 1 + 1) 165 v ∧ W.ownsRow (w.heap.size + 1 + 1 + 1 + 1 + 1 + 1) 29 2 v pre.length (tgC st pre.length) ∧ True) ∧
    Boxed W (w.heap.size + 1) 165 (.slice none 0 0) ∧ Boxed W (w.heap.size + 1 + 1) 35 (.int .i64 0) ∧ Boxed W (w.heap.size + 1 + 1 + 1 + 1 + 1) 9 (.string t)) ∧ Below (w.heap.size + 1) (w1U w) W
def TgX (_w : World) (_c : Code) (_pre : List Unit) (_W : World) : Prop := False
theorem TgI_own (w : World) (t st : ByteArray) (B : Nat) (hB : w.heap.size + 1 ≤ B) : OwnFrom B (TgI w t st) := by
  refine OwnFrom.and (_root_.Go.Own.from (own_andU (holdsRow_own (w.heap.size + 1 + 1 + 1 + 1 + 1 + 1) (w.heap.size + 1 + 1 + 1) 165 29 2 (fun pre : List Unit => pre.length) (fun pre => tgC st pre.length) (fun _ _ => True)) (own_andU (boxed_own _ _ (fun _ => .slice none 0 0)) (own_andU (boxed_own _ _ (fun _ => .int .i64 0)) (boxed_own _ _ (fun _ => .string t))))) _) (ownFrom_below (by simp) hB)
theorem TgX_own (w : World) (B : Nat) (c : Code) : OwnFrom B (TgX w c) := fun _ _ _ _ h => h.elim
theorem tags_res {T : Array Value} {W : World} {p q : Addr} {u v : Value} (h2 : T.getD 4 undef = .pointer (some p)) (h3 : T.getD 5 undef = .pointer (some q)) (hp : W.cell? p = some u) (hq : W.cell? q = some v) :
    (results Tryz.f133 T).run Tryz.prog W = .ok (.tuple #[u, v]) W := by
  have h2' : T[4]?.getD undef = .pointer (some p) := by simpa using h2
  have h3' : T[5]?.getD undef = .pointer (some q) := by simpa using h3
  simp [results, Tryz.results133, go_sem, h2, h3, h2', h3', hp, hq]
theorem tags_ext {w W : World} (h : Below (w.heap.size + 1) (w1U w) W) : Ext w W := ((Ext.rfl' w).al _).trans (h.mono (Nat.le_succ _))
theorem rd_putU {W : World} {A : Option Addr} {xs : List Value} {D : Nat} {o : Obj} (h : Rd W A xs) (hK : W.heap[D]? = some o) (o' : Obj) (ho : o.isCells = false := by rfl) : Rd (W.putObj D o') A xs := by
  rcases h with h | ⟨b, f, hA, hc⟩
  · exact .inl h
  · exact .inr ⟨b, f, hA, fun j u hu => cell_kept (hc j u hu) (grownBy_putObj' _ D o') (fun r e => by cases e; exact ⟨_, hK, ho⟩)⟩
def IsTg1 (st : ByteArray) (v : Value) (w : World) : Prop := ∃ A c, v = .tuple #[.slice A 1 c, .int .i64 0] ∧ Rd w A [.bool false, .string st]
theorem slt_ftag : SlT Tryz.prog 165 29 (.agg #[.bool false, .string ⟨#[]⟩]) 2 24 := ⟨Tryz.underlying165, by kernel_rfl, by decide, by decide⟩
set_option maxRecDepth 100000 in
set_option maxHeartbeats 4000000 in
theorem tags_in (tl : List UInt8) (hall : InTag tl) (htl : tl.length ≤ 1000) (w : World) :
    CallsIn Fence.wide 8 Tryz.prog 133 #[.string (str (qTag tl)), .agg kdT] w (Ret (IsTg1 (str tl)) w) := by
  have hms : maxLen = 9223372036854775807 := rfl
  have C1 := Lib.hid (fun w => flTag_c tl hall htl w)
  unfold kdT
  refine callsIn_of_wp_marks Tryz.func133 rfl trivial ?_ rfl
  simp only [Tryz.ntmps133, List.size_toArray, List.length_cons, List.length_nil, Nat.reduceAdd, Nat.reduceSub, Array.replicate_succ, Array.replicate_zero, List.push_toArray, List.append_toArray, List.nil_append, List.cons_append]
  gi_wp2_with (first
    | (refine ⟨trivial, ?_⟩; gi_at_call 176; refine (callsIn_wide.2 (flElemT_c (str (qTag tl)) _)).mono ?_; rintro e w1 ⟨rfl, rfl⟩))
  obtain ⟨i0, hi, hz0, hz1, hz2⟩ := info_parts slt_ftag.2.1
  have b0 := Boxed.new (w1U w) 165 (.slice none 0 0)
  have b1 := Boxed.new ((w1U w).alloc (.cells #[.slice none 0 0] 165)) 35 (.int .i64 0)
  have b2 := Boxed.new (((w1U w).alloc (.cells #[.slice none 0 0] 165)).alloc (.cells #[.int .i64 0] 35)) 165 (.slice none 0 0)
  have k0 := World.alloc_heap_new ((((w1U w).alloc (.cells #[.slice none 0 0] 165)).alloc (.cells #[.int .i64 0] 35)).alloc (.cells #[.slice none 0 0] 165)) (.cells kdT 212)
  have b4 := Boxed.new (((((w1U w).alloc (.cells #[.slice none 0 0] 165)).alloc (.cells #[.int .i64 0] 35)).alloc (.cells #[.slice none 0 0] 165)).alloc (.cells kdT 212)) 9 (.string (str (qTag tl)))
  simp only [w1U, World.size_alloc] at b0 b1 b2 k0 b4
  have k1 := ((Ext.rfl' (((((w1U w).alloc (.cells #[.slice none 0 0] 165)).alloc (.cells #[.int .i64 0] 35)).alloc (.cells #[.slice none 0 0] 165)).alloc (.cells kdT 212))).al (.cells #[.string (str (qTag tl))] 9)).block (w.heap.size + 1 + 1 + 1 + 1) (by simp)
  have k2 := k1.trans k0
  refine' wpIn_rangeFunc_ownG rfl (by omega) (gf := 210) (lb := #[.pointer (some ⟨w.heap.size + 1 + 1 + 1 + 1 + 1, 0, none⟩), .pointer (some ⟨w.heap.size + 1 + 1 + 1 + 1, 0, none⟩)]) rfl trivial (enters_of Tryz.func210 (by kernel_rfl) rfl)
    (elemT_stops (w.heap.size + 1) (w.heap.size + 1 + 1 + 1 + 1) tl hall htl _ (by simp) b4.cell (row_facts k2 0 _ rfl).1 (row_facts k2 1 _ rfl).1) kpU_t (kpU_b (by simp) (by simp)) (Below.refl _ _) (fun _ => rfl)
    (TgI w (str (qTag tl)) (str tl)) (TgX w) (TgI_own w _ _ _ (by simp)) (fun c => TgX_own w _ c)
    ⟨⟨⟨_, (b2.alloc _).alloc _, World.ownsRow_nil _ _ _ _, trivial⟩, ((((b0.alloc _).alloc _).alloc _).alloc _), (((b1.alloc _).alloc _).alloc _), b4⟩, (show Ext (w1U w) _ from by (repeat (first | exact Ext.rfl' _ | assumption | refine Ext.dr ?_ | refine Ext.drN ?_ _ | refine Ext.al ?_ _ | refine Ext.st ?_ (by simp) _ | refine Ext.tr ?_ (by assumption)))).mono (by simp)⟩ _ ?assign ?body ?done ?stop
  case assign =>
    intro lp x W K hK
    gi_wp2
    exact hK
  case body =>
    rintro lp pre x W ⟨⟨⟨v, hv, hrow, _⟩, hR0, hR1, hR4⟩, hB⟩ hlt
    have hWs : w.heap.size + 1 + 1 + 1 + 1 + 2 ≤ W.heap.size := by have := hR4.lt; omega
    have kW := (hB.block w.heap.size (by omega)).trans (World.alloc_heap_new w _)
    have cK : W.cell? ⟨w.heap.size, 2, none⟩ = some (.func (.func 54) #[] #[]) := (row_facts kW 2 _ rfl).1
    obtain ⟨v0, c0, rfl, hnc, hcm, hr, _⟩ := Rd.of_own hrow
    have hc := hv.cell
    have hf := hv.frozen
    obtain ⟨n, hn⟩ : ∃ n, n = pre.length := ⟨_, rfl⟩
    have hn40 : n ≤ 1 := by omega
    rw [← hn] at hnc hc hv hrow
    have HN := Lib.hid hn
    have HR2 := Lib.hid hrow
    obtain ⟨sx, hsx⟩ : ∃ z, z = str (qTag tl) := ⟨_, rfl⟩
    obtain ⟨st, hst⟩ : ∃ z, z = str tl := ⟨_, rfl⟩
    rw [← hsx, ← hst] at C1
    have HST := Lib.hid hst
    clear hrow hr hn kW hlt hst
    rw [← hsx] at hR4
    simp only [← hsx]
    clear hsx
    gi_wp2_with (first
      | (refine ⟨trivial, ?_⟩; gi_at_call 54; refine (callsIn_wide.2 (C1.out _)).mono ?_; rintro e w1 ⟨rfl, hx1⟩; have V1 := (hv.kept (grown_extU hx1) (by simp)).alloc (.cells #[.bool false, .string st] 29); have vc := V1.cell; have vf := V1.frozen; have RW := Lib.hid ((own_ext HR2.out hx1).alloc (.cells #[.bool false, .string st] 29)); have t0 := new_at w1 #[.bool false, .string st] 29 0 _ rfl; have t1 := new_at w1 #[.bool false, .string st] 29 1 _ rfl)
      | (gi_at_builtin; refine wpListIn_append_own _ rfl _ _ 165 rfl (w.heap.size + 1 + 1 + 1 + 1 + 1 + 1) 29 i0 (.agg #[.bool false, .string ⟨#[]⟩]) 2 24 Tryz.underlying165 hi hz0 hz1 hz2 rfl (by decide) _ _ _ rfl (RW.out.alloc _) ⟨w1.heap.size + 1, 0, none⟩ 1 1 [.bool false, .string st] rfl rfl (new_cells_g (by simp) _ _) (by simp [Value.oneCell']) (by unfold maxLen; omega) (by omega) (by have := hx1.size; simp; omega) ?_; intro v' w5 hown' hgrow _; obtain ⟨g', cap', rfl⟩ := ownsRow_succ hown'; obtain ⟨hv1, hv2, hr2, hk2, hb2⟩ := V1.appended (n₀ := w.heap.size + 1) (by decide) (own_monoU RW.out (by omega)) (by have := V1.lt; omega) (by omega) (own_monoU hown' (by omega)) hgrow; have hc1 := hv1.cell; have hf1 := hv1.frozen))
    have hx12 : Ext W (w1.alloc (.cells #[.bool false, .string st] 29)) := hx1.al _
    have hz12 := hx12.size
    have hz11 := hx1.size
    have R01 := box_keptU ((hR0.kept (grown_extU hx1) (by simp)).alloc (.cells #[.bool false, .string st] 29)) RW.out (by omega) hgrow
    have R11 := box_keptU ((hR1.kept (grown_extU hx1) (by simp)).alloc (.cells #[.bool false, .string st] 29)) RW.out (by omega) hgrow
    have R41 := box_keptU ((hR4.kept (grown_extU hx1) (by simp)).alloc (.cells #[.bool false, .string st] 29)) RW.out (by omega) hgrow
    refine ⟨((keeps_extU hx12).trans hk2).from _, ?_, ⟨⟨_, hv2, ?_, trivial⟩, R01.other (B' := w.heap.size + 1 + 1 + 1) (by omega) _, R11.other (B' := w.heap.size + 1 + 1 + 1) (by omega) _, R41.other (B' := w.heap.size + 1 + 1 + 1) (by omega) _⟩, (hB.trans (hx12.mono (show w.heap.size + 1 ≤ W.heap.size by omega))).trans hb2⟩
    · refine kpU_t (kpU_ext hx12 (by omega) hWs) (kpU_t (kpU_ext ((Ext.rfl' _).al _) (by omega) (by omega)) (kpU_t (kpU_grown hgrow (by omega) (by simp; omega) (fun k e => by have := (RW.out.lt k e).1; omega)) (kpU_set w5 _ (by omega) (by omega))))
    · rw [List.length_append, ← HN.out]
      show World.ownsRow _ _ _ _ _ (n + 1) (tgC (str tl) (n + 1))
      rw [tgC_succ, ← HST.out]
      have h9 := hown'
      rw [← HST.out] at h9
      exact own_setU _ h9 (by omega)
  case done =>
    rintro D ys W hD hys ⟨⟨⟨v, hv, hrow, _⟩, hR0, hR1, hR4⟩, hB⟩ hK
    rw [hys] at hrow
    have hrw := hrow
    obtain ⟨A, c, rfl, hnc, hcm, hr, _⟩ := Rd.of_own hrow
    have HRW := Lib.hid hrw
    have hc := hv.cell
    have hR0c := hR0.cell
    have hR0f := hR0.frozen
    have hR1c := hR1.cell
    have hR1f := hR1.frozen
    clear hrow hrw hys hr
    gi_wp2
    have hK2 := ((KeepsOthers.setCell W ⟨w.heap.size + 1, 0, none⟩ (.slice A 1 c)).trans (KeepsOthers.setCell _ ⟨w.heap.size + 1 + 1, 0, none⟩ (.int .i64 0))).same D _ hK rfl
    have B0 := (hR0.set (.slice A 1 c)).other (B' := w.heap.size + 1 + 1) (by omega) (.int .i64 0)
    have B1 := (hR1.other (B' := w.heap.size + 1) (by omega) (.slice A 1 c)).set (.int .i64 0)
    have hc5 := cell_kept B0.cell (grownBy_putObj' _ D (.deferred none)) (fun r e => by cases e; exact ⟨_, hK2, rfl⟩)
    have hc6 := cell_kept B1.cell (grownBy_putObj' _ D (.deferred none)) (fun r e => by cases e; exact ⟨_, hK2, rfl⟩)
    have hrd0 : Rd _ A (tgC (str tl) 1) := (by
      obtain ⟨A', c', e, _, _, hr, _⟩ := Rd.of_own (own_setU (B := w.heap.size + 1 + 1) (.int .i64 0) (own_setU (B := w.heap.size + 1) (.slice A 1 c) HRW.out (by omega)) (by omega))
      cases e
      exact hr)
    have hrd := rd_putU hrd0 hK2 (.deferred none)
    refine ⟨by simp, .inl ⟨_, _, rfl, run_takeDeferred hK2, ?_⟩⟩
    refine ⟨.tuple #[.slice A 1 c, .int .i64 0], ?_, ?_⟩
    · exact tags_res rfl rfl hc5 hc6
    · exact Ret.mk ⟨A, c, rfl, hrd⟩ ((((tags_ext hB).setCell (p := ⟨w.heap.size + 1, 0, none⟩) (Nat.le_succ _) _).setCell (p := ⟨w.heap.size + 1 + 1, 0, none⟩) (by show w.heap.size ≤ w.heap.size + 1 + 1; omega) _).trans (belowK_b (w := w) (Nat.le_refl _) _ D _ _ (by simp at hD; omega) hK2 rfl rfl))
  case stop =>
    rintro D c pre W hD hpre h hK
    exact h.elim
end Go.Proofs.YtemdgilifnhdpaaGreatDoor
end
