/-
Numbers written to the base 10: the program's Digits and the reference's give the same text.
-/
import Derived.Test.YtmnohicojefhfaaGreatDoorProg
import Derived.Test.YtmnohicojefhfaaGreatDoorBytes
import Derived.Test.YtmnohicojefhfaaGreatDoorShelf
import Derived.Lib.AppendIntMem
import Derived.Lib.ItoaLen
import Derived.Lib.ItoaMem
import Derived.Test.YtmnohicojefhfaaGreatDoorOWa
import Derived.Test.YtmnohicojefhfaaGreatDoorCut
import Derived.Test.YtmnohicojefhfaaGreatDoorNUa
import Derived.Test.YtmnohicojefhfaaGreatDoorPUa
set_option linter.unusedVariables false
set_option linter.unusedSimpArgs false
/-
Numbers written to the base 10: the program's Digits and the reference's give the same text.
-/
section
namespace Go.Proofs.YtmnohicojefhfaaGreatDoor
open Go.RowKit

/-- The library's table of powers of ten lies in this world. -/
def Pow (w : World) : Prop := Lib.TabIs Tryz.prog w "internal/strconv.uint64pow10" .u64 Lib.pow10Tab
theorem gPow : Tryz.prog.globalNamed "internal/strconv.uint64pow10" = some 1 := by kernel_rfl
theorem Pow.ext {w w' : World} (h : Pow w) (e : Ext w w') : Pow w' := by
  have h0 := h.cell gPow 0 (by rw [Lib.pow10Tab_length]; omega)
  exact var?_below e gPow (lt_of_cell h0) h

/-- The text of a number. -/
def decB (n : Int) : ByteArray := str (Lib.itoa n)

theorem Digits_c (n : Int) (w : World) (h : Pow w) (h0 : -9223372036854775808 ≤ n) (h1 : n ≤ 9223372036854775807) :
    Calls Tryz.prog 86 #[.int .i64 n] w (Gives (.string (decB n)) w) := by
  go_enter Tryz.func86, Tryz.ntmps86
  go_wp2_with (go_at_call 130; refine (Tryz.strconv_Itoa n h0 h1 _ h).mono ?_; rintro e w1 ⟨rfl, k, os, rfl⟩)
  go_ret
  exact ⟨rfl, Lib.below_grow _ _ (Nat.le_refl _) _ _⟩

end Go.Proofs.YtmnohicojefhfaaGreatDoor
end

/-
A queue of bytes as a thing with memory of its own; the program's NewQueue, none, Len, Put.
-/
section
namespace Go.Proofs.YtmnohicojefhfaaGreatDoor
open Go.RowKit

/-- A queue lies at block p: its bytes, its bound; k owns p, k + 1 its bytes' room. -/
structure QAt (T : TypeId) (w : World) (o : Ow) (k p : Nat) (l : List UInt8) (lim : Nat) : Prop where
  own : o p = k
  lo : 1 ≤ lim
  hi : lim ≤ 1048576
  le : l.length ≤ lim
  at_ : ∃ A c, w.heap[p]? = some (.cells #[.slice A l.length c, .int .i64 (lim : Int)] T (0, 0)) ∧ Sl w o (k + 1) 1 A l.length c (bc l) ∧ (A = none → c = 0)
/-- Whose blocks a queue's calls turn. -/
def KQ (k : Nat) (i : Nat) : Prop := i = k ∨ i = k + 1
/-- The queue behind a new slice in its first cell. -/
theorem QAt.put {T : TypeId} {w w' : World} {o o' : Ow} {k p lim n c : Nat} {l l' : List UInt8} {A : Option Addr} (h : QAt T w o k p l lim) (s : Stp (fun i => i = k + 1) w o w' o') (hl : l'.length ≤ lim) (hn : n = l'.length) (hs : Sl w' o' (k + 1) 1 A n c (bc l')) (ha : A = none → c = 0) :
    QAt T (w'.setCell ⟨p, 0, none⟩ (.slice A n c)) o' k p l' lim ∧ Stp (KQ k) w o (w'.setCell ⟨p, 0, none⟩ (.slice A n c)) o' := by
  subst hn
  obtain ⟨A0, c0, hh, _, _⟩ := h.at_
  have hp : o' p = k := by rw [s.own p (row_lt hh)]; exact h.own
  have hh' : w'.heap[p]? = _ := (s.keep p (row_lt hh) (by rw [h.own]; omega)).trans hh
  have st : Stp (fun i => i = k) w' o' (w'.setCell ⟨p, 0, none⟩ (.slice A l'.length c)) o' := Stp.set p 0 _ (fun _ => hp)
  exact ⟨⟨hp, h.lo, h.hi, hl, A, c, row_set hh' 0 _, hs.stp st (by omega), ha⟩, (s.mono fun i hi => .inr hi).tr (st.mono fun i hi => .inl hi)⟩
theorem QAt.stp {T : TypeId} {K : Nat → Prop} {w w' : World} {o o' : Ow} {k p lim : Nat} {l : List UInt8} (h : QAt T w o k p l lim) (s : Stp K w o w' o') (h0 : ¬ K k) (h1 : ¬ K (k + 1)) : QAt T w' o' k p l lim := by
  obtain ⟨A, c, hh, hs, hn⟩ := h.at_
  exact ⟨by rw [s.own p (row_lt hh)]; exact h.own, h.lo, h.hi, h.le, A, c, by rw [s.keep p (row_lt hh) (by rw [h.own]; exact h0)]; exact hh, hs.stp s h1, hn⟩
theorem QAt.ext {T : TypeId} {w w' : World} {o : Ow} {k p lim : Nat} {l : List UInt8} (h : QAt T w o k p l lim) (e : Ext w w') : QAt T w' o k p l lim := h.stp (K := fun _ => False) (Stp.ext e) (fun x => x) (fun x => x)

/-- Put: what is in the queue behind it, and what it answers. -/
def putL (lim : Nat) (l m : List UInt8) : List UInt8 := if m.length ≤ lim - l.length then l ++ m else l
def putE (lim : Nat) (l m : List UInt8) : Int := if m.length ≤ lim - l.length then 0 else 6

end Go.Proofs.YtmnohicojefhfaaGreatDoor
end

/-
Which bytes may stand in hosts: the program's and the reference's; a digit's worth.
-/
section
namespace Go.Proofs.YtmnohicojefhfaaGreatDoor
open Go.RowKit

theorem idx_pln0 : ∀ b : Fin 256, decide (0 ≤ Lib.indexByte [45, 46, 95, 126] b.val.toUInt8) = (b.val.toUInt8 == 45 || b.val.toUInt8 == 46 || b.val.toUInt8 == 95 || b.val.toUInt8 == 126) := by decide +kernel
theorem idx_pln (b : UInt8) : decide (0 ≤ Lib.indexByte [45, 46, 95, 126] b) = (b == 45 || b == 46 || b == 95 || b == 126) := by
  have := idx_pln0 ⟨b.toNat, UInt8.toNat_lt b⟩; simpa using this
def adrT : List UInt8 := [48, 49, 50, 51, 52, 53, 54, 55, 56, 57, 97, 98, 99, 100, 101, 102, 65, 66, 67, 68, 69, 70, 58, 46]
theorem idx_adr0 : ∀ b : Fin 256, decide (0 ≤ Lib.indexByte adrT b.val.toUInt8) = adrB b.val.toUInt8 := by decide +kernel
theorem idx_adr (b : UInt8) : decide (0 ≤ Lib.indexByte adrT b) = adrB b := by
  have := idx_adr0 ⟨b.toNat, UInt8.toNat_lt b⟩; simpa using this
theorem IndexByteK_c (l : List UInt8) (b : UInt8) (z : Int) (h : Lib.indexByte l b = z) (w : World) :
    Calls Tryz.prog 104 #[.string ⟨l.toArray⟩, .int .u8 (b.toNat : Int)] w fun e w' => e = .returned (.int .i64 z) ∧ w = w' :=
  IndexByteS_c l (b.toNat : Int) z (by simpa using h) w

set_option maxRecDepth 100000 in
set_option maxHeartbeats 2000000 in
theorem uplain_c (b : UInt8) (w : World) : Calls Tryz.prog 152 #[.int .u8 (b.toNat : Int)] w fun e w' => e = .returned (.bool (plnB b)) ∧ w = w' := by
  obtain ⟨z, hz⟩ : ∃ z, Lib.indexByte [45, 46, 95, 126] b = z := ⟨_, rfl⟩
  have HZ := Lib.hid hz
  clear hz
  obtain ⟨x, hx⟩ : ∃ x : Int, x = (b.toNat : Int) := ⟨_, rfl⟩
  have hc := al_cases b.toNat
  obtain ⟨v, hv⟩ : ∃ v, v = alB b.toNat := ⟨_, rfl⟩
  rw [← hv] at hc
  have HV := Lib.hid hv
  clear hv hx x
  go_enter Tryz.func152, Tryz.ntmps152
  rcases hc with ⟨rfl, c1, c2, c3⟩ | ⟨rfl, c1, c2, c3, c4⟩ | ⟨rfl, c1, c2, c3, c4⟩ | ⟨rfl, c1, c2, c3⟩ | ⟨rfl, c1, c2, c3, c4, c5⟩ | ⟨rfl, c1, c2⟩ | ⟨rfl, c1, c2, c3, c4, c5, c6⟩
  · go_wp2_with (go_at_call 104; refine (IndexByteK_c _ _ _ HZ.out _).mono ?_; rintro e w1 ⟨rfl, rfl⟩)
    go_ret
    exact ⟨ret_bool (by unfold plnB; rw [← HV.out, ← idx_pln, HZ.out]; rfl), rfl⟩
  · go_wp2
    go_ret
    exact ⟨ret_bool (by unfold plnB; rw [← HV.out]; rfl), rfl⟩
  · go_wp2_with (go_at_call 104; refine (IndexByteK_c _ _ _ HZ.out _).mono ?_; rintro e w1 ⟨rfl, rfl⟩)
    go_ret
    exact ⟨ret_bool (by unfold plnB; rw [← HV.out, ← idx_pln, HZ.out]; rfl), rfl⟩
  · go_wp2
    go_ret
    exact ⟨ret_bool (by unfold plnB; rw [← HV.out]; rfl), rfl⟩
  · go_wp2_with (go_at_call 104; refine (IndexByteK_c _ _ _ HZ.out _).mono ?_; rintro e w1 ⟨rfl, rfl⟩)
    go_ret
    exact ⟨ret_bool (by unfold plnB; rw [← HV.out, ← idx_pln, HZ.out]; rfl), rfl⟩
  · go_wp2
    go_ret
    exact ⟨ret_bool (by unfold plnB; rw [← HV.out]; rfl), rfl⟩
  · go_wp2_with (go_at_call 104; refine (IndexByteK_c _ _ _ HZ.out _).mono ?_; rintro e w1 ⟨rfl, rfl⟩)
    go_ret
    exact ⟨ret_bool (by unfold plnB; rw [← HV.out, ← idx_pln, HZ.out]; rfl), rfl⟩
set_option maxRecDepth 100000 in
set_option maxHeartbeats 2000000 in
theorem uaddress_c (b : UInt8) (w : World) : Calls Tryz.prog 151 #[.int .u8 (b.toNat : Int)] w fun e w' => e = .returned (.bool (adrB b)) ∧ w = w' := by
  obtain ⟨z, hz⟩ : ∃ z, Lib.indexByte adrT b = z := ⟨_, rfl⟩
  have HZ := Lib.hid hz
  clear hz
  go_enter Tryz.func151, Tryz.ntmps151
  go_wp2_with (go_at_call 104; refine (IndexByteK_c _ _ _ HZ.out _).mono ?_; rintro e w1 ⟨rfl, rfl⟩)
  go_ret
  exact ⟨ret_bool (by rw [← idx_adr, HZ.out]), rfl⟩
def wrV (b : UInt8) : Int := if isDig 16 (lowB b) then (digV (lowB b) : Int) else -1
end Go.Proofs.YtmnohicojefhfaaGreatDoor
end

/-
Bytes by % and two digits, read: the program's Decode and the reference's.
-/
section
namespace Go.Proofs.YtmnohicojefhfaaGreatDoor
open Go.RowKit

def decR (l : List UInt8) : List UInt8 × Int := match decL l with | some x => (x, 0) | none => ([], 40)
/-- Where the reference's loop stands. -/
def DecAt (l acc : List UInt8) (k : Nat) : Prop := decL l = (decL (l.drop k)).map (acc ++ ·)
end Go.Proofs.YtmnohicojefhfaaGreatDoor
end
