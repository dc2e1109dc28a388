/-
Static, plain: which file a path is.
-/
import Derived.Test.YtemdgilifnhdpaaGreatDoorZar
import Derived.Test.YtemdgilifnhdpaaGreatDoorZat
import Derived.Test.YtemdgilifnhdpaaGreatDoorZaj
set_option linter.unusedVariables false
set_option linter.unusedSimpArgs false
section
namespace Go.Proofs.YtemdgilifnhdpaaGreatDoor
open Go.RowKit

def cutP (pre : List UInt8) : Nat := (Lib.lastIndexByte (str pre) 47).toNat
theorem cutP_at (pre : List UInt8) : (Lib.lastIndexByte (str pre) 47 = -1 ∧ cutP pre = 0) ∨ (Lib.lastIndexByte (str pre) 47 = (cutP pre : Int) ∧ cutP pre < pre.length) := by
  unfold cutP
  rcases Lib.lastIndexByte_spec (str pre) 47 with ⟨h, _⟩ | ⟨i, hi, h, _⟩
  · exact .inl ⟨h, by rw [h]; rfl⟩
  · rw [str_size] at hi
    exact .inr ⟨by rw [h]; simp, by rw [h]; simpa using hi⟩
theorem cutP_le (pre : List UInt8) : cutP pre ≤ pre.length := by rcases cutP_at pre with ⟨_, h⟩ | ⟨_, h⟩ <;> omega
def nameS (pre root r : List UInt8) : List UInt8 := Lib.trimSuffix root [47] ++ r.drop (cutP pre)
theorem trimS_len (root : List UInt8) : (Lib.trimSuffix root [47]).length ≤ root.length := by
  unfold Lib.trimSuffix
  split
  · rw [List.length_take]; omega
  · exact Nat.le_refl _
def askS (pre root index path : List UInt8) : Option (List UInt8) ⊕ Int :=
  if (resU path).2 ≠ 0 then .inr 400 else
  if Lib.hasPrefix (resU path).1 pre = false then .inr 404 else
  if Lib.hasSuffix (nameS pre root (resU path).1) [47] = false then .inl (some (nameS pre root (resU path).1)) else
  if index = [] then .inr 404 else .inl (some (nameS pre root (resU path).1 ++ index))
def findS (s : Wrl) (pre root index path : List UInt8) : (List UInt8 × Fil) ⊕ Int :=
  match askS pre root index path with
  | .inr n => .inr n
  | .inl none => .inr 0
  | .inl (some nm) => match lkM s.L nm with
    | some f => .inl (nm, f)
    | none => if folderW s (nm ++ [47]) then .inr 301 else .inr 404
def rsnS (n : Int) : List UInt8 :=
  if n = 301 then [77, 111, 118, 101, 100, 32, 80, 101, 114, 109, 97, 110, 101, 110, 116, 108, 121] else
  if n = 400 then [66, 97, 100, 32, 82, 101, 113, 117, 101, 115, 116] else
  if n = 404 then [78, 111, 116, 32, 70, 111, 117, 110, 100] else
  if n = 405 then [77, 101, 116, 104, 111, 100, 32, 78, 111, 116, 32, 65, 108, 108, 111, 119, 101, 100] else
  if n = 412 then [80, 114, 101, 99, 111, 110, 100, 105, 116, 105, 111, 110, 32, 70, 97, 105, 108, 101, 100] else
  [82, 97, 110, 103, 101, 32, 78, 111, 116, 32, 83, 97, 116, 105, 115, 102, 105, 97, 98, 108, 101]
def locF (path : List UInt8) : Fld := ([76, 111, 99, 97, 116, 105, 111, 110], path ++ [47])
theorem resU_two (l : List UInt8) : (resU l).2 = 0 ∨ resU l = ([], 40) := by
  cases h : decL l with
  | none => exact .inr (resU_none h)
  | some x => rw [resU_some h]; exact clean_two x
theorem resU_in {path r : List UInt8} (h : resU path = (r, 0)) : r.head? = some 47 ∧ r.length ≤ 4096 := by
  cases hd : decL path with
  | none => rw [resU_none hd] at h; cases h
  | some x =>
    rw [resU_some hd] at h
    obtain ⟨_, h2, _, left, hw, hok, hx, hl⟩ := clean_some h
    refine ⟨?_, by omega⟩
    rw [hx]
    unfold outS
    split
    · rfl
    · rename_i hn
      cases left with
      | nil => exact absurd rfl hn
      | cons a b => simp
end Go.Proofs.YtemdgilifnhdpaaGreatDoor
end

section
namespace Go.Proofs.YtemdgilifnhdpaaGreatDoor
open Go.RowKit

theorem path_ok {l : List UInt8} (h : pathF l = true) : cleanL l = (l, 0) ∧ Lib.hasSuffix l [47] = false := by
  unfold pathF at h
  simp only [Bool.and_eq_true, decide_eq_true_eq, Bool.not_eq_true'] at h
  exact ⟨h.1, by rw [suf47]; exact h.2⟩
set_option maxRecDepth 100000 in
set_option maxHeartbeats 4000000 in
theorem wPut_big (w : World) (o : Ow) (k p : Nat) (s : Wrl) (h : WdAt w o k p s) (l : List UInt8) (hl : l.length ≤ 140737488355328) (B : Option Addr) (n d : Nat) (hn : n < 9223372036854775808) (hp : pathF l = true)
    (hbig : 1048576 < n) :
    Calls Tryz.prog 24 #[.pointer (some ⟨p, 0, none⟩), .string (str l), .slice B n d] w (Gives (.int .i64 6) w) := by
  obtain ⟨mb, pl, hh, hm, hlt, hi, hs⟩ := h.row
  have hlm : l.length ≤ maxLen := by simp only [maxLen]; omega
  have HH := Lib.hid (fun w' (e : Ext w w') => hh.ext e)
  have HI := Lib.hid (fun w' (e : Ext w w') => World.isM.same hi (e.block mb hlt))
  have hl2 : (str l).size ≤ 9223372036854775807 := by rw [str_size]; omega
  obtain ⟨hp1, hp2⟩ := path_ok hp
  have C := fun w => Clean_c l hl w
  rw [hp1] at C
  dsimp only at C
  have S := fun w => Tryz.strings_HasSuffix (str l) ⟨#[47]⟩ w hl2
  rw [str_data, hp2] at S
  have HK0 := lk_enc pl s.L l
  have hen := enc_len pl s.L
  have LEN := Lib.hid hen
  have C := Lib.hid C
  have S := Lib.hid S
  have b1 : (1048576 : Int) < (n : Int) := by omega
  cases hf : lkM s.L l with
  | none =>
    rw [hf] at HK0
    have HK := Lib.hid HK0
    clear HK0 hp1 hp2 hp hen hf
    go_enter Tryz.func24, Tryz.ntmps24
    go_wp2_with (first
      | (go_at_call 55; refine (C.out _).mono ?_; rintro e w1 ⟨rfl, hx1⟩; have c1 := (HH.out w1 hx1).c0)
      | (go_at_call 49; refine (none_no p mb _ c1).mono ?_; rintro e w2 ⟨rfl, hx2⟩)
      | (go_at_call 56; refine (S.out _).mono ?_; rintro e w3 ⟨rfl, rfl⟩; have hx3 := hx1.tr hx2; have HX3 := Lib.hid hx3; have hi3 := HI.out _ hx3; have c3 := (HH.out _ hx3).c0)
      | (at_lookup; refine wpL_look rfl _ _ 44 rfl 110 keyedS mapU Tryz.underlying9 (Tryz.zeroValue110 _) rfl hi3 l hlm rfl ?_; rw [HK.out]; simp only [Option.getD_some, Option.isSome_some, Option.getD_none, Option.isSome_none]; have c00 := fun x => ((HH.out _ hx3).ext (show Ext _ (w3.alloc x) by (repeat (first | exact Ext.rfl' _ | assumption | refine Ext.dr ?_ | refine Ext.drN ?_ _ | refine Ext.al ?_ _ | refine Ext.st ?_ (by simp) _ | refine Ext.tr ?_ (by assumption))))).c0; have c02 := fun x => ((HH.out _ hx3).ext (show Ext _ (w3.alloc x) by (repeat (first | exact Ext.rfl' _ | assumption | refine Ext.dr ?_ | refine Ext.drN ?_ _ | refine Ext.al ?_ _ | refine Ext.st ?_ (by simp) _ | refine Ext.tr ?_ (by assumption))))).c2; have f02 := fun x => ((HH.out _ hx3).ext (show Ext _ (w3.alloc x) by (repeat (first | exact Ext.rfl' _ | assumption | refine Ext.dr ?_ | refine Ext.drN ?_ _ | refine Ext.al ?_ _ | refine Ext.st ?_ (by simp) _ | refine Ext.tr ?_ (by assumption))))).fz 2 (by omega); have hlen := fun x ty => (World.isM.same hi3 ((show Ext w3 (w3.alloc x) by (repeat (first | exact Ext.rfl' _ | assumption | refine Ext.dr ?_ | refine Ext.drN ?_ _ | refine Ext.al ?_ _ | refine Ext.st ?_ (by simp) _ | refine Ext.tr ?_ (by assumption)))).block mb (Nat.lt_of_lt_of_le hlt hx3.size))).len mapU ty; simp only [LEN.out] at hlen))
    go_ret
    exact ⟨rfl, by (repeat (first | exact Ext.rfl' _ | assumption | refine Ext.dr ?_ | refine Ext.drN ?_ _ | refine Ext.al ?_ _ | refine Ext.st ?_ (by simp) _ | refine Ext.tr ?_ (by assumption)))⟩
  | some f =>
    rw [hf] at HK0
    have HK : Hid (lkM (enc pl s.L) l = some (.agg #[.string (str l), .slice (pl l).1 f.b.length (pl l).2, .int .i64 f.mt, .int .i64 (f.ve : Int)])) := Lib.hid HK0
    obtain ⟨n0, hn0⟩ : ∃ n0, n0 = f.b.length := ⟨_, rfl⟩
    rw [← hn0] at HK
    clear HK0 hp1 hp2 hp hen hf hn0
    go_enter Tryz.func24, Tryz.ntmps24
    go_wp2_with (first
      | (go_at_call 55; refine (C.out _).mono ?_; rintro e w1 ⟨rfl, hx1⟩; have c1 := (HH.out w1 hx1).c0)
      | (go_at_call 49; refine (none_no p mb _ c1).mono ?_; rintro e w2 ⟨rfl, hx2⟩)
      | (go_at_call 56; refine (S.out _).mono ?_; rintro e w3 ⟨rfl, rfl⟩; have hx3 := hx1.tr hx2; have HX3 := Lib.hid hx3; have hi3 := HI.out _ hx3; have c3 := (HH.out _ hx3).c0)
      | (at_lookup; refine wpL_look rfl _ _ 44 rfl 110 keyedS mapU Tryz.underlying9 (Tryz.zeroValue110 _) rfl hi3 l hlm rfl ?_; rw [HK.out]; simp only [Option.getD_some, Option.isSome_some, Option.getD_none, Option.isSome_none]; have c00 := fun x => ((HH.out _ hx3).ext (show Ext _ (w3.alloc x) by (repeat (first | exact Ext.rfl' _ | assumption | refine Ext.dr ?_ | refine Ext.drN ?_ _ | refine Ext.al ?_ _ | refine Ext.st ?_ (by simp) _ | refine Ext.tr ?_ (by assumption))))).c0; have c02 := fun x => ((HH.out _ hx3).ext (show Ext _ (w3.alloc x) by (repeat (first | exact Ext.rfl' _ | assumption | refine Ext.dr ?_ | refine Ext.drN ?_ _ | refine Ext.al ?_ _ | refine Ext.st ?_ (by simp) _ | refine Ext.tr ?_ (by assumption))))).c2; have f02 := fun x => ((HH.out _ hx3).ext (show Ext _ (w3.alloc x) by (repeat (first | exact Ext.rfl' _ | assumption | refine Ext.dr ?_ | refine Ext.drN ?_ _ | refine Ext.al ?_ _ | refine Ext.st ?_ (by simp) _ | refine Ext.tr ?_ (by assumption))))).fz 2 (by omega); have hlen := fun x ty => (World.isM.same hi3 ((show Ext w3 (w3.alloc x) by (repeat (first | exact Ext.rfl' _ | assumption | refine Ext.dr ?_ | refine Ext.drN ?_ _ | refine Ext.al ?_ _ | refine Ext.st ?_ (by simp) _ | refine Ext.tr ?_ (by assumption)))).block mb (Nat.lt_of_lt_of_le hlt hx3.size))).len mapU ty; simp only [LEN.out] at hlen))
    go_ret
    exact ⟨rfl, by (repeat (first | exact Ext.rfl' _ | assumption | refine Ext.dr ?_ | refine Ext.drN ?_ _ | refine Ext.al ?_ _ | refine Ext.st ?_ (by simp) _ | refine Ext.tr ?_ (by assumption)))⟩
set_option maxRecDepth 100000 in
set_option maxHeartbeats 4000000 in
theorem wPut_many (w : World) (o : Ow) (k p : Nat) (s : Wrl) (h : WdAt w o k p s) (l : List UInt8) (hl : l.length ≤ 140737488355328) (B : Option Addr) (n d : Nat) (hn : n < 9223372036854775808) (hp : pathF l = true)
    (hbig : ¬ 1048576 < n) (hf : lkM s.L l = none) (hlen : s.L.length = 1000) :
    Calls Tryz.prog 24 #[.pointer (some ⟨p, 0, none⟩), .string (str l), .slice B n d] w (Gives (.int .i64 6) w) := by
  obtain ⟨mb, pl, hh, hm, hlt, hi, hs⟩ := h.row
  have hlm : l.length ≤ maxLen := by simp only [maxLen]; omega
  have HH := Lib.hid (fun w' (e : Ext w w') => hh.ext e)
  have HI := Lib.hid (fun w' (e : Ext w w') => World.isM.same hi (e.block mb hlt))
  have hl2 : (str l).size ≤ 9223372036854775807 := by rw [str_size]; omega
  obtain ⟨hp1, hp2⟩ := path_ok hp
  have C := fun w => Clean_c l hl w
  rw [hp1] at C
  dsimp only at C
  have S := fun w => Tryz.strings_HasSuffix (str l) ⟨#[47]⟩ w hl2
  rw [str_data, hp2] at S
  have HK0 := lk_enc pl s.L l
  have hen := enc_len pl s.L
  rw [hlen] at hen
  have LEN := Lib.hid hen
  have C := Lib.hid C
  have S := Lib.hid S
  have b1 : ¬ (1048576 : Int) < (n : Int) := by omega
  rw [hf] at HK0
  have HK := Lib.hid HK0
  clear HK0 hp1 hp2 hp hen hf hlen
  go_enter Tryz.func24, Tryz.ntmps24
  go_wp2_with (first
    | (go_at_call 55; refine (C.out _).mono ?_; rintro e w1 ⟨rfl, hx1⟩; have c1 := (HH.out w1 hx1).c0)
    | (go_at_call 49; refine (none_no p mb _ c1).mono ?_; rintro e w2 ⟨rfl, hx2⟩)
    | (go_at_call 56; refine (S.out _).mono ?_; rintro e w3 ⟨rfl, rfl⟩; have hx3 := hx1.tr hx2; have HX3 := Lib.hid hx3; have hi3 := HI.out _ hx3; have c3 := (HH.out _ hx3).c0)
    | (at_lookup; refine wpL_look rfl _ _ 44 rfl 110 keyedS mapU Tryz.underlying9 (Tryz.zeroValue110 _) rfl hi3 l hlm rfl ?_; rw [HK.out]; simp only [Option.getD_some, Option.isSome_some, Option.getD_none, Option.isSome_none]; have c00 := fun x => ((HH.out _ hx3).ext (show Ext _ (w3.alloc x) by (repeat (first | exact Ext.rfl' _ | assumption | refine Ext.dr ?_ | refine Ext.drN ?_ _ | refine Ext.al ?_ _ | refine Ext.st ?_ (by simp) _ | refine Ext.tr ?_ (by assumption))))).c0; have c02 := fun x => ((HH.out _ hx3).ext (show Ext _ (w3.alloc x) by (repeat (first | exact Ext.rfl' _ | assumption | refine Ext.dr ?_ | refine Ext.drN ?_ _ | refine Ext.al ?_ _ | refine Ext.st ?_ (by simp) _ | refine Ext.tr ?_ (by assumption))))).c2; have f02 := fun x => ((HH.out _ hx3).ext (show Ext _ (w3.alloc x) by (repeat (first | exact Ext.rfl' _ | assumption | refine Ext.dr ?_ | refine Ext.drN ?_ _ | refine Ext.al ?_ _ | refine Ext.st ?_ (by simp) _ | refine Ext.tr ?_ (by assumption))))).fz 2 (by omega); have hlen := fun x ty => (World.isM.same hi3 ((show Ext w3 (w3.alloc x) by (repeat (first | exact Ext.rfl' _ | assumption | refine Ext.dr ?_ | refine Ext.drN ?_ _ | refine Ext.al ?_ _ | refine Ext.st ?_ (by simp) _ | refine Ext.tr ?_ (by assumption)))).block mb (Nat.lt_of_lt_of_le hlt hx3.size))).len mapU ty; simp only [LEN.out] at hlen))
  go_ret
  exact ⟨rfl, by (repeat (first | exact Ext.rfl' _ | assumption | refine Ext.dr ?_ | refine Ext.drN ?_ _ | refine Ext.al ?_ _ | refine Ext.st ?_ (by simp) _ | refine Ext.tr ?_ (by assumption)))⟩
end Go.Proofs.YtemdgilifnhdpaaGreatDoor
end

section
namespace Go.Proofs.YtemdgilifnhdpaaGreatDoor
open Go.RowKit

theorem lk_of_mem {α : Type} {M : List (List UInt8 × α)} (h : OneM M) {x : List UInt8 × α} (hx : x ∈ M) : lkM M x.1 = some x.2 := by
  induction M with
  | nil => cases hx
  | cons y r ih =>
    obtain ⟨k, u⟩ := y
    have h1 := List.pairwise_cons.1 h
    unfold lkM
    rcases List.mem_cons.1 hx with e | hx
    · subst e; simp
    · rw [if_neg (h1.1 x hx)]; exact ih h1.2 hx
theorem WdAt.more {w w' : World} {o o' : Ow} {k p : Nat} {s : Wrl} {mb : Nat} {pl : List UInt8 → Option Addr × Nat} (ho : o p = k) (hh : Wrow w p s mb) (hm : o mb = k + 1) (hl : mb < w.heap.size)
    (hs : ∀ x ∈ s.L, Sl w o (k + 2) 1 (pl x.1).1 x.2.b.length (pl x.1).2 (bc x.2.b) ∧ ((pl x.1).1 = none → (pl x.1).2 = 0)) (st : Stp (fun i => i = k + 1) w o w' o') (one : OneM s.L)
    {l b : List UInt8} {A : Option Addr} {c : Nat} {mt vi : Int} {ve : Nat} (hve : vi = (ve : Int)) {v : Value} (hv : v = .agg #[.string (str l), .slice A b.length c, .int .i64 mt, .int .i64 vi]) (hi : World.isM w' Tryz.prog 9 mb (putM (enc pl s.L) l v))
    (hb : Sl w' o' (k + 2) 1 A b.length c (bc b)) (hn : A = none → c = 0) : WdAt w' o' k p ⟨putM s.L l ⟨b, mt, ve⟩, s.now, s.ver⟩ := by
  subst hv
  have e1 : putM (enc pl s.L) l (.agg #[.string (str l), .slice A b.length c, .int .i64 mt, .int .i64 vi]) = enc (fun x => if x = l then (A, c) else pl x) (putM s.L l ⟨b, mt, ve⟩) := by
    have := put_map (f := fun k v => entV k (pl k) v) (g := fun k v => entV k (if k = l then (A, c) else pl k) v) one (l := l) (fun k hk => by funext v; simp only [if_neg hk]) ⟨b, mt, ve⟩
    simp only [if_true] at this
    unfold enc
    rw [← this, hve]; rfl
  rw [e1] at hi
  refine ⟨by rw [st.own p (row_lt hh)]; exact ho, mb, _, hh.stp st (by rw [ho]; omega), by rw [st.own mb hl]; exact hm, Nat.lt_of_lt_of_le hl st.size, hi, fun x hx => ?_⟩
  by_cases hx1 : x.1 = l
  · simp only [if_pos hx1]
    have hlk : lkM (putM s.L l ⟨b, mt, ve⟩) x.1 = some ⟨b, mt, ve⟩ := by rw [hx1]; exact lk_put_same _ _ _
    have hx2 : x.2 = ⟨b, mt, ve⟩ := by
      have := lk_of_mem (one.put l ⟨b, mt, ve⟩) hx
      rw [hlk] at this; injection this with this; exact this.symm
    rw [hx2]; exact ⟨hb, hn⟩
  · simp only [if_neg hx1]
    rcases mem_put hx with e | hx
    · subst e; exact absurd rfl hx1
    · exact ⟨(hs x hx).1.stp st (by omega), (hs x hx).2⟩
set_option maxRecDepth 100000 in
set_option maxHeartbeats 4000000 in
theorem wPut_good (w : World) (o : Ow) (k p : Nat) (s : Wrl) (h : WdAt w o k p s) (hk : Wok s) (l b : List UInt8) (hl : l.length ≤ 140737488355328) (B : Option Addr) (n d : Nat) (hn : n = b.length) (hB : Rd w B (bc b)) (hBn : B = none → d = 0) (hBk : b = [] ∨ ∀ a, B = some a → a.block < w.heap.size → ¬ o a.block = k) (hp : pathF l = true) (hv : s.ver < 4611686018427387904)
    (hbig : ¬ 1048576 < n) (hfew : (lkM s.L l).isSome = true ∨ s.L.length ≠ 1000) :
    Calls Tryz.prog 24 #[.pointer (some ⟨p, 0, none⟩), .string (str l), .slice B n d] w (Turns (KW k) w o fun v w' o' => v = .int .i64 0 ∧ WdAt w' o' k p ⟨putM s.L l ⟨b, s.now, s.ver + 1⟩, s.now, s.ver + 1⟩) := by
  have HWD := Lib.hid h
  have HBR := Lib.hid hB
  have HBL := Lib.hid hn
  have HBK := Lib.hid hBk
  clear hB hn hBk
  obtain ⟨mb, pl, hh, hm, hlt, hi, hs⟩ := h.row
  have hlm : l.length ≤ maxLen := by simp only [maxLen]; omega
  have HH := Lib.hid (fun w' (e : Ext w w') => hh.ext e)
  have HI := Lib.hid (fun w' (e : Ext w w') => World.isM.same hi (e.block mb hlt))
  have hl2 : (str l).size ≤ 9223372036854775807 := by rw [str_size]; omega
  obtain ⟨hp1, hp2⟩ := path_ok hp
  have C := fun w => Clean_c l hl w
  rw [hp1] at C
  dsimp only at C
  have S := fun w => Tryz.strings_HasSuffix (str l) ⟨#[47]⟩ w hl2
  rw [str_data, hp2] at S
  have HK0 := lk_enc pl s.L l
  have hen := enc_len pl s.L
  have LEN := Lib.hid hen
  have C := Lib.hid C
  have S := Lib.hid S
  have b1 : ¬ (1048576 : Int) < (n : Int) := by omega
  obtain ⟨vi, hvi⟩ : ∃ vi : Int, vi = (s.ver : Int) := ⟨_, rfl⟩
  have hvw : IntKind.i64.wrap (vi + 1) = vi + 1 := by rw [IntKind.wrap_i64]; omega
  have HV := Lib.hid hvi
  cases hf : lkM s.L l with
  | none =>
    rw [hf] at HK0 hfew
    have HK := Lib.hid HK0
    have hfew2 : ((s.L.length : Int) == 1000) = false := by
      rw [beq_eq_false_iff_ne]
      rcases hfew with h | h
      · cases h
      · omega
    clear HK0 hp1 hp2 hp hen hf hfew hvi h hh hi
    go_enter Tryz.func24, Tryz.ntmps24
    go_wp2_with (first
      | (go_at_call 55; refine (C.out _).mono ?_; rintro e w1 ⟨rfl, hx1⟩; have c1 := (HH.out w1 hx1).c0)
      | (go_at_call 49; refine (none_no p mb _ c1).mono ?_; rintro e w2 ⟨rfl, hx2⟩)
      | (go_at_call 56; refine (S.out _).mono ?_; rintro e w3 ⟨rfl, rfl⟩; have hx3 := hx1.tr hx2; have HX3 := Lib.hid hx3; have hi3 := HI.out _ hx3; have c3 := (HH.out _ hx3).c0)
      | (at_lookup; refine wpL_look rfl _ _ 44 rfl 110 keyedS mapU Tryz.underlying9 (Tryz.zeroValue110 _) rfl hi3 l hlm rfl ?_; rw [HK.out]; simp only [Option.getD_some, Option.isSome_some, Option.getD_none, Option.isSome_none]; have c00 := fun x => ((HH.out _ hx3).ext (show Ext _ (w3.alloc x) by (repeat (first | exact Ext.rfl' _ | assumption | refine Ext.dr ?_ | refine Ext.drN ?_ _ | refine Ext.al ?_ _ | refine Ext.st ?_ (by simp) _ | refine Ext.tr ?_ (by assumption))))).c0; have c02 := fun x => ((HH.out _ hx3).ext (show Ext _ (w3.alloc x) by (repeat (first | exact Ext.rfl' _ | assumption | refine Ext.dr ?_ | refine Ext.drN ?_ _ | refine Ext.al ?_ _ | refine Ext.st ?_ (by simp) _ | refine Ext.tr ?_ (by assumption))))).c2; have f02 := fun x => ((HH.out _ hx3).ext (show Ext _ (w3.alloc x) by (repeat (first | exact Ext.rfl' _ | assumption | refine Ext.dr ?_ | refine Ext.drN ?_ _ | refine Ext.al ?_ _ | refine Ext.st ?_ (by simp) _ | refine Ext.tr ?_ (by assumption))))).fz 2 (by omega); have hlen := fun x ty => (World.isM.same hi3 ((show Ext w3 (w3.alloc x) by (repeat (first | exact Ext.rfl' _ | assumption | refine Ext.dr ?_ | refine Ext.drN ?_ _ | refine Ext.al ?_ _ | refine Ext.st ?_ (by simp) _ | refine Ext.tr ?_ (by assumption)))).block mb (Nat.lt_of_lt_of_le hlt hx3.size))).len mapU ty; simp only [LEN.out] at hlen))
    have x2 : Ext w3 (w3.alloc (.cells #[.string ⟨#[]⟩, .slice none 0 0, .int .i64 0, .int .i64 0] 110)) := by (repeat (first | exact Ext.rfl' _ | assumption | refine Ext.dr ?_ | refine Ext.drN ?_ _ | refine Ext.al ?_ _ | refine Ext.st ?_ (by simp) _ | refine Ext.tr ?_ (by assumption)))
    obtain ⟨W1, hW1⟩ : ∃ W1, W1 = w3.alloc (.cells #[.string ⟨#[]⟩, .slice none 0 0, .int .i64 0, .int .i64 0] 110) := ⟨_, rfl⟩
    rw [← hW1] at x2 ⊢
    clear c00 c02 f02 hlen
    have HWR := (HH.out _ HX3.out).ext x2
    have HW1 := (HWD.out.ext HX3.out).ext x2
    have hi4 := World.isM.same (HI.out _ HX3.out) (x2.block mb (Nat.lt_of_lt_of_le hlt HX3.out.size))
    have st2 : Stp (fun i => i = k) W1 o (W1.setCell ⟨p, 2, none⟩ (.int .i64 ((s.ver : Int) + 1))) o := Stp.set p 2 _ (fun _ => HWD.out.own)
    have hw2 : Wrow (W1.setCell ⟨p, 2, none⟩ (.int .i64 ((s.ver : Int) + 1))) p ⟨s.L, s.now, s.ver + 1⟩ mb := row_set HWR 2 _
    have hi5 : World.isM (W1.setCell ⟨p, 2, none⟩ (.int .i64 ((s.ver : Int) + 1))) Tryz.prog 9 mb (enc pl s.L) := World.isM.same hi4 (st2.keep mb (Nat.lt_of_lt_of_le (Nat.lt_of_lt_of_le hlt HX3.out.size) x2.size) (by rw [hm]; omega))
    obtain ⟨W2, hW2⟩ : ∃ W2, W2 = W1.setCell ⟨p, 2, none⟩ (.int .i64 ((s.ver : Int) + 1)) := ⟨_, rfl⟩
    rw [← hW2] at st2 hw2 hi5 ⊢
    have F := Lib.hid (fun w' (e : Ext W2 w') => (show w'.cell? ⟨p, 0, none⟩ = some (.map (some mb)) ∧ w'.cell? ⟨p, 1, none⟩ = some (.int .i64 s.now) ∧ w'.cell? ⟨p, 2, none⟩ = some (.int .i64 ((s.ver : Int) + 1)) from ⟨(hw2.ext e).c0, (hw2.ext e).c1, (hw2.ext e).c2⟩))
    have HBR2 : Hid (Rd W2 B (bc b)) := Lib.hid (by rcases HBK.out with h0 | h0; exact .inl (by rw [h0]; rfl); exact HBR.out.stp ((Stp.ext (HX3.out.tr x2)).tr st2) h0)
    have hlt5 : mb < W2.heap.size := Nat.lt_of_lt_of_le (Nat.lt_of_lt_of_le (Nat.lt_of_lt_of_le hlt HX3.out.size) x2.size) st2.size
    have hlm5 : Hid ((enc pl s.L).length < maxLen) := Lib.hid (by rw [LEN.out]; have := hk.few; simp only [maxLen]; omega)
    have hpl : p < W2.heap.size := row_lt hw2
    have hpo : o p = k := HWD.out.own
    have hop5 : ∀ (w5 : World) (o5 : Ow), Stp (fun _ => False) W2.drew o w5 o5 → ¬ o5 p = k + 1 := fun w5 o5 st => by rw [st.own p hpl, hpo]; omega
    clear hW1 hW2
    have u0 := (F.out W2 (Ext.rfl' _)).1
    have u1 := (F.out W2 (Ext.rfl' _)).2.1
    have u2 := (F.out W2 (Ext.rfl' _)).2.2
    go_region_held3 (fun w' => w'.cell? ⟨p, 0, none⟩ = some (.map (some mb)) ∧ w'.cell? ⟨p, 1, none⟩ = some (.int .i64 s.now) ∧ w'.cell? ⟨p, 2, none⟩ = some (.int .i64 ((s.ver : Int) + 1))) (first | exact ⟨by assumption, by assumption, by assumption⟩ | (apply F.out; (repeat (first | exact Ext.rfl' _ | assumption | refine Ext.dr ?_ | refine Ext.drN ?_ _ | refine Ext.al ?_ _ | refine Ext.st ?_ (by simp) _ | refine Ext.tr ?_ (by assumption))))) (first
      | (go_at_call 52; refine (sClone_c (k + 2) b B n d HBL.out hBn _ o (HBR2.out.ext (by (repeat (first | exact Ext.rfl' _ | assumption | refine Ext.dr ?_ | refine Ext.drN ?_ _ | refine Ext.al ?_ _ | refine Ext.st ?_ (by simp) _ | refine Ext.tr ?_ (by assumption))))) (by omega)).mono ?_; rintro e w5 ⟨v5, o5, rfl, ⟨A5, c5, rfl, hs5, hn5⟩, st5⟩; have X5 : Ext W2 w5 := Ext.undr st5.noExt; have q0 := (F.out w5 (Ext.undr st5.noExt)).1; have q1 := (F.out w5 (Ext.undr st5.noExt)).2.1; have q2 := (F.out w5 (Ext.undr st5.noExt)).2.2; have hi6 := World.isM.same hi5 ((Ext.undr st5.noExt).block mb hlt5); obtain ⟨w6, hr6, hi7, ht7⟩ := hi6.put keyedS mapU Tryz.underlying9 (hlm5.out) hlm (.agg #[.string (str l), .slice A5 n c5, .int .i64 s.now, .int .i64 ((s.ver : Int) + 1)]); have hr6 : (Instr.mapUpdate 44 (.map (some mb)) (.string (str l)) (.agg #[.string (str l), .slice A5 n c5, .int .i64 s.now, .int .i64 ((s.ver : Int) + 1)])).run Tryz.prog w5 = .ok () w6 := hr6; have hop : ¬ o5 p = k + 1 := hop5 _ _ st5; have st7 : Stp (fun i => i = k + 1) w5 o5 w6 o5 := mt_stp ht7 (fun _ => by rw [st5.own mb hlt5]; exact hm); have r0 := st7.cell (a := ⟨p, 0, none⟩) hop q0; have r1 := st7.cell (a := ⟨p, 1, none⟩) hop q1; have r2 := st7.cell (a := ⟨p, 2, none⟩) hop q2))
    go_wp2
    go_ret
    have stA : Stp (fun i => i = k) w o W2 o := (Stp.ext (HX3.out.tr x2)).tr st2
    have stB : Stp (fun i => i = k + 1) W2 o w6 o5 := ((Stp.ext (Ext.dr (Ext.rfl' _))).tr (st5.mono fun _ x => x.elim)).tr st7
    have hb6 := hs5.stp st7 (by omega)
    rw [HBL.out] at hi7 hb6
    exact Turns.mk o5 rfl ⟨rfl, WdAt.more hpo hw2 hm hlt5 (fun x hx => ⟨(hs x hx).1.stp stA (by omega), (hs x hx).2⟩) stB hk.one (by push_cast; rfl) rfl hi7 hb6 hn5⟩ ((stA.mono fun i hi => .inl hi).tr (stB.mono fun i hi => .inr hi))
  | some f =>
    rw [hf] at HK0
    have HK : Hid (lkM (enc pl s.L) l = some (.agg #[.string (str l), .slice (pl l).1 f.b.length (pl l).2, .int .i64 f.mt, .int .i64 (f.ve : Int)])) := Lib.hid HK0
    obtain ⟨n0, hn0⟩ : ∃ n0, n0 = f.b.length := ⟨_, rfl⟩
    obtain ⟨A0, c0, hA0⟩ : ∃ A0 c0, pl l = (A0, c0) := ⟨_, _, rfl⟩
    rw [← hn0, hA0] at HK
    obtain ⟨m0, hm0⟩ : ∃ m0, m0 = f.mt := ⟨_, rfl⟩
    obtain ⟨v0, hv0⟩ : ∃ v0, v0 = (f.ve : Int) := ⟨_, rfl⟩
    rw [← hm0, ← hv0] at HK
    clear HK0 hp1 hp2 hp hen hf hfew hvi h hh hi hn0 hA0 hm0 hv0
    go_enter Tryz.func24, Tryz.ntmps24
    go_wp2_with (first
      | (go_at_call 55; refine (C.out _).mono ?_; rintro e w1 ⟨rfl, hx1⟩; have c1 := (HH.out w1 hx1).c0)
      | (go_at_call 49; refine (none_no p mb _ c1).mono ?_; rintro e w2 ⟨rfl, hx2⟩)
      | (go_at_call 56; refine (S.out _).mono ?_; rintro e w3 ⟨rfl, rfl⟩; have hx3 := hx1.tr hx2; have HX3 := Lib.hid hx3; have hi3 := HI.out _ hx3; have c3 := (HH.out _ hx3).c0)
      | (at_lookup; refine wpL_look rfl _ _ 44 rfl 110 keyedS mapU Tryz.underlying9 (Tryz.zeroValue110 _) rfl hi3 l hlm rfl ?_; rw [HK.out]; simp only [Option.getD_some, Option.isSome_some, Option.getD_none, Option.isSome_none]; have c00 := fun x => ((HH.out _ hx3).ext (show Ext _ (w3.alloc x) by (repeat (first | exact Ext.rfl' _ | assumption | refine Ext.dr ?_ | refine Ext.drN ?_ _ | refine Ext.al ?_ _ | refine Ext.st ?_ (by simp) _ | refine Ext.tr ?_ (by assumption))))).c0; have c02 := fun x => ((HH.out _ hx3).ext (show Ext _ (w3.alloc x) by (repeat (first | exact Ext.rfl' _ | assumption | refine Ext.dr ?_ | refine Ext.drN ?_ _ | refine Ext.al ?_ _ | refine Ext.st ?_ (by simp) _ | refine Ext.tr ?_ (by assumption))))).c2; have f02 := fun x => ((HH.out _ hx3).ext (show Ext _ (w3.alloc x) by (repeat (first | exact Ext.rfl' _ | assumption | refine Ext.dr ?_ | refine Ext.drN ?_ _ | refine Ext.al ?_ _ | refine Ext.st ?_ (by simp) _ | refine Ext.tr ?_ (by assumption))))).fz 2 (by omega); have hlen := fun x ty => (World.isM.same hi3 ((show Ext w3 (w3.alloc x) by (repeat (first | exact Ext.rfl' _ | assumption | refine Ext.dr ?_ | refine Ext.drN ?_ _ | refine Ext.al ?_ _ | refine Ext.st ?_ (by simp) _ | refine Ext.tr ?_ (by assumption)))).block mb (Nat.lt_of_lt_of_le hlt hx3.size))).len mapU ty; simp only [LEN.out] at hlen))
    have x2 : Ext w3 (w3.alloc (.cells #[.string (str l), .slice A0 n0 c0, .int .i64 m0, .int .i64 v0] 110)) := by (repeat (first | exact Ext.rfl' _ | assumption | refine Ext.dr ?_ | refine Ext.drN ?_ _ | refine Ext.al ?_ _ | refine Ext.st ?_ (by simp) _ | refine Ext.tr ?_ (by assumption)))
    obtain ⟨W1, hW1⟩ : ∃ W1, W1 = w3.alloc (.cells #[.string (str l), .slice A0 n0 c0, .int .i64 m0, .int .i64 v0] 110) := ⟨_, rfl⟩
    rw [← hW1] at x2 ⊢
    clear c00 c02 f02 hlen
    have HWR := (HH.out _ HX3.out).ext x2
    have HW1 := (HWD.out.ext HX3.out).ext x2
    have hi4 := World.isM.same (HI.out _ HX3.out) (x2.block mb (Nat.lt_of_lt_of_le hlt HX3.out.size))
    have st2 : Stp (fun i => i = k) W1 o (W1.setCell ⟨p, 2, none⟩ (.int .i64 ((s.ver : Int) + 1))) o := Stp.set p 2 _ (fun _ => HWD.out.own)
    have hw2 : Wrow (W1.setCell ⟨p, 2, none⟩ (.int .i64 ((s.ver : Int) + 1))) p ⟨s.L, s.now, s.ver + 1⟩ mb := row_set HWR 2 _
    have hi5 : World.isM (W1.setCell ⟨p, 2, none⟩ (.int .i64 ((s.ver : Int) + 1))) Tryz.prog 9 mb (enc pl s.L) := World.isM.same hi4 (st2.keep mb (Nat.lt_of_lt_of_le (Nat.lt_of_lt_of_le hlt HX3.out.size) x2.size) (by rw [hm]; omega))
    obtain ⟨W2, hW2⟩ : ∃ W2, W2 = W1.setCell ⟨p, 2, none⟩ (.int .i64 ((s.ver : Int) + 1)) := ⟨_, rfl⟩
    rw [← hW2] at st2 hw2 hi5 ⊢
    have F := Lib.hid (fun w' (e : Ext W2 w') => (show w'.cell? ⟨p, 0, none⟩ = some (.map (some mb)) ∧ w'.cell? ⟨p, 1, none⟩ = some (.int .i64 s.now) ∧ w'.cell? ⟨p, 2, none⟩ = some (.int .i64 ((s.ver : Int) + 1)) from ⟨(hw2.ext e).c0, (hw2.ext e).c1, (hw2.ext e).c2⟩))
    have HBR2 : Hid (Rd W2 B (bc b)) := Lib.hid (by rcases HBK.out with h0 | h0; exact .inl (by rw [h0]; rfl); exact HBR.out.stp ((Stp.ext (HX3.out.tr x2)).tr st2) h0)
    have hlt5 : mb < W2.heap.size := Nat.lt_of_lt_of_le (Nat.lt_of_lt_of_le (Nat.lt_of_lt_of_le hlt HX3.out.size) x2.size) st2.size
    have hlm5 : Hid ((enc pl s.L).length < maxLen) := Lib.hid (by rw [LEN.out]; have := hk.few; simp only [maxLen]; omega)
    have hpl : p < W2.heap.size := row_lt hw2
    have hpo : o p = k := HWD.out.own
    have hop5 : ∀ (w5 : World) (o5 : Ow), Stp (fun _ => False) W2.drew o w5 o5 → ¬ o5 p = k + 1 := fun w5 o5 st => by rw [st.own p hpl, hpo]; omega
    clear hW1 hW2
    have u0 := (F.out W2 (Ext.rfl' _)).1
    have u1 := (F.out W2 (Ext.rfl' _)).2.1
    have u2 := (F.out W2 (Ext.rfl' _)).2.2
    go_region_held3 (fun w' => w'.cell? ⟨p, 0, none⟩ = some (.map (some mb)) ∧ w'.cell? ⟨p, 1, none⟩ = some (.int .i64 s.now) ∧ w'.cell? ⟨p, 2, none⟩ = some (.int .i64 ((s.ver : Int) + 1))) (first | exact ⟨by assumption, by assumption, by assumption⟩ | (apply F.out; (repeat (first | exact Ext.rfl' _ | assumption | refine Ext.dr ?_ | refine Ext.drN ?_ _ | refine Ext.al ?_ _ | refine Ext.st ?_ (by simp) _ | refine Ext.tr ?_ (by assumption))))) (first
      | (go_at_call 52; refine (sClone_c (k + 2) b B n d HBL.out hBn _ o (HBR2.out.ext (by (repeat (first | exact Ext.rfl' _ | assumption | refine Ext.dr ?_ | refine Ext.drN ?_ _ | refine Ext.al ?_ _ | refine Ext.st ?_ (by simp) _ | refine Ext.tr ?_ (by assumption))))) (by omega)).mono ?_; rintro e w5 ⟨v5, o5, rfl, ⟨A5, c5, rfl, hs5, hn5⟩, st5⟩; have X5 : Ext W2 w5 := Ext.undr st5.noExt; have q0 := (F.out w5 (Ext.undr st5.noExt)).1; have q1 := (F.out w5 (Ext.undr st5.noExt)).2.1; have q2 := (F.out w5 (Ext.undr st5.noExt)).2.2; have hi6 := World.isM.same hi5 ((Ext.undr st5.noExt).block mb hlt5); obtain ⟨w6, hr6, hi7, ht7⟩ := hi6.put keyedS mapU Tryz.underlying9 (hlm5.out) hlm (.agg #[.string (str l), .slice A5 n c5, .int .i64 s.now, .int .i64 ((s.ver : Int) + 1)]); have hr6 : (Instr.mapUpdate 44 (.map (some mb)) (.string (str l)) (.agg #[.string (str l), .slice A5 n c5, .int .i64 s.now, .int .i64 ((s.ver : Int) + 1)])).run Tryz.prog w5 = .ok () w6 := hr6; have hop : ¬ o5 p = k + 1 := hop5 _ _ st5; have st7 : Stp (fun i => i = k + 1) w5 o5 w6 o5 := mt_stp ht7 (fun _ => by rw [st5.own mb hlt5]; exact hm); have r0 := st7.cell (a := ⟨p, 0, none⟩) hop q0; have r1 := st7.cell (a := ⟨p, 1, none⟩) hop q1; have r2 := st7.cell (a := ⟨p, 2, none⟩) hop q2))
    go_wp2
    go_ret
    have stA : Stp (fun i => i = k) w o W2 o := (Stp.ext (HX3.out.tr x2)).tr st2
    have stB : Stp (fun i => i = k + 1) W2 o w6 o5 := ((Stp.ext (Ext.dr (Ext.rfl' _))).tr (st5.mono fun _ x => x.elim)).tr st7
    have hb6 := hs5.stp st7 (by omega)
    rw [HBL.out] at hi7 hb6
    exact Turns.mk o5 rfl ⟨rfl, WdAt.more hpo hw2 hm hlt5 (fun x hx => ⟨(hs x hx).1.stp stA (by omega), (hs x hx).2⟩) stB hk.one (by push_cast; rfl) rfl hi7 hb6 hn5⟩ ((stA.mono fun i hi => .inl hi).tr (stB.mono fun i hi => .inr hi))
end Go.Proofs.YtemdgilifnhdpaaGreatDoor
end
