/-
A world: Tick, Remove.
-/
import Derived.Test.YtemdgilifnhdpaaGreatDoorZas
import Derived.Test.YtemdgilifnhdpaaGreatDoorCln
import Derived.Test.YtemdgilifnhdpaaGreatDoorZac
import Derived.Test.YtemdgilifnhdpaaGreatDoorZae
import Derived.Lib.LastIndexByte
import Derived.Test.YtemdgilifnhdpaaGreatDoorShelf
set_option linter.unusedVariables false
set_option linter.unusedSimpArgs false
section
namespace Go.Proofs.YtemdgilifnhdpaaGreatDoor
open Go.RowKit

section
variable {w : World} {o : Ow} {k p : Nat} {s : Wrl}
theorem setW_stp (i : Nat) (u : Value) (h : o p = k) : Stp (KW k) w o (w.setCell ⟨p, i, none⟩ u) o := Stp.set p i u (fun _ => .inl h)
theorem WdAt.tick (h : WdAt w o k p s) (n : Int) : WdAt (w.setCell ⟨p, 1, none⟩ (.int .i64 n)) o k p ⟨s.L, n, s.ver⟩ := by
  obtain ⟨mb, pl, hh, hm, hl, hi, hs⟩ := h.row
  have st : Stp (fun i => i = k) w o (w.setCell ⟨p, 1, none⟩ (.int .i64 n)) o := Stp.set p 1 _ (fun _ => h.own)
  exact ⟨h.own, mb, pl, row_set hh 1 _, hm, Nat.lt_of_lt_of_le hl st.size, hi.same (st.keep mb hl (by rw [hm]; omega)), fun x hx => ⟨(hs x hx).1.stp st (by omega), (hs x hx).2⟩⟩
theorem lk_enc (pl : List UInt8 → Option Addr × Nat) (L : List (List UInt8 × Fil)) (l : List UInt8) : lkM (enc pl L) l = (lkM L l).map (entV l (pl l)) := lk_map (fun k v => entV k (pl k) v) L l
theorem del_enc (pl : List UInt8 → Option Addr × Nat) (L : List (List UInt8 × Fil)) (l : List UInt8) : delM (enc pl L) l = enc pl (delM L l) := del_map (fun k v => entV k (pl k) v) L l
theorem enc_len (pl : List UInt8 → Option Addr × Nat) (L : List (List UInt8 × Fil)) : (enc pl L).length = L.length := by simp [enc]
theorem mt_stp {w' : World} {mb : Nat} (h : w.mapTurned w' mb) (ho : mb < w.heap.size → o mb = k + 1) : Stp (fun i => i = k + 1) w o w' o := by
  obtain ⟨es, clock, es', clock', hb, rfl⟩ := h
  refine ⟨rfl, rfl, rfl, by simp [ChangeMaps.setBlock], fun _ _ => rfl, fun b hl hn => Go.ChangeMaps.heap_setBlock_other hb _ (fun e => ?_)⟩
  subst e
  exact hn (ho hl)
theorem WdAt.less {w' : World} {mb : Nat} {pl : List UInt8 → Option Addr × Nat} {L : List (List UInt8 × Fil)} (ho : o p = k) (hh : Wrow w p s mb) (hm : o mb = k + 1) (hl : mb < w.heap.size) (hs : ∀ x ∈ s.L, Sl w o (k + 2) 1 (pl x.1).1 x.2.b.length (pl x.1).2 (bc x.2.b) ∧ ((pl x.1).1 = none → (pl x.1).2 = 0))
    (st : Stp (fun i => i = k + 1) w o w' o) (hi : World.isM w' Tryz.prog 9 mb (enc pl L)) (hL : ∀ x ∈ L, x ∈ s.L) : WdAt w' o k p ⟨L, s.now, s.ver⟩ :=
  ⟨ho, mb, pl, hh.stp st (by rw [ho]; omega), hm, Nat.lt_of_lt_of_le hl st.size, hi, fun x hx => ⟨(hs x (hL x hx)).1.stp st (by omega), (hs x (hL x hx)).2⟩⟩
end
set_option maxRecDepth 100000 in
set_option maxHeartbeats 4000000 in
theorem wTick_c (w : World) (o : Ow) (k p : Nat) (s : Wrl) (h : WdAt w o k p s) (hk : Wok s) (n : Int) (hn : n < 9223372036854775808) :
    Calls Tryz.prog 46 #[.pointer (some ⟨p, 0, none⟩), .int .i64 n] w (Turns (KW k) w o fun v w' o' => v = .int .i64 (tickW s n).2 ∧ WdAt w' o' k p (tickW s n).1) := by
  obtain ⟨mb, pl, hh, _⟩ := h.row
  have c0 := hh.c0
  by_cases h0 : n < 0
  · refine (wTick_neg w p mb n h0 c0).mono ?_
    rintro e w1 ⟨rfl, hx⟩
    have : tickW s n = (s, 1) := by unfold tickW; rw [if_pos h0]
    rw [this]
    exact Turns.mk o rfl ⟨rfl, h.ext hx⟩ (Stp.ext hx)
  · have ht : tickW s n = (⟨s.L, s.now + min n (wlast - s.now), s.ver⟩, 0) := by unfold tickW; rw [if_neg h0]
    rw [ht]
    unfold wlast
    have b0 := hk.now0
    have b1 : s.now ≤ 253402300799 := hk.now1
    have HT := Lib.hid (fun w' (e : Ext w w') => h.ext e)
    have HH := Lib.hid (fun w' (e : Ext w w') => hh.ext e)
    have h1 : IntKind.i64.wrap (253402300799 - s.now) = 253402300799 - s.now := by rw [IntKind.wrap_i64]; omega
    by_cases hc : 253402300799 - s.now < n
    · rw [show min n (253402300799 - s.now) = 253402300799 - s.now from by omega]
      have h2 : IntKind.i64.wrap (s.now + (253402300799 - s.now)) = s.now + (253402300799 - s.now) := by rw [IntKind.wrap_i64]; omega
      go_enter Tryz.func46, Tryz.ntmps46
      go_wp2_with (go_at_call 49; refine (none_no p mb _ c0).mono ?_; rintro e w1 ⟨rfl, hx1⟩; have u1 := (HH.out w1 hx1).c1; have u2 := (HH.out w1 hx1).fz 1 (by omega); have HX1 := Lib.hid hx1)
      go_region
      go_wp2
      go_ret
      try rw [show min n (253402300799 - s.now) = 253402300799 - s.now from by omega]
      exact Turns.mk o rfl ⟨rfl, ((h.ext HX1.out).tick _).ext (by (repeat (first | exact Ext.rfl' _ | assumption | refine Ext.dr ?_ | refine Ext.drN ?_ _ | refine Ext.al ?_ _ | refine Ext.st ?_ (by simp) _ | refine Ext.tr ?_ (by assumption))))⟩ ((Stp.ext HX1.out).tr ((setW_stp 1 _ h.own).tr (Stp.ext (by (repeat (first | exact Ext.rfl' _ | assumption | refine Ext.dr ?_ | refine Ext.drN ?_ _ | refine Ext.al ?_ _ | refine Ext.st ?_ (by simp) _ | refine Ext.tr ?_ (by assumption)))))))
    · rw [show min n (253402300799 - s.now) = n from by omega]
      have h2 : IntKind.i64.wrap (s.now + (n)) = s.now + (n) := by rw [IntKind.wrap_i64]; omega
      go_enter Tryz.func46, Tryz.ntmps46
      go_wp2_with (go_at_call 49; refine (none_no p mb _ c0).mono ?_; rintro e w1 ⟨rfl, hx1⟩; have u1 := (HH.out w1 hx1).c1; have u2 := (HH.out w1 hx1).fz 1 (by omega); have HX1 := Lib.hid hx1)
      go_region
      go_wp2
      go_ret
      try rw [show min n (253402300799 - s.now) = n from by omega]
      exact Turns.mk o rfl ⟨rfl, ((h.ext HX1.out).tick _).ext (by (repeat (first | exact Ext.rfl' _ | assumption | refine Ext.dr ?_ | refine Ext.drN ?_ _ | refine Ext.al ?_ _ | refine Ext.st ?_ (by simp) _ | refine Ext.tr ?_ (by assumption))))⟩ ((Stp.ext HX1.out).tr ((setW_stp 1 _ h.own).tr (Stp.ext (by (repeat (first | exact Ext.rfl' _ | assumption | refine Ext.dr ?_ | refine Ext.drN ?_ _ | refine Ext.al ?_ _ | refine Ext.st ?_ (by simp) _ | refine Ext.tr ?_ (by assumption)))))))
set_option maxRecDepth 100000 in
set_option maxHeartbeats 4000000 in
theorem wRemove_c (w : World) (o : Ow) (k p : Nat) (s : Wrl) (h : WdAt w o k p s) (l : List UInt8) (hl : l.length ≤ 140737488355328) :
    Calls Tryz.prog 44 #[.pointer (some ⟨p, 0, none⟩), .string (str l)] w (Turns (KW k) w o fun v w' o' => v = .int .i64 (removeW s l).2 ∧ WdAt w' o' k p (removeW s l).1) := by
  obtain ⟨mb, pl, hh, hm, hlt, hi, hs⟩ := h.row
  have c0 := hh.c0
  have hlm : l.length ≤ maxLen := by simp only [maxLen]; omega
  have HH := Lib.hid (fun w' (e : Ext w w') => hh.ext e)
  have HI := Lib.hid (fun w' (e : Ext w w') => World.isM.same hi (e.block mb hlt))
  cases hf : lkM s.L l with
  | none =>
    have hlk : lkM (enc pl s.L) l = none := by rw [lk_enc, hf]; rfl
    have ht : removeW s l = (s, 3) := by unfold removeW; rw [hf]; rfl
    rw [ht]
    have HK := Lib.hid hlk
    clear hlk hf ht
    go_enter Tryz.func44, Tryz.ntmps44
    go_wp2_with (first
      | (go_at_call 49; refine (none_no p mb _ c0).mono ?_; rintro e w1 ⟨rfl, hx1⟩; have u0 := (HH.out w1 hx1).c0; have hi1 := HI.out w1 hx1)
      | (at_lookup; refine wpL_look rfl _ _ 44 rfl 110 keyedS mapU Tryz.underlying9 (Tryz.zeroValue110 _) rfl hi1 l hlm rfl ?_; rw [HK.out]; simp only [Option.getD_none, Option.isSome_none]))
    go_ret
    exact Turns.mk o rfl ⟨rfl, h.ext (by (repeat (first | exact Ext.rfl' _ | assumption | refine Ext.dr ?_ | refine Ext.drN ?_ _ | refine Ext.al ?_ _ | refine Ext.st ?_ (by simp) _ | refine Ext.tr ?_ (by assumption))))⟩ (Stp.ext (by (repeat (first | exact Ext.rfl' _ | assumption | refine Ext.dr ?_ | refine Ext.drN ?_ _ | refine Ext.al ?_ _ | refine Ext.st ?_ (by simp) _ | refine Ext.tr ?_ (by assumption)))))
  | some f =>
    have hlk : lkM (enc pl s.L) l = some (.agg #[.string (str l), .slice (pl l).1 f.b.length (pl l).2, .int .i64 f.mt, .int .i64 (f.ve : Int)]) := by rw [lk_enc, hf]; rfl
    have ht : removeW s l = (⟨delM s.L l, s.now, s.ver⟩, 0) := by unfold removeW; rw [hf]; rfl
    rw [ht]
    have HK := Lib.hid hlk
    clear hlk hf ht
    obtain ⟨W, hW⟩ : ∃ W, W = w := ⟨_, rfl⟩
    obtain ⟨n0, hn0⟩ : ∃ n0, n0 = f.b.length := ⟨_, rfl⟩
    rw [← hn0] at HK
    go_enter Tryz.func44, Tryz.ntmps44
    go_wp2_with (first
      | (go_at_call 49; refine (none_no p mb _ c0).mono ?_; rintro e w1 ⟨rfl, hx1⟩; have u0 := Lib.hid (fun w' (e : Ext w1 w') => ((HH.out w1 hx1).ext e).c0); have u0' := u0.out w1 (Ext.rfl' _); have hi1 := Lib.hid (fun w' (e : Ext w1 w') => World.isM.same (HI.out w1 hx1) (e.block mb (Nat.lt_of_lt_of_le hlt hx1.size))); have hi1' := hi1.out w1 (Ext.rfl' _))
      | (at_lookup; refine wpL_look rfl _ _ 44 rfl 110 keyedS mapU Tryz.underlying9 (Tryz.zeroValue110 _) rfl hi1' l hlm rfl ?_; rw [HK.out]; simp only [Option.getD_some, Option.isSome_some]; have c00 := fun x => u0.out (w1.alloc x) (by (repeat (first | exact Ext.rfl' _ | assumption | refine Ext.dr ?_ | refine Ext.drN ?_ _ | refine Ext.al ?_ _ | refine Ext.st ?_ (by simp) _ | refine Ext.tr ?_ (by assumption)))))
      | (at_delete; refine wpL_mdel rfl _ _ 44 rfl 110 keyedS mapU Tryz.underlying9 rfl (hi1.out _ (by (repeat (first | exact Ext.rfl' _ | assumption | refine Ext.dr ?_ | refine Ext.drN ?_ _ | refine Ext.al ?_ _ | refine Ext.st ?_ (by simp) _ | refine Ext.tr ?_ (by assumption))))) l hlm rfl ?_; intro w2 hi2 ht2))
    go_ret
    rw [del_enc] at hi2
    have st : Stp (fun i => i = k + 1) w o w2 o := (Stp.ext (by (repeat (first | exact Ext.rfl' _ | assumption | refine Ext.dr ?_ | refine Ext.drN ?_ _ | refine Ext.al ?_ _ | refine Ext.st ?_ (by simp) _ | refine Ext.tr ?_ (by assumption))))).tr (mt_stp ht2 (fun _ => hm))
    exact Turns.mk o rfl ⟨rfl, WdAt.less h.own hh hm hlt hs st hi2 (fun x hx => mem_del hx)⟩ (st.mono fun i hi => .inr hi)
end Go.Proofs.YtemdgilifnhdpaaGreatDoor
end

section
namespace Go.Proofs.YtemdgilifnhdpaaGreatDoor
open Go.RowKit

theorem suf47 (l : List UInt8) : Lib.hasSuffix l [47] = (l.getLast? == some 47) := by
  unfold Lib.hasSuffix
  rw [Bool.eq_iff_iff, List.isSuffixOf_iff_suffix, beq_iff_eq]
  constructor
  · rintro ⟨a, rfl⟩; simp
  · intro h
    have h0 : l ≠ [] := by intro e; subst e; simp at h
    refine ⟨l.dropLast, ?_⟩
    rw [List.getLast?_eq_some_getLast h0] at h
    injection h with h
    rw [← h]; exact List.dropLast_concat_getLast h0
set_option maxRecDepth 100000 in
set_option maxHeartbeats 4000000 in
theorem wPut_bad (p mb : Nat) (l : List UInt8) (hl : l.length ≤ 140737488355328) (B : Option Addr) (n d : Nat) (hp : pathF l = false) (w : World) (hc : w.cell? ⟨p, 0, none⟩ = some (.map (some mb))) :
    Calls Tryz.prog 24 #[.pointer (some ⟨p, 0, none⟩), .string (str l), .slice B n d] w (Gives (.int .i64 1) w) := by
  have HC := Lib.hid (fun w' (e : Ext w w') => (e.cell (p := ⟨p, 0, none⟩) (lt_of_cell hc)).trans hc)
  have hl2 : (str l).size ≤ 9223372036854775807 := by rw [str_size]; omega
  have C := fun w => Clean_c l hl w
  obtain ⟨x, ec, hxe⟩ : ∃ x ec, cleanL l = (x, ec) := ⟨_, _, rfl⟩
  rw [hxe] at C
  dsimp only at C
  obtain ⟨sc, hsc⟩ : ∃ sc, sc = str x := ⟨_, rfl⟩
  obtain ⟨sl, hsl⟩ : ∃ sl, sl = str l := ⟨_, rfl⟩
  have S := fun w => Tryz.strings_HasSuffix (str l) ⟨#[47]⟩ w hl2
  rw [← hsc] at C
  rw [← hsl] at C S ⊢
  by_cases h1 : ec = 0
  · subst h1
    by_cases h2 : x = l
    · subst h2
      have hsuf : Lib.hasSuffix sl.data.toList [47] = true := by
        unfold pathF at hp
        rw [hxe] at hp
        rw [hsl, str_data, suf47]
        simpa using hp
      rw [hsuf] at S
      obtain rfl : sl = sc := hsl.trans hsc.symm
      have C := Lib.hid C
      have S := Lib.hid S
      clear hxe hsuf hsc hsl hp
      go_enter Tryz.func24, Tryz.ntmps24
      go_wp2_with (first
        | (go_at_call 55; refine (C.out _).mono ?_; rintro e w1 ⟨rfl, hx1⟩; have c1 := HC.out w1 hx1)
        | (go_at_call 49; refine (none_no p mb _ c1).mono ?_; rintro e w2 ⟨rfl, hx2⟩)
        | (go_at_call 56; refine (S.out _).mono ?_; rintro e w3 ⟨rfl, rfl⟩))
      go_ret
      exact ⟨rfl, by (repeat (first | exact Ext.rfl' _ | assumption | refine Ext.dr ?_ | refine Ext.drN ?_ _ | refine Ext.al ?_ _ | refine Ext.st ?_ (by simp) _ | refine Ext.tr ?_ (by assumption)))⟩
    · have hne : ¬ sc.toList = sl.toList := by
        rw [hsc, hsl, str_tl, str_tl]; exact h2
      have hne2 : (sc.toList == sl.toList) = false := by rw [beq_eq_false_iff_ne]; exact hne
      have C := Lib.hid C
      clear hxe S hsc hsl hp h2
      go_enter Tryz.func24, Tryz.ntmps24
      go_wp2_with (first
        | (go_at_call 55; refine (C.out _).mono ?_; rintro e w1 ⟨rfl, hx1⟩; have c1 := HC.out w1 hx1)
        | (go_at_call 49; refine (none_no p mb _ c1).mono ?_; rintro e w2 ⟨rfl, hx2⟩)
        | (go_at_call 56; refine (S.out _).mono ?_; rintro e w3 ⟨rfl, rfl⟩))
      trace_state
      go_ret
      exact ⟨rfl, by (repeat (first | exact Ext.rfl' _ | assumption | refine Ext.dr ?_ | refine Ext.drN ?_ _ | refine Ext.al ?_ _ | refine Ext.st ?_ (by simp) _ | refine Ext.tr ?_ (by assumption)))⟩
  · have he : (ec != 0) = true := by rw [bne_iff_ne]; exact h1
    have he2 : (ec == 0) = false := by rw [beq_eq_false_iff_ne]; exact h1
    have C := Lib.hid C
    clear hxe S hsc hsl hp
    go_enter Tryz.func24, Tryz.ntmps24
    go_wp2_with (first
      | (go_at_call 55; refine (C.out _).mono ?_; rintro e w1 ⟨rfl, hx1⟩; have c1 := HC.out w1 hx1)
      | (go_at_call 49; refine (none_no p mb _ c1).mono ?_; rintro e w2 ⟨rfl, hx2⟩)
      | (go_at_call 56; refine (S.out _).mono ?_; rintro e w3 ⟨rfl, rfl⟩))
    go_ret
    exact ⟨rfl, by (repeat (first | exact Ext.rfl' _ | assumption | refine Ext.dr ?_ | refine Ext.drN ?_ _ | refine Ext.al ?_ _ | refine Ext.st ?_ (by simp) _ | refine Ext.tr ?_ (by assumption)))⟩
end Go.Proofs.YtemdgilifnhdpaaGreatDoor
end

section
namespace Go.Proofs.YtemdgilifnhdpaaGreatDoor
open Go.RowKit

def aftL (c : UInt8) : List UInt8 → Option (List UInt8)
  | [] => none
  | x :: t => match aftL c t with
    | some r => some r
    | none => if x = c then some t else none
theorem aft_none {c : UInt8} : ∀ {l : List UInt8}, (∀ x ∈ l, x ≠ c) → aftL c l = none
  | [], _ => rfl
  | x :: t, h => by
    unfold aftL
    rw [aft_none (l := t) (fun y hy => h y (List.mem_cons_of_mem _ hy)), if_neg (h x List.mem_cons_self)]
theorem aft_at {c : UInt8} : ∀ (a : List UInt8) {b : List UInt8}, (∀ x ∈ b, x ≠ c) → aftL c (a ++ c :: b) = some b
  | [], b, h => by
    show (match aftL c b with | some r => some r | none => if c = c then some b else none) = some b
    rw [aft_none h, if_pos rfl]
  | x :: a, b, h => by
    show (match aftL c (a ++ c :: b) with | some r => some r | none => if x = c then some (a ++ c :: b) else none) = some b
    rw [aft_at a h]
def fnameL (l : List UInt8) : List UInt8 := (aftL 47 l).getD l
def extL (l : List UInt8) : Option (List UInt8) := aftL 46 (fnameL l)
def octT : List UInt8 := [97, 112, 112, 108, 105, 99, 97, 116, 105, 111, 110, 47, 111, 99, 116, 101, 116, 45, 115, 116, 114, 101, 97, 109]
def typT : List (List UInt8 × List UInt8) := [([104, 116, 109, 108], [116, 101, 120, 116, 47, 104, 116, 109, 108]), ([104, 116, 109], [116, 101, 120, 116, 47, 104, 116, 109, 108]), ([99, 115, 115], [116, 101, 120, 116, 47, 99, 115, 115]), ([106, 115], [116, 101, 120, 116, 47, 106, 97, 118, 97, 115, 99, 114, 105, 112, 116]), ([106, 115, 111, 110], [97, 112, 112, 108, 105, 99, 97, 116, 105, 111, 110, 47, 106, 115, 111, 110]), ([116, 120, 116], [116, 101, 120, 116, 47, 112, 108, 97, 105, 110]), ([115, 118, 103], [105, 109, 97, 103, 101, 47, 115, 118, 103, 43, 120, 109, 108]), ([112, 110, 103], [105, 109, 97, 103, 101, 47, 112, 110, 103]), ([106, 112, 103], [105, 109, 97, 103, 101, 47, 106, 112, 101, 103]), ([106, 112, 101, 103], [105, 109, 97, 103, 101, 47, 106, 112, 101, 103]), ([103, 122], [97, 112, 112, 108, 105, 99, 97, 116, 105, 111, 110, 47, 103, 122, 105, 112])]
def typL (e : List UInt8) : List UInt8 := ((typT.find? fun p => decide (p.1 = e)).map Prod.snd).getD octT
def mimeL (l : List UInt8) : List UInt8 := match extL l with
  | none => octT
  | some e => typL (lowL e)
theorem last_at (l : List UInt8) (c : UInt8) : (aftL c l = none ∧ Lib.lastIndexByte (str l) (c.toNat : Int) = -1) ∨ ∃ r, aftL c l = some r ∧ r.length < l.length ∧ Lib.lastIndexByte (str l) (c.toNat : Int) = ((l.length - r.length - 1 : Nat) : Int) ∧ l.drop (l.length - r.length) = r := by
  have hz : (str l).size = l.length := str_size l
  have hb : ∀ j, j < l.length → (str l).data[j]! = l[j]! := fun j hj => by
    rw [getElem!_pos (str l).data j (by simpa [str] using hj), getElem!_pos l j hj]
    simp [str]
  have hs := Lib.lastIdx_spec (str l) (c.toNat : Int) (str l).size
  rw [hz] at hs
  have hne : ∀ j, j < l.length → (((str l).data[j]!).toNat : Int) ≠ (c.toNat : Int) → l[j]! ≠ c := fun j hj h1 h2 => by
    rw [hb j hj, h2] at h1; exact h1 rfl
  unfold Lib.lastIndexByte
  rw [hz]
  rcases hs with ⟨h1, h2⟩ | ⟨i, hi, h1, h2, h3⟩
  · left
    refine ⟨aft_none (fun x hx => ?_), h1⟩
    obtain ⟨j, hj, he⟩ := List.getElem_of_mem hx
    have := hne j hj (h2 j hj)
    rw [getElem!_pos l j hj, he] at this
    exact this
  · right
    have hic : l[i] = c := by
      rw [hb i hi, getElem!_pos l i hi] at h2
      exact UInt8.toNat_inj.1 (by omega)
    have hs : l = l.take i ++ c :: l.drop (i + 1) := by rw [← hic, ← List.drop_eq_getElem_cons hi, List.take_append_drop]
    have ha : aftL c l = some (l.drop (i + 1)) := by
      conv => lhs; rw [hs]
      refine aft_at _ (fun x hx => ?_)
      obtain ⟨j, hj, he⟩ := List.getElem_of_mem hx
      rw [List.length_drop] at hj
      rw [List.getElem_drop] at he
      have := hne (i + 1 + j) (by omega) (h3 (i + 1 + j) (by omega) (by omega))
      rw [getElem!_pos l (i + 1 + j) (by omega), he] at this
      exact this
    refine ⟨_, ha, by rw [List.length_drop]; omega, by rw [h1, List.length_drop]; congr 1; omega, by rw [List.length_drop]; congr 1; omega⟩
end Go.Proofs.YtemdgilifnhdpaaGreatDoor
end

section
namespace Go.Proofs.YtemdgilifnhdpaaGreatDoor
open Go.RowKit

theorem LastIB_c (l : List UInt8) (hs : l.length ≤ 140737488355328) (c : UInt8) (w : World) : Calls Tryz.prog 38 #[.string (str l), .int .u8 (c.toNat : Int)] w fun e w' => e = .returned (.int .i64 (Lib.lastIndexByte (str l) (c.toNat : Int))) ∧ w = w' :=
  (Tryz.strings_LastIndexByte _ _ (by rw [str_size]; omega) w).mono fun e w' ⟨he, hw⟩ => ⟨he, hw.symm⟩
theorem name_at (l : List UInt8) : ∃ p : Nat, p ≤ l.length ∧ Lib.lastIndexByte (str l) 47 = (p : Int) - 1 ∧ l.drop p = fnameL l := by
  rcases last_at l 47 with ⟨h1, h2⟩ | ⟨r, h1, h2, h3, h4⟩
  · exact ⟨0, Nat.zero_le _, by rw [show ((47 : Int)) = ((47 : UInt8).toNat : Int) from rfl, h2]; rfl, by unfold fnameL; rw [h1]; rfl⟩
  · exact ⟨l.length - r.length, by omega, by rw [show ((47 : Int)) = ((47 : UInt8).toNat : Int) from rfl, h3]; omega, by unfold fnameL; rw [h1]; exact h4⟩
theorem ext_at (l : List UInt8) : (aftL 46 l = none ∧ Lib.lastIndexByte (str l) 46 = -1) ∨ ∃ e p, aftL 46 l = some e ∧ p < l.length ∧ Lib.lastIndexByte (str l) 46 = ((p : Nat) : Int) ∧ l.drop (p + 1) = e := by
  rcases last_at l 46 with ⟨h1, h2⟩ | ⟨r, h1, h2, h3, h4⟩
  · exact .inl ⟨h1, h2⟩
  · exact .inr ⟨r, l.length - r.length - 1, h1, by omega, h3, by rw [show l.length - r.length - 1 + 1 = l.length - r.length from by omega]; exact h4⟩
theorem str_drop (l : List UInt8) (p : Nat) (_hp : p ≤ l.length) : (str l).extract p l.length = str (l.drop p) := by
  apply ByteArray.ext
  apply Array.ext'
  simp [str]
  rw [List.take_of_length_le (by rw [List.length_drop]; omega)]

theorem typ_cases (e : List UInt8) : (e = [104, 116, 109, 108] ∧ typL e = [116, 101, 120, 116, 47, 104, 116, 109, 108]) ∨ (e = [104, 116, 109] ∧ typL e = [116, 101, 120, 116, 47, 104, 116, 109, 108]) ∨ (e = [99, 115, 115] ∧ typL e = [116, 101, 120, 116, 47, 99, 115, 115]) ∨ (e = [106, 115] ∧ typL e = [116, 101, 120, 116, 47, 106, 97, 118, 97, 115, 99, 114, 105, 112, 116]) ∨ (e = [106, 115, 111, 110] ∧ typL e = [97, 112, 112, 108, 105, 99, 97, 116, 105, 111, 110, 47, 106, 115, 111, 110]) ∨ (e = [116, 120, 116] ∧ typL e = [116, 101, 120, 116, 47, 112, 108, 97, 105, 110]) ∨ (e = [115, 118, 103] ∧ typL e = [105, 109, 97, 103, 101, 47, 115, 118, 103, 43, 120, 109, 108]) ∨ (e = [112, 110, 103] ∧ typL e = [105, 109, 97, 103, 101, 47, 112, 110, 103]) ∨ (e = [106, 112, 103] ∧ typL e = [105, 109, 97, 103, 101, 47, 106, 112, 101, 103]) ∨ (e = [106, 112, 101, 103] ∧ typL e = [105, 109, 97, 103, 101, 47, 106, 112, 101, 103]) ∨ (e = [103, 122] ∧ typL e = [97, 112, 112, 108, 105, 99, 97, 116, 105, 111, 110, 47, 103, 122, 105, 112]) ∨ ((¬ e = [104, 116, 109, 108] ∧ ¬ e = [104, 116, 109] ∧ ¬ e = [99, 115, 115] ∧ ¬ e = [106, 115] ∧ ¬ e = [106, 115, 111, 110] ∧ ¬ e = [116, 120, 116] ∧ ¬ e = [115, 118, 103] ∧ ¬ e = [112, 110, 103] ∧ ¬ e = [106, 112, 103] ∧ ¬ e = [106, 112, 101, 103] ∧ ¬ e = [103, 122]) ∧ typL e = octT) := by
  by_cases h0 : e = [104, 116, 109, 108]
  · exact .inl ⟨h0, by rw [h0]; decide +kernel⟩
  by_cases h1 : e = [104, 116, 109]
  · exact .inr (.inl ⟨h1, by rw [h1]; decide +kernel⟩)
  by_cases h2 : e = [99, 115, 115]
  · exact .inr (.inr (.inl ⟨h2, by rw [h2]; decide +kernel⟩))
  by_cases h3 : e = [106, 115]
  · exact .inr (.inr (.inr (.inl ⟨h3, by rw [h3]; decide +kernel⟩)))
  by_cases h4 : e = [106, 115, 111, 110]
  · exact .inr (.inr (.inr (.inr (.inl ⟨h4, by rw [h4]; decide +kernel⟩))))
  by_cases h5 : e = [116, 120, 116]
  · exact .inr (.inr (.inr (.inr (.inr (.inl ⟨h5, by rw [h5]; decide +kernel⟩)))))
  by_cases h6 : e = [115, 118, 103]
  · exact .inr (.inr (.inr (.inr (.inr (.inr (.inl ⟨h6, by rw [h6]; decide +kernel⟩))))))
  by_cases h7 : e = [112, 110, 103]
  · exact .inr (.inr (.inr (.inr (.inr (.inr (.inr (.inl ⟨h7, by rw [h7]; decide +kernel⟩)))))))
  by_cases h8 : e = [106, 112, 103]
  · exact .inr (.inr (.inr (.inr (.inr (.inr (.inr (.inr (.inl ⟨h8, by rw [h8]; decide +kernel⟩))))))))
  by_cases h9 : e = [106, 112, 101, 103]
  · exact .inr (.inr (.inr (.inr (.inr (.inr (.inr (.inr (.inr (.inl ⟨h9, by rw [h9]; decide +kernel⟩)))))))))
  by_cases h10 : e = [103, 122]
  · exact .inr (.inr (.inr (.inr (.inr (.inr (.inr (.inr (.inr (.inr (.inl ⟨h10, by rw [h10]; decide +kernel⟩))))))))))
  exact .inr (.inr (.inr (.inr (.inr (.inr (.inr (.inr (.inr (.inr (.inr (⟨⟨h0, h1, h2, h3, h4, h5, h6, h7, h8, h9, h10⟩, by
    unfold typL typT
    simp only [List.find?_cons, List.find?_nil]
    rw [decide_eq_false (fun h => h0 h.symm), decide_eq_false (fun h => h1 h.symm), decide_eq_false (fun h => h2 h.symm), decide_eq_false (fun h => h3 h.symm), decide_eq_false (fun h => h4 h.symm), decide_eq_false (fun h => h5 h.symm), decide_eq_false (fun h => h6 h.symm), decide_eq_false (fun h => h7 h.symm), decide_eq_false (fun h => h8 h.symm), decide_eq_false (fun h => h9 h.symm), decide_eq_false (fun h => h10 h.symm)]
    rfl⟩)))))))))))
set_option maxRecDepth 100000 in
set_option maxHeartbeats 4000000 in
theorem Mime_c (l : List UInt8) (hs : l.length ≤ 140737488355328) (w : World) : Calls Tryz.prog 12 #[.string (str l)] w (Gives (.string (str (mimeL l))) w) := by
  obtain ⟨R, hR⟩ : ∃ R, R = mimeL l := ⟨_, rfl⟩
  rw [← hR]
  obtain ⟨p, hp, hi, hd⟩ := name_at l
  have hnl : (fnameL l).length ≤ l.length := by rw [← hd, List.length_drop]; omega
  have hsl := str_drop l p hp
  rw [hd] at hsl
  have C1 := LastIB_c l hs 47 w
  rw [show (((47 : UInt8).toNat : Nat) : Int) = 47 from rfl, hi] at C1
  have hw1 : wrap64 (p : Int) = (p : Int) := by unfold wrap64; omega
  have hpl : (p : Int) ≤ (l.length : Int) := by omega
  have hp0 : (0 : Int) ≤ (p : Int) := by omega
  have hz : (str l).size = l.length := str_size l
  obtain ⟨s0, hs0⟩ : ∃ x, x = str l := ⟨_, rfl⟩
  obtain ⟨n, hn⟩ : ∃ x, x = l.length := ⟨_, rfl⟩
  rw [← hs0] at C1 hsl hz
  rw [← hn] at hsl hz hpl
  rw [← hs0]
  obtain ⟨nm, hnm⟩ : ∃ x, x = fnameL l := ⟨_, rfl⟩
  have hR2 : R = match aftL 46 nm with | none => octT | some e => typL (lowL e) := by rw [hR, hnm]; rfl
  rw [← hnm] at hsl hnl
  obtain ⟨sn, hsn⟩ : ∃ x, x = str nm := ⟨_, rfl⟩
  rw [← hsn] at hsl
  have C1 := Lib.hid C1
  have C2 := LastIB_c nm (by omega) 46 w
  rw [show (((46 : UInt8).toNat : Nat) : Int) = 46 from rfl, ← hsn] at C2
  have HR2 := Lib.hid hR2
  have HSN := Lib.hid hsn
  have HNL := Lib.hid hnl
  have hzn : sn.size = nm.length := by rw [hsn]; exact str_size nm
  clear hR hi hd hp hs0 hn hnm hR2 hnl
  rcases ext_at nm with ⟨h1, h2⟩ | ⟨e, q, h1, h2, h3, h4⟩
  · rw [hsn, h2, ← hsn] at C2
    have C2 := Lib.hid C2
    have HV := Lib.hid (show R = octT from by rw [HR2.out, h1])
    clear h1 h2 hsn hzn
    go_enter Tryz.func12, Tryz.ntmps12
    go_wp2_with (first
      | (go_at_call 38; refine (C1.out).mono ?_; clear C1; rintro e w2 ⟨rfl, hw⟩; subst hw)
      | (go_at_call 38; refine (C2.out).mono ?_; rintro e w2 ⟨rfl, hw⟩; subst hw))
    go_ret
    exact ⟨by rw [HV.out]; rfl, by (repeat (first | exact Ext.rfl' _ | assumption | refine Ext.dr ?_ | refine Ext.drN ?_ _ | refine Ext.al ?_ _ | refine Ext.st ?_ (by simp) _ | refine Ext.tr ?_ (by assumption)))⟩
  · rw [hsn, h3, ← hsn] at C2
    have C2 := Lib.hid C2
    have hq1 : wrap64 ((q : Int) + 1) = (q : Int) + 1 := by have := HNL.out; unfold wrap64; omega
    have hq0 : (0 : Int) ≤ (q : Int) := by omega
    have hq2 : (q : Int) + 1 ≤ (nm.length : Int) := by omega
    have hse := str_drop nm (q + 1) (by omega)
    rw [h4, ← hsn] at hse
    have CL := Lib.hid (fun w => Lower_c e (by rw [← h4, List.length_drop]; have := HNL.out; unfold maxLen; omega) w)
    have HV := Lib.hid (show R = typL (lowL e) from by rw [HR2.out, h1])
    obtain ⟨se, hse2⟩ : ∃ x, x = str e := ⟨_, rfl⟩
    obtain ⟨nn, hnn⟩ : ∃ x, x = nm.length := ⟨_, rfl⟩
    rw [← hse2] at hse CL
    rw [← hnn] at hse hq2 hzn
    obtain ⟨lo, hlo⟩ : ∃ x, x = lowL e := ⟨_, rfl⟩
    rw [← hlo] at CL HV
    clear h1 h2 h3 h4 hsn hse2 hnn hlo
    rcases typ_cases lo with ⟨rfl, ht⟩ | ⟨rfl, ht⟩ | ⟨rfl, ht⟩ | ⟨rfl, ht⟩ | ⟨rfl, ht⟩ | ⟨rfl, ht⟩ | ⟨rfl, ht⟩ | ⟨rfl, ht⟩ | ⟨rfl, ht⟩ | ⟨rfl, ht⟩ | ⟨rfl, ht⟩ | ⟨hno, ht⟩
    · rw [ht] at HV
      rw [show str [104, 116, 109, 108] = ⟨#[104, 116, 109, 108]⟩ from rfl] at CL
      clear ht
      go_enter Tryz.func12, Tryz.ntmps12
      go_wp2_with (first
      | (go_at_call 38; refine (C1.out).mono ?_; clear C1; rintro e w2 ⟨rfl, hw⟩; subst hw)
      | (go_at_call 38; refine (C2.out).mono ?_; rintro e w2 ⟨rfl, hw⟩; subst hw)
      | (go_at_call 39; refine (CL.out _).mono ?_; rintro e w3 ⟨rfl, hx3⟩))
      go_ret
      exact ⟨by rw [HV.out]; rfl, by (repeat (first | exact Ext.rfl' _ | assumption | refine Ext.dr ?_ | refine Ext.drN ?_ _ | refine Ext.al ?_ _ | refine Ext.st ?_ (by simp) _ | refine Ext.tr ?_ (by assumption)))⟩
    · rw [ht] at HV
      rw [show str [104, 116, 109] = ⟨#[104, 116, 109]⟩ from rfl] at CL
      clear ht
      go_enter Tryz.func12, Tryz.ntmps12
      go_wp2_with (first
      | (go_at_call 38; refine (C1.out).mono ?_; clear C1; rintro e w2 ⟨rfl, hw⟩; subst hw)
      | (go_at_call 38; refine (C2.out).mono ?_; rintro e w2 ⟨rfl, hw⟩; subst hw)
      | (go_at_call 39; refine (CL.out _).mono ?_; rintro e w3 ⟨rfl, hx3⟩))
      go_ret
      exact ⟨by rw [HV.out]; rfl, by (repeat (first | exact Ext.rfl' _ | assumption | refine Ext.dr ?_ | refine Ext.drN ?_ _ | refine Ext.al ?_ _ | refine Ext.st ?_ (by simp) _ | refine Ext.tr ?_ (by assumption)))⟩
    · rw [ht] at HV
      rw [show str [99, 115, 115] = ⟨#[99, 115, 115]⟩ from rfl] at CL
      clear ht
      go_enter Tryz.func12, Tryz.ntmps12
      go_wp2_with (first
      | (go_at_call 38; refine (C1.out).mono ?_; clear C1; rintro e w2 ⟨rfl, hw⟩; subst hw)
      | (go_at_call 38; refine (C2.out).mono ?_; rintro e w2 ⟨rfl, hw⟩; subst hw)
      | (go_at_call 39; refine (CL.out _).mono ?_; rintro e w3 ⟨rfl, hx3⟩))
      go_ret
      exact ⟨by rw [HV.out]; rfl, by (repeat (first | exact Ext.rfl' _ | assumption | refine Ext.dr ?_ | refine Ext.drN ?_ _ | refine Ext.al ?_ _ | refine Ext.st ?_ (by simp) _ | refine Ext.tr ?_ (by assumption)))⟩
    · rw [ht] at HV
      rw [show str [106, 115] = ⟨#[106, 115]⟩ from rfl] at CL
      clear ht
      go_enter Tryz.func12, Tryz.ntmps12
      go_wp2_with (first
      | (go_at_call 38; refine (C1.out).mono ?_; clear C1; rintro e w2 ⟨rfl, hw⟩; subst hw)
      | (go_at_call 38; refine (C2.out).mono ?_; rintro e w2 ⟨rfl, hw⟩; subst hw)
      | (go_at_call 39; refine (CL.out _).mono ?_; rintro e w3 ⟨rfl, hx3⟩))
      go_ret
      exact ⟨by rw [HV.out]; rfl, by (repeat (first | exact Ext.rfl' _ | assumption | refine Ext.dr ?_ | refine Ext.drN ?_ _ | refine Ext.al ?_ _ | refine Ext.st ?_ (by simp) _ | refine Ext.tr ?_ (by assumption)))⟩
    · rw [ht] at HV
      rw [show str [106, 115, 111, 110] = ⟨#[106, 115, 111, 110]⟩ from rfl] at CL
      clear ht
      go_enter Tryz.func12, Tryz.ntmps12
      go_wp2_with (first
      | (go_at_call 38; refine (C1.out).mono ?_; clear C1; rintro e w2 ⟨rfl, hw⟩; subst hw)
      | (go_at_call 38; refine (C2.out).mono ?_; rintro e w2 ⟨rfl, hw⟩; subst hw)
      | (go_at_call 39; refine (CL.out _).mono ?_; rintro e w3 ⟨rfl, hx3⟩))
      go_ret
      exact ⟨by rw [HV.out]; rfl, by (repeat (first | exact Ext.rfl' _ | assumption | refine Ext.dr ?_ | refine Ext.drN ?_ _ | refine Ext.al ?_ _ | refine Ext.st ?_ (by simp) _ | refine Ext.tr ?_ (by assumption)))⟩
    · rw [ht] at HV
      rw [show str [116, 120, 116] = ⟨#[116, 120, 116]⟩ from rfl] at CL
      clear ht
      go_enter Tryz.func12, Tryz.ntmps12
      go_wp2_with (first
      | (go_at_call 38; refine (C1.out).mono ?_; clear C1; rintro e w2 ⟨rfl, hw⟩; subst hw)
      | (go_at_call 38; refine (C2.out).mono ?_; rintro e w2 ⟨rfl, hw⟩; subst hw)
      | (go_at_call 39; refine (CL.out _).mono ?_; rintro e w3 ⟨rfl, hx3⟩))
      go_ret
      exact ⟨by rw [HV.out]; rfl, by (repeat (first | exact Ext.rfl' _ | assumption | refine Ext.dr ?_ | refine Ext.drN ?_ _ | refine Ext.al ?_ _ | refine Ext.st ?_ (by simp) _ | refine Ext.tr ?_ (by assumption)))⟩
    · rw [ht] at HV
      rw [show str [115, 118, 103] = ⟨#[115, 118, 103]⟩ from rfl] at CL
      clear ht
      go_enter Tryz.func12, Tryz.ntmps12
      go_wp2_with (first
      | (go_at_call 38; refine (C1.out).mono ?_; clear C1; rintro e w2 ⟨rfl, hw⟩; subst hw)
      | (go_at_call 38; refine (C2.out).mono ?_; rintro e w2 ⟨rfl, hw⟩; subst hw)
      | (go_at_call 39; refine (CL.out _).mono ?_; rintro e w3 ⟨rfl, hx3⟩))
      go_ret
      exact ⟨by rw [HV.out]; rfl, by (repeat (first | exact Ext.rfl' _ | assumption | refine Ext.dr ?_ | refine Ext.drN ?_ _ | refine Ext.al ?_ _ | refine Ext.st ?_ (by simp) _ | refine Ext.tr ?_ (by assumption)))⟩
    · rw [ht] at HV
      rw [show str [112, 110, 103] = ⟨#[112, 110, 103]⟩ from rfl] at CL
      clear ht
      go_enter Tryz.func12, Tryz.ntmps12
      go_wp2_with (first
      | (go_at_call 38; refine (C1.out).mono ?_; clear C1; rintro e w2 ⟨rfl, hw⟩; subst hw)
      | (go_at_call 38; refine (C2.out).mono ?_; rintro e w2 ⟨rfl, hw⟩; subst hw)
      | (go_at_call 39; refine (CL.out _).mono ?_; rintro e w3 ⟨rfl, hx3⟩))
      go_ret
      exact ⟨by rw [HV.out]; rfl, by (repeat (first | exact Ext.rfl' _ | assumption | refine Ext.dr ?_ | refine Ext.drN ?_ _ | refine Ext.al ?_ _ | refine Ext.st ?_ (by simp) _ | refine Ext.tr ?_ (by assumption)))⟩
    · rw [ht] at HV
      rw [show str [106, 112, 103] = ⟨#[106, 112, 103]⟩ from rfl] at CL
      clear ht
      go_enter Tryz.func12, Tryz.ntmps12
      go_wp2_with (first
      | (go_at_call 38; refine (C1.out).mono ?_; clear C1; rintro e w2 ⟨rfl, hw⟩; subst hw)
      | (go_at_call 38; refine (C2.out).mono ?_; rintro e w2 ⟨rfl, hw⟩; subst hw)
      | (go_at_call 39; refine (CL.out _).mono ?_; rintro e w3 ⟨rfl, hx3⟩))
      go_ret
      exact ⟨by rw [HV.out]; rfl, by (repeat (first | exact Ext.rfl' _ | assumption | refine Ext.dr ?_ | refine Ext.drN ?_ _ | refine Ext.al ?_ _ | refine Ext.st ?_ (by simp) _ | refine Ext.tr ?_ (by assumption)))⟩
    · rw [ht] at HV
      rw [show str [106, 112, 101, 103] = ⟨#[106, 112, 101, 103]⟩ from rfl] at CL
      clear ht
      go_enter Tryz.func12, Tryz.ntmps12
      go_wp2_with (first
      | (go_at_call 38; refine (C1.out).mono ?_; clear C1; rintro e w2 ⟨rfl, hw⟩; subst hw)
      | (go_at_call 38; refine (C2.out).mono ?_; rintro e w2 ⟨rfl, hw⟩; subst hw)
      | (go_at_call 39; refine (CL.out _).mono ?_; rintro e w3 ⟨rfl, hx3⟩))
      go_ret
      exact ⟨by rw [HV.out]; rfl, by (repeat (first | exact Ext.rfl' _ | assumption | refine Ext.dr ?_ | refine Ext.drN ?_ _ | refine Ext.al ?_ _ | refine Ext.st ?_ (by simp) _ | refine Ext.tr ?_ (by assumption)))⟩
    · rw [ht] at HV
      rw [show str [103, 122] = ⟨#[103, 122]⟩ from rfl] at CL
      clear ht
      go_enter Tryz.func12, Tryz.ntmps12
      go_wp2_with (first
      | (go_at_call 38; refine (C1.out).mono ?_; clear C1; rintro e w2 ⟨rfl, hw⟩; subst hw)
      | (go_at_call 38; refine (C2.out).mono ?_; rintro e w2 ⟨rfl, hw⟩; subst hw)
      | (go_at_call 39; refine (CL.out _).mono ?_; rintro e w3 ⟨rfl, hx3⟩))
      go_ret
      exact ⟨by rw [HV.out]; rfl, by (repeat (first | exact Ext.rfl' _ | assumption | refine Ext.dr ?_ | refine Ext.drN ?_ _ | refine Ext.al ?_ _ | refine Ext.st ?_ (by simp) _ | refine Ext.tr ?_ (by assumption)))⟩
    · rw [ht] at HV
      obtain ⟨sv, hsv⟩ : ∃ x, x = str lo := ⟨_, rfl⟩
      obtain ⟨k0, k1, k2, k3, k4, k5, k6, k7, k8, k9, k10⟩ := hno
      have g0 : ¬ sv.toList = [104, 116, 109, 108] := fun h => k0 (by rw [hsv] at h; simpa using h)
      have f0 : (sv.toList == [104, 116, 109, 108]) = false := by rw [beq_eq_false_iff_ne]; exact g0
      have g1 : ¬ sv.toList = [104, 116, 109] := fun h => k1 (by rw [hsv] at h; simpa using h)
      have f1 : (sv.toList == [104, 116, 109]) = false := by rw [beq_eq_false_iff_ne]; exact g1
      have g2 : ¬ sv.toList = [99, 115, 115] := fun h => k2 (by rw [hsv] at h; simpa using h)
      have f2 : (sv.toList == [99, 115, 115]) = false := by rw [beq_eq_false_iff_ne]; exact g2
      have g3 : ¬ sv.toList = [106, 115] := fun h => k3 (by rw [hsv] at h; simpa using h)
      have f3 : (sv.toList == [106, 115]) = false := by rw [beq_eq_false_iff_ne]; exact g3
      have g4 : ¬ sv.toList = [106, 115, 111, 110] := fun h => k4 (by rw [hsv] at h; simpa using h)
      have f4 : (sv.toList == [106, 115, 111, 110]) = false := by rw [beq_eq_false_iff_ne]; exact g4
      have g5 : ¬ sv.toList = [116, 120, 116] := fun h => k5 (by rw [hsv] at h; simpa using h)
      have f5 : (sv.toList == [116, 120, 116]) = false := by rw [beq_eq_false_iff_ne]; exact g5
      have g6 : ¬ sv.toList = [115, 118, 103] := fun h => k6 (by rw [hsv] at h; simpa using h)
      have f6 : (sv.toList == [115, 118, 103]) = false := by rw [beq_eq_false_iff_ne]; exact g6
      have g7 : ¬ sv.toList = [112, 110, 103] := fun h => k7 (by rw [hsv] at h; simpa using h)
      have f7 : (sv.toList == [112, 110, 103]) = false := by rw [beq_eq_false_iff_ne]; exact g7
      have g8 : ¬ sv.toList = [106, 112, 103] := fun h => k8 (by rw [hsv] at h; simpa using h)
      have f8 : (sv.toList == [106, 112, 103]) = false := by rw [beq_eq_false_iff_ne]; exact g8
      have g9 : ¬ sv.toList = [106, 112, 101, 103] := fun h => k9 (by rw [hsv] at h; simpa using h)
      have f9 : (sv.toList == [106, 112, 101, 103]) = false := by rw [beq_eq_false_iff_ne]; exact g9
      have g10 : ¬ sv.toList = [103, 122] := fun h => k10 (by rw [hsv] at h; simpa using h)
      have f10 : (sv.toList == [103, 122]) = false := by rw [beq_eq_false_iff_ne]; exact g10
      rw [← hsv] at CL
      clear ht hsv k0 k1 k2 k3 k4 k5 k6 k7 k8 k9 k10
      go_enter Tryz.func12, Tryz.ntmps12
      go_wp2_with (first
      | (go_at_call 38; refine (C1.out).mono ?_; clear C1; rintro e w2 ⟨rfl, hw⟩; subst hw)
      | (go_at_call 38; refine (C2.out).mono ?_; rintro e w2 ⟨rfl, hw⟩; subst hw)
      | (go_at_call 39; refine (CL.out _).mono ?_; rintro e w3 ⟨rfl, hx3⟩))
      go_ret
      exact ⟨by rw [HV.out]; rfl, by (repeat (first | exact Ext.rfl' _ | assumption | refine Ext.dr ?_ | refine Ext.drN ?_ _ | refine Ext.al ?_ _ | refine Ext.st ?_ (by simp) _ | refine Ext.tr ?_ (by assumption)))⟩
end Go.Proofs.YtemdgilifnhdpaaGreatDoor
end
