/-
The document's world: what is written into it.
-/
import Derived.Test.YtemdgilifnhdpaaGreatDoorZaw
import Derived.Test.YtemdgilifnhdpaaGreatDoorZav
import Derived.Test.YtemdgilifnhdpaaGreatDoorZao
set_option linter.unusedVariables false
set_option linter.unusedSimpArgs false
section
namespace Go.Proofs.YtemdgilifnhdpaaGreatDoor
open Go.RowKit

section
variable {w w' : World} {o o' : Ow} {k p size n c : Nat}
theorem Sl.setc {g f : Nat} {xs : List Value} (h : Sl w o k size (some ⟨g, f, none⟩) n c xs) (j : Nat) (hj : j < xs.length) (u : Value) :
    Sl (w.setCell ⟨g, f + j, none⟩ u) o k size (some ⟨g, f, none⟩) n c (xs.set j u) ∧ Stp (fun i => i = k) w o (w.setCell ⟨g, f + j, none⟩ u) o ∧ (∃ x, w.cell? ⟨g, f + j, none⟩ = some x) ∧ w.frozen? ⟨g, f + j, none⟩ = false := by
  have hl := h.len
  have hc := h.le
  rcases h.at_ with h0 | ⟨g', f', hA, ho, hg, hr, hm⟩
  · have hz : n = 0 := by omega
    rw [hz, Nat.zero_mul] at hl
    omega
  · cases hA
    have hjc : j < c * size := Nat.lt_of_lt_of_le hj (by rw [hl]; exact Nat.mul_le_mul_right _ hc)
    have hx := hr j xs[j] (List.getElem?_eq_getElem hj)
    have st : Stp (fun i => i = k) w o (w.setCell ⟨g, f + j, none⟩ u) o := Stp.set g (f + j) u (fun _ => ho)
    refine ⟨⟨by rw [List.length_set]; exact hl, hc, h.max, .inr ⟨g, f, rfl, ho, Nat.lt_of_lt_of_le hg st.size, fun i v hv => ?_, fun i hi => ?_⟩⟩, st, ⟨_, hx⟩, (hm j hjc).2⟩
    · by_cases hij : i = j
      · subst hij
        rw [List.getElem?_set_self hj] at hv
        injection hv with hv
        subst hv
        have := World.cell?_setCells_in g [u] (f + i) w (fun z hz => by
          simp at hz; subst hz; rw [Nat.add_zero, hx]; rfl) 0 (by simp)
        simpa [World.setCells] using this
      · rw [List.getElem?_set_ne (fun e => hij e.symm)] at hv
        have := World.cell?_setCells_out g [u] (f + j) w ⟨g, f + i, none⟩ (fun _ _ => by
          show f + i < f + j ∨ f + j + [u].length ≤ f + i
          simp; omega)
        rw [show w.setCell ⟨g, f + j, none⟩ u = w.setCells g (f + j) [u] from by simp [World.setCells], this]
        exact hr i v hv
    · have e : w.setCell ⟨g, f + j, none⟩ u = w.setCells g (f + j) [u] := by simp [World.setCells]
      rw [e]
      exact ⟨World.isSome_setCells _ _ _ _ _ (hm i hi).1, by rw [World.frozen?_setCells]; exact (hm i hi).2⟩
end
structure RwM (w : World) (o : Ow) (k p : Nat) (s : Wrl) (fl : List FE) (A : Option Addr) (c : Nat) (B : Option Addr) (d : Nat) : Prop where
  own : o p = k
  row : Rrow w p s A c B d fl.length
  fa : Sl w o (k + 1) 3 A fl.length c (flC fl)
  na : A = none → c = 0
  fb : Sl w o (k + 2) 1 B fl.length d (vc fl)
  nb : B = none → d = 0
  each : ∀ x ∈ fl, Sl w o (k + 3) 1 x.A x.f.b.length x.c (bc x.f.b)
section
variable {w w' : World} {o o' : Ow} {k p : Nat} {s : Wrl} {fl : List FE} {A B : Option Addr} {c d : Nat}
theorem RwAt.mem (h : RwAt w o k p s) : ∃ A c B d fl, RwM w o k p s fl A c B d ∧ fl.map feP = s.L := by
  obtain ⟨A, c, B, d, fl, hh, ha, na, hb, nb, hl, he⟩ := h.row
  exact ⟨A, c, B, d, fl, ⟨h.own, hh, ha, na, hb, nb, he⟩, hl⟩
theorem RwM.at_ (h : RwM w o k p s fl A c B d) {s' : Wrl} (h1 : s'.now = s.now) (h2 : s'.ver = s.ver) (hl : fl.map feP = s'.L) : RwAt w o k p s' :=
  ⟨h.own, A, c, B, d, fl, by have := h.row; unfold Rrow Wrl.rcells at *; rw [h1, h2]; exact this, h.fa, h.na, h.fb, h.nb, hl, h.each⟩
theorem RwM.stp {K : Nat → Prop} (h : RwM w o k p s fl A c B d) (st : Stp K w o w' o') (h0 : ¬ K k) (h1 : ¬ K (k + 1)) (h2 : ¬ K (k + 2)) (h3 : ¬ K (k + 3)) : RwM w' o' k p s fl A c B d :=
  ⟨by rw [st.own p (row_lt h.row)]; exact h.own, h.row.stp st (by rw [h.own]; exact h0), h.fa.stp st h1, h.na, h.fb.stp st h2, h.nb, fun x hx => (h.each x hx).stp st h3⟩
theorem RwM.ext (h : RwM w o k p s fl A c B d) (e : Ext w w') : RwM w' o k p s fl A c B d := h.stp (K := fun _ => False) (Stp.ext e) (fun x => x) (fun x => x) (fun x => x) (fun x => x)
theorem RwM.ver1 (h : RwM w o k p s fl A c B d) (v : Nat) (vi : Int) (hv : vi = (v : Int)) : RwM (w.setCell ⟨p, 3, none⟩ (.int .i64 vi)) o k p ⟨s.L, s.now, v⟩ fl A c B d ∧ Stp (KR k) w o (w.setCell ⟨p, 3, none⟩ (.int .i64 vi)) o := by
  subst hv
  have st : Stp (fun i => i = k) w o (w.setCell ⟨p, 3, none⟩ (.int .i64 (v : Int))) o := Stp.set p 3 _ (fun _ => h.own)
  exact ⟨⟨h.own, row_set h.row 3 _, h.fa.stp st (by omega), h.na, h.fb.stp st (by omega), h.nb, fun x hx => (h.each x hx).stp st (by omega)⟩, st.mono fun i hi => .inl hi⟩
theorem vc_set (fl : List FE) (i : Nat) (x : FE) : vc (fl.set i x) = (vc fl).set i (.int .i64 (x.f.ve : Int)) := by simp [vc, List.map_set]
theorem flC_set {fl : List FE} {i : Nat} (hi : i < fl.length) (x : FE) (hx : x.l = fl[i].l) : flC (fl.set i x) = ((flC fl).set (i * 3 + 1) (.slice x.A x.f.b.length x.c)).set (i * 3 + 2) (.int .i64 x.f.mt) := by
  refine List.ext_getElem? fun j => ?_
  have hj : j / 3 * 3 + j % 3 = j := by omega
  have e1 := flC_at (fl.set i x) (j / 3) (j % 3) (by omega)
  have e2 := flC_at fl (j / 3) (j % 3) (by omega)
  rw [hj] at e1 e2
  rw [e1]
  by_cases hq : j / 3 = i
  · rw [hq] at e2 ⊢
    rw [List.getElem?_set_self hi]
    have hr : j % 3 = 0 ∨ j % 3 = 1 ∨ j % 3 = 2 := by omega
    rw [List.getElem?_eq_getElem hi] at e2
    rcases hr with hr | hr | hr
    · rw [hr] at e2 ⊢
      rw [List.getElem?_set_ne (by omega), List.getElem?_set_ne (by omega), e2]
      simp [feC, hx]
    · rw [hr]
      rw [List.getElem?_set_ne (by omega), show j = i * 3 + 1 from by omega, List.getElem?_set_self (by rw [flC_len]; omega)]
      simp [feC]
    · rw [hr]
      rw [show j = i * 3 + 2 from by omega, List.getElem?_set_self (by rw [List.length_set, flC_len]; omega)]
      simp [feC]
  · rw [List.getElem?_set_ne (fun e => hq e.symm), List.getElem?_set_ne (by omega), List.getElem?_set_ne (by omega), e2]
theorem flC_body {fl : List FE} {i : Nat} (hi : i < fl.length) (A : Option Addr) (c : Nat) (b : List UInt8) : flC (fl.set i ⟨fl[i].l, A, c, ⟨b, fl[i].f.mt, fl[i].f.ve⟩⟩) = (flC fl).set (i * 3 + 1) (.slice A b.length c) := by
  rw [flC_set hi ⟨fl[i].l, A, c, ⟨b, fl[i].f.mt, fl[i].f.ve⟩⟩ rfl]
  refine List.ext_getElem? fun j => ?_
  by_cases h : j = i * 3 + 2
  · subst h
    rw [List.getElem?_set_self (by rw [List.length_set, flC_len]; omega), List.getElem?_set_ne (by omega), flC_at fl i 2 (by omega), List.getElem?_eq_getElem hi]
    simp [feC]
  · rw [List.getElem?_set_ne (fun e => h e.symm)]
theorem flC_mt {fl : List FE} {i : Nat} (hi : i < fl.length) (mt : Int) : flC (fl.set i ⟨fl[i].l, fl[i].A, fl[i].c, ⟨fl[i].f.b, mt, fl[i].f.ve⟩⟩) = (flC fl).set (i * 3 + 2) (.int .i64 mt) := by
  rw [flC_set hi ⟨fl[i].l, fl[i].A, fl[i].c, ⟨fl[i].f.b, mt, fl[i].f.ve⟩⟩ rfl]
  refine List.ext_getElem? fun j => ?_
  by_cases h : j = i * 3 + 2
  · subst h
    rw [List.getElem?_set_self (by rw [List.length_set, flC_len]; omega), List.getElem?_set_self (by rw [flC_len]; omega)]
  · rw [List.getElem?_set_ne (fun e => h e.symm), List.getElem?_set_ne (fun e => h e.symm)]
    by_cases h1 : j = i * 3 + 1
    · subst h1
      rw [List.getElem?_set_self (by rw [flC_len]; omega), flC_at fl i 1 (by omega), List.getElem?_eq_getElem hi]
      simp [feC]
    · rw [List.getElem?_set_ne (fun e => h1 e.symm)]
theorem flC_ve {fl : List FE} {i : Nat} (hi : i < fl.length) (ve : Nat) : flC (fl.set i ⟨fl[i].l, fl[i].A, fl[i].c, ⟨fl[i].f.b, fl[i].f.mt, ve⟩⟩) = flC fl := by
  rw [flC_set hi ⟨fl[i].l, fl[i].A, fl[i].c, ⟨fl[i].f.b, fl[i].f.mt, ve⟩⟩ rfl]
  refine List.ext_getElem? fun j => ?_
  by_cases h : j = i * 3 + 2
  · subst h
    rw [List.getElem?_set_self (by rw [List.length_set, flC_len]; omega), flC_at fl i 2 (by omega), List.getElem?_eq_getElem hi]
    simp [feC]
  · rw [List.getElem?_set_ne (fun e => h e.symm)]
    by_cases h1 : j = i * 3 + 1
    · subst h1
      rw [List.getElem?_set_self (by rw [flC_len]; omega), flC_at fl i 1 (by omega), List.getElem?_eq_getElem hi]
      simp [feC]
    · rw [List.getElem?_set_ne (fun e => h1 e.symm)]
theorem vc_keep {fl : List FE} {i : Nat} (hi : i < fl.length) (x : FE) (hx : x.f.ve = fl[i].f.ve) : vc (fl.set i x) = vc fl := by
  rw [vc_set, hx]
  refine List.ext_getElem? fun j => ?_
  by_cases h : j = i
  · subst h; rw [List.getElem?_set_self (by simpa using hi)]; simp [vc, hi]
  · rw [List.getElem?_set_ne (fun e => h e.symm)]
theorem mem_set' {fl : List FE} {i : Nat} {x y : FE} (h : y ∈ fl.set i x) : y = x ∨ y ∈ fl := (List.mem_or_eq_of_mem_set h).symm
theorem RwM.body {bA gA : Nat} (h : RwM w o k p s fl (some ⟨bA, gA, none⟩) c B d) {i : Nat} (hi : i < fl.length) {A5 : Option Addr} {c5 : Nat} {b : List UInt8} (hs : Sl w o (k + 3) 1 A5 b.length c5 (bc b)) :
    RwM (w.setCell ⟨bA, gA + (i * 3 + 1), none⟩ (.slice A5 b.length c5)) o k p s (fl.set i ⟨fl[i].l, A5, c5, ⟨b, fl[i].f.mt, fl[i].f.ve⟩⟩) (some ⟨bA, gA, none⟩) c B d ∧ Stp (KR k) w o (w.setCell ⟨bA, gA + (i * 3 + 1), none⟩ (.slice A5 b.length c5)) o ∧ (∃ x, w.cell? ⟨bA, gA + (i * 3 + 1), none⟩ = some x) ∧ w.frozen? ⟨bA, gA + (i * 3 + 1), none⟩ = false := by
  obtain ⟨h1, st, h3, h4⟩ := h.fa.setc (i * 3 + 1) (by rw [flC_len]; omega) (.slice A5 b.length c5)
  refine ⟨⟨h.own, ?_, ?_, fun h => (by cases h), ?_, h.nb, fun y hy => ?_⟩, st.mono fun i hi => .inr (.inl hi), h3, h4⟩
  · rw [List.length_set]; exact h.row.stp st (by rw [h.own]; omega)
  · rw [List.length_set, flC_body hi]; exact h1
  · rw [List.length_set, vc_keep hi ⟨fl[i].l, A5, c5, ⟨b, fl[i].f.mt, fl[i].f.ve⟩⟩ rfl]; exact h.fb.stp st (by omega)
  · rcases mem_set' hy with rfl | hy
    · exact hs.stp st (by omega)
    · exact (h.each y hy).stp st (by omega)
theorem RwM.mtime {bA gA : Nat} (h : RwM w o k p s fl (some ⟨bA, gA, none⟩) c B d) {i : Nat} (hi : i < fl.length) (mt : Int) :
    RwM (w.setCell ⟨bA, gA + (i * 3 + 2), none⟩ (.int .i64 mt)) o k p s (fl.set i ⟨fl[i].l, fl[i].A, fl[i].c, ⟨fl[i].f.b, mt, fl[i].f.ve⟩⟩) (some ⟨bA, gA, none⟩) c B d ∧ Stp (KR k) w o (w.setCell ⟨bA, gA + (i * 3 + 2), none⟩ (.int .i64 mt)) o ∧ (∃ x, w.cell? ⟨bA, gA + (i * 3 + 2), none⟩ = some x) ∧ w.frozen? ⟨bA, gA + (i * 3 + 2), none⟩ = false := by
  obtain ⟨h1, st, h3, h4⟩ := h.fa.setc (i * 3 + 2) (by rw [flC_len]; omega) (.int .i64 mt)
  refine ⟨⟨h.own, ?_, ?_, fun h => (by cases h), ?_, h.nb, fun y hy => ?_⟩, st.mono fun i hi => .inr (.inl hi), h3, h4⟩
  · rw [List.length_set]; exact h.row.stp st (by rw [h.own]; omega)
  · rw [List.length_set, flC_mt hi]; exact h1
  · rw [List.length_set, vc_keep hi ⟨fl[i].l, fl[i].A, fl[i].c, ⟨fl[i].f.b, mt, fl[i].f.ve⟩⟩ rfl]; exact h.fb.stp st (by omega)
  · rcases mem_set' hy with rfl | hy
    · exact (h.each fl[i] (List.getElem_mem hi)).stp st (by omega)
    · exact (h.each y hy).stp st (by omega)
theorem RwM.vers {bB gB : Nat} (h : RwM w o k p s fl A c (some ⟨bB, gB, none⟩) d) {i : Nat} (hi : i < fl.length) (ve : Nat) (vi : Int) (hv : vi = (ve : Int)) :
    RwM (w.setCell ⟨bB, gB + i, none⟩ (.int .i64 vi)) o k p s (fl.set i ⟨fl[i].l, fl[i].A, fl[i].c, ⟨fl[i].f.b, fl[i].f.mt, ve⟩⟩) A c (some ⟨bB, gB, none⟩) d ∧ Stp (KR k) w o (w.setCell ⟨bB, gB + i, none⟩ (.int .i64 vi)) o ∧ (∃ x, w.cell? ⟨bB, gB + i, none⟩ = some x) ∧ w.frozen? ⟨bB, gB + i, none⟩ = false := by
  subst hv
  obtain ⟨h1, st, h3, h4⟩ := h.fb.setc i (by rw [vc_len]; omega) (.int .i64 (ve : Int))
  refine ⟨⟨h.own, ?_, ?_, h.na, ?_, fun h => (by cases h), fun y hy => ?_⟩, st.mono fun i hi => .inr (.inr hi), h3, h4⟩
  · rw [List.length_set]; exact h.row.stp st (by rw [h.own]; omega)
  · rw [List.length_set, flC_ve hi]; exact h.fa.stp st (by omega)
  · rw [List.length_set, vc_set]; exact h1
  · rcases mem_set' hy with rfl | hy
    · exact (h.each fl[i] (List.getElem_mem hi)).stp st (by omega)
    · exact (h.each y hy).stp st (by omega)
end
end Go.Proofs.YtemdgilifnhdpaaGreatDoor
end

section
namespace Go.Proofs.YtemdgilifnhdpaaGreatDoor
open Go.RowKit

set_option maxRecDepth 100000 in
set_option maxHeartbeats 4000000 in
theorem rwPut_bad (q : Option Addr) (l : List UInt8) (hl : l.length ≤ 140737488355328) (B : Option Addr) (n d : Nat) (hp : pathF l = false) (w : World) :
    Calls Tryz.prog 43 #[.pointer q, .string (str l), .slice B n d] w (Gives (.int .i64 1) w) := by
  have C := fun w => rClean_c l hl w
  obtain ⟨x, ec, hxe⟩ : ∃ x ec, cleanL l = (x, ec) := ⟨_, _, rfl⟩
  rw [hxe] at C
  dsimp only at C
  by_cases h1 : ec = 0
  · subst h1
    by_cases h2 : x = l
    · subst h2
      have hlast : x.getLast? = some 47 := by
        unfold pathF at hp
        rw [hxe] at hp
        simpa using hp
      have hn : x ≠ [] := by intro e; subst e; simp at hlast
      have hl0 : 0 < x.length := List.length_pos_iff.2 hn
      have i3 : x.length - 1 < x.length := by omega
      have s1 : IntKind.i64.wrap ((x.length : Int) - 1) = (x.length : Int) - 1 := by rw [IntKind.wrap_i64]; omega
      have t1 : ((x.length : Int) - 1).toNat = x.length - 1 := by omega
      have i1 : (0 : Int) ≤ (x.length : Int) - 1 := by omega
      have i2 : (x.length : Int) - 1 < (x.length : Int) := by omega
      have hb : ((x[x.length - 1].toNat : Int) == 47) = true := by
        rw [List.getLast?_eq_getElem?, List.getElem?_eq_getElem i3] at hlast
        rw [Option.some.inj hlast]; rfl
      have C := Lib.hid C
      clear hxe hlast hp hn
      go_enter Tryz.func43, Tryz.ntmps43
      go_wp2_with (go_at_call 82; refine (C.out _).mono ?_; rintro e w1 ⟨rfl, hx1⟩)
      go_ret
      exact ⟨rfl, by (repeat (first | exact Ext.rfl' _ | assumption | refine Ext.dr ?_ | refine Ext.drN ?_ _ | refine Ext.al ?_ _ | refine Ext.st ?_ (by simp) _ | refine Ext.tr ?_ (by assumption)))⟩
    · obtain ⟨sc, hsc⟩ : ∃ sc, sc = str x := ⟨_, rfl⟩
      obtain ⟨sl, hsl⟩ : ∃ sl, sl = str l := ⟨_, rfl⟩
      rw [← hsc] at C
      rw [← hsl] at C ⊢
      have hne : ¬ sc.toList = sl.toList := by rw [hsc, hsl, str_tl, str_tl]; exact h2
      have hne2 : (sc.toList == sl.toList) = false := by rw [beq_eq_false_iff_ne]; exact hne
      have C := Lib.hid C
      clear hxe hsc hsl hp h2
      go_enter Tryz.func43, Tryz.ntmps43
      go_wp2_with (go_at_call 82; refine (C.out _).mono ?_; rintro e w1 ⟨rfl, hx1⟩)
      go_ret
      exact ⟨rfl, by (repeat (first | exact Ext.rfl' _ | assumption | refine Ext.dr ?_ | refine Ext.drN ?_ _ | refine Ext.al ?_ _ | refine Ext.st ?_ (by simp) _ | refine Ext.tr ?_ (by assumption)))⟩
  · have he : (ec != 0) = true := by rw [bne_iff_ne]; exact h1
    have he2 : (ec == 0) = false := by rw [beq_eq_false_iff_ne]; exact h1
    have C := Lib.hid C
    clear hxe hp
    go_enter Tryz.func43, Tryz.ntmps43
    go_wp2_with (go_at_call 82; refine (C.out _).mono ?_; rintro e w1 ⟨rfl, hx1⟩)
    go_ret
    exact ⟨rfl, by (repeat (first | exact Ext.rfl' _ | assumption | refine Ext.dr ?_ | refine Ext.drN ?_ _ | refine Ext.al ?_ _ | refine Ext.st ?_ (by simp) _ | refine Ext.tr ?_ (by assumption)))⟩
theorem path_last {l : List UInt8} (h : pathF l = true) : ∃ h0 : l.length - 1 < l.length, ((l[l.length - 1].toNat : Int) == 47) = false := by
  have h1 := path_ok h
  have hn : l ≠ [] := by
    intro e; subst e
    have := h1.1
    unfold cleanL at this
    rw [if_neg (by simp)] at this
    cases this
  have hl0 : 0 < l.length := List.length_pos_iff.2 hn
  have i3 : l.length - 1 < l.length := by omega
  refine ⟨i3, ?_⟩
  rw [beq_eq_false_iff_ne]; intro e
  have h2 := h1.2
  rw [suf47, List.getLast?_eq_getElem?, List.getElem?_eq_getElem i3] at h2
  have : l[l.length - 1] = 47 := UInt8.toNat_inj.1 (by show l[l.length - 1].toNat = 47; omega)
  rw [this] at h2; simp at h2
set_option maxRecDepth 100000 in
set_option maxHeartbeats 4000000 in
theorem rwPut_big (w : World) (o : Ow) (k p : Nat) (s : Wrl) (h : RwAt w o k p s) (hk : Wok s) (l : List UInt8) (hl : l.length ≤ 140737488355328) (B : Option Addr) (n d : Nat) (hn : n < 9223372036854775808) (hp : pathF l = true) (hbig : 1048576 < n) :
    Calls Tryz.prog 43 #[.pointer (some ⟨p, 0, none⟩), .string (str l), .slice B n d] w (Gives (.int .i64 6) w) := by
  obtain ⟨i3, hb⟩ := path_last hp
  have s1 : IntKind.i64.wrap ((l.length : Int) - 1) = (l.length : Int) - 1 := by rw [IntKind.wrap_i64]; omega
  have t1 : ((l.length : Int) - 1).toNat = l.length - 1 := by omega
  have i1 : (0 : Int) ≤ (l.length : Int) - 1 := by omega
  have i2 : (l.length : Int) - 1 < (l.length : Int) := by omega
  have C := fun w => rClean_c l hl w
  rw [(path_ok hp).1] at C
  dsimp only at C
  have C := Lib.hid C
  have HRF := Lib.hid (fun w' (e : Ext w w') => rwfind_c w' o k p s (h.ext e) hk l)
  obtain ⟨A, c, D, d', fl, hm, hfe⟩ := h.mem
  have hfl : fl.length = s.L.length := by rw [← hfe, List.length_map]
  have b1 : (1048576 : Int) < (n : Int) := by omega
  go_enter Tryz.func43, Tryz.ntmps43
  go_wp2_with (first
    | (go_at_call 82; refine (C.out _).mono ?_; rintro e w1 ⟨rfl, hx1⟩)
    | (go_at_call 83; refine (HRF.out _ (by (repeat (first | exact Ext.rfl' _ | assumption | refine Ext.dr ?_ | refine Ext.drN ?_ _ | refine Ext.al ?_ _ | refine Ext.st ?_ (by simp) _ | refine Ext.tr ?_ (by assumption))))).mono ?_; rintro e w2 ⟨v, rfl, ⟨r, rfl, hF⟩, hx2⟩))
  go_ret
  exact ⟨rfl, by (repeat (first | exact Ext.rfl' _ | assumption | refine Ext.dr ?_ | refine Ext.drN ?_ _ | refine Ext.al ?_ _ | refine Ext.st ?_ (by simp) _ | refine Ext.tr ?_ (by assumption)))⟩
set_option maxRecDepth 100000 in
set_option maxHeartbeats 4000000 in
theorem rwPut_many (w : World) (o : Ow) (k p : Nat) (s : Wrl) (h : RwAt w o k p s) (hk : Wok s) (l : List UInt8) (hl : l.length ≤ 140737488355328) (B : Option Addr) (n d : Nat) (hn : n < 9223372036854775808) (hp : pathF l = true) (hbig : ¬ 1048576 < n) (hf : lkM s.L l = none) (hlen : s.L.length = 1000) :
    Calls Tryz.prog 43 #[.pointer (some ⟨p, 0, none⟩), .string (str l), .slice B n d] w (Gives (.int .i64 6) w) := by
  obtain ⟨i3, hb⟩ := path_last hp
  have s1 : IntKind.i64.wrap ((l.length : Int) - 1) = (l.length : Int) - 1 := by rw [IntKind.wrap_i64]; omega
  have t1 : ((l.length : Int) - 1).toNat = l.length - 1 := by omega
  have i1 : (0 : Int) ≤ (l.length : Int) - 1 := by omega
  have i2 : (l.length : Int) - 1 < (l.length : Int) := by omega
  have C := fun w => rClean_c l hl w
  rw [(path_ok hp).1] at C
  dsimp only at C
  have C := Lib.hid C
  have HRF := Lib.hid (fun w' (e : Ext w w') => rwfind_c w' o k p s (h.ext e) hk l)
  obtain ⟨A, c, D, d', fl, hm, hfe⟩ := h.mem
  have hfl : fl.length = s.L.length := by rw [← hfe, List.length_map]
  have b1 : ¬ (1048576 : Int) < (n : Int) := by omega
  rw [hlen] at hfl
  have HH := Lib.hid (fun w' (e : Ext w w') => by have := (hm.row.ext e).c0; rw [hfl] at this; exact this)
  clear hfl hlen
  go_enter Tryz.func43, Tryz.ntmps43
  go_wp2_with (first
    | (go_at_call 82; refine (C.out _).mono ?_; rintro e w1 ⟨rfl, hx1⟩)
    | (go_at_call 83; refine (HRF.out _ (by (repeat (first | exact Ext.rfl' _ | assumption | refine Ext.dr ?_ | refine Ext.drN ?_ _ | refine Ext.al ?_ _ | refine Ext.st ?_ (by simp) _ | refine Ext.tr ?_ (by assumption))))).mono ?_; rintro e w2 ⟨v, rfl, ⟨r, rfl, hF⟩, hx2⟩; obtain rfl := found_none hF hk.one hf; have c0 := HH.out w2 (hx1.tr hx2)))
  go_ret
  exact ⟨rfl, by (repeat (first | exact Ext.rfl' _ | assumption | refine Ext.dr ?_ | refine Ext.drN ?_ _ | refine Ext.al ?_ _ | refine Ext.st ?_ (by simp) _ | refine Ext.tr ?_ (by assumption)))⟩
end Go.Proofs.YtemdgilifnhdpaaGreatDoor
end

section
namespace Go.Proofs.YtemdgilifnhdpaaGreatDoor
open Go.RowKit

theorem set3 (fq : List FE) (i : Nat) (hi : i < fq.length) (A : Option Addr) (c : Nat) (b : List UInt8) (mt : Int) (ve : Nat) :
    ∀ (f1 f2 : List FE) (h1 : i < f1.length) (h2 : i < f2.length), f1 = fq.set i ⟨fq[i].l, A, c, ⟨b, fq[i].f.mt, fq[i].f.ve⟩⟩ → f2 = f1.set i ⟨f1[i].l, f1[i].A, f1[i].c, ⟨f1[i].f.b, mt, f1[i].f.ve⟩⟩ →
      f2.set i ⟨f2[i].l, f2[i].A, f2[i].c, ⟨f2[i].f.b, f2[i].f.mt, ve⟩⟩ = fq.set i ⟨fq[i].l, A, c, ⟨b, mt, ve⟩⟩ := by
  rintro f1 f2 h1 h2 rfl rfl
  simp
set_option maxRecDepth 100000 in
set_option maxHeartbeats 8000000 in
theorem rwPut_good (w : World) (o : Ow) (k p : Nat) (s : Wrl) (h : RwAt w o k p s) (hk : Wok s) (l b : List UInt8) (hl : l.length ≤ 140737488355328) (B : Option Addr) (n d : Nat) (hn : n = b.length) (hB : Rd w B (bc b)) (hBk : b = [] ∨ ∀ a, B = some a → a.block < w.heap.size → ¬ KR k (o a.block)) (hp : pathF l = true) (hv : s.ver < 4611686018427387904)
    (hbig : ¬ 1048576 < n) (hfew : (lkM s.L l).isSome = true ∨ s.L.length ≠ 1000) :
    Calls Tryz.prog 43 #[.pointer (some ⟨p, 0, none⟩), .string (str l), .slice B n d] w (Turns (KR k) w o fun v w' o' => v = .int .i64 0 ∧ RwAt w' o' k p ⟨putM s.L l ⟨b, s.now, s.ver + 1⟩, s.now, s.ver + 1⟩) := by
  have HBR := Lib.hid hB
  have HBL := Lib.hid hn
  have HBK := Lib.hid hBk
  clear hB hn hBk
  obtain ⟨i3, hb⟩ := path_last hp
  have s1 : IntKind.i64.wrap ((l.length : Int) - 1) = (l.length : Int) - 1 := by rw [IntKind.wrap_i64]; omega
  have t1 : ((l.length : Int) - 1).toNat = l.length - 1 := by omega
  have i1 : (0 : Int) ≤ (l.length : Int) - 1 := by omega
  have i2 : (l.length : Int) - 1 < (l.length : Int) := by omega
  have C := fun w => rClean_c l hl w
  rw [(path_ok hp).1] at C
  dsimp only at C
  have C := Lib.hid C
  have HRF := Lib.hid (fun w' (e : Ext w w') => rwfind_c w' o k p s (h.ext e) hk l)
  obtain ⟨A, c, D, d', fl, hm, hfe⟩ := h.mem
  have hfl : fl.length = s.L.length := by rw [← hfe, List.length_map]
  have b1 : ¬ (1048576 : Int) < (n : Int) := by omega
  have hvw : IntKind.i64.wrap ((s.ver : Int) + 1) = (s.ver : Int) + 1 := by rw [IntKind.wrap_i64]; omega
  have HM := Lib.hid hm
  have HFE := Lib.hid hfe
  clear hm hfe
  cases hf : lkM s.L l with
  | some f =>
    have FS : Hid (∀ r, FoundAt s.L l r → ∃ i : Nat, r = (i : Int) ∧ i < fl.length ∧ ∃ hi : i < s.L.length, s.L[i].1 = l) := Lib.hid (fun r hr => by
      obtain ⟨i, hi, rfl, hil⟩ := found_some hr hk.one hf
      exact ⟨i, rfl, by rw [hfl]; exact hi, hi, by rw [hil]⟩)
    obtain ⟨NQ, hNQ⟩ : ∃ NQ, fl.length = NQ := ⟨_, rfl⟩
    have HNQ := Lib.hid hNQ
    rw [hNQ] at FS
    clear hfl hfew hf hNQ
    go_enter Tryz.func43, Tryz.ntmps43
    go_wp2_with (first
      | (go_at_call 82; refine (C.out _).mono ?_; rintro e w1 ⟨rfl, hx1⟩)
      | (go_at_call 83; refine (HRF.out _ (by (repeat (first | exact Ext.rfl' _ | assumption | refine Ext.dr ?_ | refine Ext.drN ?_ _ | refine Ext.al ?_ _ | refine Ext.st ?_ (by simp) _ | refine Ext.tr ?_ (by assumption))))).mono ?_; rintro e w2 ⟨v, rfl, ⟨r, rfl, hF⟩, hx2⟩; obtain ⟨i, rfl, hiN, his, hil⟩ := FS.out r hF; have X2 : Ext w w2 := hx1.tr hx2; have c3 := (HM.out.row.ext X2).c3; have f3 := (HM.out.row.ext X2).fz 3 (by omega); have hng : ¬ (i : Int) < 0 := (by omega); have hk0 : (0 : Int) ≤ (i : Int) := (by omega); have hk1 : (i : Int) < (NQ : Int) := (by omega); have HIL := Lib.hid hil; clear hF hil))
    have hiQ : i < fl.length := by rw [HNQ.out]; exact hiN
    obtain ⟨bA, gA, rfl, _, _⟩ := HM.out.fa.rd.at_ (by rw [flC_len]; omega)
    obtain ⟨bB, gB, rfl, _, _⟩ := HM.out.fb.rd.at_ (by rw [vc_len]; omega)
    have hmQ := HM.out.ext X2
    have stQ : Stp (KR k) w o w2 o := Stp.ext X2
    obtain ⟨WQ, rfl⟩ : ∃ WQ, WQ = w2 := ⟨_, rfl⟩
    obtain ⟨oQ, hoQ⟩ : ∃ oQ, oQ = o := ⟨_, rfl⟩
    obtain ⟨fq, hfq⟩ : ∃ fq, fq = fl := ⟨_, rfl⟩
    obtain ⟨cQ, hcQ⟩ : ∃ cQ, cQ = c := ⟨_, rfl⟩
    rw [← hcQ, ← hfq] at hmQ
    rw [← hfq] at hiQ HNQ
    rw [show RwM WQ o k p s fq (some ⟨bA, gA, none⟩) cQ (some ⟨bB, gB, none⟩) d' = RwM WQ oQ k p s fq (some ⟨bA, gA, none⟩) cQ (some ⟨bB, gB, none⟩) d' from by rw [hoQ]] at hmQ
    rw [show Stp (KR k) w o WQ o = Stp (KR k) w o WQ oQ from by rw [hoQ]] at stQ
    clear hoQ c3 f3
    have HFQ := Lib.hid hfq
    clear hfq hcQ
    obtain ⟨m1, st1⟩ := hmQ.ver1 (s.ver + 1) ((s.ver : Int) + 1) (by push_cast; rfl)
    have rdQ : Rd (WQ.setCell ⟨p, 3, none⟩ (.int .i64 ((s.ver : Int) + 1))) B (bc b) := by
      rcases HBK.out with h0 | h0
      · exact .inl (by rw [h0]; rfl)
      · exact HBR.out.stp (stQ.tr st1) h0
    obtain ⟨W2, hW2⟩ : ∃ W2, W2 = WQ.setCell ⟨p, 3, none⟩ (.int .i64 ((s.ver : Int) + 1)) := ⟨_, rfl⟩
    rw [← hW2] at m1 st1 rdQ ⊢
    have stA := stQ.tr st1
    clear hW2 st1
    obtain ⟨A5, c5, w5, o5, hr5, hs5, st5, hn5⟩ := run_copy (k + 3) W2.drew oQ b B n d HBL.out (rdQ.ext (by (repeat (first | exact Ext.rfl' _ | assumption | refine Ext.dr ?_ | refine Ext.drN ?_ _ | refine Ext.al ?_ _ | refine Ext.st ?_ (by simp) _ | refine Ext.tr ?_ (by assumption))))) (by omega) 22
    have hr5 : (Builtin.append_ #[22, 22] 22 #[.slice (some ⟨W2.heap.size, 0, none⟩) 0 0, .slice B n d]).run Tryz.prog (W2.alloc (.cells #[] 5)).drew = .ok (.slice A5 n c5) w5 := hr5
    have st5 : Stp (fun _ => False) W2 oQ w5 o5 := (Stp.ext (by (repeat (first | exact Ext.rfl' _ | assumption | refine Ext.dr ?_ | refine Ext.drN ?_ _ | refine Ext.al ?_ _ | refine Ext.st ?_ (by simp) _ | refine Ext.tr ?_ (by assumption))))).tr st5
    have m5 := m1.stp st5 (fun x => x) (fun x => x) (fun x => x) (fun x => x)
    have hnb := HBL.out
    rw [hnb] at hs5
    obtain ⟨m6, st6, ⟨u6, hu6⟩, hf6⟩ := m5.body hiQ hs5
    rw [← hnb] at m6 st6
    have q1 := m1.row.c0
    have q5 := m5.row.c0
    have q6 := m6.row.c0
    have stB := stA.tr ((st5.mono fun _ h => h.elim).tr st6)
    have i6 : i < (fq.set i ⟨fq[i].l, A5, c5, ⟨b, fq[i].f.mt, fq[i].f.ve⟩⟩).length := by rw [List.length_set]; exact hiQ
    have hlq6 : (fq.set i ⟨fq[i].l, A5, c5, ⟨b, fq[i].f.mt, fq[i].f.ve⟩⟩).length = NQ := by rw [List.length_set]; exact HNQ.out
    rw [HNQ.out] at q1 q5
    rw [hlq6] at q6
    obtain ⟨f1, hf1⟩ : ∃ f1, f1 = fq.set i ⟨fq[i].l, A5, c5, ⟨b, fq[i].f.mt, fq[i].f.ve⟩⟩ := ⟨_, rfl⟩
    rw [← hf1] at m6 i6 hlq6
    have F1 := Lib.hid hf1
    rw [← Nat.add_assoc] at hu6 hf6 m6 st6 q6 stB
    have F0 := Lib.hid (fun w' (e : Ext W2 w') => (e.cell (p := ⟨p, 0, none⟩) (lt_of_cell q1)).trans q1)
    clear st6 m1 m5 hf1 st5 rdQ stA hs5 hn5 hnb
    go_region_held3 (fun w' => w'.cell? ⟨p, 0, none⟩ = some (.slice (some ⟨bA, gA, none⟩) NQ cQ)) (first | exact q1 | exact q5 | exact q6 | (apply F0.out; (repeat (first | exact Ext.rfl' _ | assumption | refine Ext.dr ?_ | refine Ext.drN ?_ _ | refine Ext.al ?_ _ | refine Ext.st ?_ (by simp) _ | refine Ext.tr ?_ (by assumption))))) (first
      | (refine step_run (.tmp 87) (.tmp 88) rfl rfl rfl rfl hr5 ?_))
    go_wp2
    obtain ⟨W6, hW6⟩ : ∃ W6, W6 = w5.setCell ⟨bA, gA + i * 3 + 1, none⟩ (.slice A5 n c5) := ⟨_, rfl⟩
    rw [← hW6] at m6 q6 stB ⊢
    have c2 := m6.row.c2
    obtain ⟨m7, st7, ⟨u7, hu7⟩, hf7⟩ := m6.mtime i6 s.now
    have i7 : i < (f1.set i ⟨f1[i].l, f1[i].A, f1[i].c, ⟨f1[i].f.b, s.now, f1[i].f.ve⟩⟩).length := by rw [List.length_set]; exact i6
    have hlq7 : (f1.set i ⟨f1[i].l, f1[i].A, f1[i].c, ⟨f1[i].f.b, s.now, f1[i].f.ve⟩⟩).length = NQ := by rw [List.length_set]; exact hlq6
    obtain ⟨f2, hf2⟩ : ∃ f2, f2 = f1.set i ⟨f1[i].l, f1[i].A, f1[i].c, ⟨f1[i].f.b, s.now, f1[i].f.ve⟩⟩ := ⟨_, rfl⟩
    rw [← hf2] at m7 i7 hlq7
    have F2 := Lib.hid hf2
    rw [← Nat.add_assoc] at hu7 hf7 m7 st7
    clear hf2 hW6 m6 hu6 hf6 q5 q1 F0 hr5
    go_region
    go_wp2
    have m8 := m7.ext (Ext.dr (Ext.rfl' _))
    have stC := stB.tr (st7.tr (Stp.ext (Ext.dr (Ext.rfl' _))))
    obtain ⟨W8, hW8⟩ : ∃ W8, W8 = (W6.setCell ⟨bA, gA + i * 3 + 2, none⟩ (.int .i64 s.now)).drew := ⟨_, rfl⟩
    rw [← hW8] at m8 stC ⊢
    have c1' := m8.row.c1
    have c3' := m8.row.c3
    rw [hlq7] at c1'
    rw [show (((⟨s.L, s.now, s.ver + 1⟩ : Wrl).ver : Nat) : Int) = (s.ver : Int) + 1 from by push_cast; rfl] at c3'
    obtain ⟨m9, st9, ⟨u9, hu9⟩, hf9⟩ := m8.vers i7 (s.ver + 1) ((s.ver : Int) + 1) (by push_cast; rfl)
    clear hW8 m8 m7 hu7 hf7 q6 c2 st7 stB
    go_region
    go_wp2
    go_ret
    have e3 := set3 fq i hiQ A5 c5 b s.now (s.ver + 1) f1 f2 i6 i7 F1.out F2.out
    rw [e3] at m9
    have mA := m9.ext (Ext.dr (Ext.rfl' _))
    refine Turns.mk o5 rfl ⟨rfl, mA.at_ rfl rfl ?_⟩ (stC.tr (st9.tr (Stp.ext (Ext.dr (Ext.rfl' _)))))
    rw [List.map_set]
    have hll : fq[i].l = l := by
      obtain ⟨_, h1, _⟩ := fe_at HFE.out his
      have h2 : fq[i] = fl[i]'(by rw [← HFQ.out]; exact hiQ) := by first | (congr 1; done) | (congr 1; exact HFQ.out)
      rw [h2, h1]; exact HIL.out
    show List.set (fq.map feP) i (fq[i].l, ⟨b, s.now, s.ver + 1⟩) = putM s.L l ⟨b, s.now, s.ver + 1⟩
    rw [hll, HFQ.out, HFE.out, ← HIL.out]
    exact (put_at hk.one his _).symm
  | none =>
    have hfew2 : s.L.length < 1000 := by
      have h1 := hk.few
      rcases hfew with h | h
      · rw [hf] at h; cases h
      · omega
    obtain ⟨N0, hN0⟩ : ∃ N0, fl.length = N0 := ⟨_, rfl⟩
    have HN0 := Lib.hid hN0
    have hN1 : N0 < 1000 := by omega
    have HF := Lib.hid hf
    have hne1 : ((N0 : Int) == 1000) = false := by rw [beq_eq_false_iff_ne]; omega
    have HFL := Lib.hid (hfl.symm.trans hN0)
    clear hfl hfew hf hN0 hfew2
    go_enter Tryz.func43, Tryz.ntmps43
    go_wp2_with (first
      | (go_at_call 82; refine (C.out _).mono ?_; rintro e w1 ⟨rfl, hx1⟩)
      | (go_at_call 83; refine (HRF.out _ (by (repeat (first | exact Ext.rfl' _ | assumption | refine Ext.dr ?_ | refine Ext.drN ?_ _ | refine Ext.al ?_ _ | refine Ext.st ?_ (by simp) _ | refine Ext.tr ?_ (by assumption))))).mono ?_; rintro e w2 ⟨v, rfl, ⟨r, rfl, hF⟩, hx2⟩; obtain rfl := found_none hF hk.one HF.out; have X2 : Ext w w2 := hx1.tr hx2; have R2 := HM.out.row.ext X2; rw [HN0.out] at R2; have c0 := R2.c0; have hc0 := fun x => ((show Ext w2 (w2.alloc x) by (repeat (first | exact Ext.rfl' _ | assumption | refine Ext.dr ?_ | refine Ext.drN ?_ _ | refine Ext.al ?_ _ | refine Ext.st ?_ (by simp) _ | refine Ext.tr ?_ (by assumption)))).cell (p := ⟨p, 0, none⟩) (lt_of_cell c0)).trans c0; have FA := HM.out.fa.ext X2; rw [HN0.out] at FA; have FA := Lib.hid FA; have FB := HM.out.fb.ext X2; rw [HN0.out] at FB; have FB := Lib.hid FB; have R2 := Lib.hid R2; clear hF)
      | (at_builtin; refine wpL_put slt_file (.tmp 59) (.tmp 62) rfl rfl rfl rfl (FA.out.ext (by (repeat (first | exact Ext.rfl' _ | assumption | refine Ext.dr ?_ | refine Ext.drN ?_ _ | refine Ext.al ?_ _ | refine Ext.st ?_ (by simp) _ | refine Ext.tr ?_ (by assumption))))) HM.out.na (Sl.src Tryz.underlying150 (n := 1) (rd_newG _ _ (by simp) [.string (str l), .slice none 0 0, .int .i64 0] 24) (by simp) (by omega) (by simp [Value.oneCell']) _) (by omega) (by simp only [maxLen]; omega) ?_; intro A7 c7 w7 o7 hs7 st7 hn7; have sx7 : Stp (fun i => i = k + 1) w2 o w7 o7 := (Stp.ext (by (repeat (first | exact Ext.rfl' _ | assumption | refine Ext.dr ?_ | refine Ext.drN ?_ _ | refine Ext.al ?_ _ | refine Ext.st ?_ (by simp) _ | refine Ext.tr ?_ (by assumption))))).tr st7; have R7 := R2.out.stp sx7 (by rw [HM.out.own]; omega); have d0 := R7.c0; have g0 := R7.fz 0 (by omega); have d1 := R7.c1; have op7 : o7 p = k := (by rw [sx7.own p (row_lt R2.out)]; exact HM.out.own); have R7 := Lib.hid R7)
      | (at_builtin; refine wpL_put slt_int13 (.tmp 70) (.tmp 71) rfl rfl rfl rfl ((((FB.out.stp sx7 (by omega)).stp (Stp.set (K := fun i => i = k) p 0 (.slice A7 (N0 + 1) c7) (fun _ => op7)) (by omega)).ext (by (repeat (first | exact Ext.rfl' _ | assumption | refine Ext.dr ?_ | refine Ext.drN ?_ _ | refine Ext.al ?_ _ | refine Ext.st ?_ (by simp) _ | refine Ext.tr ?_ (by assumption)))))) HM.out.nb (Sl.src Tryz.underlying151 (n := 1) (rd_newG _ _ (by simp) [.int .i64 0] 3) (by simp) (by omega) (by simp [Value.oneCell']) _) (by omega) (by simp only [maxLen]; omega) ?_; intro A8 c8 w8 o8 hs8 st8 hn8; have sx8 : Stp (fun i => i = k + 2) (w7.setCell ⟨p, 0, none⟩ (.slice A7 (N0 + 1) c7)) o7 w8 o8 := (Stp.ext (by (repeat (first | exact Ext.rfl' _ | assumption | refine Ext.dr ?_ | refine Ext.drN ?_ _ | refine Ext.al ?_ _ | refine Ext.st ?_ (by simp) _ | refine Ext.tr ?_ (by assumption))))).tr st8; have R8 := (sx8.keep p (row_lt (row_set R7.out 0 (.slice A7 (N0 + 1) c7))) (by rw [op7]; omega)).trans (row_set R7.out 0 (.slice A7 (N0 + 1) c7)); have z10 : w8.cell? ⟨p, 1, none⟩ = some (.slice D N0 d') := (row_facts R8 1 _ rfl).1; have z11 : w8.frozen? ⟨p, 1, none⟩ = false := (row_facts R8 1 _ rfl).2; have z30 : w8.cell? ⟨p, 3, none⟩ = some (.int .i64 (s.ver : Int)) := (row_facts R8 3 _ rfl).1; have z31 : w8.frozen? ⟨p, 3, none⟩ = false := (row_facts R8 3 _ rfl).2; have R8 := Lib.hid R8))
    have R9 : Rrow (w8.setCell ⟨p, 1, none⟩ (.slice A8 (N0 + 1) c8)) p s A7 c7 A8 c8 (N0 + 1) := row_set R8.out 1 (.slice A8 (N0 + 1) c8)
    have op8 : o8 p = k := by rw [sx8.own p (row_lt (row_set R7.out 0 (.slice A7 (N0 + 1) c7)))]; exact op7
    have sy7 : Stp (fun i => i = k) w7 o7 (w7.setCell ⟨p, 0, none⟩ (.slice A7 (N0 + 1) c7)) o7 := Stp.set p 0 _ (fun _ => op7)
    have sy8 : Stp (fun i => i = k) w8 o8 (w8.setCell ⟨p, 1, none⟩ (.slice A8 (N0 + 1) c8)) o8 := Stp.set p 1 _ (fun _ => op8)
    have stQ : Stp (KR k) w o (w8.setCell ⟨p, 1, none⟩ (.slice A8 (N0 + 1) c8)) o8 := (Stp.ext X2).tr ((sx7.mono fun i hi => .inr (.inl hi)).tr ((sy7.mono fun i hi => .inl hi).tr ((sx8.mono fun i hi => .inr (.inr hi)).tr (sy8.mono fun i hi => .inl hi))))
    have hmQ : RwM (w8.setCell ⟨p, 1, none⟩ (.slice A8 (N0 + 1) c8)) o8 k p s (fl ++ [⟨l, none, 0, ⟨[], 0, 0⟩⟩]) A7 c7 A8 c8 := by
      have e1 : (fl ++ [(⟨l, none, 0, ⟨[], 0, 0⟩⟩ : FE)]).length = N0 + 1 := by rw [List.length_append, HN0.out]; rfl
      have sz7 : Stp (fun i => i = k + 1 ∨ i = k ∨ i = k + 2) w2 o (w8.setCell ⟨p, 1, none⟩ (.slice A8 (N0 + 1) c8)) o8 := (sx7.mono fun i hi => .inl hi).tr ((sy7.mono fun i hi => .inr (.inl hi)).tr ((sx8.mono fun i hi => .inr (.inr hi)).tr (sy8.mono fun i hi => .inr (.inl hi))))
      refine ⟨op8, by rw [e1]; exact R9, ?_, hn7, ?_, hn8, fun y hy => ?_⟩
      · rw [e1, flC_app]; exact ((hs7.stp sy7 (by omega)).stp sx8 (by omega)).stp sy8 (by omega)
      · rw [e1, show vc (fl ++ [(⟨l, none, 0, ⟨[], 0, 0⟩⟩ : FE)]) = vc fl ++ [.int .i64 0] from by simp [vc]]; exact hs8.stp sy8 (by omega)
      · rcases List.mem_append.1 hy with hy | hy
        · exact ((HM.out.each y hy).ext X2).stp sz7 (by omega)
        · obtain rfl := List.mem_singleton.1 hy
          exact Sl.nil_ _ _ _ _ _
    obtain ⟨WQ, hWQ⟩ : ∃ WQ, WQ = w8.setCell ⟨p, 1, none⟩ (.slice A8 (N0 + 1) c8) := ⟨_, rfl⟩
    rw [← hWQ] at hmQ stQ ⊢
    obtain ⟨fq, hfq⟩ : ∃ fq, fq = fl ++ [(⟨l, none, 0, ⟨[], 0, 0⟩⟩ : FE)] := ⟨_, rfl⟩
    rw [← hfq] at hmQ
    have HFQ := Lib.hid hfq
    have hnq : fq.length = N0 + 1 := by rw [hfq, List.length_append, HN0.out]; rfl
    obtain ⟨NQ, hNQ⟩ : ∃ NQ, NQ = N0 + 1 := ⟨_, rfl⟩
    rw [← hNQ] at hnq ⊢
    have HNQ := Lib.hid hnq
    obtain ⟨i, hi0⟩ : ∃ i, i = N0 := ⟨_, rfl⟩
    rw [← hi0]
    have hiQ : i < fq.length := by rw [hnq]; omega
    have hk0 : (0 : Int) ≤ (i : Int) := by omega
    have hk1 : (i : Int) < (NQ : Int) := by omega
    have hiN : i < NQ := by omega
    have HI0 := Lib.hid hi0
    obtain ⟨bA, gA, rfl, _, _⟩ := hmQ.fa.rd.at_ (by rw [flC_len]; omega)
    obtain ⟨bB, gB, rfl, _, _⟩ := hmQ.fb.rd.at_ (by rw [vc_len]; omega)
    obtain ⟨oQ, hoQ⟩ : ∃ oQ, oQ = o8 := ⟨_, rfl⟩
    rw [← hoQ] at hmQ stQ
    obtain ⟨cQ, hcQ⟩ : ∃ cQ, cQ = c7 := ⟨_, rfl⟩
    rw [← hcQ] at hmQ ⊢
    clear hWQ hfq hnq hNQ hi0 hoQ hcQ z10 z11 z30 z31 R9 op8 sy7 sy8 sx7 sx8 hs7 hs8 st7 st8 hn7 hn8 d0 d1 g0 c0 hc0
    obtain ⟨m1, st1⟩ := hmQ.ver1 (s.ver + 1) ((s.ver : Int) + 1) (by push_cast; rfl)
    have rdQ : Rd (WQ.setCell ⟨p, 3, none⟩ (.int .i64 ((s.ver : Int) + 1))) B (bc b) := by
      rcases HBK.out with h0 | h0
      · exact .inl (by rw [h0]; rfl)
      · exact HBR.out.stp (stQ.tr st1) h0
    obtain ⟨W2, hW2⟩ : ∃ W2, W2 = WQ.setCell ⟨p, 3, none⟩ (.int .i64 ((s.ver : Int) + 1)) := ⟨_, rfl⟩
    rw [← hW2] at m1 st1 rdQ ⊢
    have stA := stQ.tr st1
    clear hW2 st1
    obtain ⟨A5, c5, w5, o5, hr5, hs5, st5, hn5⟩ := run_copy (k + 3) W2.drew oQ b B n d HBL.out (rdQ.ext (by (repeat (first | exact Ext.rfl' _ | assumption | refine Ext.dr ?_ | refine Ext.drN ?_ _ | refine Ext.al ?_ _ | refine Ext.st ?_ (by simp) _ | refine Ext.tr ?_ (by assumption))))) (by omega) 22
    have hr5 : (Builtin.append_ #[22, 22] 22 #[.slice (some ⟨W2.heap.size, 0, none⟩) 0 0, .slice B n d]).run Tryz.prog (W2.alloc (.cells #[] 5)).drew = .ok (.slice A5 n c5) w5 := hr5
    have st5 : Stp (fun _ => False) W2 oQ w5 o5 := (Stp.ext (by (repeat (first | exact Ext.rfl' _ | assumption | refine Ext.dr ?_ | refine Ext.drN ?_ _ | refine Ext.al ?_ _ | refine Ext.st ?_ (by simp) _ | refine Ext.tr ?_ (by assumption))))).tr st5
    have m5 := m1.stp st5 (fun x => x) (fun x => x) (fun x => x) (fun x => x)
    have hnb := HBL.out
    rw [hnb] at hs5
    obtain ⟨m6, st6, ⟨u6, hu6⟩, hf6⟩ := m5.body hiQ hs5
    rw [← hnb] at m6 st6
    have q1 := m1.row.c0
    have q5 := m5.row.c0
    have q6 := m6.row.c0
    have stB := stA.tr ((st5.mono fun _ h => h.elim).tr st6)
    have i6 : i < (fq.set i ⟨fq[i].l, A5, c5, ⟨b, fq[i].f.mt, fq[i].f.ve⟩⟩).length := by rw [List.length_set]; exact hiQ
    have hlq6 : (fq.set i ⟨fq[i].l, A5, c5, ⟨b, fq[i].f.mt, fq[i].f.ve⟩⟩).length = NQ := by rw [List.length_set]; exact HNQ.out
    rw [HNQ.out] at q1 q5
    rw [hlq6] at q6
    obtain ⟨f1, hf1⟩ : ∃ f1, f1 = fq.set i ⟨fq[i].l, A5, c5, ⟨b, fq[i].f.mt, fq[i].f.ve⟩⟩ := ⟨_, rfl⟩
    rw [← hf1] at m6 i6 hlq6
    have F1 := Lib.hid hf1
    rw [← Nat.add_assoc] at hu6 hf6 m6 st6 q6 stB
    have F0 := Lib.hid (fun w' (e : Ext W2 w') => (e.cell (p := ⟨p, 0, none⟩) (lt_of_cell q1)).trans q1)
    clear st6 m1 m5 hf1 st5 rdQ stA hs5 hn5 hnb
    go_region_held3 (fun w' => w'.cell? ⟨p, 0, none⟩ = some (.slice (some ⟨bA, gA, none⟩) NQ cQ)) (first | exact q1 | exact q5 | exact q6 | (apply F0.out; (repeat (first | exact Ext.rfl' _ | assumption | refine Ext.dr ?_ | refine Ext.drN ?_ _ | refine Ext.al ?_ _ | refine Ext.st ?_ (by simp) _ | refine Ext.tr ?_ (by assumption))))) (first
      | (refine step_run (.tmp 87) (.tmp 88) rfl rfl rfl rfl hr5 ?_))
    go_wp2
    obtain ⟨W6, hW6⟩ : ∃ W6, W6 = w5.setCell ⟨bA, gA + i * 3 + 1, none⟩ (.slice A5 n c5) := ⟨_, rfl⟩
    rw [← hW6] at m6 q6 stB ⊢
    have c2 := m6.row.c2
    obtain ⟨m7, st7, ⟨u7, hu7⟩, hf7⟩ := m6.mtime i6 s.now
    have i7 : i < (f1.set i ⟨f1[i].l, f1[i].A, f1[i].c, ⟨f1[i].f.b, s.now, f1[i].f.ve⟩⟩).length := by rw [List.length_set]; exact i6
    have hlq7 : (f1.set i ⟨f1[i].l, f1[i].A, f1[i].c, ⟨f1[i].f.b, s.now, f1[i].f.ve⟩⟩).length = NQ := by rw [List.length_set]; exact hlq6
    obtain ⟨f2, hf2⟩ : ∃ f2, f2 = f1.set i ⟨f1[i].l, f1[i].A, f1[i].c, ⟨f1[i].f.b, s.now, f1[i].f.ve⟩⟩ := ⟨_, rfl⟩
    rw [← hf2] at m7 i7 hlq7
    have F2 := Lib.hid hf2
    rw [← Nat.add_assoc] at hu7 hf7 m7 st7
    clear hf2 hW6 m6 hu6 hf6 q5 q1 F0 hr5
    go_region
    go_wp2
    have m8 := m7.ext (Ext.dr (Ext.rfl' _))
    have stC := stB.tr (st7.tr (Stp.ext (Ext.dr (Ext.rfl' _))))
    obtain ⟨W8, hW8⟩ : ∃ W8, W8 = (W6.setCell ⟨bA, gA + i * 3 + 2, none⟩ (.int .i64 s.now)).drew := ⟨_, rfl⟩
    rw [← hW8] at m8 stC ⊢
    have c1' := m8.row.c1
    have c3' := m8.row.c3
    rw [hlq7] at c1'
    rw [show (((⟨s.L, s.now, s.ver + 1⟩ : Wrl).ver : Nat) : Int) = (s.ver : Int) + 1 from by push_cast; rfl] at c3'
    obtain ⟨m9, st9, ⟨u9, hu9⟩, hf9⟩ := m8.vers i7 (s.ver + 1) ((s.ver : Int) + 1) (by push_cast; rfl)
    clear hW8 m8 m7 hu7 hf7 q6 c2 st7 stB
    go_region
    go_wp2
    go_ret
    have e3 := set3 fq i hiQ A5 c5 b s.now (s.ver + 1) f1 f2 i6 i7 F1.out F2.out
    rw [e3] at m9
    have mA := m9.ext (Ext.dr (Ext.rfl' _))
    refine Turns.mk o5 rfl ⟨rfl, mA.at_ rfl rfl ?_⟩ (stC.tr (st9.tr (Stp.ext (Ext.dr (Ext.rfl' _)))))
    rw [List.map_set]
    show List.set (fq.map feP) i (fq[i].l, ⟨b, s.now, s.ver + 1⟩) = putM s.L l ⟨b, s.now, s.ver + 1⟩
    have hlen : (s.L).length = i := by rw [HI0.out]; exact HFL.out
    have hll : fq[i].l = l := by
      have h2 : fq[i]? = some (⟨l, none, 0, ⟨[], 0, 0⟩⟩ : FE) := by rw [HFQ.out, HI0.out, List.getElem?_append_right (by rw [HN0.out]; exact Nat.le_refl _), HN0.out]; simp
      rw [List.getElem?_eq_getElem hiQ] at h2
      injection h2 with h2; rw [h2]
    rw [hll, HFQ.out, List.map_append, HFE.out, put_end HF.out]
    rw [← hlen, List.set_append_right _ _ (Nat.le_refl _)]
    simp
end Go.Proofs.YtemdgilifnhdpaaGreatDoor
end
