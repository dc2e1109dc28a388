/-
All directives are put into their map.
-/
import Derived.Test.YtmnohicojefhfaaGreatDoorCFd
set_option linter.unusedVariables false
set_option linter.unusedSimpArgs false
namespace Go.Proofs.YtmnohicojefhfaaGreatDoor
open Go.RowKit

set_option maxRecDepth 100000 in
theorem cset_c (G : Nat) (w : World) : Calls Tryz.prog 51 #[.func (.func G) #[] #[]] w fun e w' => ∃ gc, e = .returned (.func (.func 102) #[] #[.pointer (some ⟨gc, 0, none⟩)]) ∧ w'.cell? ⟨gc, 0, none⟩ = some (.func (.func G) #[] #[]) ∧ Ext w w' := by
  have hmf : ∀ (fn : Fn) (first cap : Array Value) (w : World), (Instr.makeFunc fn first cap).run Tryz.prog w = .ok (.func fn first cap) w := fun _ _ _ _ => rfl
  go_enter Tryz.func51, Tryz.ntmps51
  go_wp2
  go_ret
  exact ⟨_, rfl, new_at _ _ _ 0 _ rfl, by (repeat (first | exact Ext.rfl' _ | assumption | refine Ext.dr ?_ | refine Ext.drN ?_ _ | refine Ext.al ?_ _ | refine Ext.st ?_ (by simp) _ | refine Ext.tr ?_ (by assumption)))⟩
/-- What was there stays. -/
structure XK (w0 w w' : World) : Prop where
  x : Ext w0 w'
  k : ∀ a u, w.cell? a = some u → w'.cell? a = some u
theorem XK.ext {w0 w w1 w2 : World} (h : XK w0 w w1) (e : Ext w1 w2) : XK w0 w w2 := ⟨h.x.tr e, fun a u hc => (e.cell (lt_of_cell (h.k a u hc))).trans (h.k a u hc)⟩
theorem XK.turn {w0 w w1 w2 : World} {b : Nat} (h : XK w0 w w1) (t : w1.mapTurned w2 b) (hb : w0.heap.size ≤ b) : XK w0 w w2 := ⟨Ext.gr h.x t.grown (fun k hk => by cases hk; exact hb), fun a u hc => cell_turned t (h.k a u hc)⟩
/-- What outer leaves. -/
def OuterQ (w0 w : World) (b : Nat) (ks : List Dk) (L : List (Dk × Value)) (e : Ending) (w' : World) : Prop := e = .returned (.tuple #[]) ∧ (∃ L', L'.map (·.1) = ks ∧ DAt b (L ++ L') w') ∧ XK w0 w w'
set_option maxRecDepth 100000 in
set_option maxHeartbeats 8000000 in
theorem couter_c (w0 w : World) (b : Nat) (h : DAt b [] w) (hb : w0.heap.size ≤ b) (hx : Ext w0 w) : Calls Tryz.prog 46 #[.map (some b)] w (OuterQ w0 w b [.keep, .body, .store, .conns, .upstream, .peer, .timeout, .retries, .server, .name, .dflt, .location] []) := by
  have H := Lib.hid h
  have X : Hid (XK w0 w w) := Lib.hid ⟨hx, fun _ _ h => h⟩
  have HB := Lib.hid hb
  clear h hx hb
  go_enter Tryz.func46, Tryz.ntmps46
  go_wp2_with (first
    | (go_at_call 51; refine (cset_c _ _).mono ?_; rintro e w1 ⟨gc, rfl, hc1, hx1⟩; have H := Lib.hid (H.out.ext hx1); have X := Lib.hid (X.out.ext hx1); clear hx1)
    | (at_mapUpdate; refine wpL_mput rfl _ _ _ 53 rfl 115 keyedC mapD Tryz.underlying9 rfl H.out.m (Nat.lt_of_le_of_lt (dm_len _) (by simp [maxLen])) (nameD .keep) (by decide) rfl (dirV .keep _) rfl ?_; intro w5 hi5 ht5; have H := Lib.hid (H.out.put (k := .keep) (show FnOk .keep _ _ from ⟨_, rfl, hc1⟩) hi5 ht5); have X := Lib.hid (X.out.turn ht5 HB.out); clear hi5 ht5 hc1)
    | (at_mapUpdate; refine wpL_mput rfl _ _ _ 53 rfl 115 keyedC mapD Tryz.underlying9 rfl H.out.m (Nat.lt_of_le_of_lt (dm_len _) (by simp [maxLen])) (nameD .body) (by decide) rfl (dirV .body _) rfl ?_; intro w5 hi5 ht5; have H := Lib.hid (H.out.put (k := .body) (show FnOk .body _ _ from ⟨_, rfl, hc1⟩) hi5 ht5); have X := Lib.hid (X.out.turn ht5 HB.out); clear hi5 ht5 hc1)
    | (at_mapUpdate; refine wpL_mput rfl _ _ _ 53 rfl 115 keyedC mapD Tryz.underlying9 rfl H.out.m (Nat.lt_of_le_of_lt (dm_len _) (by simp [maxLen])) (nameD .store) (by decide) rfl (dirV .store _) rfl ?_; intro w5 hi5 ht5; have H := Lib.hid (H.out.put (k := .store) (show FnOk .store _ _ from ⟨_, rfl, hc1⟩) hi5 ht5); have X := Lib.hid (X.out.turn ht5 HB.out); clear hi5 ht5 hc1)
    | (at_mapUpdate; refine wpL_mput rfl _ _ _ 53 rfl 115 keyedC mapD Tryz.underlying9 rfl H.out.m (Nat.lt_of_le_of_lt (dm_len _) (by simp [maxLen])) (nameD .conns) (by decide) rfl (dirV .conns _) rfl ?_; intro w5 hi5 ht5; have H := Lib.hid (H.out.put (k := .conns) (show FnOk .conns _ _ from ⟨_, rfl, hc1⟩) hi5 ht5); have X := Lib.hid (X.out.turn ht5 HB.out); clear hi5 ht5 hc1)
    | (at_mapUpdate; refine wpL_mput rfl _ _ _ 53 rfl 115 keyedC mapD Tryz.underlying9 rfl H.out.m (Nat.lt_of_le_of_lt (dm_len _) (by simp [maxLen])) (nameD .upstream) (by decide) rfl (dirV .upstream _) rfl ?_; intro w5 hi5 ht5; have H := Lib.hid (H.out.put (k := .upstream) (show FnOk .upstream _ _ from rfl) hi5 ht5); have X := Lib.hid (X.out.turn ht5 HB.out); clear hi5 ht5)
    | (at_mapUpdate; refine wpL_mput rfl _ _ _ 53 rfl 115 keyedC mapD Tryz.underlying9 rfl H.out.m (Nat.lt_of_le_of_lt (dm_len _) (by simp [maxLen])) (nameD .peer) (by decide) rfl (dirV .peer _) rfl ?_; intro w5 hi5 ht5; have H := Lib.hid (H.out.put (k := .peer) (show FnOk .peer _ _ from rfl) hi5 ht5); have X := Lib.hid (X.out.turn ht5 HB.out); clear hi5 ht5)
    | (at_mapUpdate; refine wpL_mput rfl _ _ _ 53 rfl 115 keyedC mapD Tryz.underlying9 rfl H.out.m (Nat.lt_of_le_of_lt (dm_len _) (by simp [maxLen])) (nameD .timeout) (by decide) rfl (dirV .timeout _) rfl ?_; intro w5 hi5 ht5; have H := Lib.hid (H.out.put (k := .timeout) (show FnOk .timeout _ _ from ⟨_, rfl, hc1⟩) hi5 ht5); have X := Lib.hid (X.out.turn ht5 HB.out); clear hi5 ht5 hc1)
    | (at_mapUpdate; refine wpL_mput rfl _ _ _ 53 rfl 115 keyedC mapD Tryz.underlying9 rfl H.out.m (Nat.lt_of_le_of_lt (dm_len _) (by simp [maxLen])) (nameD .retries) (by decide) rfl (dirV .retries _) rfl ?_; intro w5 hi5 ht5; have H := Lib.hid (H.out.put (k := .retries) (show FnOk .retries _ _ from ⟨_, rfl, hc1⟩) hi5 ht5); have X := Lib.hid (X.out.turn ht5 HB.out); clear hi5 ht5 hc1)
    | (at_mapUpdate; refine wpL_mput rfl _ _ _ 53 rfl 115 keyedC mapD Tryz.underlying9 rfl H.out.m (Nat.lt_of_le_of_lt (dm_len _) (by simp [maxLen])) (nameD .server) (by decide) rfl (dirV .server _) rfl ?_; intro w5 hi5 ht5; have H := Lib.hid (H.out.put (k := .server) (show FnOk .server _ _ from rfl) hi5 ht5); have X := Lib.hid (X.out.turn ht5 HB.out); clear hi5 ht5)
    | (at_mapUpdate; refine wpL_mput rfl _ _ _ 53 rfl 115 keyedC mapD Tryz.underlying9 rfl H.out.m (Nat.lt_of_le_of_lt (dm_len _) (by simp [maxLen])) (nameD .name) (by decide) rfl (dirV .name _) rfl ?_; intro w5 hi5 ht5; have H := Lib.hid (H.out.put (k := .name) (show FnOk .name _ _ from rfl) hi5 ht5); have X := Lib.hid (X.out.turn ht5 HB.out); clear hi5 ht5)
    | (at_mapUpdate; refine wpL_mput rfl _ _ _ 53 rfl 115 keyedC mapD Tryz.underlying9 rfl H.out.m (Nat.lt_of_le_of_lt (dm_len _) (by simp [maxLen])) (nameD .dflt) (by decide) rfl (dirV .dflt _) rfl ?_; intro w5 hi5 ht5; have H := Lib.hid (H.out.put (k := .dflt) (show FnOk .dflt _ _ from rfl) hi5 ht5); have X := Lib.hid (X.out.turn ht5 HB.out); clear hi5 ht5)
    | (at_mapUpdate; refine wpL_mput rfl _ _ _ 53 rfl 115 keyedC mapD Tryz.underlying9 rfl H.out.m (Nat.lt_of_le_of_lt (dm_len _) (by simp [maxLen])) (nameD .location) (by decide) rfl (dirV .location _) rfl ?_; intro w5 hi5 ht5; have H := Lib.hid (H.out.put (k := .location) (show FnOk .location _ _ from rfl) hi5 ht5); have X := Lib.hid (X.out.turn ht5 HB.out); clear hi5 ht5))
  go_end0
  exact ⟨rfl, ⟨_, rfl, H.out⟩, X.out⟩
set_option maxRecDepth 100000 in
set_option maxHeartbeats 4000000 in
theorem cin_put (w0 w : World) (b dc : Nat) (L : List (Dk × Value)) (hL : L.length < 100) (h : DAt b L w) (hb : w0.heap.size ≤ b) (hx : Ext w0 w) (hd : w.cell? ⟨dc, 0, none⟩ = some (.map (some b))) (k : Dk) (fi : FuncId) (cap : Array Value) (hf : FnOk k (.func (.func fi) #[] cap) w)
    (hk : inD k = some .location) (hk1 : blockD k = false) (hk2 : manyD k = false) (hk3 : (nameD k).length ≤ 100) :
    Calls Tryz.prog 47 #[.string (str (nameD k)), .int .i64 (leastD k : Int), .int .i64 (mostD k : Int), .func (.func fi) #[] cap, .pointer (some ⟨dc, 0, none⟩)] w fun e w' => e = .returned (.tuple #[]) ∧ DAt b (L ++ [(k, .func (.func fi) #[] cap)]) w' ∧ Ext w0 w' ∧ w'.cell? ⟨dc, 0, none⟩ = some (.map (some b)) := by
  have H := Lib.hid h
  have HF := Lib.hid hf
  have X := Lib.hid hx
  have HB := Lib.hid hb
  have hv : dirV k (.func (.func fi) #[] cap) = .agg #[.string ⟨#[108, 111, 99, 97, 116, 105, 111, 110]⟩, .int .i64 (leastD k : Int), .int .i64 (mostD k : Int), .bool false, .bool false, .func (.func fi) #[] cap] := by unfold dirV; rw [hk, hk1, hk2]; rfl
  have HV := Lib.hid hv
  have HL : Hid ((dm L).length < maxLen) := Lib.hid (Nat.lt_of_le_of_lt (dm_len _) (by simp only [maxLen]; omega))
  have hln : (nameD k).length ≤ maxLen := by simp only [maxLen]; omega
  obtain ⟨nk, hnk⟩ : ∃ n, n = nameD k := ⟨_, rfl⟩
  obtain ⟨l1, hl1⟩ : ∃ n : Int, n = (leastD k : Int) := ⟨_, rfl⟩
  obtain ⟨l2, hl2⟩ : ∃ n : Int, n = (mostD k : Int) := ⟨_, rfl⟩
  have HNK := Lib.hid hnk
  rw [← hnk] at hln ⊢
  rw [← hl1, ← hl2] at HV ⊢
  clear h hf hx hb hv hnk hl1 hl2 hk hk1 hk2 hk3
  go_enter Tryz.func47, Tryz.ntmps47
  go_wp2_with (first
    | (at_mapUpdate; refine wpL_mput rfl _ _ _ 53 rfl 115 keyedC mapD Tryz.underlying9 rfl H.out.m HL.out nk hln rfl (.agg #[.string ⟨#[108, 111, 99, 97, 116, 105, 111, 110]⟩, .int .i64 l1, .int .i64 l2, .bool false, .bool false, .func (.func fi) #[] cap]) rfl ?_; (intro w5 hi5 ht5; have hd5 := cell_turned ht5 hd; have H2 := Lib.hid (H.out.put (k := k) HF.out (by rw [← HNK.out, HV.out]; exact hi5) ht5); have X2 := Lib.hid (Ext.gr X.out ht5.grown (fun k hk => by cases hk; exact HB.out)); clear hi5 ht5)))
  go_end0
  exact ⟨rfl, H2.out, X2.out, hd5⟩
theorem cin_root (w0 w : World) (b dc : Nat) (L : List (Dk × Value)) (hL : L.length < 100) (h : DAt b L w) (hb : w0.heap.size ≤ b) (hx : Ext w0 w) (hd : w.cell? ⟨dc, 0, none⟩ = some (.map (some b))) :
    Calls Tryz.prog 47 #[.string ⟨#[114, 111, 111, 116]⟩, .int .i64 1, .int .i64 1, .func (.func 48) #[] #[], .pointer (some ⟨dc, 0, none⟩)] w fun e w' => e = .returned (.tuple #[]) ∧ DAt b (L ++ [(.root, .func (.func 48) #[] #[])]) w' ∧ Ext w0 w' ∧ w'.cell? ⟨dc, 0, none⟩ = some (.map (some b)) :=
  cin_put w0 w b dc L hL h hb hx hd .root 48 #[] (show FnOk .root _ _ from rfl) rfl rfl rfl (by decide)
theorem cin_index (w0 w : World) (b dc : Nat) (L : List (Dk × Value)) (hL : L.length < 100) (h : DAt b L w) (hb : w0.heap.size ≤ b) (hx : Ext w0 w) (hd : w.cell? ⟨dc, 0, none⟩ = some (.map (some b))) :
    Calls Tryz.prog 47 #[.string ⟨#[105, 110, 100, 101, 120]⟩, .int .i64 1, .int .i64 1, .func (.func 50) #[] #[], .pointer (some ⟨dc, 0, none⟩)] w fun e w' => e = .returned (.tuple #[]) ∧ DAt b (L ++ [(.index, .func (.func 50) #[] #[])]) w' ∧ Ext w0 w' ∧ w'.cell? ⟨dc, 0, none⟩ = some (.map (some b)) :=
  cin_put w0 w b dc L hL h hb hx hd .index 50 #[] (show FnOk .index _ _ from rfl) rfl rfl rfl (by decide)
theorem cin_gzip (w0 w : World) (b dc : Nat) (L : List (Dk × Value)) (hL : L.length < 100) (h : DAt b L w) (hb : w0.heap.size ≤ b) (hx : Ext w0 w) (hd : w.cell? ⟨dc, 0, none⟩ = some (.map (some b))) (gc : Nat) (hg : w.cell? ⟨gc, 0, none⟩ = some (.func (.func 52) #[] #[])) :
    Calls Tryz.prog 47 #[.string ⟨#[103, 122, 105, 112]⟩, .int .i64 1, .int .i64 1, .func (.func 102) #[] #[.pointer (some ⟨gc, 0, none⟩)], .pointer (some ⟨dc, 0, none⟩)] w fun e w' => e = .returned (.tuple #[]) ∧ DAt b (L ++ [(.gzip, .func (.func 102) #[] #[.pointer (some ⟨gc, 0, none⟩)])]) w' ∧ Ext w0 w' ∧ w'.cell? ⟨dc, 0, none⟩ = some (.map (some b)) :=
  cin_put w0 w b dc L hL h hb hx hd .gzip 102 #[.pointer (some ⟨gc, 0, none⟩)] (show FnOk .gzip _ _ from ⟨gc, rfl, hg⟩) rfl rfl rfl (by decide)
theorem cin_expires (w0 w : World) (b dc : Nat) (L : List (Dk × Value)) (hL : L.length < 100) (h : DAt b L w) (hb : w0.heap.size ≤ b) (hx : Ext w0 w) (hd : w.cell? ⟨dc, 0, none⟩ = some (.map (some b))) (gc : Nat) (hg : w.cell? ⟨gc, 0, none⟩ = some (.func (.func 53) #[] #[])) :
    Calls Tryz.prog 47 #[.string ⟨#[101, 120, 112, 105, 114, 101, 115]⟩, .int .i64 1, .int .i64 1, .func (.func 102) #[] #[.pointer (some ⟨gc, 0, none⟩)], .pointer (some ⟨dc, 0, none⟩)] w fun e w' => e = .returned (.tuple #[]) ∧ DAt b (L ++ [(.expires, .func (.func 102) #[] #[.pointer (some ⟨gc, 0, none⟩)])]) w' ∧ Ext w0 w' ∧ w'.cell? ⟨dc, 0, none⟩ = some (.map (some b)) :=
  cin_put w0 w b dc L hL h hb hx hd .expires 102 #[.pointer (some ⟨gc, 0, none⟩)] (show FnOk .expires _ _ from ⟨gc, rfl, hg⟩) rfl rfl rfl (by decide)
theorem cin_proxy (w0 w : World) (b dc : Nat) (L : List (Dk × Value)) (hL : L.length < 100) (h : DAt b L w) (hb : w0.heap.size ≤ b) (hx : Ext w0 w) (hd : w.cell? ⟨dc, 0, none⟩ = some (.map (some b))) :
    Calls Tryz.prog 47 #[.string ⟨#[112, 114, 111, 120, 121]⟩, .int .i64 1, .int .i64 1, .func (.func 54) #[] #[], .pointer (some ⟨dc, 0, none⟩)] w fun e w' => e = .returned (.tuple #[]) ∧ DAt b (L ++ [(.proxy, .func (.func 54) #[] #[])]) w' ∧ Ext w0 w' ∧ w'.cell? ⟨dc, 0, none⟩ = some (.map (some b)) :=
  cin_put w0 w b dc L hL h hb hx hd .proxy 54 #[] (show FnOk .proxy _ _ from rfl) rfl rfl rfl (by decide)
theorem cin_cache (w0 w : World) (b dc : Nat) (L : List (Dk × Value)) (hL : L.length < 100) (h : DAt b L w) (hb : w0.heap.size ≤ b) (hx : Ext w0 w) (hd : w.cell? ⟨dc, 0, none⟩ = some (.map (some b))) :
    Calls Tryz.prog 47 #[.string ⟨#[99, 97, 99, 104, 101]⟩, .int .i64 0, .int .i64 0, .func (.func 55) #[] #[], .pointer (some ⟨dc, 0, none⟩)] w fun e w' => e = .returned (.tuple #[]) ∧ DAt b (L ++ [(.cache, .func (.func 55) #[] #[])]) w' ∧ Ext w0 w' ∧ w'.cell? ⟨dc, 0, none⟩ = some (.map (some b)) :=
  cin_put w0 w b dc L hL h hb hx hd .cache 55 #[] (show FnOk .cache _ _ from rfl) rfl rfl rfl (by decide)
theorem cin_limit (w0 w : World) (b dc : Nat) (L : List (Dk × Value)) (hL : L.length < 100) (h : DAt b L w) (hb : w0.heap.size ≤ b) (hx : Ext w0 w) (hd : w.cell? ⟨dc, 0, none⟩ = some (.map (some b))) :
    Calls Tryz.prog 47 #[.string ⟨#[108, 105, 109, 105, 116]⟩, .int .i64 2, .int .i64 2, .func (.func 56) #[] #[], .pointer (some ⟨dc, 0, none⟩)] w fun e w' => e = .returned (.tuple #[]) ∧ DAt b (L ++ [(.limit, .func (.func 56) #[] #[])]) w' ∧ Ext w0 w' ∧ w'.cell? ⟨dc, 0, none⟩ = some (.map (some b)) :=
  cin_put w0 w b dc L hL h hb hx hd .limit 56 #[] (show FnOk .limit _ _ from rfl) rfl rfl rfl (by decide)
theorem cin_ret (w0 w : World) (b dc : Nat) (L : List (Dk × Value)) (hL : L.length < 100) (h : DAt b L w) (hb : w0.heap.size ≤ b) (hx : Ext w0 w) (hd : w.cell? ⟨dc, 0, none⟩ = some (.map (some b))) :
    Calls Tryz.prog 47 #[.string ⟨#[114, 101, 116, 117, 114, 110]⟩, .int .i64 1, .int .i64 2, .func (.func 58) #[] #[], .pointer (some ⟨dc, 0, none⟩)] w fun e w' => e = .returned (.tuple #[]) ∧ DAt b (L ++ [(.ret, .func (.func 58) #[] #[])]) w' ∧ Ext w0 w' ∧ w'.cell? ⟨dc, 0, none⟩ = some (.map (some b)) :=
  cin_put w0 w b dc L hL h hb hx hd .ret 58 #[] (show FnOk .ret _ _ from rfl) rfl rfl rfl (by decide)
set_option maxRecDepth 100000 in
set_option maxHeartbeats 8000000 in
theorem cdirs_c (w : World) : Calls Tryz.prog 22 #[] w fun e w' => ∃ b, e = .returned (.map (some b)) ∧ DirsAt b w' ∧ Ext w w' := by
  have hmf : ∀ (fn : Fn) (first cap : Array Value) (w : World), (Instr.makeFunc fn first cap).run Tryz.prog w = .ok (.func fn first cap) w := fun _ _ _ _ => rfl
  have hmm := @run_makeMap Tryz.prog
  go_enter Tryz.func22, Tryz.ntmps22
  go_wp2_with (first
    | (go_at_call 46; refine (couter_c w _ w.heap.size (DAt.ext ⟨World.isM_made w Tryz.prog 9, fun x hx => by cases hx⟩ (by (repeat (first | exact Ext.rfl' _ | assumption | refine Ext.dr ?_ | refine Ext.drN ?_ _ | refine Ext.al ?_ _ | refine Ext.st ?_ (by simp) _ | refine Ext.tr ?_ (by assumption))))) (Nat.le_refl _) (by (repeat (first | exact Ext.rfl' _ | assumption | refine Ext.dr ?_ | refine Ext.drN ?_ _ | refine Ext.al ?_ _ | refine Ext.st ?_ (by simp) _ | refine Ext.tr ?_ (by assumption))))).mono ?_; rintro e w1 ⟨rfl, ⟨L', hL', hH⟩, hX⟩; have hd := hX.k ⟨w.heap.size + 1, 0, none⟩ (.map (some w.heap.size)) (by have := new_cells_g (w := w.alloc (.map #[] 0)) (g := w.heap.size + 1) (by simp) #[.map (some w.heap.size)] 53 0 _ rfl; rw [add_mk] at this; exact this); have H := Lib.hid hH; have X := Lib.hid hX.x; have HLK := Lib.hid hL'; have HLN : Hid (L'.length = 12) := Lib.hid (by rw [← List.length_map (f := (·.1)), hL']; rfl); have HB : Hid (w.heap.size ≤ w.heap.size) := Lib.hid (Nat.le_refl _); clear hH hX hL')
    | (go_at_call 51; refine (cset_c _ _).mono ?_; rintro e w2 ⟨gc, rfl, hc1, hx1⟩; have H := Lib.hid (H.out.ext hx1); have X := Lib.hid (X.out.tr hx1); have hd2 := (hx1.cell (lt_of_cell hd)).trans hd; clear hd; have hd := hd2; clear hd2 hx1)
    | (go_at_call_of 47 (Value.string ⟨#[114, 111, 111, 116]⟩); refine (cin_root w _ _ _ _ (by simp only [List.length_append, List.length_singleton, List.length_nil, HLN.out]; omega) H.out HB.out X.out hd).mono ?_; rintro e w5 ⟨rfl, hH, hX, hd5⟩; have H := Lib.hid hH; have X := Lib.hid hX; clear hH hX hd; have hd := hd5; clear hd5)
    | (go_at_call_of 47 (Value.string ⟨#[105, 110, 100, 101, 120]⟩); refine (cin_index w _ _ _ _ (by simp only [List.length_append, List.length_singleton, List.length_nil, HLN.out]; omega) H.out HB.out X.out hd).mono ?_; rintro e w5 ⟨rfl, hH, hX, hd5⟩; have H := Lib.hid hH; have X := Lib.hid hX; clear hH hX hd; have hd := hd5; clear hd5)
    | (go_at_call_of 47 (Value.string ⟨#[103, 122, 105, 112]⟩); refine (cin_gzip w _ _ _ _ (by simp only [List.length_append, List.length_singleton, List.length_nil, HLN.out]; omega) H.out HB.out X.out hd _ hc1).mono ?_; rintro e w5 ⟨rfl, hH, hX, hd5⟩; have H := Lib.hid hH; have X := Lib.hid hX; clear hH hX hd; have hd := hd5; clear hd5)
    | (go_at_call_of 47 (Value.string ⟨#[101, 120, 112, 105, 114, 101, 115]⟩); refine (cin_expires w _ _ _ _ (by simp only [List.length_append, List.length_singleton, List.length_nil, HLN.out]; omega) H.out HB.out X.out hd _ hc1).mono ?_; rintro e w5 ⟨rfl, hH, hX, hd5⟩; have H := Lib.hid hH; have X := Lib.hid hX; clear hH hX hd; have hd := hd5; clear hd5)
    | (go_at_call_of 47 (Value.string ⟨#[112, 114, 111, 120, 121]⟩); refine (cin_proxy w _ _ _ _ (by simp only [List.length_append, List.length_singleton, List.length_nil, HLN.out]; omega) H.out HB.out X.out hd).mono ?_; rintro e w5 ⟨rfl, hH, hX, hd5⟩; have H := Lib.hid hH; have X := Lib.hid hX; clear hH hX hd; have hd := hd5; clear hd5)
    | (go_at_call_of 47 (Value.string ⟨#[99, 97, 99, 104, 101]⟩); refine (cin_cache w _ _ _ _ (by simp only [List.length_append, List.length_singleton, List.length_nil, HLN.out]; omega) H.out HB.out X.out hd).mono ?_; rintro e w5 ⟨rfl, hH, hX, hd5⟩; have H := Lib.hid hH; have X := Lib.hid hX; clear hH hX hd; have hd := hd5; clear hd5)
    | (go_at_call_of 47 (Value.string ⟨#[108, 105, 109, 105, 116]⟩); refine (cin_limit w _ _ _ _ (by simp only [List.length_append, List.length_singleton, List.length_nil, HLN.out]; omega) H.out HB.out X.out hd).mono ?_; rintro e w5 ⟨rfl, hH, hX, hd5⟩; have H := Lib.hid hH; have X := Lib.hid hX; clear hH hX hd; have hd := hd5; clear hd5)
    | (go_at_call_of 47 (Value.string ⟨#[114, 101, 116, 117, 114, 110]⟩); refine (cin_ret w _ _ _ _ (by simp only [List.length_append, List.length_singleton, List.length_nil, HLN.out]; omega) H.out HB.out X.out hd).mono ?_; rintro e w5 ⟨rfl, hH, hX, hd5⟩; have H := Lib.hid hH; have X := Lib.hid hX; clear hH hX hd; have hd := hd5; clear hd5))
  go_ret
  exact ⟨_, rfl, H.out.all (by simp only [List.map_append, HLK.out]; rfl), X.out⟩
end Go.Proofs.YtmnohicojefhfaaGreatDoor
