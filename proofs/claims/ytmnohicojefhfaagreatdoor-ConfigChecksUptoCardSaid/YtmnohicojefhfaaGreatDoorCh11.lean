/-
Check: which configurations may be.
-/
import Derived.Test.YtmnohicojefhfaaGreatDoorCHc
set_option linter.unusedVariables false
set_option linter.unusedSimpArgs false
namespace Go.Proofs.YtmnohicojefhfaaGreatDoor
open Go.RowKit

theorem slt_strH : SlT Tryz.prog 55 9 (.string ⟨#[]⟩) 1 16 := ⟨Tryz.underlying55, by kernel_rfl, rfl, by omega⟩
structure CfR (w : World) (c : Cf14) (U : List (Up14 × Hd)) (UA : Option Addr) (S : List (Sr14 × Hd × Hd)) (SA : Option Addr) : Prop where
 hU : U.map (·.1) = c.ups
 hS : S.map (·.1) = c.srvs
 ups : Rd w UA (U.flatMap upV)
 srvs : Rd w SA (S.flatMap srV)
 peers : ∀ x ∈ U, Rd w x.2.1 (x.1.peers.flatMap peV)
 names : ∀ x ∈ S, Rd w x.2.1.1 (strC x.1.names)
 locs : ∀ x ∈ S, Rd w x.2.2.1 (x.1.locs.flatMap loV)
theorem CfR.ext {w w' : World} {c : Cf14} {U : List (Up14 × Hd)} {UA : Option Addr} {S : List (Sr14 × Hd × Hd)} {SA : Option Addr} (h : CfR w c U UA S SA) (e : Ext w w') : CfR w' c U UA S SA :=
 ⟨h.hU, h.hS, h.ups.ext e, h.srvs.ext e, fun x hx => (h.peers x hx).ext e, fun x hx => (h.names x hx).ext e, fun x hx => (h.locs x hx).ext e⟩
structure UpS (u : Up14) : Prop where
 name : u.name.length ≤ 140737488355328
 pl : u.peers.length ≤ 1099511627776
 ids : ∀ p ∈ u.peers, I64 p.id
structure CfS (c : Cf14) : Prop where
 ul : c.ups.length ≤ 1099511627776
 sl : c.srvs.length ≤ 1099511627776
 ups : ∀ u ∈ c.ups, UpS u
 srvs : ∀ s ∈ c.srvs, SrS s
 nm : (c.srvs.flatMap (·.names)).length ≤ 8796093022208
set_option maxRecDepth 100000 in
theorem chF1_c (nm : List UInt8) (B : Option Addr) (n d : Nat) (t r : Int) (w : World) : Calls Tryz.prog 33 #[.agg #[.string (str nm), .slice B n d, .int .i64 t, .int .i64 r]] w (Gives (.string (str nm)) w) := by
 generalize str nm = s at *
 go_enter Tryz.func33, Tryz.ntmps33
 go_wp2
 go_ret
 exact ⟨rfl, by (repeat first | exact Ex0 | assumption | refine Ex1 ?_ | refine Ex2 ?_ | refine Ex3 ?_ | refine Ex4 ?_ | refine Ex5 ?_)⟩
set_option maxRecDepth 100000 in
theorem chF3_c (s : ByteArray) (w : World) : Calls Tryz.prog 38 #[.string s] w (Gives (.string s) w) := by
 go_enter Tryz.func38, Tryz.ntmps38
 go_wp2
 go_ret
 exact ⟨rfl, by (repeat first | exact Ex0 | assumption | refine Ex1 ?_ | refine Ex2 ?_ | refine Ex3 ?_ | refine Ex4 ?_ | refine Ex5 ?_)⟩
set_option maxRecDepth 100000 in
theorem chF2_c (s : Sr14) (hS : SrS s) (NA LA : Option Addr) (nc lc : Nat) (U : List (Up14 × Hd)) (UA : Option Addr) (uc g : Nat) (w : World) (hE : ErrR w) (hul : U.length ≤ 1099511627776) (hrd : Rd w UA (U.flatMap upV))
  (hN : Rd w NA (strC s.names)) (hL : Rd w LA (s.locs.flatMap loV)) (hc : w.cell? ⟨g, 4, none⟩ = some (.slice UA U.length uc)) :
  Calls Tryz.prog 35 #[.agg #[.slice NA s.names.length nc, .bool s.dflt, .slice LA s.locs.length lc], .pointer (some ⟨g, 0, none⟩)] w (Gives (.bool (srC (U.map (·.1)) s)) w) := by
 have C := Lib.hid (fun w' (hx : Ext w w') => cSrRight_c s hS NA LA nc lc U UA uc w' (hE.ext hx) hul (hrd.ext hx) (hN.ext hx) (hL.ext hx))
 have hne : g ≠ w.heap.size := by have : g < w.heap.size := lt_of_cell hc; omega
 have hc2 := fun o => (((Ext.rfl' w).al o).cell (lt_of_cell hc)).trans hc
 generalize srC (U.map (·.1)) s = b at *
 clear hrd hN hL hS hE hc
 generalize U.length = n at *
 generalize s.names.length = m at *
 generalize s.locs.length = k at *
 generalize s.dflt = df at *
 go_enter Tryz.func35, Tryz.ntmps35
 go_wp2_with (go_at_call 36; refine (C.out _ (by (repeat first | exact Ex0 | assumption | refine Ex1 ?_ | refine Ex2 ?_ | refine Ex3 ?_ | refine Ex4 ?_ | refine Ex5 ?_))).mono ?_; rintro e' w1 ⟨rfl, hx1⟩)
 go_ret
 exact ⟨rfl, by (repeat first | exact Ex0 | assumption | refine Ex1 ?_ | refine Ex2 ?_ | refine Ex3 ?_ | refine Ex4 ?_ | refine Ex5 ?_)⟩
theorem names_take (S : List (Sr14 × Hd × Hd)) (k : Nat) (hk : k < S.length) : ((S.take (k + 1)).flatMap fun x => x.1.names) = ((S.take k).flatMap fun x => x.1.names) ++ S[k].1.names := by
 rw [List.take_succ_eq_append_getElem hk, List.flatMap_append]; simp
theorem names_le (S : List (Sr14 × Hd × Hd)) (k : Nat) : ((S.take k).flatMap fun x => x.1.names).length ≤ (S.flatMap fun x => x.1.names).length := by
 conv => rhs; rw [← List.take_append_drop k S, List.flatMap_append, List.length_append]
 omega
theorem dflt_take (S : List (Sr14 × Hd × Hd)) (k : Nat) (hk : k < S.length) : ((S.take (k + 1)).filter fun x => x.1.dflt).length = ((S.take k).filter fun x => x.1.dflt).length + if S[k].1.dflt then 1 else 0 := by
 rw [List.take_succ_eq_append_getElem hk, List.filter_append, List.length_append]
 by_cases h : S[k].1.dflt = true <;> simp [h]
theorem strC_app (a b : List (List UInt8)) : strC (a ++ b) = strC a ++ strC b := List.map_append
theorem strC_one (l : List (List UInt8)) : ∀ u ∈ strC l, u.oneCell' = true := by
 intro u hu
 obtain ⟨x, _, rfl⟩ := List.mem_map.1 hu
 rfl
def okE (b : Bool) : Int := if b then 0 else 60
def ChAt (w : World) (S : List (Sr14 × Hd × Hd)) (wr : World) (k : Nat) (A : Option Addr) (n c d : Nat) : Prop :=
 n = ((S.take k).flatMap fun x => x.1.names).length ∧ d = ((S.take k).filter fun x => x.1.dflt).length ∧ ∃ o, Sl wr o 1 1 A n c (strC ((S.take k).flatMap fun x => x.1.names)) ∧ (A = none → c = 0) ∧ Stp (fun i => i = 1) w (fun _ => 0) wr o
set_option maxRecDepth 100000 in
set_option maxHeartbeats 8000000 in
theorem cCheck_c (c : Cf14) (U : List (Up14 × Hd)) (UA : Option Addr) (uc : Nat) (S : List (Sr14 × Hd × Hd)) (SA : Option Addr) (sc : Nat) (w : World) (hE : ErrR w) (hR : CfR w c U UA S SA) (hZ : CfS c) :
  Calls Tryz.prog 15 #[.agg #[.int .i64 c.keep, .int .i64 c.body, .int .i64 c.store, .int .i64 c.conns, .slice UA c.ups.length uc, .slice SA c.srvs.length sc]] w (Gives (.int .i64 (okE (goodC c))) w) := by
 have hUl : U.length = c.ups.length := by rw [← hR.hU, List.length_map]
 have hSl : S.length = c.srvs.length := by rw [← hR.hS, List.length_map]
 have hul := hZ.ul
 have hsl := hZ.sl
 have hupm : ∀ x ∈ U, UpS x.1 := fun x hx => hZ.ups x.1 (by rw [← hR.hU]; exact List.mem_map_of_mem hx)
 have hsrm : ∀ x ∈ S, SrS x.1 := fun x hx => hZ.srvs x.1 (by rw [← hR.hS]; exact List.mem_map_of_mem hx)
 have hnm : (c.srvs.flatMap (·.names)) = S.flatMap fun x => x.1.names := by rw [← hR.hS, List.flatMap_map]
 have CAU := Lib.hid (fun w' (hx : Ext w w') => allU_c (fun x : Up14 × Hd => str x.1.name) (fun x => x.2.1) (fun x => x.1.peers.length) (fun x => x.2.2) (fun x => x.1.timeout) (fun x => x.1.retries) U UA uc 31 #[] (fun x => upC x.1) w' (by omega) (fun _ _ => by kernel_rfl) (hR.ups.ext hx)
  (fun x hxm w2 h2 => cUpRight_c x.1 x.2.1 x.2.2 w2 (hupm x hxm).name (hupm x hxm).pl (hupm x hxm).ids ((hR.peers x hxm).ext (hx.tr h2))))
 have CUU := Lib.hid (fun w' (hx : Ext w w') => unlU_c (fun x : Up14 × Hd => str x.1.name) (fun x => x.2.1) (fun x => x.1.peers.length) (fun x => x.2.2) (fun x => x.1.timeout) (fun x => x.1.retries) U UA uc 33 #[] (fun x => .string (str x.1.name)) (fun x => .string x.1.name) (decide ((U.map fun x => x.1.name).Nodup)) w' (by omega) (fun _ _ => by kernel_rfl) (hR.ups.ext hx)
  (fun x hxm => key_str (hupm x hxm).name) (by rw [decide_eq_true_iff]; exact (nodup_inj (f := Lit.string) (fun a b e => by injection e) _ _).symm) (fun x hxm w2 h2 => chF1_c x.1.name x.2.1 x.1.peers.length x.2.2 x.1.timeout x.1.retries w2))
 have CAS := Lib.hid (fun w' g (hx : Ext w w') (hg : w'.cell? ⟨g, 4, none⟩ = some (.slice UA U.length uc)) => allS_c (fun x : Sr14 × Hd × Hd => x.2.1.1) (fun x => x.1.names.length) (fun x => x.2.1.2) (fun x => x.1.dflt) (fun x => x.2.2.1) (fun x => x.1.locs.length) (fun x => x.2.2.2) S SA sc 35 #[.pointer (some ⟨g, 0, none⟩)] (fun x => srC (U.map fun y : Up14 × Hd => y.1) x.1) w' (by omega) (fun _ _ => by kernel_rfl) (hR.srvs.ext hx)
  (fun x hxm w2 h2 => chF2_c x.1 (hsrm x hxm) x.2.1.1 x.2.2.1 x.2.1.2 x.2.2.2 U UA uc g w2 (hE.ext (hx.tr h2)) (by omega) (hR.ups.ext (hx.tr h2)) ((hR.names x hxm).ext (hx.tr h2)) ((hR.locs x hxm).ext (hx.tr h2)) ((h2.cell (lt_of_cell hg)).trans hg)))
 have CUT := Lib.hid (fun w' (A : Option Addr) (cc : Nat) (hrd : Rd w' A (strC (S.flatMap fun x => x.1.names))) => unlT_c (fun x : List UInt8 => str x) (S.flatMap fun x => x.1.names) A cc 38 #[] (fun x => .string (str x)) (fun x => .string x) (decide ((S.flatMap fun x => x.1.names).Nodup)) w' (by have := hZ.nm; rw [hnm] at this; omega) (fun _ _ => by kernel_rfl) (by rw [← strC_fm]; exact hrd)
  (fun x hxm => by obtain ⟨y, hy, hxy⟩ := List.mem_flatMap.1 hxm; exact key_str ((hsrm y hy).names x hxy)) (by rw [decide_eq_true_iff]; have := nodup_inj (f := Lit.string) (fun a b e => by injection e) (fun x : List UInt8 => x) (S.flatMap fun x => x.1.names); rw [List.map_id'] at this; exact this.symm) (fun x _ w2 _ => chF3_c (str x) w2))
 obtain ⟨G, hG⟩ : ∃ b, b = goodC c := ⟨_, rfl⟩
 have HP : Hid (G = (inB c.keep 0 3600 && inB c.body 0 1048576 && inB c.store 0 1048576 && inB c.conns 1 1000 && decide (U.length ≤ 16) && (U.all fun x => upC x.1) && decide ((U.map fun x => x.1.name).Nodup) && inB S.length 1 32 && (S.all fun x => srC (U.map (·.1)) x.1) &&
  decide ((S.flatMap fun x => x.1.names).Nodup) && decide ((S.filter fun x => x.1.dflt).length ≤ 1))) := Lib.hid (by
  rw [hG]
  unfold goodC
  rw [hnm, ← hUl, ← hSl, ← hR.hU, ← hR.hS, List.all_map, List.all_map, List.map_map, List.filter_map, List.length_map]
  rfl)
 rw [← hG, ← hUl, ← hSl]
 obtain ⟨q6, h6⟩ : ∃ b, b = U.all fun x => upC x.1 := ⟨_, rfl⟩
 obtain ⟨q7, h7⟩ : ∃ b, b = decide ((U.map fun x => x.1.name).Nodup) := ⟨_, rfl⟩
 obtain ⟨q9, h9⟩ : ∃ b, b = S.all fun x => srC (U.map (·.1)) x.1 := ⟨_, rfl⟩
 obtain ⟨qa, ha⟩ : ∃ b, b = decide ((S.flatMap fun x => x.1.names).Nodup) := ⟨_, rfl⟩
 rw [← h6] at CAU HP
 rw [← h7] at CUU HP
 rw [← h9] at CAS HP
 rw [← ha] at CUT HP
 have hnz := hZ.nm
 rw [hnm] at hnz
 have HRR := Lib.hid hR
 have hSL : S.length ≤ 1099511627776 := by omega
 have HNZ := Lib.hid hnz
 clear hG h6 h7 h9 ha hE hZ hupm hsrm hnm hul hsl hUl hSl hR hnz
 obtain ⟨ul, hul⟩ : ∃ n, n = U.length := ⟨_, rfl⟩
 rw [← hul] at CAU CUU CAS HP ⊢
 clear hul
 obtain ⟨kp, bd, st, cn, ups, srvs⟩ := c
 dsimp only at *
 obtain ⟨W0, hW0⟩ : ∃ W, W = w.alloc (.cells #[.int .i64 kp, .int .i64 bd, .int .i64 st, .int .i64 cn, .slice UA ul uc, .slice SA S.length sc] 25) := ⟨_, rfl⟩
 have hx0 : Ext w W0 := by rw [hW0]; exact (Ext.rfl' w).al _
 have hcl : Hid (∀ wx, Ext W0 wx → ∀ j u, (#[.int .i64 kp, .int .i64 bd, .int .i64 st, .int .i64 cn, .slice UA ul uc, .slice SA S.length sc] : Array Value)[j]? = some u → wx.cell? ⟨w.heap.size, j, none⟩ = some u) := Lib.hid (fun wx hx => by rw [hW0] at hx; exact fun j u h => hx.new j u h)
 go_enter Tryz.func15, Tryz.ntmps15
 go_upto_region 3 with (fail)
 rw [← hW0]
 clear hW0
 have z5 := hcl.out W0 (Ext.rfl' _) 5 _ rfl
 go_wp2
 clear z5
 go_loopw [3, 4, 11] (fun v3 v4 v11 wr => ∃ (k : Nat) (A : Option Addr) (n cc d : Nat), v3 = .slice A n cc ∧ v4 = .int .i64 (d : Int) ∧ v11 = .int .i64 (k : Int) ∧ k ≤ S.length ∧ ChAt W0 S wr k A n cc d) (fun _ _ v11 _ => S.length - (intOf v11).toNat)
 case atStart => exact ⟨0, none, 0, 0, 0, rfl, rfl, rfl, Nat.zero_le _, rfl, rfl, fun _ => 0, Sl.nil_ _ _ _ _ _, fun _ => rfl, Stp.rfl'⟩
 case round =>
  obtain ⟨k, A, n, cc, d, rfl, rfl, rfl, hk, hn, hd, o, hs, hna, hst⟩ := hrel
  have hxw : Ext W0 wr := hst.toExt (fun _ _ => by omega)
  by_cases hlt : k < S.length
  ·obtain ⟨b, g, rfl, hbl, hc⟩ := (HRR.out.srvs.ext (hx0.tr hxw)).row (sz := 3) (fun _ => rfl) (by omega) hlt
   have hrow := (HRR.out.names S[k] (List.getElem_mem hlt)).ext (hx0.tr hxw)
   have hNT := names_take S k hlt
   have hDT := dflt_take S k hlt
   have hNL := names_le S (k + 1)
   have hnz := HNZ.out
   have hdl : d ≤ k := by
    rw [hd]
    refine Nat.le_trans (List.length_filter_le _ _) ?_
    rw [List.length_take]; omega
   obtain ⟨x, hxk⟩ : ∃ x, x = S[k] := ⟨_, rfl⟩
   rw [← hxk] at hc hrow hNT hDT
   clear hxk
   rw [hNT, List.length_append, ← hn] at hNL
   rw [← hd] at hDT
   have k0 : wr.cell? ⟨b, g + k * 3, none⟩ = some (.slice x.2.1.1 x.1.names.length x.2.1.2) := hc 0 _ rfl
   have k1 : wr.cell? ⟨b, g + k * 3 + 1, none⟩ = some (.bool x.1.dflt) := hc 1 _ rfl
   have k2 : wr.cell? ⟨b, g + k * 3 + 2, none⟩ = some (.slice x.2.2.1 x.1.locs.length x.2.2.2) := hc 2 _ rfl
   have j0 : (0 : Int) ≤ (k : Int) := by omega
   have j1 : (k : Int) < (S.length : Int) := by omega
   have hkk : IntKind.i64.wrap ((k : Int) + 1) = ((k + 1 : Nat) : Int) := by rw [IntKind.wrap_i64]; omega
   have hdd : IntKind.i64.wrap ((d : Int) + 1) = ((d + 1 : Nat) : Int) := by rw [IntKind.wrap_i64]; omega
   obtain ⟨m, hm⟩ : ∃ m, m = x.1.names.length := ⟨_, rfl⟩
   obtain ⟨df, hdf⟩ : ∃ m, m = x.1.dflt := ⟨_, rfl⟩
   rw [← hm] at k0 hNL
   rw [← hdf] at k1 hDT
   have HM := Lib.hid hm
   have HNN := Lib.hid hn
   have HDD := Lib.hid hd
   have HNT := Lib.hid hNT
   have HDT := Lib.hid hDT
   have HROW := Lib.hid hrow
   obtain ⟨o1, ho1⟩ : ∃ o1 : Ow, o1 = fun b => if b < wr.heap.size then o b else 0 := ⟨_, rfl⟩
   have hst1 : ∀ ob, Stp (fun i => i = 1) W0 (fun _ => 0) (wr.alloc ob) o1 := fun ob => hst.tr (Stp.ext2 ((Ext.rfl' wr).al ob) (fun b hb => by rw [ho1]; exact if_pos hb))
   have hsl1 : ∀ ob, Sl (wr.alloc ob) o1 1 1 A n cc (strC ((S.take k).flatMap fun x => x.1.names)) := fun ob => hs.stp (K := fun _ => False) (Stp.ext2 ((Ext.rfl' wr).al ob) (fun b hb => by rw [ho1]; exact if_pos hb)) (fun x => x)
   have hoz : o1 wr.heap.size = 0 := by rw [ho1]; simp
   have HST := Lib.hid hst1
   have HSL1 := Lib.hid hsl1
   have HOZ := Lib.hid hoz
   clear hc hrow hNT hDT hn hd hm hdf ho1 hst1 hsl1 hoz hs hst hnz
   have hNM := HNZ.out
   go_upto_region 6 with (fail)
   obtain ⟨W5, hW5⟩ : ∃ W, W = wr.alloc (.cells #[.slice x.2.1.1 m x.2.1.2, .bool df, .slice x.2.2.1 x.1.locs.length x.2.2.2] 78) := ⟨_, rfl⟩
   have HST5 := Lib.hid (HST.out (.cells #[.slice x.2.1.1 m x.2.1.2, .bool df, .slice x.2.2.1 x.1.locs.length x.2.2.2] 78))
   have HSL5 := Lib.hid (HSL1.out (.cells #[.slice x.2.1.1 m x.2.1.2, .bool df, .slice x.2.2.1 x.1.locs.length x.2.2.2] 78))
   have b5 : W5.heap[wr.heap.size]? = some (.cells #[.slice x.2.1.1 m x.2.1.2, .bool df, .slice x.2.2.1 x.1.locs.length x.2.2.2] 78 (0, 0)) := by rw [hW5]; exact heap_alloc_new wr _
   have hx5 : Ext wr W5 := by rw [hW5]; exact (Ext.rfl' wr).al _
   rw [← hW5] at HST5 HSL5 ⊢
   clear hW5 k0 k1 k2
   obtain ⟨gx, hgx⟩ : ∃ g, g = wr.heap.size := ⟨_, rfl⟩
   rw [← hgx] at b5 HOZ ⊢
   clear hgx
   have a0 := (row_facts b5 0 _ rfl).1
   have B5 := Lib.hid b5
   clear b5
   go_upto_region 7 with (first
    | (at_builtin; refine wpL_put slt_strH (.tmp 15) (.tmp 17) rfl rfl rfl rfl HSL5.out hna (Sl.src Tryz.underlying55 (HROW.out.ext hx5) (by rw [HM.out]; simp [strC]) (by omega) (strC_one _) _) (by omega) (by simp only [maxLen]; omega) ?_; intro A5 c5 w5 o5 hs5 st5 hn5; have HS5 := Lib.hid hs5; have HT5 := Lib.hid st5; have b6 := Lib.hid ((st5.keep gx (row_lt B5.out) (by rw [HOZ.out]; omega)).trans B5.out); clear hs5 st5))
   have a1 := (row_facts b6.out 1 _ rfl).1
   cases df with
   | false =>
    go_wp2
    go_roundw
    case rel =>
     refine ⟨k + 1, A5, n + m, c5, d, rfl, rfl, rfl, by omega, ?_, ?_, o5, ?_, hn5, HST5.out.tr HT5.out⟩
     ·rw [HNT.out, List.length_append, ← HNN.out, HM.out]
     ·rw [HDT.out]; rfl
     ·rw [HNT.out, strC_app]; exact HS5.out
    case measure => simp [intOf]; omega
   | true =>
    go_wp2
    go_roundw
    case rel =>
     refine ⟨k + 1, A5, n + m, c5, d + 1, rfl, rfl, rfl, by omega, ?_, ?_, o5, ?_, hn5, HST5.out.tr HT5.out⟩
     ·rw [HNT.out, List.length_append, ← HNN.out, HM.out]
     ·rw [HDT.out]; rfl
     ·rw [HNT.out, strC_app]; exact HS5.out
    case measure => simp [intOf]; omega
  ·have htk : S.take k = S := List.take_of_length_le (by omega)
   rw [htk] at hn hd hs
   have CUTN := fun w' (hx : Ext wr w') => CUT.out w' A cc (hs.rd.ext hx)
   rw [← hn] at CUTN
   have HUT := Lib.hid CUTN
   have HP2 := HP.out
   rw [← hd] at HP2
   have HPP := Lib.hid HP2
   have e1 := hcl.out wr hxw
   have c0 := e1 0 _ rfl
   have c1 := e1 1 _ rfl
   have c2 := e1 2 _ rfl
   have c3 := e1 3 _ rfl
   have c4 := e1 4 _ rfl
   have c5 := e1 5 _ rfl
   have hxz := hx0.tr hxw
   have hdl : d ≤ S.length := by rw [hd]; exact List.length_filter_le _ _
   clear e1 hn hd hs hst CUTN HP2 htk hna HP CUT
   have hmf : ∀ (fn : Fn) (first cap : Array Value) (w : World), (Instr.makeFunc fn first cap).run Tryz.prog w = .ok (.func fn first cap) w := fun _ _ _ _ => rfl
   go_upto_region 10 with (fail)
   go_cut [7] (fun v7 wx => v7 = .bool G ∧ Ext wr wx)
   case first =>
    by_cases hd1 : d ≤ 1
    ·have D1 : Hid (decide (d ≤ 1) = true) := Lib.hid (decide_eq_true hd1)
     have dd1 : decide ((d : Int) ≤ 1) = true := decide_eq_true (by omega)
     have dd2 : (d : Int) ≤ 1 := by omega
     by_cases hu : ul ≤ 16
     ·have D2 : Hid (decide (ul ≤ 16) = true) := Lib.hid (decide_eq_true hu)
      have du1 : decide ((ul : Int) ≤ 16) = true := decide_eq_true (by omega)
      as_aux_lemma =>
       go_wp2_with (first
        | (go_at_call 29; refine (cinB_c _ _ _ _).mono ?_; rintro e w2 ⟨rfl, rfl⟩)
        | (go_at_call 30; refine (CAU.out _ hxz).mono ?_; rintro e w5 ⟨rfl, hx5⟩; have f4 := hcl.out _ (hxw.tr hx5) 4 _ rfl; cases q6)
        | (go_at_call 32; refine (CUU.out _ (hxz.tr hx5)).mono ?_; rintro e w6 ⟨rfl, hx6⟩; have g5 := hcl.out _ ((hxw.tr hx5).tr hx6) 5 _ rfl; have g4 := hcl.out _ ((hxw.tr hx5).tr hx6) 4 _ rfl; cases q7)
        | (go_at_call 34; refine (CAS.out _ _ ((hxz.tr hx5).tr hx6) g4).mono ?_; rintro e w7 ⟨rfl, hx7⟩; have CT2 := (HUT.out _ (((hx5.tr hx6).tr hx7))); cases q9)
        | (go_at_call 37; refine CT2.mono ?_; rintro e w8 ⟨rfl, hx8⟩; cases qa))
       all_goals go_meet
       all_goals (refine ⟨by rw [HPP.out, D1.out, D2.out]; simp [*], by (repeat first | exact Ex0 | assumption | refine Ex1 ?_ | refine Ex2 ?_ | refine Ex3 ?_ | refine Ex4 ?_ | refine Ex5 ?_)⟩)
     ·have D2 : Hid (decide (ul ≤ 16) = false) := Lib.hid (decide_eq_false hu)
      have du1 : decide ((ul : Int) ≤ 16) = false := decide_eq_false (by omega)
      as_aux_lemma =>
       go_wp2_with (first
        | (go_at_call 29; refine (cinB_c _ _ _ _).mono ?_; rintro e w2 ⟨rfl, rfl⟩)
        | (go_at_call 30; refine (CAU.out _ hxz).mono ?_; rintro e w5 ⟨rfl, hx5⟩; have f4 := hcl.out _ (hxw.tr hx5) 4 _ rfl; cases q6)
        | (go_at_call 32; refine (CUU.out _ (hxz.tr hx5)).mono ?_; rintro e w6 ⟨rfl, hx6⟩; have g5 := hcl.out _ ((hxw.tr hx5).tr hx6) 5 _ rfl; have g4 := hcl.out _ ((hxw.tr hx5).tr hx6) 4 _ rfl; cases q7)
        | (go_at_call 34; refine (CAS.out _ _ ((hxz.tr hx5).tr hx6) g4).mono ?_; rintro e w7 ⟨rfl, hx7⟩; have CT2 := (HUT.out _ (((hx5.tr hx6).tr hx7))); cases q9)
        | (go_at_call 37; refine CT2.mono ?_; rintro e w8 ⟨rfl, hx8⟩; cases qa))
       all_goals go_meet
       all_goals (refine ⟨by rw [HPP.out, D1.out, D2.out]; simp [*], by (repeat first | exact Ex0 | assumption | refine Ex1 ?_ | refine Ex2 ?_ | refine Ex3 ?_ | refine Ex4 ?_ | refine Ex5 ?_)⟩)
    ·have D1 : Hid (decide (d ≤ 1) = false) := Lib.hid (decide_eq_false hd1)
     have dd1 : decide ((d : Int) ≤ 1) = false := decide_eq_false (by omega)
     have dd2 : ¬ (d : Int) ≤ 1 := by omega
     by_cases hu : ul ≤ 16
     ·have D2 : Hid (decide (ul ≤ 16) = true) := Lib.hid (decide_eq_true hu)
      have du1 : decide ((ul : Int) ≤ 16) = true := decide_eq_true (by omega)
      as_aux_lemma =>
       go_wp2_with (first
        | (go_at_call 29; refine (cinB_c _ _ _ _).mono ?_; rintro e w2 ⟨rfl, rfl⟩)
        | (go_at_call 30; refine (CAU.out _ hxz).mono ?_; rintro e w5 ⟨rfl, hx5⟩; have f4 := hcl.out _ (hxw.tr hx5) 4 _ rfl; cases q6)
        | (go_at_call 32; refine (CUU.out _ (hxz.tr hx5)).mono ?_; rintro e w6 ⟨rfl, hx6⟩; have g5 := hcl.out _ ((hxw.tr hx5).tr hx6) 5 _ rfl; have g4 := hcl.out _ ((hxw.tr hx5).tr hx6) 4 _ rfl; cases q7)
        | (go_at_call 34; refine (CAS.out _ _ ((hxz.tr hx5).tr hx6) g4).mono ?_; rintro e w7 ⟨rfl, hx7⟩; have CT2 := (HUT.out _ (((hx5.tr hx6).tr hx7))); cases q9)
        | (go_at_call 37; refine CT2.mono ?_; rintro e w8 ⟨rfl, hx8⟩; cases qa))
       all_goals go_meet
       all_goals (refine ⟨by rw [HPP.out, D1.out, D2.out]; simp [*], by (repeat first | exact Ex0 | assumption | refine Ex1 ?_ | refine Ex2 ?_ | refine Ex3 ?_ | refine Ex4 ?_ | refine Ex5 ?_)⟩)
     ·have D2 : Hid (decide (ul ≤ 16) = false) := Lib.hid (decide_eq_false hu)
      have du1 : decide ((ul : Int) ≤ 16) = false := decide_eq_false (by omega)
      as_aux_lemma =>
       go_wp2_with (first
        | (go_at_call 29; refine (cinB_c _ _ _ _).mono ?_; rintro e w2 ⟨rfl, rfl⟩)
        | (go_at_call 30; refine (CAU.out _ hxz).mono ?_; rintro e w5 ⟨rfl, hx5⟩; have f4 := hcl.out _ (hxw.tr hx5) 4 _ rfl; cases q6)
        | (go_at_call 32; refine (CUU.out _ (hxz.tr hx5)).mono ?_; rintro e w6 ⟨rfl, hx6⟩; have g5 := hcl.out _ ((hxw.tr hx5).tr hx6) 5 _ rfl; have g4 := hcl.out _ ((hxw.tr hx5).tr hx6) 4 _ rfl; cases q7)
        | (go_at_call 34; refine (CAS.out _ _ ((hxz.tr hx5).tr hx6) g4).mono ?_; rintro e w7 ⟨rfl, hx7⟩; have CT2 := (HUT.out _ (((hx5.tr hx6).tr hx7))); cases q9)
        | (go_at_call 37; refine CT2.mono ?_; rintro e w8 ⟨rfl, hx8⟩; cases qa))
       all_goals go_meet
       all_goals (refine ⟨by rw [HPP.out, D1.out, D2.out]; simp [*], by (repeat first | exact Ex0 | assumption | refine Ex1 ?_ | refine Ex2 ?_ | refine Ex3 ?_ | refine Ex4 ?_ | refine Ex5 ?_)⟩)
   case rest =>
    obtain ⟨rfl, hxf⟩ := hcut
    cases G with
    | false =>
     go_wp2
     go_ret
     exact ⟨rfl, (hx0.tr hxw).tr hxf⟩
    | true =>
     go_wp2
     go_ret
     exact ⟨rfl, (hx0.tr hxw).tr hxf⟩
end Go.Proofs.YtmnohicojefhfaaGreatDoor
