/-
A configuration's text: the program's Text.
-/
import Derived.Test.YtmnohicojefhfaaGreatDoorTXb
set_option linter.unusedVariables false
set_option linter.unusedSimpArgs false
namespace Go.Proofs.YtmnohicojefhfaaGreatDoor
open Go.RowKit

theorem new_row {k : Nat} (hk : 0 < k) (w : World) (o : Ow) (cs : Array Value) (T : TypeId) : ∃ o2 : Ow, (∀ K, Stp K w o (w.alloc (.cells cs T)) o2) ∧
  ∀ w' o', Stp (KW k) (w.alloc (.cells cs T)) o2 w' o' → ∀ j u, cs[j]? = some u → w'.cell? ⟨w.heap.size, j, none⟩ = some u := by
 refine ⟨fun x => if x < w.heap.size then o x else 0, fun K => Stp.ext2 ((Ext.rfl' w).al _) (fun x hx => if_pos hx), fun w' o' s j u hu => ?_⟩
 have hr := heap_alloc_new w (.cells cs T)
 have h1 := (s.keep w.heap.size (row_lt hr) (by unfold KW; simp; omega)).trans hr
 exact (row_facts h1 j u hu).1
set_option maxRecDepth 100000 in
set_option maxHeartbeats 2000000 in
theorem cText_c (c : Cf14) (U : List (Up14 × Hd)) (UA : Option Addr) (uc : Nat) (S : List (Sr14 × Hd × Hd)) (SA : Option Addr) (sc : Nat) (w : World) (hE : ErrR w) (hP : Pow w) (hR : CfR w c U UA S SA) (hZ : CfS c) (hN : goodC c = true → CfN c) :
  Calls Tryz.prog 18 #[.agg #[.int .i64 c.keep, .int .i64 c.body, .int .i64 c.store, .int .i64 c.conns, .slice UA c.ups.length uc, .slice SA c.srvs.length sc]] w (Gives (.tuple #[.string (str (textR c).1), .int .i64 (textR c).2]) w) := by
 obtain ⟨W0, hW0⟩ : ∃ W, W = w.alloc (.cells #[.int .i64 c.keep, .int .i64 c.body, .int .i64 c.store, .int .i64 c.conns, .slice UA c.ups.length uc, .slice SA c.srvs.length sc] 25) := ⟨_, rfl⟩
 have hx0 : Ext w W0 := by rw [hW0]; exact (Ext.rfl' w).al _
 have hcl : Hid (∀ wx, Ext W0 wx → ∀ j u, (#[.int .i64 c.keep, .int .i64 c.body, .int .i64 c.store, .int .i64 c.conns, .slice UA c.ups.length uc, .slice SA c.srvs.length sc] : Array Value)[j]? = some u → wx.cell? ⟨w.heap.size, j, none⟩ = some u) := Lib.hid (fun wx hx => by rw [hW0] at hx; exact fun j u h => hx.new j u h)
 have CK := Lib.hid (fun w' (hx : Ext w w') => cCheck_c c U UA uc S SA sc w' (hE.ext hx) (hR.ext hx) hZ)
 have HP1 := Lib.hid (fun w' (hx : Ext w w') => hP.ext hx)
 have HRR := Lib.hid hR
 have HN := Lib.hid hN
 have HZ := Lib.hid hZ
 clear hE hP hR hZ hN
 go_enter Tryz.func18, Tryz.ntmps18
 go_upto_region 1 with (fail)
 rw [← hW0]
 clear hW0
 have za := hcl.out W0 (Ext.rfl' _) 0 _ rfl
 have zb := hcl.out W0 (Ext.rfl' _) 1 _ rfl
 have zc := hcl.out W0 (Ext.rfl' _) 2 _ rfl
 have zd := hcl.out W0 (Ext.rfl' _) 3 _ rfl
 have ze := hcl.out W0 (Ext.rfl' _) 4 _ rfl
 have zf := hcl.out W0 (Ext.rfl' _) 5 _ rfl
 by_cases hg : goodC c = true
 ·have HNN := Lib.hid (HN.out hg)
  have HT : Hid (textR c = if (textC c).length ≤ 65536 then (textC c, 0) else ([], 6)) := Lib.hid (if_pos hg)
  rw [hg] at CK
  clear HN hg
  go_upto_region 4 with (go_at_call 15; refine (CK.out _ hx0).mono ?_; rintro e' w1 ⟨rfl, hx1⟩)
  clear za zb zc zd ze zf CK
  obtain ⟨b, hb⟩ : ∃ b, b = w1.heap.size := ⟨_, rfl⟩
  obtain ⟨W2, hW2⟩ : ∃ W, W = w1.alloc (.cells #[.pointer none, .slice none 0 0] 106) := ⟨_, rfl⟩
  obtain ⟨o2, ho2⟩ : ∃ o : Ow, o = fun x => if x = b then 1 else 0 := ⟨_, rfl⟩
  have HB : Hid (BwAt W2 o2 1 b []) := Lib.hid (by
   rw [hW2, ho2]
   exact ⟨if_pos rfl, .pointer none, none, 0, .inl rfl, by rw [hb]; exact heap_alloc_new w1 _, Sl.nil_ _ _ _ _ _, fun _ => rfl, fun h => absurd h (by omega)⟩)
  have HX : Hid (∀ w' o', Stp (KW 1) W2 o2 w' o' → Ext w1 w') := Lib.hid (fun w' o' s => by
   have s0 : Stp (KW 1) w1 (fun _ => 0) W2 o2 := by
    rw [hW2, ho2]
    exact Stp.ext2 ((Ext.rfl' w1).al _) (fun x hx => if_neg (by omega))
   exact (s0.tr s).toExt (fun _ _ h => by unfold KW at h; omega))
  have HS : Hid (Stp (KW 1) W2 o2 W2 o2) := Lib.hid Stp.rfl'
  have HP : Hid (∀ w' o', Stp (KW 1) W2 o2 w' o' → Pow w') := Lib.hid (fun w' o' s => HP1.out _ ((hx0.tr hx1).tr (HX.out w' o' s)))
  clear HP1
  have HCL : Hid (∀ w' o', Stp (KW 1) W2 o2 w' o' → ∀ j u, (#[.int .i64 c.keep, .int .i64 c.body, .int .i64 c.store, .int .i64 c.conns, .slice UA c.ups.length uc, .slice SA c.srvs.length sc] : Array Value)[j]? = some u → w'.cell? ⟨w.heap.size, j, none⟩ = some u) := Lib.hid (fun w' o' s => hcl.out w' (hx1.tr (HX.out w' o' s)))
  clear hcl
  have HL : Hid ((lineT semi [107, 101, 101, 112] [.num c.keep]).length + (lineT semi [98, 111, 100, 121] [.num c.body]).length + (lineT semi [115, 116, 111, 114, 101] [.num c.store]).length + (lineT semi [99, 111, 110, 110, 115] [.num c.conns]).length + (c.ups.flatMap upT).length + (c.srvs.flatMap srT).length ≤ 140737488355328) := Lib.hid (by
   have := HNN.out.len
   unfold textC hdT at this
   simp only [List.length_append] at this
   omega)
  go_upto_region 5 with (fail)
  rw [← hW2, ← hb]
  clear hW2 ho2 hb
  have z0 := HCL.out _ _ HS.out 0 _ rfl
  go_upto_region 6 with (go_at_call 39; refine (lineN_c 1 b _ semi [107, 101, 101, 112] [.num c.keep] _ _ HB.out (by omega) (ok1 HNN.out.keep) (fun w' o' s => HP.out w' o' (HS.out.tr s)) (by have := HL.out; skip; (try simp only [List.length_append, List.length_nil]); omega) _ rfl).mono ?_; rintro e' w1 ⟨o1, rfl, hb, hs⟩; have HB := Lib.hid hb; have HS := Lib.hid (HS.out.tr hs); clear hb hs)
  clear z0
  have z1 := HCL.out _ _ HS.out 1 _ rfl
  go_upto_region 7 with (go_at_call 39; refine (lineN_c 1 b _ semi [98, 111, 100, 121] [.num c.body] _ _ HB.out (by omega) (ok1 HNN.out.body) (fun w' o' s => HP.out w' o' (HS.out.tr s)) (by have := HL.out; skip; (try simp only [List.length_append, List.length_nil]); omega) _ rfl).mono ?_; rintro e' w1 ⟨o1, rfl, hb, hs⟩; have HB := Lib.hid hb; have HS := Lib.hid (HS.out.tr hs); clear hb hs)
  clear z1
  have z2 := HCL.out _ _ HS.out 2 _ rfl
  go_upto_region 8 with (go_at_call 39; refine (lineN_c 1 b _ semi [115, 116, 111, 114, 101] [.num c.store] _ _ HB.out (by omega) (ok1 HNN.out.store) (fun w' o' s => HP.out w' o' (HS.out.tr s)) (by have := HL.out; skip; (try simp only [List.length_append, List.length_nil]); omega) _ rfl).mono ?_; rintro e' w1 ⟨o1, rfl, hb, hs⟩; have HB := Lib.hid hb; have HS := Lib.hid (HS.out.tr hs); clear hb hs)
  clear z2
  have z3 := HCL.out _ _ HS.out 3 _ rfl
  go_upto_region 9 with (go_at_call 39; refine (lineN_c 1 b _ semi [99, 111, 110, 110, 115] [.num c.conns] _ _ HB.out (by omega) (ok1 HNN.out.conns) (fun w' o' s => HP.out w' o' (HS.out.tr s)) (by have := HL.out; skip; (try simp only [List.length_append, List.length_nil]); omega) _ rfl).mono ?_; rintro e' w1 ⟨o1, rfl, hb, hs⟩; have HB := Lib.hid hb; have HS := Lib.hid (HS.out.tr hs); clear hb hs)
  clear z3
  have z4 := HCL.out _ _ HS.out 4 _ rfl
  have hul : U.length = c.ups.length := by rw [← HRR.out.hU, List.length_map]
  have hsl : S.length = c.srvs.length := by rw [← HRR.out.hS, List.length_map]
  have hulz := HZ.out.ul
  have hslz := HZ.out.sl
  have hUN : Hid (∀ x ∈ U, UpN x.1) := Lib.hid (fun x hx => HNN.out.ups x.1 (by rw [← HRR.out.hU]; exact List.mem_map_of_mem hx))
  have hUZ : Hid (∀ x ∈ U, UpS x.1) := Lib.hid (fun x hx => HZ.out.ups x.1 (by rw [← HRR.out.hU]; exact List.mem_map_of_mem hx))
  have hSN : Hid (∀ x ∈ S, (∀ n ∈ x.1.names, ArOk (.txt n)) ∧ (∀ l ∈ x.1.locs, LoN l) ∧ SrS x.1) := Lib.hid (fun x hx => by
   have hm : x.1 ∈ c.srvs := by rw [← HRR.out.hS]; exact List.mem_map_of_mem hx
   exact ⟨HNN.out.names _ hm, HNN.out.locs _ hm, HZ.out.srvs _ hm⟩)
  have hfu : c.ups.flatMap upT = U.flatMap fun x => upT x.1 := by rw [← HRR.out.hU, List.flatMap_map]
  have hfs : c.srvs.flatMap srT = S.flatMap fun x => srT x.1 := by rw [← HRR.out.hS, List.flatMap_map]
  obtain ⟨th, hth⟩ : ∃ t, t = hdT c := ⟨_, rfl⟩
  have HB : Hid (BwAt _ _ 1 b th) := Lib.hid (by rw [hth]; exact HB.out)
  have HTX : Hid (textC c = th ++ (U.flatMap fun x => upT x.1) ++ (S.flatMap fun x => srT x.1)) := Lib.hid (by unfold textC; rw [hth, hfu, hfs])
  have HL : Hid (th.length + (U.flatMap fun x => upT x.1).length + (S.flatMap fun x => srT x.1).length ≤ 140737488355328) := Lib.hid (by
   have := HNN.out.len
   rw [HTX.out] at this
   simp only [List.length_append] at this
   exact this)
  have HRX : Hid (∀ w' o', Stp (KW 1) W2 o2 w' o' → CfR w' c U UA S SA) := Lib.hid (fun w' o' s => HRR.out.ext ((hx0.tr hx1).tr (HX.out w' o' s)))
  rw [← hul, ← hsl] at HCL
  rw [← hul] at z4
  clear hth hfu hfs HNN HZ HRR
  go_wp2
  clear z4
  go_loopw [50] (fun v50 wr => ∃ (i : Nat) (o' : Ow), v50 = .int .i64 (i : Int) ∧ i ≤ U.length ∧ Hid (BwAt wr o' 1 b (th ++ (U.take i).flatMap fun x => upT x.1)) ∧ Hid (Stp (KW 1) W2 o2 wr o')) (fun v50 _ => U.length - (intOf v50).toNat)
  case atStart => exact ⟨0, _, rfl, Nat.zero_le _, Lib.hid (by simpa using HB.out), HS⟩
  case round =>
   clear HB HS
   obtain ⟨i, oi, rfl, hi, HB, HS⟩ := hrel
   have HW := HS
   by_cases hlt : i < U.length
   ·obtain ⟨bu, gu, rfl, hbl, hc⟩ := (HRX.out _ _ HS.out).ups.row (sz := 4) (fun _ => rfl) (by omega) hlt
    have hpr := (HRX.out _ _ HS.out).peers U[i] (List.getElem_mem hlt)
    have HUN1 := Lib.hid (hUN.out U[i] (List.getElem_mem hlt))
    have HPR : Hid (∀ w' o', Stp (KW 1) wr oi w' o' → Rd w' U[i].2.1 (U[i].1.peers.flatMap peV)) := Lib.hid (fun w' o' s => (HRX.out _ _ (HS.out.tr s)).peers U[i] (List.getElem_mem hlt))
    have hpl := (hUZ.out U[i] (List.getElem_mem hlt)).pl
    have hft := fmT_take (fun x : Up14 × Hd => upT x.1) U i hlt
    have hfl := fmT_le1 (fun x : Up14 × Hd => upT x.1) U i hlt
    obtain ⟨x, hxi⟩ : ∃ x, x = U[i] := ⟨_, rfl⟩
    rw [← hxi] at hc HUN1 HPR hft hfl hpl
    obtain ⟨T, hT⟩ : ∃ T, T = th ++ (U.take i).flatMap fun x => upT x.1 := ⟨_, rfl⟩
    have HFT : Hid (th ++ ((U.take (i + 1)).flatMap fun x => upT x.1) = T ++ upT x.1) := Lib.hid (by rw [hft, hT, List.append_assoc])
    have HL3 : Hid (T.length + ((lineT beg [117, 112, 115, 116, 114, 101, 97, 109] [.txt x.1.name]).length + (x.1.peers.flatMap peT).length + (lineT semi [116, 105, 109, 101, 111, 117, 116] [.num x.1.timeout]).length + (lineT semi [114, 101, 116, 114, 105, 101, 115] [.num x.1.retries]).length + shut.length) ≤ 140737488355328) := Lib.hid (by
     have := HL.out
     have e : (upT x.1).length = (lineT beg [117, 112, 115, 116, 114, 101, 97, 109] [.txt x.1.name]).length + (x.1.peers.flatMap peT).length + (lineT semi [116, 105, 109, 101, 111, 117, 116] [.num x.1.timeout]).length + (lineT semi [114, 101, 116, 114, 105, 101, 115] [.num x.1.retries]).length + shut.length := by unfold upT; simp only [List.length_append]
     rw [hT, List.length_append]
     omega)
    have HB1 : Hid (BwAt wr oi 1 b T) := Lib.hid (by rw [hT]; exact HB.out)
    have k0 : wr.cell? ⟨bu, gu + i * 4, none⟩ = some (.string (str x.1.name)) := hc 0 _ rfl
    have k1 : wr.cell? ⟨bu, gu + i * 4 + 1, none⟩ = some (.slice x.2.1 x.1.peers.length x.2.2) := hc 1 _ rfl
    have k2 : wr.cell? ⟨bu, gu + i * 4 + 2, none⟩ = some (.int .i64 x.1.timeout) := hc 2 _ rfl
    have k3 : wr.cell? ⟨bu, gu + i * 4 + 3, none⟩ = some (.int .i64 x.1.retries) := hc 3 _ rfl
    have j0 : (0 : Int) ≤ (i : Int) := by omega
    have j1 : (i : Int) < (U.length : Int) := by omega
    have hkk : IntKind.i64.wrap ((i : Int) + 1) = ((i + 1 : Nat) : Int) := by rw [IntKind.wrap_i64]; omega
    clear hc hft hfl hxi hT HB HS hpr hbl
    have HB := HB1
    clear HB1
    obtain ⟨o3, hst3, hrd3⟩ := new_row (k := 1) (by omega) wr oi #[.string (str x.1.name), .slice x.2.1 x.1.peers.length x.2.2, .int .i64 x.1.timeout, .int .i64 x.1.retries] 73
    obtain ⟨W3, hW3⟩ : ∃ W, W = wr.alloc (.cells #[.string (str x.1.name), .slice x.2.1 x.1.peers.length x.2.2, .int .i64 x.1.timeout, .int .i64 x.1.retries] 73) := ⟨_, rfl⟩
    rw [← hW3] at hst3 hrd3
    obtain ⟨g3, hg3⟩ : ∃ g, g = wr.heap.size := ⟨_, rfl⟩
    rw [← hg3] at hrd3
    have HRD3 := Lib.hid hrd3
    have HWA : Hid (Stp (KW 1) W2 o2 W3 o3) := Lib.hid (HW.out.tr (hst3 _))
    have HPR3 : Hid (∀ w' o', Stp (KW 1) W3 o3 w' o' → Rd w' x.2.1 (x.1.peers.flatMap peV)) := Lib.hid (fun w' o' s => HPR.out w' o' ((hst3 _).tr s))
    have HB3 : Hid (BwAt W3 o3 1 b T) := Lib.hid (HB.out.stp (hst3 fun _ => False) (fun x => x) (fun x => x))
    have HP0 := HP
    have HP3 : Hid (∀ w' o', Stp (KW 1) W3 o3 w' o' → Pow w') := Lib.hid (fun w' o' s => HP.out w' o' (HWA.out.tr s))
    clear hst3 hrd3 HPR HB HP HW
    have HB := HB3
    have HP := HP3
    have HS : Hid (Stp (KW 1) W3 o3 W3 o3) := Lib.hid Stp.rfl'
    have HL0 := HL
    clear HB3 HP3 HL
    have HL := HL3
    clear HL3
    go_upto_region 12 with (fail)
    rw [← hW3, ← hg3]
    clear hW3 hg3 k0 k1 k2 k3
    have z0 := HRD3.out _ _ HS.out 0 _ rfl
    go_upto_region 13 with (go_at_call 39; refine (lineN_c 1 b _ beg [117, 112, 115, 116, 114, 101, 97, 109] [.txt x.1.name] _ _ HB.out (by omega) (ok1 HUN1.out.name) (fun w' o' s => HP.out w' o' (HS.out.tr s)) (by have := HL.out; skip; (try simp only [List.length_append, List.length_nil]); omega) _ rfl).mono ?_; rintro e' w1 ⟨o1, rfl, hb, hs⟩; have HB := Lib.hid hb; have HS := Lib.hid (HS.out.tr hs); clear hb hs)
    clear z0
    have z1 := HRD3.out _ _ HS.out 1 _ rfl
    go_wp2
    clear z1
    obtain ⟨T1, hT1⟩ : ∃ t, t = lineT beg [117, 112, 115, 116, 114, 101, 97, 109] [.txt x.1.name] := ⟨_, rfl⟩
    have HT1 := Lib.hid hT1
    rw [← hT1] at HB HL
    clear hT1
    go_loopw [63] (fun v63 wx => ∃ (j : Nat) (o' : Ow), v63 = .int .i64 (j : Int) ∧ j ≤ x.1.peers.length ∧ Hid (BwAt wx o' 1 b (T ++ T1 ++ (x.1.peers.take j).flatMap peT)) ∧ Hid (Stp (KW 1) W3 o3 wx o')) (fun v63 _ => x.1.peers.length - (intOf v63).toNat)
    case atStart => exact ⟨0, _, rfl, Nat.zero_le _, Lib.hid (by simpa using HB.out), HS⟩
    case round =>
     clear HB HS
     obtain ⟨j, oj, rfl, hj, HB, HS⟩ := hrel
     by_cases hjt : j < x.1.peers.length
     ·obtain ⟨bp, gp, hpa, hpl, hc⟩ := (HPR3.out _ _ HS.out).row (sz := 2) (fun _ => rfl) (by omega) hjt
      have hft := fmT_take peT x.1.peers j hjt
      have hfl := fmT_le1 peT x.1.peers j hjt
      have hok1 := HUN1.out.id _ (List.getElem_mem hjt)
      have hok2 := HUN1.out.most _ (List.getElem_mem hjt)
      obtain ⟨y, hy⟩ : ∃ y, y = x.1.peers[j] := ⟨_, rfl⟩
      rw [← hy] at hc hft hfl hok1 hok2
      obtain ⟨T2, hT2⟩ : ∃ t, t = T ++ T1 ++ (x.1.peers.take j).flatMap peT := ⟨_, rfl⟩
      have HFT2 : Hid (T ++ T1 ++ (x.1.peers.take (j + 1)).flatMap peT = T2 ++ peT y) := Lib.hid (by rw [hft, hT2]; simp only [List.append_assoc])
      have HL2 : Hid (T2.length + (lineT semi [112, 101, 101, 114] [.num y.id, .num y.most]).length ≤ 140737488355328) := Lib.hid (by
       have := HL.out
       have e : (peT y).length = (lineT semi [112, 101, 101, 114] [.num y.id, .num y.most]).length := rfl
       rw [hT2]
       simp only [List.length_append]
       omega)
      rw [← hT2] at HB
      have k0 : wr.cell? ⟨bp, gp + j * 2, none⟩ = some (.int .i64 y.id) := hc 0 _ rfl
      have k1 : wr.cell? ⟨bp, gp + j * 2 + 1, none⟩ = some (.int .i64 y.most) := hc 1 _ rfl
      have i0 : (0 : Int) ≤ (j : Int) := by omega
      have i1 : (j : Int) < (x.1.peers.length : Int) := by omega
      have hkj : IntKind.i64.wrap ((j : Int) + 1) = ((j + 1 : Nat) : Int) := by rw [IntKind.wrap_i64]; omega
      have HWB := HS
      clear hc hft hfl hy hT2 HS hpl
      obtain ⟨o4, hst4, hrd4⟩ := new_row (k := 1) (by omega) wr oj #[.int .i64 y.id, .int .i64 y.most] 75
      obtain ⟨W4, hW4⟩ : ∃ W, W = wr.alloc (.cells #[.int .i64 y.id, .int .i64 y.most] 75) := ⟨_, rfl⟩
      rw [← hW4] at hst4 hrd4
      obtain ⟨g4, hg4⟩ : ∃ g, g = wr.heap.size := ⟨_, rfl⟩
      rw [← hg4] at hrd4
      have HRD4 := Lib.hid hrd4
      have HWC : Hid (Stp (KW 1) W3 o3 W4 o4) := Lib.hid (HWB.out.tr (hst4 _))
      have HB4 : Hid (BwAt W4 o4 1 b T2) := Lib.hid (HB.out.stp (hst4 fun _ => False) (fun x => x) (fun x => x))
      have HP4 : Hid (∀ w' o', Stp (KW 1) W4 o4 w' o' → Pow w') := Lib.hid (fun w' o' s => HP.out w' o' (HWC.out.tr s))
      clear hst4 hrd4 HB HP HWB HL
      have HB := HB4
      have HP := HP4
      have HL := HL2
      have HS : Hid (Stp (KW 1) W4 o4 W4 o4) := Lib.hid Stp.rfl'
      clear HB4 HP4 HL2
      rw [hpa]
      go_upto_region 16 with (fail)
      rw [← hW4, ← hg4]
      clear hW4 hg4 k0 k1
      have z0 := HRD4.out _ _ HS.out 0 _ rfl
      have z1 := HRD4.out _ _ HS.out 1 _ rfl
      go_wp2_with (go_at_call 39; refine (lineN_c 1 b _ semi [112, 101, 101, 114] [.num y.id, .num y.most] _ _ HB.out (by omega) (ok2 hok1 hok2) (fun w' o' s => HP.out w' o' (HS.out.tr s)) (by have := HL.out; skip; (try simp only [List.length_append, List.length_nil]); omega) _ rfl).mono ?_; rintro e' w1 ⟨o1, rfl, hb, hs⟩; have HB := Lib.hid hb; have HS := Lib.hid (HS.out.tr hs); clear hb hs)
      go_roundw
      case rel => exact ⟨j + 1, _, rfl, by omega, Lib.hid (by rw [HFT2.out]; exact HB.out), Lib.hid (HWC.out.tr HS.out)⟩
      case measure => simp [intOf]; omega
     ·have htk : x.1.peers.take j = x.1.peers := List.take_of_length_le (by omega)
      rw [htk] at HB
      have i1 : ¬ (j : Int) < (x.1.peers.length : Int) := by omega
      obtain ⟨T2, hT2⟩ : ∃ t, t = x.1.peers.flatMap peT := ⟨_, rfl⟩
      have HT2 := Lib.hid hT2
      rw [← hT2] at HB HL
      clear htk hT2
      have z2 := HRD3.out _ _ HS.out 2 _ rfl
      go_upto_region 19 with (go_at_call 39; refine (lineN_c 1 b _ semi [116, 105, 109, 101, 111, 117, 116] [.num x.1.timeout] _ _ HB.out (by omega) (ok1 HUN1.out.timeout) (fun w' o' s => HP.out w' o' (HS.out.tr s)) (by have := HL.out; skip; (try simp only [List.length_append, List.length_nil]); omega) _ rfl).mono ?_; rintro e' w1 ⟨o1, rfl, hb, hs⟩; have HB := Lib.hid hb; have HS := Lib.hid (HS.out.tr hs); clear hb hs)
      clear z2
      have z3 := HRD3.out _ _ HS.out 3 _ rfl
      go_upto_region 20 with (go_at_call 39; refine (lineN_c 1 b _ semi [114, 101, 116, 114, 105, 101, 115] [.num x.1.retries] _ _ HB.out (by omega) (ok1 HUN1.out.retries) (fun w' o' s => HP.out w' o' (HS.out.tr s)) (by have := HL.out; skip; (try simp only [List.length_append, List.length_nil]); omega) _ rfl).mono ?_; rintro e' w1 ⟨o1, rfl, hb, hs⟩; have HB := Lib.hid hb; have HS := Lib.hid (HS.out.tr hs); clear hb hs)
      clear z3
      have HLS : Hid (shut.length = (lineT [] [125] []).length) := Lib.hid rfl
      go_wp2_with (go_at_call 39; refine (line0_c 1 b _ [] [125] _ _ HB.out (fun w' o' s => HP.out w' o' (HS.out.tr s)) (by have := HL.out; (have := HLS.out); (try simp only [List.length_append, List.length_nil]); omega)).mono ?_; rintro e' w1 ⟨o1, rfl, hb, hs⟩; have HB := Lib.hid hb; have HS := Lib.hid (HS.out.tr hs); clear hb hs)
      go_roundw
      case rel => exact ⟨i + 1, _, rfl, by omega, Lib.hid (by rw [HFT.out]; have := HB.out; unfold upT shut; rw [← HT1.out, ← HT2.out]; simpa [List.append_assoc] using this), Lib.hid (HWA.out.tr HS.out)⟩
      case measure => simp [intOf]; omega
   ·have htk : U.take i = U := List.take_of_length_le (by omega)
    rw [htk] at HB
    have i1 : ¬ (i : Int) < (U.length : Int) := by omega
    obtain ⟨TU, hTU⟩ : ∃ t, t = U.flatMap fun x => upT x.1 := ⟨_, rfl⟩
    rw [← hTU] at HB HL HTX
    clear htk hTU hUN hUZ HW
    have z5 := HCL.out _ _ HS.out 5 _ rfl
    go_wp2
    clear z5 i1
    go_loopw [95] (fun v95 wr => ∃ (m : Nat) (o' : Ow), v95 = .int .i64 (m : Int) ∧ m ≤ S.length ∧ Hid (BwAt wr o' 1 b (th ++ TU ++ (S.take m).flatMap fun x => srT x.1)) ∧ Hid (Stp (KW 1) W2 o2 wr o')) (fun v95 _ => S.length - (intOf v95).toNat)
    case atStart => exact ⟨0, _, rfl, Nat.zero_le _, Lib.hid (by simpa using HB.out), HS⟩
    case round =>
     clear HB HS
     obtain ⟨m, om, rfl, hm, HB, HS⟩ := hrel
     have HW := HS
     by_cases hlt : m < S.length
     ·obtain ⟨bs, gs, hsa, hbl, hc⟩ := (HRX.out _ _ HS.out).srvs.row (sz := 3) (fun _ => rfl) (by omega) hlt
      have HSN1 := Lib.hid (hSN.out S[m] (List.getElem_mem hlt))
      have HNR : Hid (∀ w' o', Stp (KW 1) wr om w' o' → Rd w' S[m].2.1.1 (strC S[m].1.names) ∧ Rd w' S[m].2.2.1 (S[m].1.locs.flatMap loV)) := Lib.hid (fun w' o' s => ⟨(HRX.out _ _ (HS.out.tr s)).names S[m] (List.getElem_mem hlt), (HRX.out _ _ (HS.out.tr s)).locs S[m] (List.getElem_mem hlt)⟩)
      have hft := fmT_take (fun x : Sr14 × Hd × Hd => srT x.1) S m hlt
      have hfl := fmT_le1 (fun x : Sr14 × Hd × Hd => srT x.1) S m hlt
      obtain ⟨x, hxi⟩ : ∃ x, x = S[m] := ⟨_, rfl⟩
      rw [← hxi] at hc HSN1 HNR hft hfl
      have hnl := HSN1.out.2.2.nl
      have hll := HSN1.out.2.2.ll
      obtain ⟨T, hT⟩ : ∃ T, T = th ++ TU ++ (S.take m).flatMap fun x => srT x.1 := ⟨_, rfl⟩
      have HFT : Hid (th ++ TU ++ ((S.take (m + 1)).flatMap fun x => srT x.1) = T ++ srT x.1) := Lib.hid (by rw [hft, hT]; simp only [List.append_assoc])
      obtain ⟨td, htd⟩ : ∃ t, t = dfT x.1.dflt := ⟨_, rfl⟩
      have HTD := Lib.hid htd
      have HL3 : Hid (T.length + ((lineT beg [115, 101, 114, 118, 101, 114] []).length + (x.1.names.flatMap nmT).length + td.length + (x.1.locs.flatMap loT).length + shut.length) ≤ 140737488355328) := Lib.hid (by
       have := HL.out
       have e : (srT x.1).length = (lineT beg [115, 101, 114, 118, 101, 114] []).length + (x.1.names.flatMap nmT).length + td.length + (x.1.locs.flatMap loT).length + shut.length := by unfold srT; rw [htd]; simp only [List.length_append]
       rw [hT]
       simp only [List.length_append]
       omega)
      have HB1 : Hid (BwAt wr om 1 b T) := Lib.hid (by rw [hT]; exact HB.out)
      have k0 : wr.cell? ⟨bs, gs + m * 3, none⟩ = some (.slice x.2.1.1 x.1.names.length x.2.1.2) := hc 0 _ rfl
      have k1 : wr.cell? ⟨bs, gs + m * 3 + 1, none⟩ = some (.bool x.1.dflt) := hc 1 _ rfl
      have k2 : wr.cell? ⟨bs, gs + m * 3 + 2, none⟩ = some (.slice x.2.2.1 x.1.locs.length x.2.2.2) := hc 2 _ rfl
      have j0 : (0 : Int) ≤ (m : Int) := by omega
      have j1 : (m : Int) < (S.length : Int) := by omega
      have hkk : IntKind.i64.wrap ((m : Int) + 1) = ((m + 1 : Nat) : Int) := by rw [IntKind.wrap_i64]; omega
      clear hc hft hfl hxi hT HB HS hbl htd
      have HB := HB1
      clear HB1
      obtain ⟨o3, hst3, hrd3⟩ := new_row (k := 1) (by omega) wr om #[.slice x.2.1.1 x.1.names.length x.2.1.2, .bool x.1.dflt, .slice x.2.2.1 x.1.locs.length x.2.2.2] 78
      obtain ⟨W3, hW3⟩ : ∃ W, W = wr.alloc (.cells #[.slice x.2.1.1 x.1.names.length x.2.1.2, .bool x.1.dflt, .slice x.2.2.1 x.1.locs.length x.2.2.2] 78) := ⟨_, rfl⟩
      rw [← hW3] at hst3 hrd3
      obtain ⟨g3, hg3⟩ : ∃ g, g = wr.heap.size := ⟨_, rfl⟩
      rw [← hg3] at hrd3
      have HRD3 := Lib.hid hrd3
      have HWA : Hid (Stp (KW 1) W2 o2 W3 o3) := Lib.hid (HW.out.tr (hst3 _))
      have HNR3 : Hid (∀ w' o', Stp (KW 1) W3 o3 w' o' → Rd w' x.2.1.1 (strC x.1.names) ∧ Rd w' x.2.2.1 (x.1.locs.flatMap loV)) := Lib.hid (fun w' o' s => HNR.out w' o' ((hst3 _).tr s))
      have HB3 : Hid (BwAt W3 o3 1 b T) := Lib.hid (HB.out.stp (hst3 fun _ => False) (fun x => x) (fun x => x))
      have HP0 := HP
      have HP3 : Hid (∀ w' o', Stp (KW 1) W3 o3 w' o' → Pow w') := Lib.hid (fun w' o' s => HP.out w' o' (HWA.out.tr s))
      clear hst3 hrd3 HNR HB HP HW
      have HB := HB3
      have HP := HP3
      have HS : Hid (Stp (KW 1) W3 o3 W3 o3) := Lib.hid Stp.rfl'
      clear HB3 HP3 HL
      have HL := HL3
      clear HL3
      rw [hsa]
      go_upto_region 25 with (fail)
      rw [← hW3, ← hg3]
      clear hW3 hg3 k0 k1 k2
      go_upto_region 26 with (go_at_call 39; refine (line0_c 1 b _ beg [115, 101, 114, 118, 101, 114] _ _ HB.out (fun w' o' s => HP.out w' o' (HS.out.tr s)) (by have := HL.out; skip; (try simp only [List.length_append, List.length_nil]); omega)).mono ?_; rintro e' w1 ⟨o1, rfl, hb, hs⟩; have HB := Lib.hid hb; have HS := Lib.hid (HS.out.tr hs); clear hb hs)
      have z0 := HRD3.out _ _ HS.out 0 _ rfl
      go_wp2
      clear z0
      obtain ⟨T1, hT1⟩ : ∃ t, t = lineT beg [115, 101, 114, 118, 101, 114] [] := ⟨_, rfl⟩
      have HT1 := Lib.hid hT1
      rw [← hT1] at HB HL
      clear hT1
      go_loopw [104] (fun v104 wx => ∃ (j : Nat) (o' : Ow), v104 = .int .i64 (j : Int) ∧ j ≤ x.1.names.length ∧ Hid (BwAt wx o' 1 b (T ++ T1 ++ (x.1.names.take j).flatMap nmT)) ∧ Hid (Stp (KW 1) W3 o3 wx o')) (fun v104 _ => x.1.names.length - (intOf v104).toNat)
      case atStart => exact ⟨0, _, rfl, Nat.zero_le _, Lib.hid (by simpa using HB.out), HS⟩
      case round =>
       clear HB HS
       obtain ⟨j, oj, rfl, hj, HB, HS⟩ := hrel
       by_cases hjt : j < x.1.names.length
       ·have hok1 := HSN1.out.1 _ (List.getElem_mem hjt)
        obtain ⟨bp, gp, hpa, hc⟩ : ∃ bp gp, x.2.1.1 = some ⟨bp, gp, none⟩ ∧ wr.cell? ⟨bp, gp + j, none⟩ = some (.string (str x.1.names[j])) := by
         rcases (HNR3.out _ _ HS.out).1 with h | ⟨g, f, hA, hc⟩
         ·exact absurd (List.map_eq_nil_iff.1 h) (fun e => by rw [e] at hjt; simp at hjt)
         ·exact ⟨g, f, hA, hc j _ (by unfold strC; rw [List.getElem?_map, List.getElem?_eq_getElem hjt]; rfl)⟩
        have hft := fmT_take nmT x.1.names j hjt
        have hfl := fmT_le1 nmT x.1.names j hjt
        obtain ⟨y, hy⟩ : ∃ y, y = x.1.names[j] := ⟨_, rfl⟩
        rw [← hy] at hc hft hfl hok1
        obtain ⟨T2, hT2⟩ : ∃ t, t = T ++ T1 ++ (x.1.names.take j).flatMap nmT := ⟨_, rfl⟩
        have HFT2 : Hid (T ++ T1 ++ (x.1.names.take (j + 1)).flatMap nmT = T2 ++ nmT y) := Lib.hid (by rw [hft, hT2]; simp only [List.append_assoc])
        have HL2 : Hid (T2.length + (lineT semi [110, 97, 109, 101] [.txt y]).length ≤ 140737488355328) := Lib.hid (by
         have := HL.out
         have e : (nmT y).length = (lineT semi [110, 97, 109, 101] [.txt y]).length := rfl
         rw [hT2]
         simp only [List.length_append]
         omega)
        rw [← hT2] at HB
        have i0 : (0 : Int) ≤ (j : Int) := by omega
        have i1 : (j : Int) < (x.1.names.length : Int) := by omega
        have hkj : IntKind.i64.wrap ((j : Int) + 1) = ((j + 1 : Nat) : Int) := by rw [IntKind.wrap_i64]; omega
        clear hft hfl hy hT2 HL
        have HL := HL2
        clear HL2
        rw [hpa]
        go_wp2_with (go_at_call 39; refine (lineN_c 1 b _ semi [110, 97, 109, 101] [.txt y] _ _ HB.out (by omega) (ok1 hok1) (fun w' o' s => HP.out w' o' (HS.out.tr s)) (by have := HL.out; skip; (try simp only [List.length_append, List.length_nil]); omega) _ rfl).mono ?_; rintro e' w1 ⟨o1, rfl, hb, hs⟩; have HB := Lib.hid hb; have HS := Lib.hid (HS.out.tr hs); clear hb hs)
        go_roundw
        case rel => exact ⟨j + 1, _, rfl, by omega, Lib.hid (by rw [HFT2.out]; exact HB.out), HS⟩
        case measure => simp [intOf]; omega
       ·have htk : x.1.names.take j = x.1.names := List.take_of_length_le (by omega)
        rw [htk] at HB
        have i1 : ¬ (j : Int) < (x.1.names.length : Int) := by omega
        obtain ⟨T2, hT2⟩ : ∃ t, t = x.1.names.flatMap nmT := ⟨_, rfl⟩
        have HT2 := Lib.hid hT2
        rw [← hT2] at HB HL
        clear htk hT2
        have z1 := HRD3.out _ _ HS.out 1 _ rfl
        go_upto_region 31 with (fail)
        go_cut [115] (fun v115 wx => v115 = .bool x.1.dflt ∧ wx = wr)
        case first =>
         go_wp2
         go_meet
         exact ⟨rfl, rfl⟩
        obtain ⟨rfl, rfl⟩ := hcut
        go_step
        go_cut [] (fun wx => ∃ o', Hid (BwAt wx o' 1 b (T ++ T1 ++ T2 ++ td)) ∧ Hid (Stp (KW 1) W3 o3 wx o'))
        case first =>
         obtain ⟨df, hdf⟩ : ∃ d, d = x.1.dflt := ⟨_, rfl⟩
         rw [← hdf]
         have htd0 : td = dfT df := by rw [HTD.out, hdf]
         clear hdf
         cases df with
         | false =>
          have htd : td = [] := htd0
          go_wp2
          go_meet
          exact ⟨_, Lib.hid (by rw [htd, List.append_nil]; exact HB.out), HS⟩
         | true =>
          have HLD : Hid (td = lineT semi [100, 101, 102, 97, 117, 108, 116] []) := Lib.hid htd0
          clear htd0
          go_wp2_with (go_at_call 39; refine (line0_c 1 b _ semi [100, 101, 102, 97, 117, 108, 116] _ _ HB.out (fun w' o' s => HP.out w' o' (HS.out.tr s)) (by have := HL.out; (have := congrArg List.length HLD.out); (try simp only [List.length_append, List.length_nil]); omega)).mono ?_; rintro e' w1 ⟨o1, rfl, hb, hs⟩; have HB := Lib.hid hb; have HS := Lib.hid (HS.out.tr hs); clear hb hs)
          go_meet
          exact ⟨_, Lib.hid (by rw [HLD.out]; exact HB.out), HS⟩
        case rest =>
         clear HB HS z1
         obtain ⟨o5, HB, HS⟩ := hcut
         have z2 := HRD3.out _ _ HS.out 2 _ rfl
         go_wp2
         clear z2 i1
         go_loopw [121] (fun v121 wx => ∃ (j : Nat) (o' : Ow), v121 = .int .i64 (j : Int) ∧ j ≤ x.1.locs.length ∧ Hid (BwAt wx o' 1 b (T ++ T1 ++ T2 ++ td ++ (x.1.locs.take j).flatMap loT)) ∧ Hid (Stp (KW 1) W3 o3 wx o')) (fun v121 _ => x.1.locs.length - (intOf v121).toNat)
         case atStart => exact ⟨0, _, rfl, Nat.zero_le _, Lib.hid (by simpa using HB.out), HS⟩
         case round =>
          clear HB HS
          obtain ⟨j, oj, rfl, hj, HB, HS⟩ := hrel
          by_cases hjt : j < x.1.locs.length
          ·obtain ⟨bp, gp, hpa, hpl, hc⟩ := (HNR3.out _ _ HS.out).2.row (sz := 12) (fun _ => rfl) (by omega) hjt
           have hok1 := HSN1.out.2.1 _ (List.getElem_mem hjt)
           have hft := fmT_take loT x.1.locs j hjt
           have hfl := fmT_le1 loT x.1.locs j hjt
           obtain ⟨y, hy⟩ : ∃ y, y = x.1.locs[j] := ⟨_, rfl⟩
           rw [← hy] at hc hft hfl hok1
           obtain ⟨T3, hT3⟩ : ∃ t, t = T ++ T1 ++ T2 ++ td ++ (x.1.locs.take j).flatMap loT := ⟨_, rfl⟩
           have HFT3 : Hid (T ++ T1 ++ T2 ++ td ++ (x.1.locs.take (j + 1)).flatMap loT = T3 ++ loT y) := Lib.hid (by rw [hft, hT3]; simp only [List.append_assoc])
           have HL3 : Hid (T3.length + (loT y).length ≤ 140737488355328) := Lib.hid (by
            have := HL.out
            rw [hT3]
            simp only [List.length_append]
            omega)
           rw [← hT3] at HB
           have k0 : wr.cell? ⟨bp, gp + j * 12, none⟩ = some (.string (str y.pre)) := hc 0 _ rfl
           have k1 : wr.cell? ⟨bp, gp + j * 12 + 1, none⟩ = some (.int .i64 y.kind) := hc 1 _ rfl
           have k2 : wr.cell? ⟨bp, gp + j * 12 + 2, none⟩ = some (.string (str y.root)) := hc 2 _ rfl
           have k3 : wr.cell? ⟨bp, gp + j * 12 + 3, none⟩ = some (.string (str y.index)) := hc 3 _ rfl
           have k4 : wr.cell? ⟨bp, gp + j * 12 + 4, none⟩ = some (.int .i64 y.gzip) := hc 4 _ rfl
           have k5 : wr.cell? ⟨bp, gp + j * 12 + 5, none⟩ = some (.int .i64 y.expires) := hc 5 _ rfl
           have k6 : wr.cell? ⟨bp, gp + j * 12 + 6, none⟩ = some (.string (str y.up)) := hc 6 _ rfl
           have k7 : wr.cell? ⟨bp, gp + j * 12 + 7, none⟩ = some (.bool y.cache) := hc 7 _ rfl
           have k8 : wr.cell? ⟨bp, gp + j * 12 + 8, none⟩ = some (.int .i64 y.rate) := hc 8 _ rfl
           have k9 : wr.cell? ⟨bp, gp + j * 12 + 9, none⟩ = some (.int .i64 y.burst) := hc 9 _ rfl
           have k10 : wr.cell? ⟨bp, gp + j * 12 + 10, none⟩ = some (.int .i64 y.status) := hc 10 _ rfl
           have k11 : wr.cell? ⟨bp, gp + j * 12 + 11, none⟩ = some (.string (str y.goal)) := hc 11 _ rfl
           have i0 : (0 : Int) ≤ (j : Int) := by omega
           have i1 : (j : Int) < (x.1.locs.length : Int) := by omega
           have hkj : IntKind.i64.wrap ((j : Int) + 1) = ((j + 1 : Nat) : Int) := by rw [IntKind.wrap_i64]; omega
           have HOK1 := Lib.hid hok1
           have HWB := HS
           clear hc hft hfl hy hT3 HS hpl hok1
           obtain ⟨o4, hst4, hrd4⟩ := new_row (k := 1) (by omega) wr oj #[.string (str y.pre), .int .i64 y.kind, .string (str y.root), .string (str y.index), .int .i64 y.gzip, .int .i64 y.expires, .string (str y.up), .bool y.cache, .int .i64 y.rate, .int .i64 y.burst, .int .i64 y.status, .string (str y.goal)] 81
           obtain ⟨W4, hW4⟩ : ∃ W, W = wr.alloc (.cells #[.string (str y.pre), .int .i64 y.kind, .string (str y.root), .string (str y.index), .int .i64 y.gzip, .int .i64 y.expires, .string (str y.up), .bool y.cache, .int .i64 y.rate, .int .i64 y.burst, .int .i64 y.status, .string (str y.goal)] 81) := ⟨_, rfl⟩
           rw [← hW4] at hst4 hrd4
           obtain ⟨g4, hg4⟩ : ∃ g, g = wr.heap.size := ⟨_, rfl⟩
           rw [← hg4] at hrd4
           have HRD4 := Lib.hid hrd4
           have HWC : Hid (Stp (KW 1) W3 o3 W4 o4) := Lib.hid (HWB.out.tr (hst4 _))
           have HB4 : Hid (BwAt W4 o4 1 b T3) := Lib.hid (HB.out.stp (hst4 fun _ => False) (fun x => x) (fun x => x))
           have HP4 : Hid (∀ w' o', Stp (KW 1) W4 o4 w' o' → Pow w') := Lib.hid (fun w' o' s => HP.out w' o' (HWC.out.tr s))
           clear hst4 hrd4 HB HP HWB HL
           have HB := HB4
           have HP := HP4
           have HL := HL3
           have HS : Hid (Stp (KW 1) W4 o4 W4 o4) := Lib.hid Stp.rfl'
           clear HB4 HP4 HL3
           rw [hpa]
           go_upto_region 36 with (fail)
           rw [← hW4, ← hg4]
           clear hW4 hg4 k0 k1 k2 k3 k4 k5 k6 k7 k8 k9 k10 k11
           have z0 := HRD4.out _ _ HS.out 0 _ rfl
           have z1 := HRD4.out _ _ HS.out 1 _ rfl
           have z2 := HRD4.out _ _ HS.out 2 _ rfl
           have z3 := HRD4.out _ _ HS.out 3 _ rfl
           have z4 := HRD4.out _ _ HS.out 4 _ rfl
           have z5 := HRD4.out _ _ HS.out 5 _ rfl
           have z6 := HRD4.out _ _ HS.out 6 _ rfl
           have z7 := HRD4.out _ _ HS.out 7 _ rfl
           have z8 := HRD4.out _ _ HS.out 8 _ rfl
           have z9 := HRD4.out _ _ HS.out 9 _ rfl
           have z10 := HRD4.out _ _ HS.out 10 _ rfl
           have z11 := HRD4.out _ _ HS.out 11 _ rfl
           go_wp2_with (go_at_call 40; refine (cWLoc_c 1 b _ y HOK1.out (by omega) _ _ HB.out (fun w' o' s => HP.out w' o' (HS.out.tr s)) HL.out).mono ?_; rintro e' w1 ⟨o1, rfl, hb, hs⟩; have HB := Lib.hid hb; have HS := Lib.hid (HS.out.tr hs); clear hb hs)
           go_roundw
           case rel => exact ⟨j + 1, _, rfl, by omega, Lib.hid (by rw [HFT3.out]; exact HB.out), Lib.hid (HWC.out.tr HS.out)⟩
           case measure => simp [intOf]; omega
          ·have htk : x.1.locs.take j = x.1.locs := List.take_of_length_le (by omega)
           rw [htk] at HB
           have i1 : ¬ (j : Int) < (x.1.locs.length : Int) := by omega
           obtain ⟨T3, hT3⟩ : ∃ t, t = x.1.locs.flatMap loT := ⟨_, rfl⟩
           have HT3 := Lib.hid hT3
           rw [← hT3] at HB HL
           clear htk hT3
           have HLS : Hid (shut.length = (lineT [] [125] []).length) := Lib.hid rfl
           go_wp2_with (go_at_call 39; refine (line0_c 1 b _ [] [125] _ _ HB.out (fun w' o' s => HP.out w' o' (HS.out.tr s)) (by have := HL.out; (have := HLS.out); (try simp only [List.length_append, List.length_nil]); omega)).mono ?_; rintro e' w1 ⟨o1, rfl, hb, hs⟩; have HB := Lib.hid hb; have HS := Lib.hid (HS.out.tr hs); clear hb hs)
           go_roundw
           case rel => exact ⟨m + 1, _, rfl, by omega, Lib.hid (by rw [HFT.out]; have := HB.out; unfold srT shut; rw [← HT1.out, ← HT2.out, ← HTD.out, ← HT3.out]; simpa [List.append_assoc] using this), Lib.hid (HWA.out.tr HS.out)⟩
           case measure => simp [intOf]; omega
     ·have htk : S.take m = S := List.take_of_length_le (by omega)
      rw [htk] at HB
      have i1 : ¬ (m : Int) < (S.length : Int) := by omega
      rw [← HTX.out] at HB
      clear htk HL
      have BL := Lib.hid (bwLen_c 1 b (textC c) wr om HB.out)
      have BS := Lib.hid (bwStr_c 1 b (textC c) wr om HB.out (ne_textC c))
      have HEX := Lib.hid (fun w' o' (s : Stp (KW 1) wr om w' o') => hx0.tr (hx1.tr (HX.out w' o' (HS.out.tr s))))
      obtain ⟨t, ht⟩ : ∃ t, t = textC c := ⟨_, rfl⟩
      rw [← ht] at BL BS HT
      clear ht HTX HB HS HW HX HCL HRX hSN HP
      by_cases h6 : t.length ≤ 65536
      ·have h6' : decide ((65536 : Int) < (t.length : Int)) = false := decide_eq_false (by omega)
       have h6i : (t.length : Int) ≤ 65536 := by omega
       rw [if_pos h6] at HT
       clear h6
       obtain ⟨st, hst⟩ : ∃ s, s = str t := ⟨_, rfl⟩
       have HST := Lib.hid hst
       have HF : Hid (Value.tuple #[.string (str (textR c).1), .int .i64 (textR c).2] = .tuple #[.string st, .int .i64 0]) := Lib.hid (by rw [HT.out, hst])
       rw [← hst] at BS
       clear hst
       go_wp2_with (first
        | (go_at_call 41; refine BL.out.mono ?_; rintro e' w3 ⟨rfl, rfl⟩)
        | (go_at_call 42; refine BS.out.mono ?_; rintro e' w4 ⟨rfl, hs4⟩))
       go_ret2
       rw [HF.out]
       exact ⟨rfl, HEX.out _ _ hs4⟩
      ·have h6' : decide ((65536 : Int) < (t.length : Int)) = true := decide_eq_true (by omega)
       have h6i : (65536 : Int) < (t.length : Int) := by omega
       rw [if_neg h6] at HT
       clear h6
       go_wp2_with (first
        | (go_at_call 41; refine BL.out.mono ?_; rintro e' w3 ⟨rfl, rfl⟩))
       go_ret2
       rw [HT.out]
       exact ⟨rfl, HEX.out _ _ Stp.rfl'⟩
 ·have hg2 : goodC c = false := by simpa using hg
  have HT : Hid (textR c = ([], 60)) := Lib.hid (if_neg hg)
  rw [hg2] at CK
  clear hg hg2 HN
  go_wp2_with (go_at_call 15; refine (CK.out _ hx0).mono ?_; rintro e' w1 ⟨rfl, hx1⟩)
  go_ret2
  rw [HT.out]
  exact ⟨rfl, hx0.tr hx1⟩
end Go.Proofs.YtmnohicojefhfaaGreatDoor
