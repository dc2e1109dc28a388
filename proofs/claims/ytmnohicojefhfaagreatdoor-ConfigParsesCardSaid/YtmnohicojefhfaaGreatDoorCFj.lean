/-
All directives are put into their map.
-/
import Derived.Test.YtmnohicojefhfaaGreatDoorCFd
import Derived.Test.YtmnohicojefhfaaGreatDoorCIa
import Derived.Test.YtmnohicojefhfaaGreatDoorCFh
import Derived.Deep.DeepCutAuto
set_option maxRecDepth 100000
set_option maxHeartbeats 8000000
set_option linter.unusedVariables false
set_option linter.unusedSimpArgs false
section
namespace Go.Proofs.YtmnohicojefhfaaGreatDoor
open Go.RowKit
theorem cset_c (G:Nat) (w:World):Calls Tryz.prog 51 #[.func (.func G) #[] #[]] w fun e w'=>∃ gc,e=.returned (.func (.func 102) #[] #[.pointer (some ⟨gc,0,none⟩)])∧w'.cell? ⟨gc,0,none⟩=some (.func (.func G) #[] #[])∧Ext w w':=by
 have hmf:∀ (fn:Fn) (first cap:Array Value) (w:World),(Instr.makeFunc fn first cap).run Tryz.prog w=.ok (.func fn first cap) w:=fun _ _ _ _=>rfl
 go_enter Tryz.func51,Tryz.ntmps51
 go_wp2
 go_ret
 exact ⟨_,rfl,new_at _ _ _ 0 _ rfl,by (repeat first | exact Ex0 | assumption | refine Ex1 ?_ | refine Ex2 ?_ | refine Ex3 ?_ | refine Ex4 ?_ | refine Ex5 ?_)⟩
structure XK (w0 w w':World):Prop where
 x:Ext w0 w'
 k:∀ a u,w.cell? a=some u → w'.cell? a=some u
theorem XK.ext {w0 w w1 w2:World} (h:XK w0 w w1) (e:Ext w1 w2):XK w0 w w2:=⟨h.x.tr e,fun a u hc=>(e.cell (lt_of_cell (h.k a u hc))).trans (h.k a u hc)⟩
theorem XK.turn {w0 w w1 w2:World} {b:Nat} (h:XK w0 w w1) (t:w1.mapTurned w2 b) (hb:w0.heap.size ≤ b):XK w0 w w2:=⟨Ext.gr h.x t.grown (fun k hk=>by cases hk; exact hb),fun a u hc=>cell_turned t (h.k a u hc)⟩
def OuterQ (w0 w:World) (b:Nat) (ks:List Dk) (L:List (Dk × Value)) (e:Ending) (w':World):Prop:=e=.returned (.tuple #[])∧(∃ L',L'.map (·.1)=ks∧DAt b (L ++ L') w')∧XK w0 w w'
theorem couter_c (w0 w:World) (b:Nat) (h:DAt b [] w) (hb:w0.heap.size ≤ b) (hx:Ext w0 w):Calls Tryz.prog 46 #[.map (some b)] w (OuterQ w0 w b [.keep,.body,.store,.conns,.upstream,.peer,.timeout,.retries,.server,.name,.dflt,.location] []):=by
 have H:=Lib.hid h
 have X:Hid (XK w0 w w):=Lib.hid ⟨hx,fun _ _ h=>h⟩
 have HB:=Lib.hid hb
 clear h hx hb
 go_enter Tryz.func46,Tryz.ntmps46
 go_wp2_with (first
  | (go_at_call 51; refine (cset_c _ _).mono ?_; rintro e w1 ⟨gc,rfl,hc1,hx1⟩; have H:=Lib.hid (H.out.ext hx1); have X:=Lib.hid (X.out.ext hx1); clear hx1)
  | (at_mapUpdate; refine wpL_mput rfl _ _ _ 53 rfl 115 keyedC mapD Tryz.underlying9 rfl H.out.m (Nat.lt_of_le_of_lt (dm_len _) (by simp [maxLen])) (nameD .keep) (by decide) rfl (dirV .keep _) rfl ?_; intro w5 hi5 ht5; have H:=Lib.hid (H.out.put (k:=.keep) (show FnOk .keep _ _ from ⟨_,rfl,hc1⟩) hi5 ht5); have X:=Lib.hid (X.out.turn ht5 HB.out); clear hi5 ht5 hc1)
  | (at_mapUpdate; refine wpL_mput rfl _ _ _ 53 rfl 115 keyedC mapD Tryz.underlying9 rfl H.out.m (Nat.lt_of_le_of_lt (dm_len _) (by simp [maxLen])) (nameD .body) (by decide) rfl (dirV .body _) rfl ?_; intro w5 hi5 ht5; have H:=Lib.hid (H.out.put (k:=.body) (show FnOk .body _ _ from ⟨_,rfl,hc1⟩) hi5 ht5); have X:=Lib.hid (X.out.turn ht5 HB.out); clear hi5 ht5 hc1)
  | (at_mapUpdate; refine wpL_mput rfl _ _ _ 53 rfl 115 keyedC mapD Tryz.underlying9 rfl H.out.m (Nat.lt_of_le_of_lt (dm_len _) (by simp [maxLen])) (nameD .store) (by decide) rfl (dirV .store _) rfl ?_; intro w5 hi5 ht5; have H:=Lib.hid (H.out.put (k:=.store) (show FnOk .store _ _ from ⟨_,rfl,hc1⟩) hi5 ht5); have X:=Lib.hid (X.out.turn ht5 HB.out); clear hi5 ht5 hc1)
  | (at_mapUpdate; refine wpL_mput rfl _ _ _ 53 rfl 115 keyedC mapD Tryz.underlying9 rfl H.out.m (Nat.lt_of_le_of_lt (dm_len _) (by simp [maxLen])) (nameD .conns) (by decide) rfl (dirV .conns _) rfl ?_; intro w5 hi5 ht5; have H:=Lib.hid (H.out.put (k:=.conns) (show FnOk .conns _ _ from ⟨_,rfl,hc1⟩) hi5 ht5); have X:=Lib.hid (X.out.turn ht5 HB.out); clear hi5 ht5 hc1)
  | (at_mapUpdate; refine wpL_mput rfl _ _ _ 53 rfl 115 keyedC mapD Tryz.underlying9 rfl H.out.m (Nat.lt_of_le_of_lt (dm_len _) (by simp [maxLen])) (nameD .upstream) (by decide) rfl (dirV .upstream _) rfl ?_; intro w5 hi5 ht5; have H:=Lib.hid (H.out.put (k:=.upstream) (show FnOk .upstream _ _ from rfl) hi5 ht5); have X:=Lib.hid (X.out.turn ht5 HB.out); clear hi5 ht5)
  | (at_mapUpdate; refine wpL_mput rfl _ _ _ 53 rfl 115 keyedC mapD Tryz.underlying9 rfl H.out.m (Nat.lt_of_le_of_lt (dm_len _) (by simp [maxLen])) (nameD .peer) (by decide) rfl (dirV .peer _) rfl ?_; intro w5 hi5 ht5; have H:=Lib.hid (H.out.put (k:=.peer) (show FnOk .peer _ _ from rfl) hi5 ht5); have X:=Lib.hid (X.out.turn ht5 HB.out); clear hi5 ht5)
  | (at_mapUpdate; refine wpL_mput rfl _ _ _ 53 rfl 115 keyedC mapD Tryz.underlying9 rfl H.out.m (Nat.lt_of_le_of_lt (dm_len _) (by simp [maxLen])) (nameD .timeout) (by decide) rfl (dirV .timeout _) rfl ?_; intro w5 hi5 ht5; have H:=Lib.hid (H.out.put (k:=.timeout) (show FnOk .timeout _ _ from ⟨_,rfl,hc1⟩) hi5 ht5); have X:=Lib.hid (X.out.turn ht5 HB.out); clear hi5 ht5 hc1)
  | (at_mapUpdate; refine wpL_mput rfl _ _ _ 53 rfl 115 keyedC mapD Tryz.underlying9 rfl H.out.m (Nat.lt_of_le_of_lt (dm_len _) (by simp [maxLen])) (nameD .retries) (by decide) rfl (dirV .retries _) rfl ?_; intro w5 hi5 ht5; have H:=Lib.hid (H.out.put (k:=.retries) (show FnOk .retries _ _ from ⟨_,rfl,hc1⟩) hi5 ht5); have X:=Lib.hid (X.out.turn ht5 HB.out); clear hi5 ht5 hc1)
  | (at_mapUpdate; refine wpL_mput rfl _ _ _ 53 rfl 115 keyedC mapD Tryz.underlying9 rfl H.out.m (Nat.lt_of_le_of_lt (dm_len _) (by simp [maxLen])) (nameD .server) (by decide) rfl (dirV .server _) rfl ?_; intro w5 hi5 ht5; have H:=Lib.hid (H.out.put (k:=.server) (show FnOk .server _ _ from rfl) hi5 ht5); have X:=Lib.hid (X.out.turn ht5 HB.out); clear hi5 ht5)
  | (at_mapUpdate; refine wpL_mput rfl _ _ _ 53 rfl 115 keyedC mapD Tryz.underlying9 rfl H.out.m (Nat.lt_of_le_of_lt (dm_len _) (by simp [maxLen])) (nameD .name) (by decide) rfl (dirV .name _) rfl ?_; intro w5 hi5 ht5; have H:=Lib.hid (H.out.put (k:=.name) (show FnOk .name _ _ from rfl) hi5 ht5); have X:=Lib.hid (X.out.turn ht5 HB.out); clear hi5 ht5)
  | (at_mapUpdate; refine wpL_mput rfl _ _ _ 53 rfl 115 keyedC mapD Tryz.underlying9 rfl H.out.m (Nat.lt_of_le_of_lt (dm_len _) (by simp [maxLen])) (nameD .dflt) (by decide) rfl (dirV .dflt _) rfl ?_; intro w5 hi5 ht5; have H:=Lib.hid (H.out.put (k:=.dflt) (show FnOk .dflt _ _ from rfl) hi5 ht5); have X:=Lib.hid (X.out.turn ht5 HB.out); clear hi5 ht5)
  | (at_mapUpdate; refine wpL_mput rfl _ _ _ 53 rfl 115 keyedC mapD Tryz.underlying9 rfl H.out.m (Nat.lt_of_le_of_lt (dm_len _) (by simp [maxLen])) (nameD .location) (by decide) rfl (dirV .location _) rfl ?_; intro w5 hi5 ht5; have H:=Lib.hid (H.out.put (k:=.location) (show FnOk .location _ _ from rfl) hi5 ht5); have X:=Lib.hid (X.out.turn ht5 HB.out); clear hi5 ht5))
 go_end0
 exact ⟨rfl,⟨_,rfl,H.out⟩,X.out⟩
theorem cin_put (w0 w:World) (b dc:Nat) (L:List (Dk × Value)) (hL:L.length < 100) (h:DAt b L w) (hb:w0.heap.size ≤ b) (hx:Ext w0 w) (hd:w.cell? ⟨dc,0,none⟩=some (.map (some b))) (k:Dk) (fi:FuncId) (cap:Array Value) (hf:FnOk k (.func (.func fi) #[] cap) w)
  (hk:inD k=some .location) (hk1:blockD k=false) (hk2:manyD k=false) (hk3:(nameD k).length ≤ 100) :
  Calls Tryz.prog 47 #[.string (str (nameD k)),.int .i64 (leastD k:Int),.int .i64 (mostD k:Int),.func (.func fi) #[] cap,.pointer (some ⟨dc,0,none⟩)] w fun e w'=>e=.returned (.tuple #[])∧DAt b (L ++ [(k,.func (.func fi) #[] cap)]) w'∧Ext w0 w'∧w'.cell? ⟨dc,0,none⟩=some (.map (some b)):=by
 have H:=Lib.hid h
 have HF:=Lib.hid hf
 have X:=Lib.hid hx
 have HB:=Lib.hid hb
 have hv:dirV k (.func (.func fi) #[] cap)=.agg #[.string ⟨#[108,111,99,97,116,105,111,110]⟩,.int .i64 (leastD k:Int),.int .i64 (mostD k:Int),.bool false,.bool false,.func (.func fi) #[] cap]:=by unfold dirV; rw [hk,hk1,hk2]; rfl
 have HV:=Lib.hid hv
 have HL:Hid ((dm L).length < maxLen):=Lib.hid (Nat.lt_of_le_of_lt (dm_len _) (by simp only [maxLen]; omega))
 have hln:(nameD k).length ≤ maxLen:=by simp only [maxLen]; omega
 obtain ⟨nk,hnk⟩:∃ n,n=nameD k:=⟨_,rfl⟩
 obtain ⟨l1,hl1⟩:∃ n:Int,n=(leastD k:Int):=⟨_,rfl⟩
 obtain ⟨l2,hl2⟩:∃ n:Int,n=(mostD k:Int):=⟨_,rfl⟩
 have HNK:=Lib.hid hnk
 rw [← hnk] at hln ⊢
 rw [← hl1,← hl2] at HV ⊢
 clear h hf hx hb hv hnk hl1 hl2 hk hk1 hk2 hk3
 go_enter Tryz.func47,Tryz.ntmps47
 go_wp2_with (first
  | (at_mapUpdate; refine wpL_mput rfl _ _ _ 53 rfl 115 keyedC mapD Tryz.underlying9 rfl H.out.m HL.out nk hln rfl (.agg #[.string ⟨#[108,111,99,97,116,105,111,110]⟩,.int .i64 l1,.int .i64 l2,.bool false,.bool false,.func (.func fi) #[] cap]) rfl ?_; (intro w5 hi5 ht5; have hd5:=cell_turned ht5 hd; have H2:=Lib.hid (H.out.put (k:=k) HF.out (by rw [← HNK.out,HV.out]; exact hi5) ht5); have X2:=Lib.hid (Ext.gr X.out ht5.grown (fun k hk=>by cases hk; exact HB.out)); clear hi5 ht5)))
 go_end0
 exact ⟨rfl,H2.out,X2.out,hd5⟩
theorem cin_root (w0 w:World) (b dc:Nat) (L:List (Dk × Value)) (hL:L.length < 100) (h:DAt b L w) (hb:w0.heap.size ≤ b) (hx:Ext w0 w) (hd:w.cell? ⟨dc,0,none⟩=some (.map (some b))) :
  Calls Tryz.prog 47 #[.string ⟨#[114,111,111,116]⟩,.int .i64 1,.int .i64 1,.func (.func 48) #[] #[],.pointer (some ⟨dc,0,none⟩)] w fun e w'=>e=.returned (.tuple #[])∧DAt b (L ++ [(.root,.func (.func 48) #[] #[])]) w'∧Ext w0 w'∧w'.cell? ⟨dc,0,none⟩=some (.map (some b)) :=
 cin_put w0 w b dc L hL h hb hx hd .root 48 #[] (show FnOk .root _ _ from rfl) rfl rfl rfl (by decide)
theorem cin_index (w0 w:World) (b dc:Nat) (L:List (Dk × Value)) (hL:L.length < 100) (h:DAt b L w) (hb:w0.heap.size ≤ b) (hx:Ext w0 w) (hd:w.cell? ⟨dc,0,none⟩=some (.map (some b))) :
  Calls Tryz.prog 47 #[.string ⟨#[105,110,100,101,120]⟩,.int .i64 1,.int .i64 1,.func (.func 50) #[] #[],.pointer (some ⟨dc,0,none⟩)] w fun e w'=>e=.returned (.tuple #[])∧DAt b (L ++ [(.index,.func (.func 50) #[] #[])]) w'∧Ext w0 w'∧w'.cell? ⟨dc,0,none⟩=some (.map (some b)) :=
 cin_put w0 w b dc L hL h hb hx hd .index 50 #[] (show FnOk .index _ _ from rfl) rfl rfl rfl (by decide)
theorem cin_gzip (w0 w:World) (b dc:Nat) (L:List (Dk × Value)) (hL:L.length < 100) (h:DAt b L w) (hb:w0.heap.size ≤ b) (hx:Ext w0 w) (hd:w.cell? ⟨dc,0,none⟩=some (.map (some b))) (gc:Nat) (hg:w.cell? ⟨gc,0,none⟩=some (.func (.func 52) #[] #[])) :
  Calls Tryz.prog 47 #[.string ⟨#[103,122,105,112]⟩,.int .i64 1,.int .i64 1,.func (.func 102) #[] #[.pointer (some ⟨gc,0,none⟩)],.pointer (some ⟨dc,0,none⟩)] w fun e w'=>e=.returned (.tuple #[])∧DAt b (L ++ [(.gzip,.func (.func 102) #[] #[.pointer (some ⟨gc,0,none⟩)])]) w'∧Ext w0 w'∧w'.cell? ⟨dc,0,none⟩=some (.map (some b)) :=
 cin_put w0 w b dc L hL h hb hx hd .gzip 102 #[.pointer (some ⟨gc,0,none⟩)] (show FnOk .gzip _ _ from ⟨gc,rfl,hg⟩) rfl rfl rfl (by decide)
theorem cin_expires (w0 w:World) (b dc:Nat) (L:List (Dk × Value)) (hL:L.length < 100) (h:DAt b L w) (hb:w0.heap.size ≤ b) (hx:Ext w0 w) (hd:w.cell? ⟨dc,0,none⟩=some (.map (some b))) (gc:Nat) (hg:w.cell? ⟨gc,0,none⟩=some (.func (.func 53) #[] #[])) :
  Calls Tryz.prog 47 #[.string ⟨#[101,120,112,105,114,101,115]⟩,.int .i64 1,.int .i64 1,.func (.func 102) #[] #[.pointer (some ⟨gc,0,none⟩)],.pointer (some ⟨dc,0,none⟩)] w fun e w'=>e=.returned (.tuple #[])∧DAt b (L ++ [(.expires,.func (.func 102) #[] #[.pointer (some ⟨gc,0,none⟩)])]) w'∧Ext w0 w'∧w'.cell? ⟨dc,0,none⟩=some (.map (some b)) :=
 cin_put w0 w b dc L hL h hb hx hd .expires 102 #[.pointer (some ⟨gc,0,none⟩)] (show FnOk .expires _ _ from ⟨gc,rfl,hg⟩) rfl rfl rfl (by decide)
theorem cin_proxy (w0 w:World) (b dc:Nat) (L:List (Dk × Value)) (hL:L.length < 100) (h:DAt b L w) (hb:w0.heap.size ≤ b) (hx:Ext w0 w) (hd:w.cell? ⟨dc,0,none⟩=some (.map (some b))) :
  Calls Tryz.prog 47 #[.string ⟨#[112,114,111,120,121]⟩,.int .i64 1,.int .i64 1,.func (.func 54) #[] #[],.pointer (some ⟨dc,0,none⟩)] w fun e w'=>e=.returned (.tuple #[])∧DAt b (L ++ [(.proxy,.func (.func 54) #[] #[])]) w'∧Ext w0 w'∧w'.cell? ⟨dc,0,none⟩=some (.map (some b)) :=
 cin_put w0 w b dc L hL h hb hx hd .proxy 54 #[] (show FnOk .proxy _ _ from rfl) rfl rfl rfl (by decide)
theorem cin_cache (w0 w:World) (b dc:Nat) (L:List (Dk × Value)) (hL:L.length < 100) (h:DAt b L w) (hb:w0.heap.size ≤ b) (hx:Ext w0 w) (hd:w.cell? ⟨dc,0,none⟩=some (.map (some b))) :
  Calls Tryz.prog 47 #[.string ⟨#[99,97,99,104,101]⟩,.int .i64 0,.int .i64 0,.func (.func 55) #[] #[],.pointer (some ⟨dc,0,none⟩)] w fun e w'=>e=.returned (.tuple #[])∧DAt b (L ++ [(.cache,.func (.func 55) #[] #[])]) w'∧Ext w0 w'∧w'.cell? ⟨dc,0,none⟩=some (.map (some b)) :=
 cin_put w0 w b dc L hL h hb hx hd .cache 55 #[] (show FnOk .cache _ _ from rfl) rfl rfl rfl (by decide)
theorem cin_limit (w0 w:World) (b dc:Nat) (L:List (Dk × Value)) (hL:L.length < 100) (h:DAt b L w) (hb:w0.heap.size ≤ b) (hx:Ext w0 w) (hd:w.cell? ⟨dc,0,none⟩=some (.map (some b))) :
  Calls Tryz.prog 47 #[.string ⟨#[108,105,109,105,116]⟩,.int .i64 2,.int .i64 2,.func (.func 56) #[] #[],.pointer (some ⟨dc,0,none⟩)] w fun e w'=>e=.returned (.tuple #[])∧DAt b (L ++ [(.limit,.func (.func 56) #[] #[])]) w'∧Ext w0 w'∧w'.cell? ⟨dc,0,none⟩=some (.map (some b)) :=
 cin_put w0 w b dc L hL h hb hx hd .limit 56 #[] (show FnOk .limit _ _ from rfl) rfl rfl rfl (by decide)
theorem cin_ret (w0 w:World) (b dc:Nat) (L:List (Dk × Value)) (hL:L.length < 100) (h:DAt b L w) (hb:w0.heap.size ≤ b) (hx:Ext w0 w) (hd:w.cell? ⟨dc,0,none⟩=some (.map (some b))) :
  Calls Tryz.prog 47 #[.string ⟨#[114,101,116,117,114,110]⟩,.int .i64 1,.int .i64 2,.func (.func 58) #[] #[],.pointer (some ⟨dc,0,none⟩)] w fun e w'=>e=.returned (.tuple #[])∧DAt b (L ++ [(.ret,.func (.func 58) #[] #[])]) w'∧Ext w0 w'∧w'.cell? ⟨dc,0,none⟩=some (.map (some b)) :=
 cin_put w0 w b dc L hL h hb hx hd .ret 58 #[] (show FnOk .ret _ _ from rfl) rfl rfl rfl (by decide)
theorem cdirs_c (w:World):Calls Tryz.prog 22 #[] w fun e w'=>∃ b,e=.returned (.map (some b))∧DirsAt b w'∧Ext w w':=by
 have hmf:∀ (fn:Fn) (first cap:Array Value) (w:World),(Instr.makeFunc fn first cap).run Tryz.prog w=.ok (.func fn first cap) w:=fun _ _ _ _=>rfl
 have hmm:=@run_makeMap Tryz.prog
 go_enter Tryz.func22,Tryz.ntmps22
 go_wp2_with (first
  | (go_at_call 46; refine (couter_c w _ w.heap.size (DAt.ext ⟨World.isM_made w Tryz.prog 9,fun x hx=>by cases hx⟩ (by (repeat first | exact Ex0 | assumption | refine Ex1 ?_ | refine Ex2 ?_ | refine Ex3 ?_ | refine Ex4 ?_ | refine Ex5 ?_))) (Nat.le_refl _) (by (repeat first | exact Ex0 | assumption | refine Ex1 ?_ | refine Ex2 ?_ | refine Ex3 ?_ | refine Ex4 ?_ | refine Ex5 ?_))).mono ?_; rintro e w1 ⟨rfl,⟨L',hL',hH⟩,hX⟩; have hd:=hX.k ⟨w.heap.size + 1,0,none⟩ (.map (some w.heap.size)) (by have:=new_cells_g (w:=w.alloc (.map #[] 0)) (g:=w.heap.size + 1) (by simp) #[.map (some w.heap.size)] 53 0 _ rfl; rw [add_mk] at this; exact this); have H:=Lib.hid hH; have X:=Lib.hid hX.x; have HLK:=Lib.hid hL'; have HLN:Hid (L'.length=12):=Lib.hid (by rw [← List.length_map (f:=(·.1)),hL']; rfl); have HB:Hid (w.heap.size ≤ w.heap.size):=Lib.hid (Nat.le_refl _); clear hH hX hL')
  | (go_at_call 51; refine (cset_c _ _).mono ?_; rintro e w2 ⟨gc,rfl,hc1,hx1⟩; have H:=Lib.hid (H.out.ext hx1); have X:=Lib.hid (X.out.tr hx1); have hd2:=(hx1.cell (lt_of_cell hd)).trans hd; clear hd; have hd:=hd2; clear hd2 hx1)
  | (go_at_call_of 47 (Value.string ⟨#[114,111,111,116]⟩); refine (cin_root w _ _ _ _ (by simp only [List.length_append,List.length_singleton,List.length_nil,HLN.out]; omega) H.out HB.out X.out hd).mono ?_; rintro e w5 ⟨rfl,hH,hX,hd5⟩; have H:=Lib.hid hH; have X:=Lib.hid hX; clear hH hX hd; have hd:=hd5; clear hd5)
  | (go_at_call_of 47 (Value.string ⟨#[105,110,100,101,120]⟩); refine (cin_index w _ _ _ _ (by simp only [List.length_append,List.length_singleton,List.length_nil,HLN.out]; omega) H.out HB.out X.out hd).mono ?_; rintro e w5 ⟨rfl,hH,hX,hd5⟩; have H:=Lib.hid hH; have X:=Lib.hid hX; clear hH hX hd; have hd:=hd5; clear hd5)
  | (go_at_call_of 47 (Value.string ⟨#[103,122,105,112]⟩); refine (cin_gzip w _ _ _ _ (by simp only [List.length_append,List.length_singleton,List.length_nil,HLN.out]; omega) H.out HB.out X.out hd _ hc1).mono ?_; rintro e w5 ⟨rfl,hH,hX,hd5⟩; have H:=Lib.hid hH; have X:=Lib.hid hX; clear hH hX hd; have hd:=hd5; clear hd5)
  | (go_at_call_of 47 (Value.string ⟨#[101,120,112,105,114,101,115]⟩); refine (cin_expires w _ _ _ _ (by simp only [List.length_append,List.length_singleton,List.length_nil,HLN.out]; omega) H.out HB.out X.out hd _ hc1).mono ?_; rintro e w5 ⟨rfl,hH,hX,hd5⟩; have H:=Lib.hid hH; have X:=Lib.hid hX; clear hH hX hd; have hd:=hd5; clear hd5)
  | (go_at_call_of 47 (Value.string ⟨#[112,114,111,120,121]⟩); refine (cin_proxy w _ _ _ _ (by simp only [List.length_append,List.length_singleton,List.length_nil,HLN.out]; omega) H.out HB.out X.out hd).mono ?_; rintro e w5 ⟨rfl,hH,hX,hd5⟩; have H:=Lib.hid hH; have X:=Lib.hid hX; clear hH hX hd; have hd:=hd5; clear hd5)
  | (go_at_call_of 47 (Value.string ⟨#[99,97,99,104,101]⟩); refine (cin_cache w _ _ _ _ (by simp only [List.length_append,List.length_singleton,List.length_nil,HLN.out]; omega) H.out HB.out X.out hd).mono ?_; rintro e w5 ⟨rfl,hH,hX,hd5⟩; have H:=Lib.hid hH; have X:=Lib.hid hX; clear hH hX hd; have hd:=hd5; clear hd5)
  | (go_at_call_of 47 (Value.string ⟨#[108,105,109,105,116]⟩); refine (cin_limit w _ _ _ _ (by simp only [List.length_append,List.length_singleton,List.length_nil,HLN.out]; omega) H.out HB.out X.out hd).mono ?_; rintro e w5 ⟨rfl,hH,hX,hd5⟩; have H:=Lib.hid hH; have X:=Lib.hid hX; clear hH hX hd; have hd:=hd5; clear hd5)
  | (go_at_call_of 47 (Value.string ⟨#[114,101,116,117,114,110]⟩); refine (cin_ret w _ _ _ _ (by simp only [List.length_append,List.length_singleton,List.length_nil,HLN.out]; omega) H.out HB.out X.out hd).mono ?_; rintro e w5 ⟨rfl,hH,hX,hd5⟩; have H:=Lib.hid hH; have X:=Lib.hid hX; clear hH hX hd; have hd:=hd5; clear hd5))
 go_ret
 exact ⟨_,rfl,H.out.all (by simp only [List.map_append,HLK.out]; rfl),X.out⟩
end Go.Proofs.YtmnohicojefhfaaGreatDoor
end
section
namespace Go.Proofs.YtmnohicojefhfaaGreatDoor
open Go.RowKit Go.Extern.Stop Go.Stop Go.Extern
theorem ext_stp {K:Nat → Prop} {w w6 w9:World} {o o':Ow} (h:Ext w w6) (hs:Stp K w6 o w9 o') (hk:∀ b,b < w.heap.size → ¬ K (o b)):Ext w w9 :=
 ⟨hs.os.trans h.os,hs.tape.trans h.tape,hs.output.trans h.output,Nat.le_trans h.size hs.size,fun b hb=>(hs.keep b (Nat.lt_of_lt_of_le hb h.size) (hk b hb)).trans (h.block b hb)⟩
theorem parse_tree {l:List UInt8} (hl:l.length ≤ 65536) {n:Nat} (h:treeL l=.error n):parseC l=(cfZ,n,60):=by
 unfold parseC
 rw [if_neg (by omega),h]
theorem parse_err {l:List UInt8} (hl:l.length ≤ 65536) {f:Fo} (hw:f.wf) (h:treeL l=.ok (f.flat 0)) {n:Nat} (hb:buildF none [] cf0 f=.error n):parseC l=(cfZ,n,60):=by
 unfold parseC
 rw [if_neg (by omega),h]
 rcases run_all f hw with ⟨e,h1,h2⟩ | ⟨r,T,h1,h2⟩
 ·rw [hb] at h1; cases h1
  dsimp only
  rw [h2]
 ·rw [hb] at h1; cases h1
theorem parse_ok {l:List UInt8} (hl:l.length ≤ 65536) {f:Fo} (hw:f.wf) (h:treeL l=.ok (f.flat 0)) {r:List Dk × Cf14} (hb:buildF none [] cf0 f=.ok r):parseC l=if goodC r.2 then (r.2,0,0) else (cfZ,0,60):=by
 unfold parseC
 rw [if_neg (by omega),h]
 rcases run_all f hw with ⟨e,h1,h2⟩ | ⟨r',T,h1,h2⟩
 ·rw [hb] at h1; cases h1
 ·rw [hb] at h1; cases h1
  dsimp only
  rw [h2]
theorem cParse_big (l:List UInt8) (hl:65536 < l.length) (hs:l.length ≤ 140737488355328) (w:World):Calls Tryz.prog 9 #[.string (str l)] w (Ret (IsPa (parseC l)) w):=by
 have HP:=Lib.hid (show parseC l=(cfZ,0,6) from if_pos hl)
 obtain ⟨s,hsl⟩:∃ s,s=str l:=⟨_,rfl⟩
 have hsz:s.size=l.length:=by rw [hsl,str_size]
 have d1:decide ((65536:Int) < (s.size:Int))=true:=decide_eq_true (by omega)
 rw [← hsl]
 clear hsl hsz
 go_enter Tryz.func9,Tryz.ntmps9
 go_wp2
 exact bodyPost_ret (v:=.tuple #[.agg zCf,.int .i64 0,.int .i64 6]) (by simp [results,Tryz.results9,go_sem,zCf]) rfl (Ret.mk (IsPa.bad _ 0 6 HP.out) (by (repeat first | exact Ex0 | assumption | refine Ex1 ?_ | refine Ex2 ?_ | refine Ex3 ?_ | refine Ex4 ?_ | refine Ex5 ?_)))
theorem cParse_c (l:List UInt8) (hl:l.length ≤ 65536) (w:World) (hE:ErrR w):Calls Tryz.prog 9 #[.string (str l)] w (Ret (IsPa (parseC l)) w):=by
 have CT:=Lib.hid (fun w'=>ctree_c l hl w')
 have HE:=Lib.hid hE
 obtain ⟨s,hsl⟩:∃ s,s=str l:=⟨_,rfl⟩
 have hsz:s.size=l.length:=by rw [hsl,str_size]
 have d1:decide ((65536:Int) < (s.size:Int))=false:=decide_eq_false (by omega)
 rw [← hsl] at CT ⊢
 clear hsl hsz hE
 have hmf:∀ (fn:Fn) (first cap:Array Value) (w:World),(Instr.makeFunc fn first cap).run Tryz.prog w=.ok (.func fn first cap) w:=fun _ _ _ _=>rfl
 go_enter_defers Tryz.func9,Tryz.ntmps9
 go_upto_region 5 with (fail)
 obtain ⟨V,hV⟩:∃ V,V=w.heap.size:=⟨_,rfl⟩
 obtain ⟨W4,hW4⟩:∃ W,W=(((w.alloc (.cells #[.int .i64 0,.int .i64 0,.int .i64 0,.int .i64 0,.slice none 0 0,.slice none 0 0] 25)).alloc (.cells #[.int .i64 0] 3)).alloc (.cells #[.int .i64 0] 26)).alloc (.cells #[.int .i64 75,.int .i64 65536,.int .i64 0,.int .i64 1000,.slice none 0 0,.slice none 0 0,.int .i64 0] 51):=⟨_,rfl⟩
 rw [← hW4,← hV]
 have hz1:(w.alloc (.cells #[.int .i64 0,.int .i64 0,.int .i64 0,.int .i64 0,.slice none 0 0,.slice none 0 0] 25)).heap.size=V + 1:=by rw [hV]; simp
 have hz2:((w.alloc (.cells #[.int .i64 0,.int .i64 0,.int .i64 0,.int .i64 0,.slice none 0 0,.slice none 0 0] 25)).alloc (.cells #[.int .i64 0] 3)).heap.size=V + 1 + 1:=by rw [hV]; simp
 have hz3:(((w.alloc (.cells #[.int .i64 0,.int .i64 0,.int .i64 0,.int .i64 0,.slice none 0 0,.slice none 0 0] 25)).alloc (.cells #[.int .i64 0] 3)).alloc (.cells #[.int .i64 0] 26)).heap.size=V + 1 + 1 + 1:=by rw [hV]; simp
 have hx4:Ext w W4:=by rw [hW4]; exact ((((Ext.rfl' w).al _).al _).al _).al _
 have bV:W4.heap[V]?=some (.cells #[.int .i64 0,.int .i64 0,.int .i64 0,.int .i64 0,.slice none 0 0,.slice none 0 0] 25 (0,0)):=by
  have h0:=heap_alloc_new w (.cells #[.int .i64 0,.int .i64 0,.int .i64 0,.int .i64 0,.slice none 0 0,.slice none 0 0] 25)
  rw [← hV] at h0
  rw [hW4]
  exact ((((Ext.rfl' (w.alloc _)).al _).al _).al _).block V (by rw [hz1]; omega) |>.trans h0
 have bQ:W4.heap[V + 1]?=some (.cells #[.int .i64 0] 3 (0,0)):=by
  have h0:=heap_alloc_new (w.alloc (.cells #[.int .i64 0,.int .i64 0,.int .i64 0,.int .i64 0,.slice none 0 0,.slice none 0 0] 25)) (.cells #[.int .i64 0] 3)
  rw [hz1] at h0
  rw [hW4]
  exact (((Ext.rfl' ((w.alloc _).alloc _)).al _).al _).block (V + 1) (by rw [hz2]; omega) |>.trans h0
 have bR:W4.heap[V + 1 + 1]?=some (.cells #[.int .i64 0] 26 (0,0)):=by
  have h0:=heap_alloc_new ((w.alloc (.cells #[.int .i64 0,.int .i64 0,.int .i64 0,.int .i64 0,.slice none 0 0,.slice none 0 0] 25)).alloc (.cells #[.int .i64 0] 3)) (.cells #[.int .i64 0] 26)
  rw [hz2] at h0
  rw [hW4]
  exact ((Ext.rfl' (((w.alloc _).alloc _).alloc _)).al _).block (V + 1 + 1) (by rw [hz3]; omega) |>.trans h0
 have bP:W4.heap[V + 1 + 1 + 1]?=some (.cells rowB 51 (0,0)):=by
  have h0:=heap_alloc_new (((w.alloc (.cells #[.int .i64 0,.int .i64 0,.int .i64 0,.int .i64 0,.slice none 0 0,.slice none 0 0] 25)).alloc (.cells #[.int .i64 0] 3)).alloc (.cells #[.int .i64 0] 26)) (.cells #[.int .i64 75,.int .i64 65536,.int .i64 0,.int .i64 1000,.slice none 0 0,.slice none 0 0,.int .i64 0] 51)
  rw [hz3] at h0
  rw [hW4]
  exact h0
 have HV:=Lib.hid hV
 have HBV:=Lib.hid bV
 have HBQ:=Lib.hid bQ
 have HBR:=Lib.hid bR
 obtain ⟨P,hP⟩:∃ P,P=V + 1 + 1 + 1:=⟨_,rfl⟩
 rw [← hP] at bP ⊢
 have HBP:=Lib.hid bP
 have hPV:V + 1 + 1 < P:=by omega
 clear hW4 hV hz1 hz2 hz3 bV bQ bR bP hP hmf
 cases hT:treeL l with
 | error n =>
  have CT2:Hid (∀ w',Calls Tryz.prog 23 #[.string s] w' fun e w2=>e=.panicked [{ v:=.iface 48 (.int .i64 (n:Int)),recovered:=false }]∧Ext w' w2):=Lib.hid (fun w'=>(CT.out w').mono (by
   rintro e w2 ⟨hx,hq⟩
   rw [hT] at hq
   exact ⟨hq,hx⟩))
  have HPA:=Lib.hid (parse_tree hl hT)
  clear CT hT
  go_wp2_with (first
   | (go_at_call 22; refine (cdirs_c _).mono ?_; rintro e w5 ⟨db,rfl,hdb,hx5⟩)
   | (go_at_call 23; refine (CT2.out _).mono ?_; rintro e w6 ⟨rfl,hx6⟩))
  have hx46:=hx5.tr hx6
  have rv:=(hx46.block V (row_lt HBV.out)).trans HBV.out
  have rq:=(hx46.block (V + 1) (row_lt HBQ.out)).trans HBQ.out
  have rr:=(hx46.block (V + 1 + 1) (row_lt HBR.out)).trans HBR.out
  refine leaves_cons (f:=20) (args:=#[.pointer (some ⟨V,0,none⟩),.pointer (some ⟨V + 1,0,none⟩),.pointer (some ⟨V + 1 + 1,0,none⟩)]) (by simp) (by simp [go_sem]) ?_
  refine (parseD_caught V (V + 1) (V + 1 + 1) (n:Int) w6 _ _ _ _ _ _ _ _ rv rq rr (by omega) (by omega) (by omega)).mono ?_
  rintro e u' w'' ⟨rfl,rfl,hpd⟩
  have g0:=(row_facts hpd.v 0 _ rfl).1
  have g1:=(row_facts hpd.v 1 _ rfl).1
  have g2:=(row_facts hpd.v 2 _ rfl).1
  have g3:=(row_facts hpd.v 3 _ rfl).1
  have g4:=(row_facts hpd.v 4 _ rfl).1
  have g5:=(row_facts hpd.v 5 _ rfl).1
  have g6:=(row_facts hpd.q 0 _ rfl).1
  have g7:=(row_facts hpd.r 0 _ rfl).1
  refine ⟨.tuple #[.agg zCf,.int .i64 (n:Int),.int .i64 60],by simp [results,Tryz.results9,go_sem,g0,g1,g2,g3,g4,g5,g6,g7,zCf],?_⟩
  refine Ret.mk (IsPa.bad _ _ 60 HPA.out) ?_
  have hV:=HV.out
  exact ext_stp (hx4.tr hx46) (hpd.s (fun i=>i=1) (fun b=>if b < w.heap.size then 0 else 1) (if_neg (by omega)) (if_neg (by omega)) (if_neg (by omega))) (fun b hb=>by simp [hb])
 | ok ns =>
  have CT2:Hid (∀ w',Calls Tryz.prog 23 #[.string s] w' fun e w2=>∃ v,e=.returned v∧IsTree ns v w2∧Ext w' w2):=Lib.hid (fun w'=>(CT.out w').mono (by
   rintro e w2 ⟨hx,hq⟩
   rw [hT] at hq
   obtain ⟨v,h1,h2⟩:=hq
   exact ⟨v,h1,h2,hx⟩))
  have HT:=Lib.hid hT
  clear CT hT
  go_wp2_with (first
   | (go_at_call 22; refine (cdirs_c _).mono ?_; rintro e w5 ⟨db,rfl,hdb,hx5⟩; have HDB:=Lib.hid hdb; clear hdb)
   | (go_at_call 23; refine (CT2.out _).mono ?_; rintro e w6 ⟨v,rfl,⟨f,hwf,hfl,pt,pk,B,d,rfl,h3,hrd,hfo⟩,hx6⟩; have HWF:=Lib.hid hwf; have HFL:=Lib.hid hfl; have HRD:=Lib.hid hrd; have HFO:=Lib.hid hfo; clear hwf hfl hrd hfo))
  have hT:=HT.out
  rw [← HFL.out] at hT
  have hx46:=hx5.tr hx6
  have rv:=(hx46.block V (row_lt HBV.out)).trans HBV.out
  have rq:=(hx46.block (V + 1) (row_lt HBQ.out)).trans HBQ.out
  have rr:=(hx46.block (V + 1 + 1) (row_lt HBR.out)).trans HBR.out
  have rp:=(hx46.block P (row_lt HBP.out)).trans HBP.out
  have hfb:=tree_fo hl hT
  have CB:=cbuild_c (f.size + 1) f (Nat.lt_succ_self _) w6 (oP P) P db none cf0 0 0 pk B d (cfat_of rp) (ge_of rp (HE.out.ext (hx4.tr hx46))) (dirsz_of rp (HDB.out.ext hx6)) (foz_of rp HFO.out) (rdz_of rp HRD.out (fun u hu=>by obtain ⟨x,_,rfl⟩:=List.mem_map.1 hu; exact rowB_ptr _)) HWF.out hfb.1 cf0_b (by have:=hfb.2; omega) trivial
  have hkV:¬ KB (oP P V):=by rw [oP_ne (by omega)]; unfold KB; omega
  have hkQ:¬ KB (oP P (V + 1)):=by rw [oP_ne (by omega)]; unfold KB; omega
  have hkR:¬ KB (oP P (V + 1 + 1)):=by rw [oP_ne (by omega)]; unfold KB; omega
  have hold:∀ b,b < w.heap.size → ¬ KB (oP P b):=fun b hb=>by rw [oP_ne (by have:=HV.out; omega)]; unfold KB; omega
  have HHO:=Lib.hid hold
  have HGE:=Lib.hid (ge_of rp (HE.out.ext (hx4.tr hx46)))
  clear hold
  cases hb:buildF none [] cf0 f with
  | error n =>
   rw [hb] at CB
   have HPA:=Lib.hid (parse_err hl HWF.out hT hb)
   clear hb hT
   refine CB.mono ?_
   rintro e w7 ⟨o7,s7,hq⟩
   obtain rfl:e=.panicked [{ v:=.iface 48 (.int .i64 (n:Int)),recovered:=false }]:=hq
   have rv7:=(s7.keep V (row_lt rv) hkV).trans rv
   have rq7:=(s7.keep (V + 1) (row_lt rq) hkQ).trans rq
   have rr7:=(s7.keep (V + 1 + 1) (row_lt rr) hkR).trans rr
   go_wp2_with fail
   refine leaves_cons (f:=20) (args:=#[.pointer (some ⟨V,0,none⟩),.pointer (some ⟨V + 1,0,none⟩),.pointer (some ⟨V + 1 + 1,0,none⟩)]) (by simp) (by simp [go_sem]) ?_
   refine (parseD_caught V (V + 1) (V + 1 + 1) (n:Int) w7 _ _ _ _ _ _ _ _ rv7 rq7 rr7 (by omega) (by omega) (by omega)).mono ?_
   rintro e u' w'' ⟨rfl,rfl,hpd⟩
   have g0:=(row_facts hpd.v 0 _ rfl).1
   have g1:=(row_facts hpd.v 1 _ rfl).1
   have g2:=(row_facts hpd.v 2 _ rfl).1
   have g3:=(row_facts hpd.v 3 _ rfl).1
   have g4:=(row_facts hpd.v 4 _ rfl).1
   have g5:=(row_facts hpd.v 5 _ rfl).1
   have g6:=(row_facts hpd.q 0 _ rfl).1
   have g7:=(row_facts hpd.r 0 _ rfl).1
   refine ⟨.tuple #[.agg zCf,.int .i64 (n:Int),.int .i64 60],by simp [results,Tryz.results9,go_sem,g0,g1,g2,g3,g4,g5,g6,g7,zCf],?_⟩
   refine Ret.mk (IsPa.bad _ _ 60 HPA.out) ?_
   have hV:=HV.out
   exact ext_stp (ext_stp (hx4.tr hx46) s7 HHO.out) (hpd.s (fun i=>i=1) (fun b=>if b < w.heap.size then 0 else 1) (if_neg (by omega)) (if_neg (by omega)) (if_neg (by omega))) (fun b hb=>by simp [hb])
  | ok r =>
   rw [hb] at CB
   have hPA:=parse_ok hl HWF.out hT hb
   have hbb:=build_b _ _ _ _ _ _ HWF.out hb cf0_b
   have htt:=build_t _ _ _ _ _ hfb.1 hb cf0_t
   have hbb:=hbb.mono (N:=65536) (by have:=hfb.2; omega)
   have hcs:=CfS.of hbb htt
   have HBB:=Lib.hid hbb
   have HTT:=Lib.hid htt
   clear hb hT hbb htt
   refine CB.mono ?_
   rintro e w7 ⟨o7,s7,hq⟩
   obtain ⟨rfl,line,U,UA,uc,S,SA,sc,hcf⟩:=hq
   have rv7:=(s7.keep V (row_lt rv) hkV).trans rv
   have rq7:=(s7.keep (V + 1) (row_lt rq) hkQ).trans rq
   have rr7:=(s7.keep (V + 1 + 1) (row_lt rr) hkR).trans rr
   have ov7:=(s7.own V (row_lt rv)).trans (oP_ne (show V ≠ P by omega))
   have oq7:=(s7.own (V + 1) (row_lt rq)).trans (oP_ne (show V + 1 ≠ P by omega))
   have or7:=(s7.own (V + 1 + 1) (row_lt rr)).trans (oP_ne (show V + 1 + 1 ≠ P by omega))
   have hx7:=ext_stp (hx4.tr hx46) s7 HHO.out
   have CC:=cCheck_c r.2 U UA uc S SA sc w7 (HE.out.ext hx7) hcf.rd hcs
   have k0:w7.cell? ⟨P,0,none⟩=some (.int .i64 r.2.keep):=(row_facts hcf.row 0 _ rfl).1
   have k1:w7.cell? ⟨P,1,none⟩=some (.int .i64 r.2.body):=(row_facts hcf.row 1 _ rfl).1
   have k2:w7.cell? ⟨P,2,none⟩=some (.int .i64 r.2.store):=(row_facts hcf.row 2 _ rfl).1
   have k3:w7.cell? ⟨P,3,none⟩=some (.int .i64 r.2.conns):=(row_facts hcf.row 3 _ rfl).1
   have k4:w7.cell? ⟨P,4,none⟩=some (.slice UA r.2.ups.length uc):=(row_facts hcf.row 4 _ rfl).1
   have k5:w7.cell? ⟨P,5,none⟩=some (.slice SA r.2.srvs.length sc):=(row_facts hcf.row 5 _ rfl).1
   have HCF:=Lib.hid hcf
   have HS7:=Lib.hid s7
   have HOV:=Lib.hid (And.intro ov7 (And.intro oq7 or7))
   clear CB hcs hcf s7 rv rq rr rp ov7 oq7 or7 hfb
   have HRV:=Lib.hid rv7
   have HRQ:=Lib.hid rq7
   have HRR:=Lib.hid rr7
   clear rv7 rq7 rr7
   cases hg:goodC r.2 with
   | false =>
    rw [hg] at CC hPA
    have HPA:Hid (parseC l=(cfZ,0,60)):=Lib.hid hPA
    have CC2:Hid (Calls Tryz.prog 15 #[.agg #[.int .i64 r.2.keep,.int .i64 r.2.body,.int .i64 r.2.store,.int .i64 r.2.conns,.slice UA r.2.ups.length uc,.slice SA r.2.srvs.length sc]] w7 (Gives (.int .i64 60) w7)):=Lib.hid CC
    clear hPA hg CC
    go_wp2_with (go_at_call 15; refine CC2.out.mono ?_; rintro e w8 ⟨rfl,hx8⟩)
    have rv8:=(hx8.block V (row_lt HRV.out)).trans HRV.out
    have rq8:=(hx8.block (V + 1) (row_lt HRQ.out)).trans HRQ.out
    have rr8:=(hx8.block (V + 1 + 1) (row_lt HRR.out)).trans HRR.out
    refine leaves_cons (f:=20) (args:=#[.pointer (some ⟨V,0,none⟩),.pointer (some ⟨V + 1,0,none⟩),.pointer (some ⟨V + 1 + 1,0,none⟩)]) (by simp) (by simp [go_sem]) ?_
    refine (parseD_caught V (V + 1) (V + 1 + 1) 0 w8 _ _ _ _ _ _ _ _ rv8 rq8 rr8 (by omega) (by omega) (by omega)).mono ?_
    rintro e u' w'' ⟨rfl,rfl,hpd⟩
    have g0:=(row_facts hpd.v 0 _ rfl).1
    have g1:=(row_facts hpd.v 1 _ rfl).1
    have g2:=(row_facts hpd.v 2 _ rfl).1
    have g3:=(row_facts hpd.v 3 _ rfl).1
    have g4:=(row_facts hpd.v 4 _ rfl).1
    have g5:=(row_facts hpd.v 5 _ rfl).1
    have g6:=(row_facts hpd.q 0 _ rfl).1
    have g7:=(row_facts hpd.r 0 _ rfl).1
    refine ⟨.tuple #[.agg zCf,.int .i64 0,.int .i64 60],by simp [results,Tryz.results9,go_sem,g0,g1,g2,g3,g4,g5,g6,g7,zCf],?_⟩
    refine Ret.mk (IsPa.bad _ _ 60 HPA.out) ?_
    have hV:=HV.out
    exact ext_stp (hx7.tr hx8) (hpd.s (fun i=>i=1) (fun b=>if b < w.heap.size then 0 else 1) (if_neg (by omega)) (if_neg (by omega)) (if_neg (by omega))) (fun b hb=>by simp [hb])
   | true =>
    rw [hg] at CC hPA
    have HPA:Hid (parseC l=(r.2,0,0)):=Lib.hid hPA
    have CC2:Hid (Calls Tryz.prog 15 #[.agg #[.int .i64 r.2.keep,.int .i64 r.2.body,.int .i64 r.2.store,.int .i64 r.2.conns,.slice UA r.2.ups.length uc,.slice SA r.2.srvs.length sc]] w7 (Gives (.int .i64 0) w7)):=Lib.hid CC
    clear hPA hg CC
    go_upto_region 8 with (go_at_call 15; refine CC2.out.mono ?_; rintro e w8 ⟨rfl,hx8⟩)
    have rv8:=(hx8.block V (row_lt HRV.out)).trans HRV.out
    have rq8:=(hx8.block (V + 1) (row_lt HRQ.out)).trans HRQ.out
    have rr8:=(hx8.block (V + 1 + 1) (row_lt HRR.out)).trans HRR.out
    have k0:=(hx8.cell (lt_of_cell k0)).trans k0
    have k1:=(hx8.cell (lt_of_cell k1)).trans k1
    have k2:=(hx8.cell (lt_of_cell k2)).trans k2
    have k3:=(hx8.cell (lt_of_cell k3)).trans k3
    have k4:=(hx8.cell (lt_of_cell k4)).trans k4
    have k5:=(hx8.cell (lt_of_cell k5)).trans k5
    have v0:=row_facts rv8 0 _ rfl
    have v1:=row_facts rv8 1 _ rfl
    have v2:=row_facts rv8 2 _ rfl
    have v3:=row_facts rv8 3 _ rfl
    have v4:=row_facts rv8 4 _ rfl
    have v5:=row_facts rv8 5 _ rfl
    have q0:=row_facts rq8 0 _ rfl
    have r0:=row_facts rr8 0 _ rfl
    have HRV8:=Lib.hid rv8
    have HRQ8:=Lib.hid rq8
    have HRR8:=Lib.hid rr8
    clear rv8 rq8 rr8
    have hn1:¬ V=V + 1:=by omega
    have hn2:¬ V=V + 1 + 1:=by omega
    have hn3:¬ V + 1=V + 1 + 1:=by omega
    go_wp2
    refine leaves_cons (f:=20) (args:=#[.pointer (some ⟨V,0,none⟩),.pointer (some ⟨V + 1,0,none⟩),.pointer (some ⟨V + 1 + 1,0,none⟩)]) (by simp) (by simp [go_sem]) ?_
    refine (parseD_idle _ _ _ _).mono ?_
    rintro e u' w'' ⟨rfl,rfl,rfl⟩
    refine ⟨.tuple #[cfV r.2 UA uc SA sc,.int .i64 0,.int .i64 0],by simp [results,Tryz.results9,go_sem,v0.1,v1.1,v2.1,v3.1,v4.1,v5.1,q0.1,r0.1,hn1,hn2,hn3,cfV],?_⟩
    have sF:∀ (K:Nat → Prop) (o:Ow),K (o V) → K (o (V + 1)) → K (o (V + 1 + 1)) → Stp K w8 o ((((((((w8.setCell ⟨V,0,none⟩ (.int .i64 r.2.keep)).setCell ⟨V,1,none⟩ (.int .i64 r.2.body)).setCell ⟨V,2,none⟩ (.int .i64 r.2.store)).setCell ⟨V,3,none⟩ (.int .i64 r.2.conns)).setCell ⟨V,4,none⟩ (.slice UA r.2.ups.length uc)).setCell ⟨V,5,none⟩ (.slice SA r.2.srvs.length sc)).setCell ⟨V + 1,0,none⟩ (.int .i64 0)).setCell ⟨V + 1 + 1,0,none⟩ (.int .i64 0)) o:=fun K o k1 k2 k3=>by
     refine Stp.tr ?_ (Stp.set (V + 1 + 1) 0 _ (fun _=>k3))
     refine Stp.tr ?_ (Stp.set (V + 1) 0 _ (fun _=>k2))
     refine Stp.tr ?_ (Stp.set V 5 _ (fun _=>k1))
     refine Stp.tr ?_ (Stp.set V 4 _ (fun _=>k1))
     refine Stp.tr ?_ (Stp.set V 3 _ (fun _=>k1))
     refine Stp.tr ?_ (Stp.set V 2 _ (fun _=>k1))
     refine Stp.tr ?_ (Stp.set V 1 _ (fun _=>k1))
     exact Stp.set V 0 _ (fun _=>k1)
    obtain ⟨ov,oq,orr⟩:=HOV.out
    have hc8:=(HCF.out.ext hx8).stp (sF (fun i=>i=0) o7 ov oq orr) (fun i hi=>hi)
    have hV:=HV.out
    refine Ret.mk ?_ (ext_stp (hx7.tr hx8) (sF (fun i=>i=1) (fun b=>if b < w.heap.size then 0 else 1) (if_neg (by omega)) (if_neg (by omega)) (if_neg (by omega))) (fun b hb=>by simp [hb]))
    rw [HPA.out]
    exact ⟨_,rfl,⟨U,UA,uc,S,SA,sc,rfl,hc8.rd⟩,HBB.out,HTT.out⟩
end Go.Proofs.YtmnohicojefhfaaGreatDoor
end
