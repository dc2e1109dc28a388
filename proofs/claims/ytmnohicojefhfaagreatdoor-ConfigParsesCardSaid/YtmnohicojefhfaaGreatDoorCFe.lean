/-
Directives that set a number: what they do to a configuration.
-/
import Derived.Test.YtmnohicojefhfaaGreatDoorCf16
import Derived.Test.YtmnohicojefhfaaGreatDoorCf17
import Derived.Test.YtmnohicojefhfaaGreatDoorCFd
set_option maxRecDepth 100000
set_option maxHeartbeats 8000000
set_option linter.unusedVariables false
set_option linter.unusedSimpArgs false
section
namespace Go.Proofs.YtmnohicojefhfaaGreatDoor
open Go.RowKit
def DoQ (w:World) (o:Ow) (p line:Nat) (r:Option Cf14) (e:Ending) (w':World):Prop:=∃ o',Stp KB w o w' o'∧match r with
 | some c=>e=.returned (.tuple #[])∧CfAt w' o' p c line
 | none=>e=GoneC line
theorem DoQ.no {w w':World} {o:Ow} {p line:Nat} {r:Option Cf14} (h:r=none) (e:Ext w w'):DoQ w o p line r (.panicked [{ v:=.iface 48 (.int .i64 (line:Int)),recovered:=false }]) w':=⟨o,Stp.ext e,by rw [h]; rfl⟩
theorem DoQ.yes {w w':World} {o o':Ow} {p line:Nat} {r:Option Cf14} {c:Cf14} (h:r=some c) (s:Stp KB w o w' o') (hc:CfAt w' o' p c line):DoQ w o p line r (.returned (.tuple #[])) w':=⟨o',s,by rw [h]; exact ⟨rfl,hc⟩⟩
section
variable {w w':World} {o:Ow} {p line uc sc:Nat} {c:Cf14} {U:List (Up14 × Hd)} {S:List (Sr14 × Hd × Hd)} {UA SA:Option Addr}
theorem Cf0.upX (h:Cf0 w o p c line U UA uc S SA sc) (hne:c.ups ≠ []):∃ a x g f,U=a ++ [x]∧UA=some ⟨g,f,none⟩∧c.ups.length=a.length + 1∧c.ups=a.map (·.1) ++ [x.1]∧g < w.heap.size ∧
  (∀ j u,(upV x)[j]?=some u → w.cell? ⟨g,f + a.length * 4 + j,none⟩=some u∧w.frozen? ⟨g,f + a.length * 4 + j,none⟩=false):=by
 have hU:U ≠ []:=fun e=>hne (by rw [← h.hU,e]; rfl)
 obtain ⟨a,x,rfl⟩:=snoc_of hU
 have hul:=h.uln
 rw [List.length_append,List.length_singleton] at hul
 obtain ⟨g,f,hA,_,hg,hc,hf⟩:=h.ups.cells (by omega)
 refine ⟨a,x,g,f,rfl,hA,hul.symm,by rw [← h.hU,List.map_append]; rfl,hg,fun j u hu=>?_⟩
 have hj:=(List.getElem?_eq_some_iff.1 hu).1
 rw [upV_len] at hj
 rw [Nat.add_assoc]
 exact ⟨hc _ _ (by rw [flat_last upV 4 upV_len]; exact hu),hf _ (by omega)⟩
theorem Cf0.srX (h:Cf0 w o p c line U UA uc S SA sc) (hne:c.srvs ≠ []):∃ a x g f,S=a ++ [x]∧SA=some ⟨g,f,none⟩∧c.srvs.length=a.length + 1∧c.srvs=a.map (·.1) ++ [x.1]∧g < w.heap.size ∧
  (∀ j u,(srV x)[j]?=some u → w.cell? ⟨g,f + a.length * 3 + j,none⟩=some u∧w.frozen? ⟨g,f + a.length * 3 + j,none⟩=false):=by
 have hS:S ≠ []:=fun e=>hne (by rw [← h.hS,e]; rfl)
 obtain ⟨a,x,rfl⟩:=snoc_of hS
 have hul:=h.sln
 rw [List.length_append,List.length_singleton] at hul
 obtain ⟨g,f,hA,_,hg,hc,hf⟩:=h.srvs.cells (by omega)
 refine ⟨a,x,g,f,rfl,hA,hul.symm,by rw [← h.hS,List.map_append]; rfl,hg,fun j u hu=>?_⟩
 have hj:=(List.getElem?_eq_some_iff.1 hu).1
 rw [srV_len] at hj
 rw [Nat.add_assoc]
 exact ⟨hc _ _ (by rw [flat_last srV 3 srV_len]; exact hu),hf _ (by omega)⟩
theorem Cf0.loX {a:List (Sr14 × Hd × Hd)} {x:Sr14 × Hd × Hd} (h:Cf0 w o p c line U UA uc (a ++ [x]) SA sc) (hne:x.1.locs ≠ []):∃ lo l g f,x.1.locs=lo ++ [l]∧x.2.2.1=some ⟨g,f,none⟩∧g < w.heap.size ∧
  (∀ j u,(loV l)[j]?=some u → w.cell? ⟨g,f + lo.length * 12 + j,none⟩=some u∧w.frozen? ⟨g,f + lo.length * 12 + j,none⟩=false):=by
 obtain ⟨lo,l,hl⟩:=snoc_of hne
 have hs:=(list_one h.locs).2.1
 rw [hl] at hs
 obtain ⟨g,f,hA,_,hg,hc,hf⟩:=hs.cells (by rw [List.length_append,List.length_singleton]; omega)
 refine ⟨lo,l,g,f,hl,hA,hg,fun j u hu=>?_⟩
 have hj:=(List.getElem?_eq_some_iff.1 hu).1
 rw [loV_len] at hj
 rw [Nat.add_assoc]
 exact ⟨hc _ _ (by rw [flat_last loV 12 loV_len]; exact hu),hf _ (by rw [List.length_append,List.length_singleton]; omega)⟩
theorem Cf0.c4 (h:Cf0 w o p c line U UA uc S SA sc):w.cell? ⟨p,4,none⟩=some (.slice UA c.ups.length uc):=(row_facts h.row 4 _ rfl).1
theorem Cf0.c5 (h:Cf0 w o p c line U UA uc S SA sc):w.cell? ⟨p,5,none⟩=some (.slice SA c.srvs.length sc):=(row_facts h.row 5 _ rfl).1
theorem Cf0.c6 (h:Cf0 w o p c line U UA uc S SA sc):w.cell? ⟨p,6,none⟩=some (.int .i64 (line:Int)):=(row_facts h.row 6 _ rfl).1
theorem CfAt.c6 (h:CfAt w o p c line):w.cell? ⟨p,6,none⟩=some (.int .i64 (line:Int)):=by obtain ⟨U,UA,uc,S,SA,sc,h⟩:=h; exact h.c6
theorem Cf0.fz (h:Cf0 w o p c line U UA uc S SA sc) (i:Nat) (hi:i < 7):w.frozen? ⟨p,i,none⟩=false:=by
 obtain ⟨u,hu⟩:∃ u,(bdC c line UA uc SA sc)[i]?=some u:=⟨(bdC c line UA uc SA sc)[i]'(by simp [bdC]; omega),by simp⟩
 exact (row_facts h.row i u hu).2
end
structure CfB (M:Nat) (c:Cf14):Prop where
 ups:c.ups.length ≤ M
 srvs:c.srvs.length ≤ M
 peers:∀ u ∈ c.ups,u.peers.length ≤ M
 names:∀ s ∈ c.srvs,s.names.length ≤ M
 locs:∀ s ∈ c.srvs,s.locs.length ≤ M
theorem cget1_c (p:Nat) (w:World):Calls Tryz.prog 88 #[.pointer (some ⟨p,0,none⟩)] w (Gives (.pointer (some ⟨p,0,none⟩)) w):=by
 go_enter Tryz.func88,Tryz.ntmps88
 go_wp2
 go_ret
 exact ⟨rfl,by (repeat first | exact Ex0 | assumption | refine Ex1 ?_ | refine Ex2 ?_ | refine Ex3 ?_ | refine Ex4 ?_ | refine Ex5 ?_)⟩
theorem cget2_c (p:Nat) (w:World):Calls Tryz.prog 89 #[.pointer (some ⟨p,0,none⟩)] w (Gives (.pointer (some ⟨p,1,none⟩)) w):=by
 go_enter Tryz.func89,Tryz.ntmps89
 go_wp2
 go_ret
 exact ⟨rfl,by (repeat first | exact Ex0 | assumption | refine Ex1 ?_ | refine Ex2 ?_ | refine Ex3 ?_ | refine Ex4 ?_ | refine Ex5 ?_)⟩
theorem cget3_c (p:Nat) (w:World):Calls Tryz.prog 90 #[.pointer (some ⟨p,0,none⟩)] w (Gives (.pointer (some ⟨p,2,none⟩)) w):=by
 go_enter Tryz.func90,Tryz.ntmps90
 go_wp2
 go_ret
 exact ⟨rfl,by (repeat first | exact Ex0 | assumption | refine Ex1 ?_ | refine Ex2 ?_ | refine Ex3 ?_ | refine Ex4 ?_ | refine Ex5 ?_)⟩
theorem cget4_c (p:Nat) (w:World):Calls Tryz.prog 91 #[.pointer (some ⟨p,0,none⟩)] w (Gives (.pointer (some ⟨p,3,none⟩)) w):=by
 go_enter Tryz.func91,Tryz.ntmps91
 go_wp2
 go_ret
 exact ⟨rfl,by (repeat first | exact Ex0 | assumption | refine Ex1 ?_ | refine Ex2 ?_ | refine Ex3 ?_ | refine Ex4 ?_ | refine Ex5 ?_)⟩
theorem cget7_c (p g f m uc:Nat) (w:World) (hm:m < 1099511627776) (h4:w.cell? ⟨p,4,none⟩=some (.slice (some ⟨g,f,none⟩) (m + 1) uc)) :
  Calls Tryz.prog 95 #[.pointer (some ⟨p,0,none⟩)] w (Gives (.pointer (some ⟨g,f + m * 4 + 2,none⟩)) w):=by
 have C:=Lib.hid (cup_c p g f m uc w hm h4)
 clear h4
 go_enter Tryz.func95,Tryz.ntmps95
 go_wp2_with (first
  | (go_at_call 94; refine C.out.mono ?_; rintro e w1 ⟨rfl,hx1⟩))
 go_ret
 exact ⟨rfl,by (repeat first | exact Ex0 | assumption | refine Ex1 ?_ | refine Ex2 ?_ | refine Ex3 ?_ | refine Ex4 ?_ | refine Ex5 ?_)⟩
theorem cget8_c (p g f m uc:Nat) (w:World) (hm:m < 1099511627776) (h4:w.cell? ⟨p,4,none⟩=some (.slice (some ⟨g,f,none⟩) (m + 1) uc)) :
  Calls Tryz.prog 96 #[.pointer (some ⟨p,0,none⟩)] w (Gives (.pointer (some ⟨g,f + m * 4 + 3,none⟩)) w):=by
 have C:=Lib.hid (cup_c p g f m uc w hm h4)
 clear h4
 go_enter Tryz.func96,Tryz.ntmps96
 go_wp2_with (first
  | (go_at_call 94; refine C.out.mono ?_; rintro e w1 ⟨rfl,hx1⟩))
 go_ret
 exact ⟨rfl,by (repeat first | exact Ex0 | assumption | refine Ex1 ?_ | refine Ex2 ?_ | refine Ex3 ?_ | refine Ex4 ?_ | refine Ex5 ?_)⟩
theorem cget9_c (p g f m uc g2 f2 m2 lc:Nat) (w:World) (hm:m < 1099511627776) (hm2:m2 < 1099511627776) (h4:w.cell? ⟨p,5,none⟩=some (.slice (some ⟨g,f,none⟩) (m + 1) uc)) (h2:w.cell? ⟨g,f + m * 3 + 2,none⟩=some (.slice (some ⟨g2,f2,none⟩) (m2 + 1) lc)) :
  Calls Tryz.prog 52 #[.pointer (some ⟨p,0,none⟩)] w (Gives (.pointer (some ⟨g2,f2 + m2 * 12 + 4,none⟩)) w):=by
 have C:=Lib.hid (cloc_c p g f m uc g2 f2 m2 lc w hm hm2 h4 h2)
 clear h4 h2
 go_enter Tryz.func52,Tryz.ntmps52
 go_wp2_with (first
  | (go_at_call 49; refine C.out.mono ?_; rintro e w1 ⟨rfl,hx1⟩))
 go_ret
 exact ⟨rfl,by (repeat first | exact Ex0 | assumption | refine Ex1 ?_ | refine Ex2 ?_ | refine Ex3 ?_ | refine Ex4 ?_ | refine Ex5 ?_)⟩
theorem cget10_c (p g f m uc g2 f2 m2 lc:Nat) (w:World) (hm:m < 1099511627776) (hm2:m2 < 1099511627776) (h4:w.cell? ⟨p,5,none⟩=some (.slice (some ⟨g,f,none⟩) (m + 1) uc)) (h2:w.cell? ⟨g,f + m * 3 + 2,none⟩=some (.slice (some ⟨g2,f2,none⟩) (m2 + 1) lc)) :
  Calls Tryz.prog 53 #[.pointer (some ⟨p,0,none⟩)] w (Gives (.pointer (some ⟨g2,f2 + m2 * 12 + 5,none⟩)) w):=by
 have C:=Lib.hid (cloc_c p g f m uc g2 f2 m2 lc w hm hm2 h4 h2)
 clear h4 h2
 go_enter Tryz.func53,Tryz.ntmps53
 go_wp2_with (first
  | (go_at_call 49; refine C.out.mono ?_; rintro e w1 ⟨rfl,hx1⟩))
 go_ret
 exact ⟨rfl,by (repeat first | exact Ex0 | assumption | refine Ex1 ?_ | refine Ex2 ?_ | refine Ex3 ?_ | refine Ex4 ?_ | refine Ex5 ?_)⟩
end Go.Proofs.YtmnohicojefhfaaGreatDoor
end
section
namespace Go.Proofs.YtmnohicojefhfaaGreatDoor
open Go.RowKit
theorem modLast_ne {α:Type} {g:α → α} {l:List α} (h:l ≠ []):modLast g l ≠ []:=fun e=>h (List.eq_nil_of_length_eq_zero (by rw [← modLast_len g l,e]; rfl))
theorem modLast_getLast {α:Type} {g:α → α} {l:List α} {x:α} (h:l.getLast?=some x):(modLast g l).getLast?=some (g x):=by
 have hne:l ≠ []:=fun e=>by rw [e] at h; cases h
 obtain ⟨a,y,rfl⟩:=snoc_of hne
 rw [modLast_snoc]
 simp at h ⊢
 rw [h]
theorem modLast_mem {α:Type} {g:α → α} {l:List α} {y:α} (h:y ∈ modLast g l):y ∈ l ∨ ∃ x ∈ l,y=g x:=by
 by_cases hne:l=[]
 ·subst hne; cases h
 ·obtain ⟨a,x,rfl⟩:=snoc_of hne
  rw [modLast_snoc] at h
  rcases List.mem_append.1 h with h | h
  ·exact .inl (List.mem_append_left _ h)
  ·rw [List.mem_singleton] at h
   exact .inr ⟨x,by simp,h⟩
theorem doD_ups {k:Dk} {a:List (List UInt8)} {c c1:Cf14} (h:doD k a c=some c1) (hc:c.ups ≠ []):c1.ups ≠ []:=by
 unfold doD at h
 cases k <;> simp only [Option.map_eq_some_iff,Option.bind_eq_some_iff,Option.some.injEq] at h
 all_goals first
  | (obtain ⟨n,_,rfl⟩:=h; first | exact hc | exact modLast_ne hc)
  | (subst h; first | exact hc | exact modLast_ne hc | simp)
  | (obtain ⟨n,_,h⟩:=h; first | (obtain ⟨m,_,rfl⟩:=h; first | exact hc | exact modLast_ne hc) | (split at h <;> first | (simp only [Option.map_eq_some_iff,Option.some.injEq] at h; first | (obtain ⟨m,_,rfl⟩:=h; exact modLast_ne hc) | (subst h; exact modLast_ne hc)) | (cases h; exact modLast_ne hc)))
theorem doD_srvs {k:Dk} {a:List (List UInt8)} {c c1:Cf14} (h:doD k a c=some c1) (hc:c.srvs ≠ []):c1.srvs ≠ []:=by
 unfold doD at h
 cases k <;> simp only [Option.map_eq_some_iff,Option.bind_eq_some_iff,Option.some.injEq] at h
 all_goals first
  | (obtain ⟨n,_,rfl⟩:=h; first | exact hc | exact modLast_ne hc)
  | (subst h; first | exact hc | exact modLast_ne hc | simp)
  | (obtain ⟨n,_,h⟩:=h; first | (obtain ⟨m,_,rfl⟩:=h; first | exact hc | exact modLast_ne hc) | (split at h <;> first | (simp only [Option.map_eq_some_iff,Option.some.injEq] at h; first | (obtain ⟨m,_,rfl⟩:=h; exact hc) | (subst h; exact hc)) | (cases h; exact hc)))
theorem LocOk_lo {c:Cf14} (h:∃ s,c.srvs.getLast?=some s∧s.locs ≠ []) (g:Lo14 → Lo14):∃ s,(cfLo c g).srvs.getLast?=some s∧s.locs ≠ []:=by
 obtain ⟨s,h1,h2⟩:=h
 exact ⟨_,modLast_getLast h1,modLast_ne h2⟩
theorem doD_ok {k:Dk} {a:List (List UInt8)} {c c1:Cf14} (h:doD k a c=some c1) (hc:OkB (inD k) c):OkB (inD k) c1∧(blockD k=true → OkB (some k) c1):=by
 have hu:=fun hc=>doD_ups h hc
 have hs:=fun hc=>doD_srvs h hc
 cases k
 case keep=>exact ⟨trivial,fun e=>by cases e⟩
 case body=>exact ⟨trivial,fun e=>by cases e⟩
 case store=>exact ⟨trivial,fun e=>by cases e⟩
 case conns=>exact ⟨trivial,fun e=>by cases e⟩
 case upstream=>simp only [doD,Option.some.injEq] at h; subst h; exact ⟨trivial,fun _=>by simp [OkB]⟩
 case server=>simp only [doD,Option.some.injEq] at h; subst h; exact ⟨trivial,fun _=>by simp [OkB]⟩
 case peer=>exact ⟨hu hc,fun e=>by cases e⟩
 case timeout=>exact ⟨hu hc,fun e=>by cases e⟩
 case retries=>exact ⟨hu hc,fun e=>by cases e⟩
 case name=>exact ⟨hs hc,fun e=>by cases e⟩
 case dflt=>exact ⟨hs hc,fun e=>by cases e⟩
 case location =>
  refine ⟨hs hc,fun _=>?_⟩
  simp only [doD,Option.some.injEq] at h; subst h
  obtain ⟨b,x,hb⟩:=snoc_of (show c.srvs ≠ [] from hc)
  exact ⟨_,modLast_getLast (x:=x) (by rw [hb]; simp),by simp⟩
 case root=>simp only [doD,Option.some.injEq] at h; subst h; exact ⟨LocOk_lo hc _,fun e=>by cases e⟩
 case index=>simp only [doD,Option.some.injEq] at h; subst h; exact ⟨LocOk_lo hc _,fun e=>by cases e⟩
 case gzip=>simp only [doD,Option.map_eq_some_iff] at h; obtain ⟨n,_,rfl⟩:=h; exact ⟨LocOk_lo hc _,fun e=>by cases e⟩
 case expires=>simp only [doD,Option.map_eq_some_iff] at h; obtain ⟨n,_,rfl⟩:=h; exact ⟨LocOk_lo hc _,fun e=>by cases e⟩
 case proxy=>simp only [doD,Option.some.injEq] at h; subst h; exact ⟨LocOk_lo hc _,fun e=>by cases e⟩
 case cache=>simp only [doD,Option.some.injEq] at h; subst h; exact ⟨LocOk_lo hc _,fun e=>by cases e⟩
 case limit=>simp only [doD,Option.map_eq_some_iff,Option.bind_eq_some_iff] at h; obtain ⟨n,_,m,_,rfl⟩:=h; exact ⟨LocOk_lo hc _,fun e=>by cases e⟩
 case ret=>simp only [doD,Option.map_eq_some_iff] at h; obtain ⟨n,_,rfl⟩:=h; exact ⟨LocOk_lo hc _,fun e=>by cases e⟩
theorem build_step {b:Option Dk} {came:List Dk} {c:Cf14} {ws:List (List UInt8)} {l:Nat} {bl:Bool} {k n:Fo} {x:Dk} {c1:Cf14} (hx:dkOf (ws.headD [])=some x) (hf:fitD x ⟨ws,0,bl,l⟩ (b,came)=true) (hd:doD x (ws.drop 1) c=some c1) :
  buildF b came c (.node ws l bl k n)=match buildF (some x) [] c1 k with
   | .error e=>.error e
   | .ok r=>buildF b (kindD x :: came) r.2 n:=by
 rw [buildF]
 simp only [hx,hf,hd,if_true]
 rfl
theorem build_srvs:∀ (f:Fo) (b:Option Dk) (came:List Dk) (c:Cf14) (r:List Dk × Cf14),buildF b came c f=.ok r → c.srvs ≠ [] → r.2.srvs ≠ []:=by
 intro f
 induction f with
 | nil=>intro b came c r h hc; cases h; exact hc
 | node ws l bl k n ihk ihn =>
  intro b came c r h hc
  rw [buildF] at h
  split at h
  ·cases h
  ·split at h
   ·split at h
    ·cases h
    ·rename_i c1 hd
     split at h
     ·cases h
     ·rename_i r1 hr
      exact ihn _ _ _ _ h (ihk _ _ _ _ hr (doD_srvs hd hc))
   ·cases h
theorem build_ok {x:Dk} {k:Fo} {c1:Cf14} {r:List Dk × Cf14} (h:buildF (some x) [] c1 k=.ok r) (hk:blockD x=false → k=.nil) (hc:OkB (inD x) c1):OkB (inD x) r.2:=by
 by_cases hb:blockD x=false
 ·rw [hk hb] at h
  cases h; exact hc
 ·cases x <;> first | exact absurd rfl hb | exact trivial | exact build_srvs _ _ _ _ _ h hc
theorem CfB.mono {M N:Nat} {c:Cf14} (h:CfB M c) (hm:M ≤ N):CfB N c :=
 ⟨Nat.le_trans h.ups hm,Nat.le_trans h.srvs hm,fun u hu=>Nat.le_trans (h.peers u hu) hm,fun u hu=>Nat.le_trans (h.names u hu) hm,fun u hu=>Nat.le_trans (h.locs u hu) hm⟩
section
variable {M d:Nat} {c:Cf14}
theorem cfUp_b (h:CfB M c) {g:Up14 → Up14} (hg:∀ u,(g u).peers.length ≤ u.peers.length + d):CfB (M + d) (cfUp c g):=by
 refine ⟨by unfold cfUp; dsimp only; rw [modLast_len]; have:=h.ups; omega,by have:=h.srvs; show c.srvs.length ≤ _; omega,fun u hu=>?_,fun s hs=>by have:=h.names s hs; omega,fun s hs=>by have:=h.locs s hs; omega⟩
 rcases modLast_mem hu with h1 | ⟨x,h1,rfl⟩
 ·have:=h.peers u h1; omega
 ·have:=h.peers x h1; have:=hg x; omega
theorem cfSr_b (h:CfB M c) {g:Sr14 → Sr14} (hg:∀ s,(g s).names.length ≤ s.names.length + d∧(g s).locs.length ≤ s.locs.length + d):CfB (M + d) (cfSr c g):=by
 refine ⟨by have:=h.ups; show c.ups.length ≤ _; omega,by unfold cfSr; dsimp only; rw [modLast_len]; have:=h.srvs; omega,fun u hu=>by have:=h.peers u hu; omega,fun s hs=>?_,fun s hs=>?_⟩
 ·rcases modLast_mem hs with h1 | ⟨x,h1,rfl⟩
  ·have:=h.names s h1; omega
  ·have:=h.names x h1; have:=(hg x).1; omega
 ·rcases modLast_mem hs with h1 | ⟨x,h1,rfl⟩
  ·have:=h.locs s h1; omega
  ·have:=h.locs x h1; have:=(hg x).2; omega
theorem cfLo_b (h:CfB M c) (g:Lo14 → Lo14):CfB (M + d) (cfLo c g):=cfSr_b h fun s=>⟨Nat.le_add_right _ _,by rw [modLast_len]; omega⟩
theorem doD_b {k:Dk} {a:List (List UInt8)} {c1:Cf14} (h:doD k a c=some c1) (hc:CfB M c):CfB (M + (a.length + 1)) c1:=by
 have hm:M ≤ M + (a.length + 1):=Nat.le_add_right _ _
 have h0:∀ c',c'.ups=c.ups → c'.srvs=c.srvs → CfB (M + (a.length + 1)) c':=fun c' e1 e2 =>
  ⟨by rw [e1]; exact Nat.le_trans hc.ups hm,by rw [e2]; exact Nat.le_trans hc.srvs hm,by rw [e1]; exact fun u hu=>Nat.le_trans (hc.peers u hu) hm,by rw [e2]; exact fun u hu=>Nat.le_trans (hc.names u hu) hm,by rw [e2]; exact fun u hu=>Nat.le_trans (hc.locs u hu) hm⟩
 cases k
 case keep=>simp only [doD,Option.map_eq_some_iff] at h; obtain ⟨n,_,rfl⟩:=h; exact h0 _ rfl rfl
 case body=>simp only [doD,Option.map_eq_some_iff] at h; obtain ⟨n,_,rfl⟩:=h; exact h0 _ rfl rfl
 case store=>simp only [doD,Option.map_eq_some_iff] at h; obtain ⟨n,_,rfl⟩:=h; exact h0 _ rfl rfl
 case conns=>simp only [doD,Option.map_eq_some_iff] at h; obtain ⟨n,_,rfl⟩:=h; exact h0 _ rfl rfl
 case upstream =>
  simp only [doD,Option.some.injEq] at h; subst h
  refine ⟨by have:=hc.ups; simp; omega,Nat.le_trans hc.srvs hm,fun u hu=>?_,fun u hu=>Nat.le_trans (hc.names u hu) hm,fun u hu=>Nat.le_trans (hc.locs u hu) hm⟩
  rcases List.mem_append.1 hu with h1 | h1
  ·exact Nat.le_trans (hc.peers u h1) hm
  ·rw [List.mem_singleton] at h1; subst h1; simp
 case server =>
  simp only [doD,Option.some.injEq] at h; subst h
  refine ⟨Nat.le_trans hc.ups hm,by have:=hc.srvs; simp; omega,fun u hu=>Nat.le_trans (hc.peers u hu) hm,fun u hu=>?_,fun u hu=>?_⟩
  ·rcases List.mem_append.1 hu with h1 | h1
   ·exact Nat.le_trans (hc.names u h1) hm
   ·rw [List.mem_singleton] at h1; subst h1; simp
  ·rcases List.mem_append.1 hu with h1 | h1
   ·exact Nat.le_trans (hc.locs u h1) hm
   ·rw [List.mem_singleton] at h1; subst h1; simp
 case peer =>
  simp only [doD,Option.bind_eq_some_iff] at h
  obtain ⟨n,_,h⟩:=h
  split at h
  ·simp only [Option.map_eq_some_iff] at h; obtain ⟨m,_,rfl⟩:=h; exact cfUp_b hc fun u=>by simp
  ·simp only [Option.some.injEq] at h; subst h; exact cfUp_b hc fun u=>by simp
 case timeout=>simp only [doD,Option.map_eq_some_iff] at h; obtain ⟨n,_,rfl⟩:=h; exact cfUp_b hc fun u=>by simp
 case retries=>simp only [doD,Option.map_eq_some_iff] at h; obtain ⟨n,_,rfl⟩:=h; exact cfUp_b hc fun u=>by simp
 case name=>simp only [doD,Option.some.injEq] at h; subst h; exact cfSr_b hc fun s=>⟨by simp only [List.length_append]; omega,Nat.le_add_right _ _⟩
 case dflt=>simp only [doD,Option.some.injEq] at h; subst h; exact cfSr_b hc fun s=>⟨by simp,by simp⟩
 case location=>simp only [doD,Option.some.injEq] at h; subst h; exact cfSr_b hc fun s=>⟨by simp,by simp⟩
 case root=>simp only [doD,Option.some.injEq] at h; subst h; exact cfLo_b hc _
 case index=>simp only [doD,Option.some.injEq] at h; subst h; exact cfLo_b hc _
 case gzip=>simp only [doD,Option.map_eq_some_iff] at h; obtain ⟨n,_,rfl⟩:=h; exact cfLo_b hc _
 case expires=>simp only [doD,Option.map_eq_some_iff] at h; obtain ⟨n,_,rfl⟩:=h; exact cfLo_b hc _
 case proxy=>simp only [doD,Option.some.injEq] at h; subst h; exact cfLo_b hc _
 case cache=>simp only [doD,Option.some.injEq] at h; subst h; exact cfLo_b hc _
 case limit=>simp only [doD,Option.map_eq_some_iff,Option.bind_eq_some_iff] at h; obtain ⟨n,_,m,_,rfl⟩:=h; exact cfLo_b hc _
 case ret=>simp only [doD,Option.map_eq_some_iff] at h; obtain ⟨n,_,rfl⟩:=h; exact cfLo_b hc _
end
theorem build_b:∀ (f:Fo) (b:Option Dk) (came:List Dk) (c:Cf14) (M:Nat) (r:List Dk × Cf14),f.wf → buildF b came c f=.ok r → CfB M c → CfB (M + f.words) r.2:=by
 intro f
 induction f with
 | nil=>intro b came c M r _ h hc; cases h; exact hc
 | node ws l bl k n ihk ihn =>
  intro b came c M r hw h hc
  rw [buildF] at h
  split at h
  ·cases h
  ·split at h
   ·split at h
    ·cases h
    ·rename_i c1 hd
     split at h
     ·cases h
     ·rename_i r1 hr
      have h1:=doD_b hd hc
      have hl:0 < ws.length:=List.length_pos_iff.2 hw.1
      rw [List.length_drop,show ws.length - 1 + 1=ws.length from by omega] at h1
      have h2:=ihk _ _ _ _ _ hw.2.2.1 hr h1
      have h3:=ihn _ _ _ _ _ hw.2.2.2 h h2
      exact h3.mono (by simp only [Fo.words]; omega)
   ·cases h
end Go.Proofs.YtmnohicojefhfaaGreatDoor
end
section
namespace Go.Proofs.YtmnohicojefhfaaGreatDoor
open Go.RowKit
theorem do1_c (w:World) (o:Ow) (p line:Nat) (c:Cf14) (h:CfAt w o p c line) (hE:ErrR w) (s:List UInt8) (hs:s.length ≤ 65536) (A:Option Addr) (ac gc:Nat) (hr:Rd w A (strC [s])) (hc:w.cell? ⟨gc,0,none⟩=some (.func (.func 88) #[] #[])) :
  Calls Tryz.prog 102 #[.pointer (some ⟨p,0,none⟩),.slice A 1 ac,.pointer (some ⟨gc,0,none⟩)] w (DoQ w o p line (doD .keep [s] c)):=by
 obtain ⟨U,UA,uc,S,SA,sc,h⟩:=h
 have hg:=(row_facts h.row 0 _ rfl).1
 have hf:=(row_facts h.row 0 _ rfl).2
 cases hn:numC s with
 | none =>
  refine (cset1_no gc p 0 p _ s hs line hn A 1 ac w h.c6 hE (fun w' _=>cget1_c p w') hc hg hf hr (by omega)).mono ?_
  rintro e w' ⟨rfl,hx⟩
  exact DoQ.no (by simp [doD,hn]) hx
 | some n =>
  refine (cset1_yes gc p 0 p _ s hs n hn A 1 ac w hE (fun w' _=>cget1_c p w') hc hg hf hr (by omega)).mono ?_
  rintro e w' ⟨rfl,w1,hx,rfl⟩
  have ht:=(h.ext hx).cell 0 (.int .i64 n) (c':={ c with keep:=n }) (line':=line) rfl rfl rfl
  exact DoQ.yes (by simp [doD,hn]) ((Stp.ext hx).tr ht.2) ⟨_,_,_,_,_,_,ht.1⟩
theorem do2_c (w:World) (o:Ow) (p line:Nat) (c:Cf14) (h:CfAt w o p c line) (hE:ErrR w) (s:List UInt8) (hs:s.length ≤ 65536) (A:Option Addr) (ac gc:Nat) (hr:Rd w A (strC [s])) (hc:w.cell? ⟨gc,0,none⟩=some (.func (.func 89) #[] #[])) :
  Calls Tryz.prog 102 #[.pointer (some ⟨p,0,none⟩),.slice A 1 ac,.pointer (some ⟨gc,0,none⟩)] w (DoQ w o p line (doD .body [s] c)):=by
 obtain ⟨U,UA,uc,S,SA,sc,h⟩:=h
 have hg:=(row_facts h.row 1 _ rfl).1
 have hf:=(row_facts h.row 1 _ rfl).2
 cases hn:numC s with
 | none =>
  refine (cset2_no gc p 1 p _ s hs line hn A 1 ac w h.c6 hE (fun w' _=>cget2_c p w') hc hg hf hr (by omega)).mono ?_
  rintro e w' ⟨rfl,hx⟩
  exact DoQ.no (by simp [doD,hn]) hx
 | some n =>
  refine (cset2_yes gc p 1 p _ s hs n hn A 1 ac w hE (fun w' _=>cget2_c p w') hc hg hf hr (by omega)).mono ?_
  rintro e w' ⟨rfl,w1,hx,rfl⟩
  have ht:=(h.ext hx).cell 1 (.int .i64 n) (c':={ c with body:=n }) (line':=line) rfl rfl rfl
  exact DoQ.yes (by simp [doD,hn]) ((Stp.ext hx).tr ht.2) ⟨_,_,_,_,_,_,ht.1⟩
theorem do3_c (w:World) (o:Ow) (p line:Nat) (c:Cf14) (h:CfAt w o p c line) (hE:ErrR w) (s:List UInt8) (hs:s.length ≤ 65536) (A:Option Addr) (ac gc:Nat) (hr:Rd w A (strC [s])) (hc:w.cell? ⟨gc,0,none⟩=some (.func (.func 90) #[] #[])) :
  Calls Tryz.prog 102 #[.pointer (some ⟨p,0,none⟩),.slice A 1 ac,.pointer (some ⟨gc,0,none⟩)] w (DoQ w o p line (doD .store [s] c)):=by
 obtain ⟨U,UA,uc,S,SA,sc,h⟩:=h
 have hg:=(row_facts h.row 2 _ rfl).1
 have hf:=(row_facts h.row 2 _ rfl).2
 cases hn:numC s with
 | none =>
  refine (cset3_no gc p 2 p _ s hs line hn A 1 ac w h.c6 hE (fun w' _=>cget3_c p w') hc hg hf hr (by omega)).mono ?_
  rintro e w' ⟨rfl,hx⟩
  exact DoQ.no (by simp [doD,hn]) hx
 | some n =>
  refine (cset3_yes gc p 2 p _ s hs n hn A 1 ac w hE (fun w' _=>cget3_c p w') hc hg hf hr (by omega)).mono ?_
  rintro e w' ⟨rfl,w1,hx,rfl⟩
  have ht:=(h.ext hx).cell 2 (.int .i64 n) (c':={ c with store:=n }) (line':=line) rfl rfl rfl
  exact DoQ.yes (by simp [doD,hn]) ((Stp.ext hx).tr ht.2) ⟨_,_,_,_,_,_,ht.1⟩
theorem do4_c (w:World) (o:Ow) (p line:Nat) (c:Cf14) (h:CfAt w o p c line) (hE:ErrR w) (s:List UInt8) (hs:s.length ≤ 65536) (A:Option Addr) (ac gc:Nat) (hr:Rd w A (strC [s])) (hc:w.cell? ⟨gc,0,none⟩=some (.func (.func 91) #[] #[])) :
  Calls Tryz.prog 102 #[.pointer (some ⟨p,0,none⟩),.slice A 1 ac,.pointer (some ⟨gc,0,none⟩)] w (DoQ w o p line (doD .conns [s] c)):=by
 obtain ⟨U,UA,uc,S,SA,sc,h⟩:=h
 have hg:=(row_facts h.row 3 _ rfl).1
 have hf:=(row_facts h.row 3 _ rfl).2
 cases hn:numC s with
 | none =>
  refine (cset4_no gc p 3 p _ s hs line hn A 1 ac w h.c6 hE (fun w' _=>cget4_c p w') hc hg hf hr (by omega)).mono ?_
  rintro e w' ⟨rfl,hx⟩
  exact DoQ.no (by simp [doD,hn]) hx
 | some n =>
  refine (cset4_yes gc p 3 p _ s hs n hn A 1 ac w hE (fun w' _=>cget4_c p w') hc hg hf hr (by omega)).mono ?_
  rintro e w' ⟨rfl,w1,hx,rfl⟩
  have ht:=(h.ext hx).cell 3 (.int .i64 n) (c':={ c with conns:=n }) (line':=line) rfl rfl rfl
  exact DoQ.yes (by simp [doD,hn]) ((Stp.ext hx).tr ht.2) ⟨_,_,_,_,_,_,ht.1⟩
theorem cfUp_eq {c:Cf14} {a:List (Up14 × Hd)} {x:Up14 × Hd} (h:c.ups=a.map (·.1) ++ [x.1]) (g:Up14 → Up14) (d:Hd):cfUp c g={ c with ups:=(a ++ [(g x.1,d)]).map (·.1) }:=by
 unfold cfUp
 rw [h,modLast_snoc,List.map_append]; rfl
theorem cfSr_eq {c:Cf14} {a:List (Sr14 × Hd × Hd)} {x:Sr14 × Hd × Hd} (h:c.srvs=a.map (·.1) ++ [x.1]) (g:Sr14 → Sr14) (d:Hd × Hd):cfSr c g={ c with srvs:=(a ++ [(g x.1,d)]).map (·.1) }:=by
 unfold cfSr
 rw [h,modLast_snoc,List.map_append]; rfl
theorem cfLo_eq {c:Cf14} {a:List (Sr14 × Hd × Hd)} {x:Sr14 × Hd × Hd} {lo:List Lo14} {l:Lo14} (h:c.srvs=a.map (·.1) ++ [x.1]) (hl:x.1.locs=lo ++ [l]) (g:Lo14 → Lo14):cfLo c g={ c with srvs:=(a ++ [locS x (lo ++ [g l])]).map (·.1) }:=by
 unfold cfLo
 rw [cfSr_eq h _ x.2,hl,modLast_snoc]; rfl
theorem do7_c (w:World) (o:Ow) (p line:Nat) (c:Cf14) (h:CfAt w o p c line) (hE:ErrR w) (hne:c.ups ≠ []) (hM:CfB 1099511627776 c) (s:List UInt8) (hs:s.length ≤ 65536) (A:Option Addr) (ac gc:Nat) (hr:Rd w A (strC [s])) (hc:w.cell? ⟨gc,0,none⟩=some (.func (.func 95) #[] #[])) :
  Calls Tryz.prog 102 #[.pointer (some ⟨p,0,none⟩),.slice A 1 ac,.pointer (some ⟨gc,0,none⟩)] w (DoQ w o p line (doD .timeout [s] c)):=by
 obtain ⟨U,UA,uc,S,SA,sc,h⟩:=h
 obtain ⟨a,x,g,f,rfl,rfl,hl,hcu,hg,hce⟩:=h.upX hne
 have h4:=h.c4
 rw [hl] at h4
 have hm:a.length < 1099511627776:=by have:=hM.ups; omega
 have ht:=hce 2 _ rfl
 have hget:=fun (w':World) (e:Ext w w')=>cget7_c p g f a.length uc w' hm ((e.cell (lt_of_cell h4)).trans h4)
 cases hn:numC s with
 | none =>
  refine (cset7_no gc g (f + a.length * 4 + 2) p _ s hs line hn A 1 ac w h.c6 hE hget hc ht.1 ht.2 hr (by omega)).mono ?_
  rintro e w' ⟨rfl,hx⟩
  exact DoQ.no (by simp [doD,hn]) hx
 | some n =>
  refine (cset7_yes gc g (f + a.length * 4 + 2) p _ s hs n hn A 1 ac w hE hget hc ht.1 ht.2 hr (by omega)).mono ?_
  rintro e w' ⟨rfl,w1,hx,rfl⟩
  have hpe:=(list_one (h.ext hx).peers).2
  have hT:=(h.ext hx).up5 (w5:=w1) (o5:=o) Stp.rfl' ({ x.1 with timeout:=n },x.2) hpe 2 (by omega) (.int .i64 n) rfl
  rw [← Nat.add_assoc] at hT
  exact DoQ.yes (c:=cfUp c fun u=>{ u with timeout:=n }) (by simp [doD,hn]) ((Stp.ext hx).tr hT.2) ⟨_,_,_,_,_,_,by rw [cfUp_eq hcu _ x.2]; exact hT.1⟩
theorem do8_c (w:World) (o:Ow) (p line:Nat) (c:Cf14) (h:CfAt w o p c line) (hE:ErrR w) (hne:c.ups ≠ []) (hM:CfB 1099511627776 c) (s:List UInt8) (hs:s.length ≤ 65536) (A:Option Addr) (ac gc:Nat) (hr:Rd w A (strC [s])) (hc:w.cell? ⟨gc,0,none⟩=some (.func (.func 96) #[] #[])) :
  Calls Tryz.prog 102 #[.pointer (some ⟨p,0,none⟩),.slice A 1 ac,.pointer (some ⟨gc,0,none⟩)] w (DoQ w o p line (doD .retries [s] c)):=by
 obtain ⟨U,UA,uc,S,SA,sc,h⟩:=h
 obtain ⟨a,x,g,f,rfl,rfl,hl,hcu,hg,hce⟩:=h.upX hne
 have h4:=h.c4
 rw [hl] at h4
 have hm:a.length < 1099511627776:=by have:=hM.ups; omega
 have ht:=hce 3 _ rfl
 have hget:=fun (w':World) (e:Ext w w')=>cget8_c p g f a.length uc w' hm ((e.cell (lt_of_cell h4)).trans h4)
 cases hn:numC s with
 | none =>
  refine (cset8_no gc g (f + a.length * 4 + 3) p _ s hs line hn A 1 ac w h.c6 hE hget hc ht.1 ht.2 hr (by omega)).mono ?_
  rintro e w' ⟨rfl,hx⟩
  exact DoQ.no (by simp [doD,hn]) hx
 | some n =>
  refine (cset8_yes gc g (f + a.length * 4 + 3) p _ s hs n hn A 1 ac w hE hget hc ht.1 ht.2 hr (by omega)).mono ?_
  rintro e w' ⟨rfl,w1,hx,rfl⟩
  have hpe:=(list_one (h.ext hx).peers).2
  have hT:=(h.ext hx).up5 (w5:=w1) (o5:=o) Stp.rfl' ({ x.1 with retries:=n },x.2) hpe 3 (by omega) (.int .i64 n) rfl
  rw [← Nat.add_assoc] at hT
  exact DoQ.yes (c:=cfUp c fun u=>{ u with retries:=n }) (by simp [doD,hn]) ((Stp.ext hx).tr hT.2) ⟨_,_,_,_,_,_,by rw [cfUp_eq hcu _ x.2]; exact hT.1⟩
def LocOk (c:Cf14):Prop:=∃ s,c.srvs.getLast?=some s∧s.locs ≠ []
theorem LocOk.ne {c:Cf14} (h:LocOk c):c.srvs ≠ []:=by obtain ⟨s,h,_⟩:=h; intro e; rw [e] at h; cases h
theorem LocOk.last {c:Cf14} (h:LocOk c) {a:List Sr14} {x:Sr14} (e:c.srvs=a ++ [x]):x.locs ≠ []:=by
 obtain ⟨s,h1,h2⟩:=h
 rw [e] at h1
 simp at h1
 subst h1; exact h2
theorem do9_c (w:World) (o:Ow) (p line:Nat) (c:Cf14) (h:CfAt w o p c line) (hE:ErrR w) (hL:LocOk c) (hM:CfB 1099511627776 c) (s:List UInt8) (hs:s.length ≤ 65536) (A:Option Addr) (ac gc:Nat) (hr:Rd w A (strC [s])) (hc:w.cell? ⟨gc,0,none⟩=some (.func (.func 52) #[] #[])) :
  Calls Tryz.prog 102 #[.pointer (some ⟨p,0,none⟩),.slice A 1 ac,.pointer (some ⟨gc,0,none⟩)] w (DoQ w o p line (doD .gzip [s] c)):=by
 obtain ⟨U,UA,uc,S,SA,sc,h⟩:=h
 obtain ⟨a,x,g,f,rfl,rfl,hl,hcs,hg,hce⟩:=h.srX hL.ne
 obtain ⟨lo,l,g2,f2,hlo,hA2,hg2,hce2⟩:=h.loX (hL.last hcs)
 have h5:=h.c5
 rw [hl] at h5
 have hm:a.length < 1099511627776:=by have:=hM.srvs; omega
 have hm2:lo.length < 1099511627776:=by
  have:=hM.locs x.1 (by rw [hcs]; simp)
  rw [hlo,List.length_append,List.length_singleton] at this; omega
 have h2:=(hce 2 _ rfl).1
 rw [hA2,hlo,show (lo ++ [l]).length=lo.length + 1 from by simp] at h2
 have ht:=hce2 4 _ rfl
 have hget:=fun (w':World) (e:Ext w w')=>cget9_c p g f a.length sc g2 f2 lo.length x.2.2.2 w' hm hm2 ((e.cell (lt_of_cell h5)).trans h5) ((e.cell (lt_of_cell h2)).trans h2)
 cases hn:numC s with
 | none =>
  refine (cset9_no gc g2 (f2 + lo.length * 12 + 4) p _ s hs line hn A 1 ac w h.c6 hE hget hc ht.1 ht.2 hr (by omega)).mono ?_
  rintro e w' ⟨rfl,hx⟩
  exact DoQ.no (by simp [doD,hn]) hx
 | some n =>
  refine (cset9_yes gc g2 (f2 + lo.length * 12 + 4) p _ s hs n hn A 1 ac w hE hget hc ht.1 ht.2 hr (by omega)).mono ?_
  rintro e w' ⟨rfl,w1,hx,rfl⟩
  have hT:=(h.ext hx).lo5 hlo hA2 (l':={ l with gzip:=n }) 4 (by omega) (.int .i64 n) rfl
  rw [← Nat.add_assoc] at hT
  exact DoQ.yes (c:=cfLo c fun l=>{ l with gzip:=n }) (by simp [doD,hn]) ((Stp.ext hx).tr hT.2) ⟨_,_,_,_,_,_,by rw [cfLo_eq hcs hlo]; exact hT.1⟩
theorem do10_c (w:World) (o:Ow) (p line:Nat) (c:Cf14) (h:CfAt w o p c line) (hE:ErrR w) (hL:LocOk c) (hM:CfB 1099511627776 c) (s:List UInt8) (hs:s.length ≤ 65536) (A:Option Addr) (ac gc:Nat) (hr:Rd w A (strC [s])) (hc:w.cell? ⟨gc,0,none⟩=some (.func (.func 53) #[] #[])) :
  Calls Tryz.prog 102 #[.pointer (some ⟨p,0,none⟩),.slice A 1 ac,.pointer (some ⟨gc,0,none⟩)] w (DoQ w o p line (doD .expires [s] c)):=by
 obtain ⟨U,UA,uc,S,SA,sc,h⟩:=h
 obtain ⟨a,x,g,f,rfl,rfl,hl,hcs,hg,hce⟩:=h.srX hL.ne
 obtain ⟨lo,l,g2,f2,hlo,hA2,hg2,hce2⟩:=h.loX (hL.last hcs)
 have h5:=h.c5
 rw [hl] at h5
 have hm:a.length < 1099511627776:=by have:=hM.srvs; omega
 have hm2:lo.length < 1099511627776:=by
  have:=hM.locs x.1 (by rw [hcs]; simp)
  rw [hlo,List.length_append,List.length_singleton] at this; omega
 have h2:=(hce 2 _ rfl).1
 rw [hA2,hlo,show (lo ++ [l]).length=lo.length + 1 from by simp] at h2
 have ht:=hce2 5 _ rfl
 have hget:=fun (w':World) (e:Ext w w')=>cget10_c p g f a.length sc g2 f2 lo.length x.2.2.2 w' hm hm2 ((e.cell (lt_of_cell h5)).trans h5) ((e.cell (lt_of_cell h2)).trans h2)
 cases hn:numC s with
 | none =>
  refine (cset10_no gc g2 (f2 + lo.length * 12 + 5) p _ s hs line hn A 1 ac w h.c6 hE hget hc ht.1 ht.2 hr (by omega)).mono ?_
  rintro e w' ⟨rfl,hx⟩
  exact DoQ.no (by simp [doD,hn]) hx
 | some n =>
  refine (cset10_yes gc g2 (f2 + lo.length * 12 + 5) p _ s hs n hn A 1 ac w hE hget hc ht.1 ht.2 hr (by omega)).mono ?_
  rintro e w' ⟨rfl,w1,hx,rfl⟩
  have hT:=(h.ext hx).lo5 hlo hA2 (l':={ l with expires:=n }) 5 (by omega) (.int .i64 n) rfl
  rw [← Nat.add_assoc] at hT
  exact DoQ.yes (c:=cfLo c fun l=>{ l with expires:=n }) (by simp [doD,hn]) ((Stp.ext hx).tr hT.2) ⟨_,_,_,_,_,_,by rw [cfLo_eq hcs hlo]; exact hT.1⟩
end Go.Proofs.YtmnohicojefhfaaGreatDoor
end
section
namespace Go.Proofs.YtmnohicojefhfaaGreatDoor
open Go.RowKit
theorem dflt_c (w:World) (o:Ow) (p line:Nat) (c:Cf14) (h:CfAt w o p c line) (hne:c.srvs ≠ []) (hM:CfB 1099511627776 c) (B:Value) :
  Calls Tryz.prog 100 #[.pointer (some ⟨p,0,none⟩),B] w (DoQ w o p line (doD .dflt [] c)):=by
 obtain ⟨U,UA,uc,S,SA,sc,h⟩:=h
 obtain ⟨a,x,g,f,rfl,rfl,hl,hcs,hg,hce⟩:=h.srX hne
 have h5:=h.c5
 rw [hl] at h5
 have hm:a.length < 1099511627776:=by have:=hM.srvs; omega
 have C:=Lib.hid (cserver_c p g f a.length sc w hm h5)
 have h1:=hce 1 _ rfl
 obtain ⟨F,hF⟩:∃ F,F=f + a.length * 3:=⟨_,rfl⟩
 rw [← hF] at h1 C
 have FG:=Lib.hid (fun (w':World) (e:Ext w w')=>And.intro ((e.cell (p:=⟨g,F + 1,none⟩) hg).trans h1.1) ((World.frozen?_of_block (a:=⟨g,F + 1,none⟩) (e.block g hg)).trans h1.2))
 have HT:Hid (∀ w1,Ext w w1 → DoQ w o p line (doD .dflt [] c) (.returned (.tuple #[])) (w1.setCell ⟨g,F + 1,none⟩ (.bool true))):=Lib.hid (fun w1 hx=>by
  have hT:=(h.ext hx).sr5 (w5:=w1) (o5:=o) Stp.rfl' ({ x.1 with dflt:=true },x.2) (list_one (h.ext hx).names).2 (list_one (h.ext hx).locs).2 1 (by omega) (.bool true) rfl
  rw [← Nat.add_assoc,← hF] at hT
  exact DoQ.yes (c:=cfSr c fun s=>{ s with dflt:=true }) rfl ((Stp.ext hx).tr hT.2) ⟨_,_,_,_,_,_,by rw [cfSr_eq hcs _ x.2]; exact hT.1⟩)
 clear h1 hF h5 hl hce hcs h
 go_enter Tryz.func100,Tryz.ntmps100
 go_wp2_with (first
  | (go_at_call 99; refine C.out.mono ?_; rintro e w1 ⟨rfl,hx1⟩; have k1:=(FG.out w1 hx1).1; have k2:=(FG.out w1 hx1).2))
 go_end0
 exact HT.out w1 hx1
theorem cache_c (w:World) (o:Ow) (p line:Nat) (c:Cf14) (h:CfAt w o p c line) (hL:LocOk c) (hM:CfB 1099511627776 c) (B:Value) :
  Calls Tryz.prog 55 #[.pointer (some ⟨p,0,none⟩),B] w (DoQ w o p line (doD .cache [] c)):=by
 obtain ⟨U,UA,uc,S,SA,sc,h⟩:=h
 obtain ⟨a,x,g,f,rfl,rfl,hl,hcs,hg,hce⟩:=h.srX hL.ne
 obtain ⟨lo,l,g2,f2,hlo,hA2,hg2,hce2⟩:=h.loX (hL.last hcs)
 have h5:=h.c5
 rw [hl] at h5
 have hm:a.length < 1099511627776:=by have:=hM.srvs; omega
 have hm2:lo.length < 1099511627776:=by
  have:=hM.locs x.1 (by rw [hcs]; simp)
  rw [hlo,List.length_append,List.length_singleton] at this; omega
 have h2:=(hce 2 _ rfl).1
 rw [hA2,hlo,show (lo ++ [l]).length=lo.length + 1 from by simp] at h2
 have HL:=Lib.hid (fun (w':World) (e:Ext w w')=>cloc_c p g f a.length sc g2 f2 lo.length x.2.2.2 w' hm hm2 ((e.cell (lt_of_cell h5)).trans h5) ((e.cell (lt_of_cell h2)).trans h2))
 have HC:=Lib.hid h
 obtain ⟨F,hF⟩:∃ F,F=f2 + lo.length * 12:=⟨_,rfl⟩
 rw [← hF] at HL hce2
 have FG:=Lib.hid (fun (w':World) (e:Ext w w') (j:Nat) (u:Value) (hu:(loV l)[j]?=some u)=>And.intro ((e.cell (p:=⟨g2,F + j,none⟩) hg2).trans (hce2 j u hu).1) ((World.frozen?_of_block (a:=⟨g2,F + j,none⟩) (e.block g2 hg2)).trans (hce2 j u hu).2))
 have HF:=Lib.hid hF
 have HLO:=Lib.hid (And.intro hlo hA2)
 have HCS:=Lib.hid hcs
 clear hF h2 h5 hl hce hce2 hlo hA2 hcs h
 have HT:Hid (∀ w1,Ext w w1 → DoQ w o p line (doD .cache [] c) (.returned (.tuple #[])) (w1.setCell ⟨g2,F + 7,none⟩ (.bool true))):=Lib.hid (fun w1 hx=>by
  have hT:=(HC.out.ext hx).lo5 HLO.out.1 HLO.out.2 (l':={ l with cache:=true }) 7 (by omega) (.bool true) rfl
  rw [← Nat.add_assoc,← HF.out] at hT
  exact DoQ.yes (c:=cfLo c fun l=>{ l with cache:=true }) rfl ((Stp.ext hx).tr hT.2) ⟨_,_,_,_,_,_,by rw [cfLo_eq HCS.out HLO.out.1]; exact hT.1⟩)
 go_enter Tryz.func55,Tryz.ntmps55
 go_wp2_with (first
  | (go_at_call 49; refine (HL.out _ (by (repeat first | exact Ex0 | assumption | refine Ex1 ?_ | refine Ex2 ?_ | refine Ex3 ?_ | refine Ex4 ?_ | refine Ex5 ?_))).mono ?_; rintro e w1 ⟨rfl,hx1⟩; have k1:=(FG.out w1 hx1 7 _ rfl).1; have k2:=(FG.out w1 hx1 7 _ rfl).2))
 go_end0
 exact HT.out w1 hx1
theorem index_c (w:World) (o:Ow) (p line:Nat) (c:Cf14) (h:CfAt w o p c line) (hL:LocOk c) (hM:CfB 1099511627776 c) (s:List UInt8) (A:Option Addr) (ac:Nat) (hr:Rd w A (strC [s])) :
  Calls Tryz.prog 50 #[.pointer (some ⟨p,0,none⟩),.slice A 1 ac] w (DoQ w o p line (doD .index [s] c)):=by
 obtain ⟨U,UA,uc,S,SA,sc,h⟩:=h
 obtain ⟨a,x,g,f,rfl,rfl,hl,hcs,hg,hce⟩:=h.srX hL.ne
 obtain ⟨lo,l,g2,f2,hlo,hA2,hg2,hce2⟩:=h.loX (hL.last hcs)
 have h5:=h.c5
 rw [hl] at h5
 have hm:a.length < 1099511627776:=by have:=hM.srvs; omega
 have hm2:lo.length < 1099511627776:=by
  have:=hM.locs x.1 (by rw [hcs]; simp)
  rw [hlo,List.length_append,List.length_singleton] at this; omega
 have h2:=(hce 2 _ rfl).1
 rw [hA2,hlo,show (lo ++ [l]).length=lo.length + 1 from by simp] at h2
 have HL:=Lib.hid (fun (w':World) (e:Ext w w')=>cloc_c p g f a.length sc g2 f2 lo.length x.2.2.2 w' hm hm2 ((e.cell (lt_of_cell h5)).trans h5) ((e.cell (lt_of_cell h2)).trans h2))
 have HC:=Lib.hid h
 obtain ⟨F,hF⟩:∃ F,F=f2 + lo.length * 12:=⟨_,rfl⟩
 rw [← hF] at HL hce2
 have FG:=Lib.hid (fun (w':World) (e:Ext w w') (j:Nat) (u:Value) (hu:(loV l)[j]?=some u)=>And.intro ((e.cell (p:=⟨g2,F + j,none⟩) hg2).trans (hce2 j u hu).1) ((World.frozen?_of_block (a:=⟨g2,F + j,none⟩) (e.block g2 hg2)).trans (hce2 j u hu).2))
 have HF:=Lib.hid hF
 have HLO:=Lib.hid (And.intro hlo hA2)
 have HCS:=Lib.hid hcs
 clear hF h2 h5 hl hce hce2 hlo hA2 hcs h
 obtain ⟨bA,gA,rfl,kA⟩:∃ b g,A=some ⟨b,g,none⟩∧w.cell? ⟨b,g,none⟩=some (.string (str s)):=by
  rcases hr with h | ⟨b,g,hA,hc⟩
  ·cases h
  ·exact ⟨b,g,hA,hc 0 _ rfl⟩
 have FA:=Lib.hid (fun (w':World) (e:Ext w w')=>(e.cell (p:=⟨bA,gA,none⟩) (lt_of_cell kA)).trans kA)
 clear hr kA
 have HT:Hid (∀ w1,Ext w w1 → DoQ w o p line (doD .index [s] c) (.returned (.tuple #[])) (w1.setCell ⟨g2,F + 3,none⟩ (.string (str s)))):=Lib.hid (fun w1 hx=>by
  have hT:=(HC.out.ext hx).lo5 HLO.out.1 HLO.out.2 (l':={ l with index:=s }) 3 (by omega) (.string (str s)) rfl
  rw [← Nat.add_assoc,← HF.out] at hT
  exact DoQ.yes (c:=cfLo c fun l=>{ l with index:=s }) rfl ((Stp.ext hx).tr hT.2) ⟨_,_,_,_,_,_,by rw [cfLo_eq HCS.out HLO.out.1]; exact hT.1⟩)
 obtain ⟨sv,hsv⟩:∃ v,v=str s:=⟨_,rfl⟩
 rw [← hsv] at FA HT
 clear hsv
 have k0:=FA.out w (Ext.rfl' w)
 go_enter Tryz.func50,Tryz.ntmps50
 go_region_with (first
  | (go_at_call 49; refine (HL.out _ (by (repeat first | exact Ex0 | assumption | refine Ex1 ?_ | refine Ex2 ?_ | refine Ex3 ?_ | refine Ex4 ?_ | refine Ex5 ?_))).mono ?_; rintro e w1 ⟨rfl,hx1⟩; have k1:=(FG.out w1 (by (repeat first | exact Ex0 | assumption | refine Ex1 ?_ | refine Ex2 ?_ | refine Ex3 ?_ | refine Ex4 ?_ | refine Ex5 ?_)) 3 _ rfl).1; have k2:=(FG.out w1 (by (repeat first | exact Ex0 | assumption | refine Ex1 ?_ | refine Ex2 ?_ | refine Ex3 ?_ | refine Ex4 ?_ | refine Ex5 ?_)) 3 _ rfl).2; have k3:=FA.out w1 (by (repeat first | exact Ex0 | assumption | refine Ex1 ?_ | refine Ex2 ?_ | refine Ex3 ?_ | refine Ex4 ?_ | refine Ex5 ?_))))
 all_goals go_end0
 all_goals exact HT.out w1 (by (repeat first | exact Ex0 | assumption | refine Ex1 ?_ | refine Ex2 ?_ | refine Ex3 ?_ | refine Ex4 ?_ | refine Ex5 ?_))
end Go.Proofs.YtmnohicojefhfaaGreatDoor
end
section
namespace Go.Proofs.YtmnohicojefhfaaGreatDoor
open Go.RowKit
theorem root_c (w:World) (o:Ow) (p line:Nat) (c:Cf14) (h:CfAt w o p c line) (hL:LocOk c) (hM:CfB 1099511627776 c) (s:List UInt8) (A:Option Addr) (ac:Nat) (hr:Rd w A (strC [s])) :
  Calls Tryz.prog 48 #[.pointer (some ⟨p,0,none⟩),.slice A 1 ac] w (DoQ w o p line (doD .root [s] c)):=by
 obtain ⟨U,UA,uc,S,SA,sc,h⟩:=h
 obtain ⟨a,x,g,f,rfl,rfl,hl,hcs,hg,hce⟩:=h.srX hL.ne
 obtain ⟨lo,l,g2,f2,hlo,hA2,hg2,hce2⟩:=h.loX (hL.last hcs)
 have h5:=h.c5
 rw [hl] at h5
 have hm:a.length < 1099511627776:=by have:=hM.srvs; omega
 have hm2:lo.length < 1099511627776:=by
  have:=hM.locs x.1 (by rw [hcs]; simp)
  rw [hlo,List.length_append,List.length_singleton] at this; omega
 have h2:=(hce 2 _ rfl).1
 rw [hA2,hlo,show (lo ++ [l]).length=lo.length + 1 from by simp] at h2
 have HL:=Lib.hid (fun (w':World) (e:Ext w w')=>cloc_c p g f a.length sc g2 f2 lo.length x.2.2.2 w' hm hm2 ((e.cell (lt_of_cell h5)).trans h5) ((e.cell (lt_of_cell h2)).trans h2))
 have HC:=Lib.hid h
 obtain ⟨F,hF⟩:∃ F,F=f2 + lo.length * 12:=⟨_,rfl⟩
 rw [← hF] at HL hce2
 have FG:=Lib.hid (fun (w':World) (e:Ext w w') (j:Nat) (u:Value) (hu:(loV l)[j]?=some u)=>And.intro ((e.cell (p:=⟨g2,F + j,none⟩) hg2).trans (hce2 j u hu).1) ((World.frozen?_of_block (a:=⟨g2,F + j,none⟩) (e.block g2 hg2)).trans (hce2 j u hu).2))
 have HF:=Lib.hid hF
 have HLO:=Lib.hid (And.intro hlo hA2)
 have HCS:=Lib.hid hcs
 clear hF h2 h5 hl hce hce2 hlo hA2 hcs h
 obtain ⟨bA,gA,rfl,kA⟩:∃ b g,A=some ⟨b,g,none⟩∧w.cell? ⟨b,g,none⟩=some (.string (str s)):=by
  rcases hr with h | ⟨b,g,hA,hc⟩
  ·cases h
  ·exact ⟨b,g,hA,hc 0 _ rfl⟩
 have FA:=Lib.hid (fun (w':World) (e:Ext w w')=>(e.cell (p:=⟨bA,gA,none⟩) (lt_of_cell kA)).trans kA)
 clear hr kA
 have HT:Hid (∀ w1,Ext w w1 → DoQ w o p line (doD .root [s] c) (.returned (.tuple #[])) ((w1.setCell ⟨g2,F + 1,none⟩ (.int .i64 1)).setCell ⟨g2,F + 2,none⟩ (.string (str s)))):=Lib.hid (fun w1 hx=>by
  have h1:=(HC.out.ext hx).lo5 HLO.out.1 HLO.out.2 (l':={ l with kind:=1 }) 1 (by omega) (.int .i64 1) rfl
  have hT:=h1.1.lo5 (lo:=lo) (l:={ l with kind:=1 }) rfl HLO.out.2 (l':={ l with kind:=1,root:=s }) 2 (by omega) (.string (str s)) rfl
  rw [← Nat.add_assoc,← HF.out] at h1 hT
  rw [← Nat.add_assoc,← HF.out] at hT
  exact DoQ.yes (c:=cfLo c fun l=>{ l with kind:=1,root:=s }) rfl ((Stp.ext hx).tr (h1.2.tr hT.2)) ⟨_,_,_,_,_,_,by rw [cfLo_eq HCS.out HLO.out.1]; exact hT.1⟩)
 obtain ⟨sv,hsv⟩:∃ v,v=str s:=⟨_,rfl⟩
 rw [← hsv] at FA HT
 clear hsv
 have k0:=FA.out w (Ext.rfl' w)
 go_enter Tryz.func48,Tryz.ntmps48
 go_region_with (first
  | (go_at_call 49; refine (HL.out _ (by (repeat first | exact Ex0 | assumption | refine Ex1 ?_ | refine Ex2 ?_ | refine Ex3 ?_ | refine Ex4 ?_ | refine Ex5 ?_))).mono ?_; rintro e w1 ⟨rfl,hx1⟩; have k1:=(FG.out w1 (by (repeat first | exact Ex0 | assumption | refine Ex1 ?_ | refine Ex2 ?_ | refine Ex3 ?_ | refine Ex4 ?_ | refine Ex5 ?_)) 1 _ rfl).1; have k2:=(FG.out w1 (by (repeat first | exact Ex0 | assumption | refine Ex1 ?_ | refine Ex2 ?_ | refine Ex3 ?_ | refine Ex4 ?_ | refine Ex5 ?_)) 1 _ rfl).2; have k3:=(FG.out w1 (by (repeat first | exact Ex0 | assumption | refine Ex1 ?_ | refine Ex2 ?_ | refine Ex3 ?_ | refine Ex4 ?_ | refine Ex5 ?_)) 2 _ rfl).1; have k4:=(FG.out w1 (by (repeat first | exact Ex0 | assumption | refine Ex1 ?_ | refine Ex2 ?_ | refine Ex3 ?_ | refine Ex4 ?_ | refine Ex5 ?_)) 2 _ rfl).2; have k5:=FA.out w1 (by (repeat first | exact Ex0 | assumption | refine Ex1 ?_ | refine Ex2 ?_ | refine Ex3 ?_ | refine Ex4 ?_ | refine Ex5 ?_))))
 all_goals go_end0
 all_goals exact HT.out _ (by (repeat first | exact Ex0 | assumption | refine Ex1 ?_ | refine Ex2 ?_ | refine Ex3 ?_ | refine Ex4 ?_ | refine Ex5 ?_))
theorem proxy_c (w:World) (o:Ow) (p line:Nat) (c:Cf14) (h:CfAt w o p c line) (hL:LocOk c) (hM:CfB 1099511627776 c) (s:List UInt8) (A:Option Addr) (ac:Nat) (hr:Rd w A (strC [s])) :
  Calls Tryz.prog 54 #[.pointer (some ⟨p,0,none⟩),.slice A 1 ac] w (DoQ w o p line (doD .proxy [s] c)):=by
 obtain ⟨U,UA,uc,S,SA,sc,h⟩:=h
 obtain ⟨a,x,g,f,rfl,rfl,hl,hcs,hg,hce⟩:=h.srX hL.ne
 obtain ⟨lo,l,g2,f2,hlo,hA2,hg2,hce2⟩:=h.loX (hL.last hcs)
 have h5:=h.c5
 rw [hl] at h5
 have hm:a.length < 1099511627776:=by have:=hM.srvs; omega
 have hm2:lo.length < 1099511627776:=by
  have:=hM.locs x.1 (by rw [hcs]; simp)
  rw [hlo,List.length_append,List.length_singleton] at this; omega
 have h2:=(hce 2 _ rfl).1
 rw [hA2,hlo,show (lo ++ [l]).length=lo.length + 1 from by simp] at h2
 have HL:=Lib.hid (fun (w':World) (e:Ext w w')=>cloc_c p g f a.length sc g2 f2 lo.length x.2.2.2 w' hm hm2 ((e.cell (lt_of_cell h5)).trans h5) ((e.cell (lt_of_cell h2)).trans h2))
 have HC:=Lib.hid h
 obtain ⟨F,hF⟩:∃ F,F=f2 + lo.length * 12:=⟨_,rfl⟩
 rw [← hF] at HL hce2
 have FG:=Lib.hid (fun (w':World) (e:Ext w w') (j:Nat) (u:Value) (hu:(loV l)[j]?=some u)=>And.intro ((e.cell (p:=⟨g2,F + j,none⟩) hg2).trans (hce2 j u hu).1) ((World.frozen?_of_block (a:=⟨g2,F + j,none⟩) (e.block g2 hg2)).trans (hce2 j u hu).2))
 have HF:=Lib.hid hF
 have HLO:=Lib.hid (And.intro hlo hA2)
 have HCS:=Lib.hid hcs
 clear hF h2 h5 hl hce hce2 hlo hA2 hcs h
 obtain ⟨bA,gA,rfl,kA⟩:∃ b g,A=some ⟨b,g,none⟩∧w.cell? ⟨b,g,none⟩=some (.string (str s)):=by
  rcases hr with h | ⟨b,g,hA,hc⟩
  ·cases h
  ·exact ⟨b,g,hA,hc 0 _ rfl⟩
 have FA:=Lib.hid (fun (w':World) (e:Ext w w')=>(e.cell (p:=⟨bA,gA,none⟩) (lt_of_cell kA)).trans kA)
 clear hr kA
 have HT:Hid (∀ w1,Ext w w1 → DoQ w o p line (doD .proxy [s] c) (.returned (.tuple #[])) ((w1.setCell ⟨g2,F + 1,none⟩ (.int .i64 2)).setCell ⟨g2,F + 6,none⟩ (.string (str s)))):=Lib.hid (fun w1 hx=>by
  have h1:=(HC.out.ext hx).lo5 HLO.out.1 HLO.out.2 (l':={ l with kind:=2 }) 1 (by omega) (.int .i64 2) rfl
  have hT:=h1.1.lo5 (lo:=lo) (l:={ l with kind:=2 }) rfl HLO.out.2 (l':={ l with kind:=2,up:=s }) 6 (by omega) (.string (str s)) rfl
  rw [← Nat.add_assoc,← HF.out] at h1 hT
  rw [← Nat.add_assoc,← HF.out] at hT
  exact DoQ.yes (c:=cfLo c fun l=>{ l with kind:=2,up:=s }) rfl ((Stp.ext hx).tr (h1.2.tr hT.2)) ⟨_,_,_,_,_,_,by rw [cfLo_eq HCS.out HLO.out.1]; exact hT.1⟩)
 obtain ⟨sv,hsv⟩:∃ v,v=str s:=⟨_,rfl⟩
 rw [← hsv] at FA HT
 clear hsv
 have k0:=FA.out w (Ext.rfl' w)
 go_enter Tryz.func54,Tryz.ntmps54
 go_region_with (first
  | (go_at_call 49; refine (HL.out _ (by (repeat first | exact Ex0 | assumption | refine Ex1 ?_ | refine Ex2 ?_ | refine Ex3 ?_ | refine Ex4 ?_ | refine Ex5 ?_))).mono ?_; rintro e w1 ⟨rfl,hx1⟩; have k1:=(FG.out w1 (by (repeat first | exact Ex0 | assumption | refine Ex1 ?_ | refine Ex2 ?_ | refine Ex3 ?_ | refine Ex4 ?_ | refine Ex5 ?_)) 1 _ rfl).1; have k2:=(FG.out w1 (by (repeat first | exact Ex0 | assumption | refine Ex1 ?_ | refine Ex2 ?_ | refine Ex3 ?_ | refine Ex4 ?_ | refine Ex5 ?_)) 1 _ rfl).2; have k3:=(FG.out w1 (by (repeat first | exact Ex0 | assumption | refine Ex1 ?_ | refine Ex2 ?_ | refine Ex3 ?_ | refine Ex4 ?_ | refine Ex5 ?_)) 6 _ rfl).1; have k4:=(FG.out w1 (by (repeat first | exact Ex0 | assumption | refine Ex1 ?_ | refine Ex2 ?_ | refine Ex3 ?_ | refine Ex4 ?_ | refine Ex5 ?_)) 6 _ rfl).2; have k5:=FA.out w1 (by (repeat first | exact Ex0 | assumption | refine Ex1 ?_ | refine Ex2 ?_ | refine Ex3 ?_ | refine Ex4 ?_ | refine Ex5 ?_))))
 all_goals go_end0
 all_goals exact HT.out _ (by (repeat first | exact Ex0 | assumption | refine Ex1 ?_ | refine Ex2 ?_ | refine Ex3 ?_ | refine Ex4 ?_ | refine Ex5 ?_))
end Go.Proofs.YtmnohicojefhfaaGreatDoor
end
