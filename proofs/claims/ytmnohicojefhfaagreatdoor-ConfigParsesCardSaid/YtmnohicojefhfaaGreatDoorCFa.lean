/-
Configurations: plain words. No program in sight.
-/
import Derived.Test.YtmnohicojefhfaaGreatDoorNUa
import Derived.Test.YtmnohicojefhfaaGreatDoorAsc1
import Derived.Test.YtmnohicojefhfaaGreatDoorAsc3
set_option maxRecDepth 100000
set_option maxHeartbeats 8000000
set_option linter.unusedVariables false
set_option linter.unusedSimpArgs false
section
namespace Go.Proofs.YtmnohicojefhfaaGreatDoor
open Go.RowKit
structure Pe14 where
 id:Int
 most:Int
 deriving DecidableEq
structure Up14 where
 name:List UInt8
 peers:List Pe14
 timeout:Int
 retries:Int
 deriving DecidableEq
structure Lo14 where
 pre:List UInt8
 kind:Int
 root:List UInt8
 index:List UInt8
 gzip:Int
 expires:Int
 up:List UInt8
 cache:Bool
 rate:Int
 burst:Int
 status:Int
 goal:List UInt8
 deriving DecidableEq
structure Sr14 where
 names:List (List UInt8)
 dflt:Bool
 locs:List Lo14
 deriving DecidableEq
structure Cf14 where
 keep:Int
 body:Int
 store:Int
 conns:Int
 ups:List Up14
 srvs:List Sr14
 deriving DecidableEq
def inB (n a b:Int):Bool:=decide (a ≤ n) && decide (n ≤ b)
def bytesC (a:Nat) (l:List UInt8):Bool:=l.all fun x=>decide (a ≤ x.toNat) && decide (x.toNat ≤ 126) && !(x == 34)
def pathC (l:List UInt8):Bool:=decide (cleanL l=(l,0)) && bytesC 33 l
def bareL (l:List UInt8):List UInt8:=if 2 < l.length∧l.take 2=[42,46] then l.drop 2 else l
def hostC (l:List UInt8):Bool:=decide ((hostL (bareL l)).2.2=0) && decide ((hostL (bareL l)).2.1 < 0) && decide ((hostL (bareL l)).1=bareL l)
def tokC (l:List UInt8):Bool:=!l.isEmpty && l.all fun b=>tokB b.toNat
def peC (p:Pe14):Bool:=inB p.id 0 999 && inB p.most 1 64
def upC (u:Up14):Bool:=tokC u.name && inB u.peers.length 1 16 && inB u.timeout 1 3600 && inB u.retries 0 8 && u.peers.all peC && decide ((u.peers.map (·.id)).Nodup)
def loc0 (l:Lo14):Bool:=pathC l.pre && inB l.rate 0 1000000 && inB l.burst 0 1000000 && (decide (0 < l.rate) || decide (l.burst=0))
def loc1 (l:Lo14):Bool:=pathC l.root && (decide (l.root=[47]) || !(l.root.getLast? == some 47)) && bytesC 33 l.index && !(l.index.contains 47) && !(decide (l.index=[46])) && !(decide (l.index=[46,46])) && inB l.gzip 0 9 && inB l.expires 0 31536000
def loc2 (ups:List Up14) (l:Lo14):Bool:=(ups.any fun u=>decide (u.name=l.up)) && inB l.gzip 0 9
def loc3 (l:Lo14):Bool:=inB l.status 200 599 && decide (l.goal.length ≤ 1024) && bytesC 32 l.goal && decide (trimL l.goal=l.goal)
def restC (l:Lo14):Lo14 :=
 let r:={ l with pre:=[],kind:=0,rate:=0,burst:=0 }
 if l.kind=1 then { r with root:=[],index:=[],gzip:=0,expires:=0 } else if l.kind=2 then { r with up:=[],cache:=false,gzip:=0 } else { r with status:=0,goal:=[] }
def lo0:Lo14:=⟨[],0,[],[],0,0,[],false,0,0,0,[]⟩
def locC (ups:List Up14) (l:Lo14):Bool :=
 if l.kind=1 then loc0 l && loc1 l && decide (restC l=lo0) else if l.kind=2 then loc0 l && loc2 ups l && decide (restC l=lo0) else if l.kind=3 then loc0 l && loc3 l && decide (restC l=lo0) else false
def srC (ups:List Up14) (s:Sr14):Bool:=decide (s.names.length ≤ 32) && s.names.all hostC && inB s.locs.length 1 32 && s.locs.all (locC ups) && decide ((s.locs.map (·.pre)).Nodup)
def goodC (c:Cf14):Bool :=
 inB c.keep 0 3600 && inB c.body 0 1048576 && inB c.store 0 1048576 && inB c.conns 1 1000 && decide (c.ups.length ≤ 16) && c.ups.all upC && decide ((c.ups.map (·.name)).Nodup) && inB c.srvs.length 1 32 && c.srvs.all (srC c.ups) &&
  decide ((c.srvs.flatMap (·.names)).Nodup) && decide ((c.srvs.filter (·.dflt)).length ≤ 1)
structure Tk14 where
 mark:UInt8
 s:List UInt8
 line:Nat
 deriving DecidableEq
def wordB (x:UInt8):Bool:=decide (33 ≤ x.toNat) && decide (x.toNat ≤ 126) && !(x == 59) && !(x == 123) && !(x == 125) && !(x == 35) && !(x == 34)
def lexF:Nat → List UInt8 → Nat → List Tk14 × Nat
 | 0,_,_=>([],0)
 | _ + 1,[],_=>([],0)
 | f + 1,c :: r,n =>
  if c=10 then lexF f r (n + 1) else if c=9 ∨ c=13 ∨ c=32 then lexF f r n else if c=35 then lexF f (r.dropWhile (· != 10)) n
  else if c=59 ∨ c=123 ∨ c=125 then (⟨c,[],n⟩ :: (lexF f r n).1,(lexF f r n).2)
  else if c=34 then
   let w:=r.takeWhile (· != 34)
   if r.length ≤ w.length ∨ bytesC 32 w=false then ([],n) else (⟨0,w,n⟩ :: (lexF f (r.drop (w.length + 1)) n).1,(lexF f (r.drop (w.length + 1)) n).2)
  else if c.toNat < 33 ∨ 126 < c.toNat then ([],n)
  else let w:=(c :: r).takeWhile wordB; (⟨0,w,n⟩ :: (lexF f ((c :: r).drop w.length) n).1,(lexF f ((c :: r).drop w.length) n).2)
def lexL (l:List UInt8):List Tk14 × Nat:=lexF (l.length + 1) l 1
structure Nd14 where
 words:List (List UInt8)
 deep:Nat
 block:Bool
 line:Nat
 deriving DecidableEq
def nodesF:List Tk14 → Option Nd14 → Nat → Except Nat (List Nd14 × Option Nd14 × Nat)
 | [],now,d=>.ok ([],now,d)
 | t :: ts,now,d =>
  if t.mark=0 then nodesF ts (some (match now with | none=>⟨[t.s],d,false,t.line⟩ | some n=>{ n with words:=n.words ++ [t.s] })) d
  else if t.mark=125 then (if now.isSome ∨ d=0 then .error t.line else nodesF ts none (d - 1))
  else match now with
   | none=>.error t.line
   | some n =>
    if t.mark=123 then (if d=3 then .error t.line else (nodesF ts none (d + 1)).map fun r=>({ n with block:=true } :: r.1,r.2))
    else (nodesF ts none d).map fun r=>(n :: r.1,r.2)
def treeL (l:List UInt8):Except Nat (List Nd14) :=
 match nodesF (lexL l).1 none 0 with
 | .error e=>.error e
 | .ok (ns,now,d)=>if 0 < (lexL l).2 then .error (lexL l).2 else if now.isSome ∨ 0 < d then .error 0 else .ok ns
end Go.Proofs.YtmnohicojefhfaaGreatDoor
end
section
namespace Go.Proofs.YtmnohicojefhfaaGreatDoor
open Go.RowKit
inductive Dk where
 | keep | body | store | conns | upstream | peer | timeout | retries | server | name | dflt | location | root | index | gzip | expires | proxy | cache | limit | ret
 deriving DecidableEq
def nameD:Dk → List UInt8
 | .keep=>[107,101,101,112]
 | .body=>[98,111,100,121]
 | .store=>[115,116,111,114,101]
 | .conns=>[99,111,110,110,115]
 | .upstream=>[117,112,115,116,114,101,97,109]
 | .peer=>[112,101,101,114]
 | .timeout=>[116,105,109,101,111,117,116]
 | .retries=>[114,101,116,114,105,101,115]
 | .server=>[115,101,114,118,101,114]
 | .name=>[110,97,109,101]
 | .dflt=>[100,101,102,97,117,108,116]
 | .location=>[108,111,99,97,116,105,111,110]
 | .root=>[114,111,111,116]
 | .index=>[105,110,100,101,120]
 | .gzip=>[103,122,105,112]
 | .expires=>[101,120,112,105,114,101,115]
 | .proxy=>[112,114,111,120,121]
 | .cache=>[99,97,99,104,101]
 | .limit=>[108,105,109,105,116]
 | .ret=>[114,101,116,117,114,110]
def allD:List Dk:=[.keep,.body,.store,.conns,.upstream,.peer,.timeout,.retries,.server,.name,.dflt,.location,.root,.index,.gzip,.expires,.proxy,.cache,.limit,.ret]
def dkOf (w:List UInt8):Option Dk:=allD.find? fun k=>decide (nameD k=w)
def inD:Dk → Option Dk
 | .keep | .body | .store | .conns | .upstream | .server=>none
 | .peer | .timeout | .retries=>some .upstream
 | .name | .dflt | .location=>some .server
 | _=>some .location
def leastD:Dk → Nat
 | .server | .dflt | .cache=>0
 | .limit=>2
 | _=>1
def mostD:Dk → Nat
 | .server | .dflt | .cache=>0
 | .peer | .limit | .ret=>2
 | .name=>65536
 | _=>1
def blockD:Dk → Bool
 | .upstream | .server | .location=>true
 | _=>false
def manyD:Dk → Bool
 | .upstream | .server | .location | .peer | .name=>true
 | _=>false
def kindD:Dk → Dk
 | .proxy | .ret=>.root
 | k=>k
def modLast {α:Type} (f:α → α):List α → List α
 | []=>[]
 | [x]=>[f x]
 | x :: y :: l=>x :: modLast f (y :: l)
def numC (w:List UInt8):Option Int:=if (numL 10 1000000000000000000 w).2=0 then some (numL 10 1000000000000000000 w).1 else none
def cfUp (c:Cf14) (f:Up14 → Up14):Cf14:={ c with ups:=modLast f c.ups }
def cfSr (c:Cf14) (f:Sr14 → Sr14):Cf14:={ c with srvs:=modLast f c.srvs }
def cfLo (c:Cf14) (f:Lo14 → Lo14):Cf14:=cfSr c fun s=>{ s with locs:=modLast f s.locs }
def doD (k:Dk) (a:List (List UInt8)) (c:Cf14):Option Cf14 :=
 let w0:=a.headD []
 let w1:=(a.drop 1).headD []
 match k with
 | .keep=>(numC w0).map fun n=>{ c with keep:=n }
 | .body=>(numC w0).map fun n=>{ c with body:=n }
 | .store=>(numC w0).map fun n=>{ c with store:=n }
 | .conns=>(numC w0).map fun n=>{ c with conns:=n }
 | .upstream=>some { c with ups:=c.ups ++ [⟨w0,[],10,1⟩] }
 | .peer=>(numC w0).bind fun n=>if a.length=2 then (numC w1).map fun m=>cfUp c fun u=>{ u with peers:=u.peers ++ [⟨n,m⟩] } else some (cfUp c fun u=>{ u with peers:=u.peers ++ [⟨n,8⟩] })
 | .timeout=>(numC w0).map fun n=>cfUp c fun u=>{ u with timeout:=n }
 | .retries=>(numC w0).map fun n=>cfUp c fun u=>{ u with retries:=n }
 | .server=>some { c with srvs:=c.srvs ++ [⟨[],false,[]⟩] }
 | .name=>some (cfSr c fun s=>{ s with names:=s.names ++ a })
 | .dflt=>some (cfSr c fun s=>{ s with dflt:=true })
 | .location=>some (cfSr c fun s=>{ s with locs:=s.locs ++ [{ lo0 with pre:=w0 }] })
 | .root=>some (cfLo c fun l=>{ l with kind:=1,root:=w0 })
 | .index=>some (cfLo c fun l=>{ l with index:=w0 })
 | .gzip=>(numC w0).map fun n=>cfLo c fun l=>{ l with gzip:=n }
 | .expires=>(numC w0).map fun n=>cfLo c fun l=>{ l with expires:=n }
 | .proxy=>some (cfLo c fun l=>{ l with kind:=2,up:=w0 })
 | .cache=>some (cfLo c fun l=>{ l with cache:=true })
 | .limit=>(numC w0).bind fun n=>(numC w1).map fun m=>cfLo c fun l=>{ l with rate:=n,burst:=m }
 | .ret=>(numC w0).map fun n=>cfLo c fun l=>if a.length=2 then { l with kind:=3,status:=n,goal:=w1 } else { l with kind:=3,status:=n }
abbrev Fr14:=Option Dk × List Dk
def fitD (k:Dk) (n:Nd14) (fr:Fr14):Bool:=decide (inD k=fr.1) && decide (leastD k ≤ n.words.length - 1) && decide (n.words.length - 1 ≤ mostD k) && (blockD k == n.block) && (!(fr.2.contains (kindD k)) || manyD k)
def stepD (st:List Fr14 × Cf14) (n:Nd14):Except Nat (List Fr14 × Cf14) :=
 match st.1.drop (st.1.length - (n.deep + 1)) with
 | []=>.error n.line
 | fr :: rest=>match dkOf (n.words.headD []) with
  | none=>.error n.line
  | some k=>if fitD k n fr then (match doD k (n.words.drop 1) st.2 with
    | none=>.error n.line
    | some c=>.ok ((if n.block then [(some k,[])] else []) ++ (fr.1,kindD k :: fr.2) :: rest,c))
   else .error n.line
def runD:List Fr14 × Cf14 → List Nd14 → Except Nat (List Fr14 × Cf14)
 | st,[]=>.ok st
 | st,n :: ns=>match stepD st n with
  | .error e=>.error e
  | .ok st=>runD st ns
def cf0:Cf14:=⟨75,65536,0,1000,[],[]⟩
def cfZ:Cf14:=⟨0,0,0,0,[],[]⟩
def parseC (l:List UInt8):Cf14 × Nat × Int :=
 if 65536 < l.length then (cfZ,0,6) else
 match treeL l with
 | .error e=>(cfZ,e,60)
 | .ok ns=>match runD ([(none,[])],cf0) ns with
  | .error e=>(cfZ,e,60)
  | .ok st=>if goodC st.2 then (st.2,0,0) else (cfZ,0,60)
def knA14:List UInt8:=[115,101,114,118,101,114,32,123,32,100,101,102,97,117,108,116,59,32,108,111,99,97,116,105,111,110,32,47,32,123,32,114,111,111,116,32,47,102,105,108,101,115,59,32,125,32,125]
def knB14:List UInt8:=[10,102,111,111,59]
theorem kn_A14:(parseC knA14).1={ cf0 with srvs:=[⟨[],true,[{ lo0 with pre:=[47],kind:=1,root:=[47,102,105,108,101,115] }]⟩] }∧(parseC knA14).2=(0,0):=by decide +kernel
theorem kn_B14:(parseC knB14).2=(2,60):=by decide +kernel
end Go.Proofs.YtmnohicojefhfaaGreatDoor
end
section
namespace Go.Proofs.YtmnohicojefhfaaGreatDoor
open Go.RowKit
inductive Fo where
 | nil
 | node (ws:List (List UInt8)) (line:Nat) (block:Bool) (kids next:Fo)
structure N1 where
 ws:List (List UInt8)
 line:Nat
 block:Bool
structure Nr where
 ws:List (List UInt8)
 line:Nat
 block:Bool
 kids:List Nat
namespace Fo
def size:Fo → Nat
 | nil=>0
 | node _ _ _ k n=>1 + k.size + n.size
def flat:Nat → Fo → List Nd14
 | _,nil=>[]
 | d,node ws l b k n=>⟨ws,d,b,l⟩ :: (flat (d + 1) k ++ flat d n)
def roots:Nat → Fo → List Nat
 | _,nil=>[]
 | s,node _ _ _ k n=>s :: roots (s + 1 + k.size) n
def recs:Nat → Fo → List Nr
 | _,nil=>[]
 | s,node ws l b k n=>⟨ws,l,b,roots (s + 1) k⟩ :: (recs (s + 1) k ++ recs (s + 1 + k.size) n)
def has:Nat → Fo → Prop
 | 0,_=>True
 | _ + 1,nil=>False
 | d + 1,node _ _ bl k nil=>bl=true∧has d k
 | d + 1,node _ _ _ _ (node a b c k n)=>has (d + 1) (node a b c k n)
def snoc:Nat → N1 → Fo → Fo
 | _,x,nil=>node x.ws x.line x.block nil nil
 | 0,x,node a b c k n=>node a b c k (snoc 0 x n)
 | d + 1,x,node a b c k nil=>node a b c (snoc d x k) nil
 | d + 1,x,node a b c k (node a' b' c' k' n')=>node a b c k (snoc (d + 1) x (node a' b' c' k' n'))
def path:Nat → Nat → Fo → List Nat
 | 0,_,_=>[]
 | _ + 1,_,nil=>[]
 | d + 1,s,node _ _ _ k nil=>s :: path d (s + 1) k
 | d + 1,s,node _ _ _ k (node a b c k' n)=>path (d + 1) (s + 1 + k.size) (node a b c k' n)
theorem has_zero (f:Fo):has 0 f:=by cases f <;> trivial
theorem path_zero (s:Nat) (f:Fo):path 0 s f=[]:=by cases f <;> rfl
theorem has_le:∀ (f:Fo) (d:Nat),has (d + 1) f → has d f:=by
 intro f
 induction f with
 | nil=>intro d h; cases h
 | node a b c k n ihk ihn =>
  intro d h
  cases d with
  | zero=>exact has_zero _
  | succ d =>
   cases n with
   | nil=>exact ⟨h.1,ihk _ h.2⟩
   | node=>exact ihn _ h
theorem size_snoc:∀ (f:Fo) (d:Nat) (x:N1),has d f → (snoc d x f).size=f.size + 1:=by
 intro f
 induction f with
 | nil=>intro d x h; cases d with
  | zero=>rfl
  | succ d=>cases h
 | node a b c k n ihk ihn =>
  intro d x h
  cases d with
  | zero =>
   have:=ihn 0 x (has_zero _)
   simp only [snoc,size]; omega
  | succ d=>cases n with
   | nil =>
    have:=ihk d x h.2
    simp only [snoc,size]; omega
   | node=>have:=ihn (d + 1) x h; simp only [snoc,size] at *; omega
theorem flat_snoc:∀ (f:Fo) (d e:Nat) (x:N1),has d f → flat e (snoc d x f)=flat e f ++ [⟨x.ws,e + d,x.block,x.line⟩]:=by
 intro f
 induction f with
 | nil=>intro d e x h; cases d with
  | zero=>rfl
  | succ d=>cases h
 | node a b c k n ihk ihn =>
  intro d e x h
  cases d with
  | zero =>
   have:=ihn 0 e x (has_zero _)
   simp only [snoc,flat,this,List.cons_append,List.append_assoc]
  | succ d=>cases n with
   | nil =>
    have:=ihk d (e + 1) x h.2
    simp only [snoc,flat,this,List.cons_append,List.append_assoc,List.append_nil]
    rw [show e + 1 + d=e + (d + 1) from by omega]
   | node a' b' c' k' n' =>
    have:=ihn (d + 1) e x h
    unfold snoc
    rw [flat,this]
    conv=>rhs; rw [flat]
    simp only [List.cons_append,List.append_assoc]
theorem roots_snoc0:∀ (f:Fo) (s:Nat) (x:N1),roots s (snoc 0 x f)=roots s f ++ [s + f.size]:=by
 intro f
 induction f with
 | nil=>intro s x; rfl
 | node a b c k n ihk ihn =>
  intro s x
  simp only [snoc,roots,ihn,size,List.cons_append]
  rw [show s + 1 + k.size + n.size=s + (1 + k.size + n.size) from by omega]
theorem recs_snoc0:∀ (f:Fo) (s:Nat) (x:N1),recs s (snoc 0 x f)=recs s f ++ [⟨x.ws,x.line,x.block,[]⟩]:=by
 intro f
 induction f with
 | nil=>intro s x; rfl
 | node a b c k n ihk ihn =>
  intro s x
  simp only [snoc,recs,ihn,List.cons_append,List.append_assoc]
theorem roots_snoc1:∀ (f:Fo) (d s:Nat) (x:N1),has (d + 1) f → roots s (snoc (d + 1) x f)=roots s f:=by
 intro f
 induction f with
 | nil=>intro d s x h; cases h
 | node a b c k n ihk ihn =>
  intro d s x h
  cases n with
  | nil=>rfl
  | node a' b' c' k' n' =>
   have:=ihn d (s + 1 + k.size) x h
   unfold snoc
   rw [roots,this]; rfl
theorem recs_len:∀ (f:Fo) (s:Nat),(recs s f).length=f.size:=by
 intro f
 induction f with
 | nil=>intro s; rfl
 | node a b c k n ihk ihn=>intro s; simp only [recs,size,List.length_cons,List.length_append,ihk,ihn]; omega
def kid (i:Nat) (r:Nr):Nr:={ r with kids:=r.kids ++ [i] }
theorem modify_right {α:Type} (g:α → α):∀ (a b:List α) (i:Nat),(a ++ b).modify (a.length + i) g=a ++ b.modify i g:=by
 intro a
 induction a with
 | nil=>intro b i; simp
 | cons x a ih=>intro b i; rw [List.cons_append,List.length_cons,show a.length + 1 + i=(a.length + i) + 1 from by omega,List.modify_succ_cons,ih,List.cons_append]
theorem recs_snoc1:∀ (f:Fo) (d s:Nat) (x:N1),has (d + 1) f →
  ∃ i,i < f.size∧path (d + 1) s f=path d s f ++ [s + i]∧recs s (snoc (d + 1) x f)=(recs s f).modify i (kid (s + f.size)) ++ [⟨x.ws,x.line,x.block,[]⟩]:=by
 intro f
 induction f with
 | nil=>intro d s x h; cases h
 | node a b c k n ihk ihn =>
  intro d s x h
  cases n with
  | nil =>
   cases d with
   | zero =>
    refine ⟨0,by simp only [size]; omega,by simp only [path,path_zero]; rfl,?_⟩
    simp only [snoc,recs,roots_snoc0,recs_snoc0,List.append_nil,size,List.modify_zero_cons,kid,List.cons_append]
    rw [show s + 1 + k.size=s + (1 + k.size + 0) from by omega]
   | succ d =>
    obtain ⟨i,h1,h2,h3⟩:=ihk d (s + 1) x h.2
    refine ⟨i + 1,by simp only [size]; omega,?_,?_⟩
    ·rw [path,path,h2,List.cons_append,show s + 1 + i=s + (i + 1) from by omega]
    ·simp only [snoc,recs,h3,roots_snoc1 k d (s + 1) x h.2,List.append_nil,size,List.modify_succ_cons,List.cons_append]
     rw [show s + 1 + k.size=s + (1 + k.size + 0) from by omega]
  | node a' b' c' k' n' =>
   obtain ⟨i,h1,h2,h3⟩:=ihn d (s + 1 + k.size) x h
   refine ⟨1 + k.size + i,by simp only [size] at *; omega,?_,?_⟩
   ·cases d with
    | zero=>rw [path_zero] at h2 ⊢; rw [show s + (1 + k.size + i)=s + 1 + k.size + i from by omega]; exact h2
    | succ d=>rw [path,h2,path,show s + 1 + k.size + i=s + (1 + k.size + i) from by omega]
   ·have hr:recs s (node a b c k (node a' b' c' k' n'))=⟨a,b,c,roots (s + 1) k⟩ :: (recs (s + 1) k ++ recs (s + 1 + k.size) (node a' b' c' k' n')):=rfl
    have hl:recs s (snoc (d + 1) x (node a b c k (node a' b' c' k' n')))=⟨a,b,c,roots (s + 1) k⟩ :: (recs (s + 1) k ++ recs (s + 1 + k.size) (snoc (d + 1) x (node a' b' c' k' n'))):=rfl
    rw [hl,h3,hr]
    rw [show 1 + k.size + i=(k.size + i) + 1 from by omega,List.modify_succ_cons,← recs_len k (s + 1),modify_right]
    simp only [List.cons_append,List.append_assoc,recs_len]
    rw [show s + 1 + k.size + (node a' b' c' k' n').size=s + (node a b c k (node a' b' c' k' n')).size from by simp only [size]; omega]
theorem has_snoc:∀ (f:Fo) (d:Nat) (x:N1),x.block=true → has d f → has (d + 1) (snoc d x f):=by
 intro f
 induction f with
 | nil=>intro d x hb h; cases d with
  | zero=>exact ⟨hb,has_zero _⟩
  | succ d=>cases h
 | node a b c k n ihk ihn =>
  intro d x hb h
  cases d with
  | zero =>
   have:=ihn 0 x hb (has_zero _)
   rw [snoc]
   cases hn:snoc 0 x n with
   | nil=>rw [hn] at this; cases this
   | node=>rw [hn] at this; exact this
  | succ d=>cases n with
   | nil=>exact ⟨h.1,ihk d x hb h.2⟩
   | node a' b' c' k' n' =>
    have:=ihn (d + 1) x hb h
    unfold snoc
    cases hn:snoc (d + 1) x (node a' b' c' k' n') with
    | nil=>rw [hn] at this; cases this
    | node=>rw [hn] at this; exact this
theorem path_snoc:∀ (f:Fo) (d s:Nat) (x:N1),has d f → path (d + 1) s (snoc d x f)=path d s f ++ [s + f.size]:=by
 intro f
 induction f with
 | nil=>intro d s x h; cases d with
  | zero=>rfl
  | succ d=>cases h
 | node a b c k n ihk ihn =>
  intro d s x h
  cases d with
  | zero =>
   have:=ihn 0 (s + 1 + k.size) x (has_zero _)
   rw [snoc]
   have e:∀ g,g.size=n.size + 1 → path 1 s (node a b c k g)=path 1 (s + 1 + k.size) g:=by
    intro g hg
    cases g with
    | nil=>simp [size] at hg
    | node=>rfl
   rw [e _ (size_snoc n 0 x (has_zero _)),this]
   simp only [path,List.nil_append,size]
   rw [show s + 1 + k.size + n.size=s + (1 + k.size + n.size) from by omega]
  | succ d=>cases n with
   | nil =>
    have:=ihk d (s + 1) x h.2
    rw [snoc,path,this,path]
    simp only [size,List.cons_append]
    rw [show s + 1 + k.size=s + (1 + k.size + 0) from by omega]
   | node a' b' c' k' n' =>
    have:=ihn (d + 1) (s + 1 + k.size) x h
    have e:∀ g,g.size=(node a' b' c' k' n').size + 1 → path (d + 1 + 1) s (node a b c k g)=path (d + 1 + 1) (s + 1 + k.size) g:=by
     intro g hg
     cases g with
     | nil=>simp [size] at hg
     | node=>rfl
    unfold snoc
    rw [e _ (size_snoc _ (d + 1) x h),this,path]
    rw [show s + 1 + k.size + (node a' b' c' k' n').size=s + (node a b c k (node a' b' c' k' n')).size from by simp only [size]; omega]
theorem path_len:∀ (f:Fo) (d s:Nat),has d f → (path d s f).length=d:=by
 intro f
 induction f with
 | nil=>intro d s h; cases d with
  | zero=>rfl
  | succ d=>cases h
 | node a b c k n ihk ihn =>
  intro d s h
  cases d with
  | zero=>rfl
  | succ d=>cases n with
   | nil=>rw [path,List.length_cons,ihk d _ h.2]
   | node=>rw [path]; exact ihn _ _ h
end Fo
def nsOf (f:Fo):List Nr:=⟨[],0,false,f.roots 1⟩ :: f.recs 1
def opOf (d:Nat) (f:Fo):List Nat:=0 :: f.path d 1
theorem nsOf_len (f:Fo):(nsOf f).length=f.size + 1:=by unfold nsOf; rw [List.length_cons,Fo.recs_len]
theorem opOf_len {d:Nat} {f:Fo} (h:f.has d):(opOf d f).length=d + 1:=by unfold opOf; rw [List.length_cons,Fo.path_len f d 1 h]
theorem opOf_snoc {d:Nat} {f:Fo} (x:N1) (h:f.has d):opOf (d + 1) (f.snoc d x)=opOf d f ++ [f.size + 1]:=by
 unfold opOf
 rw [Fo.path_snoc f d 1 x h,List.cons_append,Nat.add_comm]
theorem nsOf_snoc {d:Nat} {f:Fo} (x:N1) (h:f.has d):∃ q,(opOf d f)[d]?=some q∧q < f.size + 1∧nsOf (f.snoc d x)=(nsOf f).modify q (Fo.kid (f.size + 1)) ++ [⟨x.ws,x.line,x.block,[]⟩]:=by
 cases d with
 | zero =>
  refine ⟨0,rfl,by omega,?_⟩
  unfold nsOf
  rw [Fo.roots_snoc0,Fo.recs_snoc0,List.modify_zero_cons,Nat.add_comm 1]
  rfl
 | succ d =>
  obtain ⟨i,h1,h2,h3⟩:=Fo.recs_snoc1 f d 1 x h
  have hl:=Fo.path_len f d 1 (Fo.has_le f d h)
  refine ⟨1 + i,?_,by omega,?_⟩
  ·unfold opOf
   rw [h2,List.getElem?_cons_succ,List.getElem?_append_right (by omega),hl]; simp
  ·unfold nsOf
   rw [h3,Fo.roots_snoc1 f d 1 x h,Nat.add_comm 1 i,List.modify_succ_cons,Nat.add_comm 1]
   rfl
theorem opOf_pop {d:Nat} {f:Fo} (h:f.has (d + 1)):opOf d f=(opOf (d + 1) f).take (d + 1):=by
 obtain ⟨i,_,h2,_⟩:=Fo.recs_snoc1 f d 1 ⟨[],0,false⟩ h
 have hl:=Fo.path_len f d 1 (Fo.has_le f d h)
 unfold opOf
 rw [h2,List.take_succ_cons,List.take_append_of_le_length (by omega),List.take_of_length_le (by omega)]
def buildF:Option Dk → List Dk → Cf14 → Fo → Except Nat (List Dk × Cf14)
 | _,came,c,.nil=>.ok (came,c)
 | b,came,c,.node ws l bl k n=>match dkOf (ws.headD []) with
  | none=>.error l
  | some x=>if fitD x ⟨ws,0,bl,l⟩ (b,came) then (match doD x (ws.drop 1) c with
    | none=>.error l
    | some c1=>match buildF (some x) [] c1 k with
     | .error e=>.error e
     | .ok r=>buildF b (kindD x :: came) r.2 n) else .error l
theorem fit_block {x:Dk} {n:Nd14} {fr:Fr14} (h:fitD x n fr=true):n.block=blockD x:=by
 unfold fitD at h
 simp only [Bool.and_eq_true] at h
 exact (beq_iff_eq.1 h.1.2).symm
def Fo.wf:Fo → Prop
 | .nil=>True
 | .node ws _ b k n=>ws ≠ []∧(b=false → k=.nil)∧k.wf∧n.wf
theorem Fo.wf_snoc:∀ (f:Fo) (d:Nat) (x:N1),x.ws ≠ [] → f.has d → f.wf → (f.snoc d x).wf:=by
 intro f
 induction f with
 | nil=>intro d x hx _ _; cases d <;> exact ⟨hx,fun _=>rfl,trivial,trivial⟩
 | node a b c k n ihk ihn =>
  intro d x hx h w
  cases d with
  | zero=>exact ⟨w.1,w.2.1,w.2.2.1,ihn 0 x hx (Fo.has_zero _) w.2.2.2⟩
  | succ d=>cases n with
   | nil=>exact ⟨w.1,(fun e=>by rw [h.1] at e; cases e),ihk d x hx h.2 w.2.2.1,trivial⟩
   | node a' b' c' k' n'=>exact ⟨w.1,w.2.1,w.2.2.1,ihn (d + 1) x hx h w.2.2.2⟩
theorem drop_top {α:Type} (top:List α) (x:α) (rest:List α):(top ++ x :: rest).drop ((top ++ x :: rest).length - (rest.length + 1))=x :: rest:=by
 rw [List.length_append,List.length_cons,show top.length + (rest.length + 1) - (rest.length + 1)=top.length from by omega,List.drop_left]
theorem run_flat:∀ (f:Fo) (d:Nat) (b:Option Dk) (came:List Dk) (rest:List Fr14) (c:Cf14) (top:List Fr14) (more:List Nd14),f.wf → rest.length=d →
  (∃ e,buildF b came c f=.error e∧runD (top ++ (b,came) :: rest,c) (f.flat d ++ more)=.error e) ∨
  (∃ r T,buildF b came c f=.ok r∧runD (top ++ (b,came) :: rest,c) (f.flat d ++ more)=runD (T ++ (b,r.1) :: rest,r.2) more):=by
 intro f
 induction f with
 | nil=>intro d b came rest c top more _ _; exact .inr ⟨(came,c),top,rfl,rfl⟩
 | node ws l bl k n ihk ihn =>
  intro d b came rest c top more hw hd
  subst hd
  have e1:runD (top ++ (b,came) :: rest,c) ((Fo.node ws l bl k n).flat rest.length ++ more)=match stepD (top ++ (b,came) :: rest,c) ⟨ws,rest.length,bl,l⟩ with
    | .error e=>.error e
    | .ok st=>runD st (k.flat (rest.length + 1) ++ (n.flat rest.length ++ more)):=by
   simp only [Fo.flat,List.cons_append,List.append_assoc,runD]
   try (cases stepD (top ++ (b,came) :: rest,c) ⟨ws,rest.length,bl,l⟩ <;> rfl)
  rw [e1]
  unfold stepD buildF
  simp only [drop_top]
  cases hx:dkOf (ws.headD []) with
  | none=>exact .inl ⟨l,rfl,rfl⟩
  | some x =>
   have ef:fitD x ⟨ws,rest.length,bl,l⟩ (b,came)=fitD x ⟨ws,0,bl,l⟩ (b,came):=rfl
   simp only [ef]
   by_cases hf:fitD x ⟨ws,0,bl,l⟩ (b,came)=true
   ·rw [if_pos hf]
    cases hc:doD x (ws.drop 1) c with
    | none=>exact .inl ⟨l,by simp,by simp [hf]⟩
    | some c1 =>
     simp only [hf,if_true]
     cases bl with
     | true =>
      have h1:=ihk (rest.length + 1) (some x) [] ((b,kindD x :: came) :: rest) c1 [] (n.flat rest.length ++ more) hw.2.2.1 rfl
      rcases h1 with ⟨e,h1,h2⟩ | ⟨r,T,h1,h2⟩
      ·exact .inl ⟨e,by rw [h1],by simpa using h2⟩
      ·have h3:=ihn rest.length b (kindD x :: came) rest r.2 (T ++ [(some x,r.1)]) more hw.2.2.2 rfl
       simp only [List.append_assoc,List.singleton_append] at h3
       simp only [List.nil_append] at h2
       rw [h1]
       simp only [if_true,List.singleton_append,h2]
       exact h3
     | false =>
      rw [hw.2.1 rfl]
      have h3:=ihn rest.length b (kindD x :: came) rest c1 [] more hw.2.2.2 rfl
      simp only [List.nil_append] at h3
      simp only [Bool.false_eq_true,if_false,List.nil_append,Fo.flat,buildF]
      exact h3
   ·exact .inl ⟨l,by simp [hf],by simp [hf]⟩
theorem run_all (f:Fo) (hw:f.wf):(∃ e,buildF none [] cf0 f=.error e∧runD ([(none,[])],cf0) (f.flat 0)=.error e) ∨ (∃ r T,buildF none [] cf0 f=.ok r∧runD ([(none,[])],cf0) (f.flat 0)=.ok (T,r.2)):=by
 rcases run_flat f 0 none [] [] cf0 [] [] hw rfl with ⟨e,h1,h2⟩ | ⟨r,T,h1,h2⟩
 ·exact .inl ⟨e,h1,by simpa using h2⟩
 ·exact .inr ⟨r,T ++ [(none,r.1)],h1,by simpa [runD] using h2⟩
end Go.Proofs.YtmnohicojefhfaaGreatDoor
end
section
namespace Go.Proofs.YtmnohicojefhfaaGreatDoor
open Go.RowKit
theorem lexF_fuel:∀ (f f':Nat) (t:List UInt8) (n:Nat),t.length < f → t.length < f' → lexF f t n=lexF f' t n:=by
 intro f
 induction f with
 | zero=>intro f' t n h; omega
 | succ f ih =>
  intro f' t n h h'
  cases f' with
  | zero=>omega
  | succ f' =>
   cases t with
   | nil=>rfl
   | cons c r =>
    have hr:r.length < f:=by simpa using h
    have hr':r.length < f':=by simpa using h'
    have hd:(r.dropWhile (· != 10)).length ≤ r.length:=(List.dropWhile_sublist _).length_le
    have e1:=ih f' r (n + 1) hr hr'
    have e2:=ih f' r n hr hr'
    have e3:=ih f' (r.dropWhile (· != 10)) n (by omega) (by omega)
    have e4:=ih f' (r.drop ((r.takeWhile (· != 34)).length + 1)) n (by rw [List.length_drop]; omega) (by rw [List.length_drop]; omega)
    unfold lexF
    by_cases h1:c=10
    ·rw [if_pos h1,if_pos h1,e1]
    rw [if_neg h1,if_neg h1]
    by_cases h2:c=9 ∨ c=13 ∨ c=32
    ·rw [if_pos h2,if_pos h2,e2]
    rw [if_neg h2,if_neg h2]
    by_cases h3:c=35
    ·rw [if_pos h3,if_pos h3,e3]
    rw [if_neg h3,if_neg h3]
    by_cases h4:c=59 ∨ c=123 ∨ c=125
    ·rw [if_pos h4,if_pos h4,e2]
    rw [if_neg h4,if_neg h4]
    by_cases h5:c=34
    ·rw [if_pos h5,if_pos h5]
     dsimp only
     rw [e4]
    rw [if_neg h5,if_neg h5]
    by_cases h6:c.toNat < 33 ∨ 126 < c.toNat
    ·rw [if_pos h6,if_pos h6]
    rw [if_neg h6,if_neg h6]
    have hw:wordB c=true:=by
     unfold wordB
     have g:∀ x:UInt8,c ≠ x → (c == x)=false:=fun x hx=>beq_eq_false_iff_ne.2 hx
     rw [g 59 (fun e=>h4 (.inl e)),g 123 (fun e=>h4 (.inr (.inl e))),g 125 (fun e=>h4 (.inr (.inr e))),g 35 h3,g 34 h5]
     simp; omega
    have hl:0 < ((c :: r).takeWhile wordB).length:=by rw [List.takeWhile_cons,hw]; simp
    have e5:=ih f' ((c :: r).drop ((c :: r).takeWhile wordB).length) n (by rw [List.length_drop,List.length_cons]; omega) (by rw [List.length_drop,List.length_cons]; omega)
    dsimp only
    rw [e5]
def lexT (t:List UInt8) (n:Nat):List Tk14 × Nat:=lexF (t.length + 1) t n
theorem lexT_fuel {f:Nat} {t:List UInt8} (h:t.length < f) (n:Nat):lexF f t n=lexT t n:=lexF_fuel _ _ _ _ h (by omega)
theorem lexT_nil (n:Nat):lexT [] n=([],0):=rfl
theorem lexT_line (r:List UInt8) (n:Nat):lexT (10 :: r) n=lexT r (n + 1):=rfl
theorem lexT_blank {c:UInt8} (h:c=9 ∨ c=13 ∨ c=32) (r:List UInt8) (n:Nat):lexT (c :: r) n=lexT r n:=by
 rcases h with rfl | rfl | rfl <;> rfl
theorem lexT_rem (r:List UInt8) (n:Nat):lexT (35 :: r) n=lexT (r.dropWhile (· != 10)) n:=by
 have hd:(r.dropWhile (· != 10)).length ≤ r.length:=(List.dropWhile_sublist _).length_le
 have:lexT (35 :: r) n=lexF (r.length + 1) (r.dropWhile (· != 10)) n:=rfl
 rw [this]; exact lexT_fuel (by omega) n
theorem lexT_mark {c:UInt8} (h:c=59 ∨ c=123 ∨ c=125) (r:List UInt8) (n:Nat):lexT (c :: r) n=(⟨c,[],n⟩ :: (lexT r n).1,(lexT r n).2):=by
 rcases h with rfl | rfl | rfl <;> rfl
theorem lexT_quote_bad {r:List UInt8} (h:r.length ≤ (r.takeWhile (· != 34)).length ∨ bytesC 32 (r.takeWhile (· != 34))=false) (n:Nat):lexT (34 :: r) n=([],n):=by
 have:lexT (34 :: r) n=(if r.length ≤ (r.takeWhile (· != 34)).length ∨ bytesC 32 (r.takeWhile (· != 34))=false then (([],n):List Tk14 × Nat) else _):=rfl
 rw [this,if_pos h]
theorem lexT_quote {r:List UInt8} (h:¬ (r.length ≤ (r.takeWhile (· != 34)).length ∨ bytesC 32 (r.takeWhile (· != 34))=false)) (n:Nat) :
  lexT (34 :: r) n=(⟨0,r.takeWhile (· != 34),n⟩ :: (lexT (r.drop ((r.takeWhile (· != 34)).length + 1)) n).1,(lexT (r.drop ((r.takeWhile (· != 34)).length + 1)) n).2):=by
 have:lexT (34 :: r) n=(if r.length ≤ (r.takeWhile (· != 34)).length ∨ bytesC 32 (r.takeWhile (· != 34))=false then (([],n):List Tk14 × Nat) else
  (⟨0,r.takeWhile (· != 34),n⟩ :: (lexF (r.length + 1) (r.drop ((r.takeWhile (· != 34)).length + 1)) n).1,(lexF (r.length + 1) (r.drop ((r.takeWhile (· != 34)).length + 1)) n).2)):=rfl
 rw [this,if_neg h,lexT_fuel (by rw [List.length_drop]; omega) n]
def otherB (c:UInt8):Prop:=c ≠ 10∧¬ (c=9 ∨ c=13 ∨ c=32)∧c ≠ 35∧¬ (c=59 ∨ c=123 ∨ c=125)∧c ≠ 34
theorem other_word {c:UInt8} (h:otherB c) (h6:¬ (c.toNat < 33 ∨ 126 < c.toNat)):wordB c=true:=by
 obtain ⟨_,_,h3,h4,h5⟩:=h
 unfold wordB
 have g:∀ x:UInt8,c ≠ x → (c == x)=false:=fun x hx=>beq_eq_false_iff_ne.2 hx
 rw [g 59 (fun e=>h4 (.inl e)),g 123 (fun e=>h4 (.inr (.inl e))),g 125 (fun e=>h4 (.inr (.inr e))),g 35 h3,g 34 h5]
 simp; omega
theorem lexT_bad {c:UInt8} (h:otherB c) (h6:c.toNat < 33 ∨ 126 < c.toNat) (r:List UInt8) (n:Nat):lexT (c :: r) n=([],n):=by
 obtain ⟨h1,h2,h3,h4,h5⟩:=h
 unfold lexT
 rw [List.length_cons]
 unfold lexF
 rw [if_neg h1,if_neg h2,if_neg h3,if_neg h4,if_neg h5,if_pos h6]
theorem lexT_word {c:UInt8} (h:otherB c) (h6:¬ (c.toNat < 33 ∨ 126 < c.toNat)) (r:List UInt8) (n:Nat) :
  lexT (c :: r) n=(⟨0,(c :: r).takeWhile wordB,n⟩ :: (lexT ((c :: r).drop ((c :: r).takeWhile wordB).length) n).1,(lexT ((c :: r).drop ((c :: r).takeWhile wordB).length) n).2):=by
 have hw:=other_word h h6
 have hl:0 < ((c :: r).takeWhile wordB).length:=by rw [List.takeWhile_cons,hw]; simp
 obtain ⟨h1,h2,h3,h4,h5⟩:=h
 have e:=lexT_fuel (f:=r.length + 1) (t:=(c :: r).drop ((c :: r).takeWhile wordB).length) (by rw [List.length_drop,List.length_cons]; omega) n
 rw [← e]
 unfold lexT
 rw [List.length_cons]
 conv=>lhs; unfold lexF
 rw [if_neg h1,if_neg h2,if_neg h3,if_neg h4,if_neg h5,if_neg h6]
def tkC (t:Tk14):List Value:=[.int .u8 (t.mark.toNat:Int),.string (str t.s),.int .i64 (t.line:Int)]
def tksC (l:List Tk14):List Value:=l.flatMap tkC
theorem tksC_app (a b:List Tk14):tksC (a ++ b)=tksC a ++ tksC b:=by simp [tksC]
theorem tksC_at (l:List Tk14) (k i:Nat) (hi:i < 3):(tksC l)[k * 3 + i]?=l[k]?.bind fun x=>(tkC x)[i]?:=by
 induction l generalizing k with
 | nil=>simp [tksC]
 | cons x l ih=>cases k with
  | zero =>
   simp only [tksC,List.flatMap_cons,Nat.zero_mul,Nat.zero_add,List.getElem?_cons_zero,Option.bind_some]
   rw [List.getElem?_append_left (by simp [tkC]; omega)]
  | succ k =>
   have:=ih k
   simp only [tksC,List.flatMap_cons] at *
   rw [List.getElem?_append_right (by simp [tkC]; omega),show (k + 1) * 3 + i - (tkC x).length=k * 3 + i from by simp [tkC]; omega,this]
   simp
end Go.Proofs.YtmnohicojefhfaaGreatDoor
end
section
namespace Go.Proofs.YtmnohicojefhfaaGreatDoor
open Go.RowKit
end Go.Proofs.YtmnohicojefhfaaGreatDoor
end
