/-
An answer's bytes.
-/
import Derived.Test.YthbofilcnpdghaaGreatDoorZaw
set_option maxRecDepth 100000
set_option maxHeartbeats 8000000
set_option linter.unusedVariables false
set_option linter.unusedSimpArgs false
namespace Go.Proofs.YthbofilcnpdghaaGreatDoor
open Go.RowKit
def fldX (n:Nat) (hd:Bool) (z:Nat):List Fld:=(if hd=true then [] else [(clN,Lib.itoa (n:Int))])++(if z=0 then [(cnN,clW)] else if z=1 then [(cnN,kaW)] else [])
theorem fldX_ok:∀ (n:Fin 101) (hd:Bool) (z:Fin 3),(rsW 200 (fldX n.val hd z.val)).2=0:=by decide +kernel
def zX (lo on:Bool) (mi:Int):Nat:=if lo=false∨on=true then 0 else if mi=0 then 1 else 2
theorem fieldsC_eq (a:Ask24) (only:Bool) (x:List UInt8):fieldsC a only x=fldX x.length (decide (a.r.1=headM)) (zX a.lasting only a.r.2.2.1):=by
 unfold fieldsC fldX zX
 by_cases h1:a.r.1=headM
 ·rw [if_pos h1,if_pos (decide_eq_true h1)]
  by_cases h2:a.lasting=false∨only=true
  ·rw [if_pos h2,if_pos h2];rfl
  ·rw [if_neg h2,if_neg h2]
   by_cases h3:a.r.2.2.1=0
   ·rw [if_pos h3,if_pos h3];rfl
   ·rw [if_neg h3,if_neg h3];rfl
 ·rw [decide_eq_false h1,if_neg h1,if_neg (show ¬ false=true by decide)]
  by_cases h2:a.lasting=false∨only=true
  ·rw [if_pos h2,if_pos h2];rfl
  ·rw [if_neg h2,if_neg h2]
   by_cases h3:a.r.2.2.1=0
   ·rw [if_pos h3,if_pos h3];rfl
   ·rw [if_neg h3,if_neg h3];rfl
theorem zX_lt (lo on:Bool) (mi:Int):zX lo on mi<3:=by
 unfold zX
 split
 ·omega
 ·split <;> omega
theorem fieldsC_ok (a:Ask24) (only:Bool) (x:List UInt8) (h:x.length≤100):(rsW 200 (fieldsC a only x)).2=0:=by
 rw [fieldsC_eq]
 exact fldX_ok ⟨x.length,by omega⟩ _ ⟨zX a.lasting only a.r.2.2.1,zX_lt _ _ _⟩
def IsYE (l:List UInt8) (v:Value) (w:World):Prop:=∃ A c,v=.tuple #[.slice A l.length c,.int .i64 0]∧Rd w A (bc l)
theorem Ext.size' {a b:World} (h:Ext a b):a.heap.size≤b.heap.size:=h.size
theorem nWritten_h0 (k c p j:Nat) (s:Cst) (ad:Cad) (t:Ask24) (x:List UInt8) (w:World) (o:Ow) (h:CnX w o k c s ad) (ha:AskAt w o j p t) (hx:t.ans=some x) (hxl:x.length≤100) (hP:Pow w) (hM:Mx w) (hH:t.r.1=headM) (hz:t.lasting=false) :
  Calls Tryz.prog 44 #[.pointer (some ⟨c,0,none⟩),.pointer (some ⟨p,0,none⟩)] w (Ret (IsYE (writtenC t (decide (s.row.length=1) && !s.reads) x)) w):=by
 obtain ⟨_,A,ca,Q,hrow,_,hans⟩:=ha
 rw [hx] at hans
 obtain ⟨q,B,cb,rfl,_,hq,hB⟩:=hans
 obtain ⟨m,hm⟩:∃ m,m=str t.r.1:=⟨_,rfl⟩
 obtain ⟨mi,hmi⟩:∃ m,m=t.r.2.2.1:=⟨_,rfl⟩
 obtain ⟨lo,hlo⟩:∃ m,m=t.lasting:=⟨_,rfl⟩
 obtain ⟨rn,hrn⟩:∃ m,m=s.row.length:=⟨_,rfl⟩
 obtain ⟨rd,hrd⟩:∃ m,m=s.reads:=⟨_,rfl⟩
 have HK:=Hy (fun (w':World) (e:Ext w w')=>(show w'.cell? ⟨p,1,none⟩=some (.string m)∧w'.cell? ⟨p,3,none⟩=some (.int .i64 mi)∧w'.cell? ⟨p,5,none⟩=some (.bool lo)∧w'.cell? ⟨p,6,none⟩=some (.pointer (some ⟨q,0,none⟩))∧w'.cell? ⟨q,0,none⟩=some (.int .i64 200)∧w'.cell? ⟨q,1,none⟩=some (.slice none 0 0)∧w'.cell? ⟨q,2,none⟩=some (.slice B x.length cb)∧w'.cell? ⟨c,16,none⟩=some (.slice ad.L rn ad.cl)∧w'.cell? ⟨c,4,none⟩=some (.bool rd) from by
  have h1:=(e.block p (row_lt hrow)).trans hrow
  have h2:=(e.block q (row_lt hq)).trans hq
  have h3:=h.row.ext e
  rw [hm,hmi,hlo,hrn,hrd]
  exact ⟨(row_facts h1 1 _ rfl).1,(row_facts h1 3 _ rfl).1,(row_facts h1 5 _ rfl).1,(row_facts h1 6 _ rfl).1,(row_facts h2 0 _ rfl).1,(row_facts h2 1 _ rfl).1,(row_facts h2 2 _ rfl).1,h3.c16,h3.c4⟩))
 have HP:=Hy hP
 have HM:=Hy hM
 have HB:=Hy hB.rd
 have hok:=fieldsC_ok t (decide (s.row.length=1) && !s.reads) x hxl
 have HQ:=Hy (show writtenC t (decide (s.row.length=1) && !s.reads) x=(rsW 200 (fieldsC t (decide (s.row.length=1) && !s.reads) x)).1++(if t.r.1=headM then [] else x) from rfl)
 obtain ⟨sd,hsd⟩:∃ s,s=decB (x.length:Int):=⟨_,rfl⟩
 have CD:=Hy (fun (w:World) (hP:Pow w)=>(by have:=Digits_c (x.length:Int) w hP (by omega) (by omega);rw [← hsd] at this;exact this:Calls Tryz.prog 18 #[.int .i64 (x.length:Int)] w (Gives (.string sd) w)))
 have hil:=Lib.itoa_length_le (x.length:Int) (by omega) (by omega)
 have hfs:fieldsC t (decide (s.row.length=1) && !s.reads) x=[(cnN,clW)]:=by
  unfold fieldsC
  rw [if_pos hH,if_pos (.inl hz)]
  rfl
 have hfc:fc [(cnN,clW)]=(#[.string ⟨#[67,111,110,110,101,99,116,105,111,110]⟩,.string ⟨#[99,108,111,115,101]⟩]:Array Value).toList:=by rfl
 have CW:=fun (A:Option Addr) (c:Nat) (w:World) (h:Rd w A (#[.string ⟨#[67,111,110,110,101,99,116,105,111,110]⟩,.string ⟨#[99,108,111,115,101]⟩]:Array Value).toList) (hP:Pow w) (hM:Mx w)=>hWriteRspS_c 200 [(cnN,clW)] A 1 c (by omega) (by omega) rfl (by omega) (by
  intro p hp
  simp only [List.mem_cons,List.not_mem_nil,or_false,false_or] at hp
  subst hp
  exact ⟨by decide,by decide⟩) w (by rw [hfc];exact h) hP hM
 obtain ⟨⟨l8,e8⟩,hrs⟩:∃ r,r=rsW 200 [(cnN,clW)]:=⟨_,rfl⟩
 have hrl:=rsW_le 200 [(cnN,clW)]
 rw [hfs] at HQ hok
 rw [← hrs] at HQ hok CW hrl
 dsimp only at HQ hok hrl
 subst hok
 have HQ:=Hy (show writtenC t (decide (s.row.length=1) && !s.reads) x=l8++[] from by rw [HQ.out,if_pos hH])
 have CW:=Hy CW
 obtain rfl:m=⟨#[72,69,65,68]⟩:=by rw [hm,hH];rfl
 obtain ⟨R,hR⟩:∃ R,R=writtenC t (decide (s.row.length=1) && !s.reads) x:=⟨_,rfl⟩
 rw [← hR] at HQ ⊢
 obtain rfl:lo=false:=by rw [hlo,hz]
 clear hz
 clear hfs hfc hrs hsd hil hq hrow hB h hx hm hmi hlo hrn hrd hP hM hR hH
 obtain ⟨v1,v2,v3,v4,v5,v6,v7,v8,v9⟩:=HK.out w (Ext.rfl' w)
 go_enter Tryz.func44,Tryz.ntmps44
 go_wp2_with (first
  | (go_at_call 66;refine (hWithout_none _ _ _ _).mono ?_;rintro e w2 ⟨rfl,hx2⟩;have hx2:=(Ext.tr Xq hx2:Ext w w2);obtain ⟨u1,u2,u3,u4,u5,u6,u7,u8,u9⟩:=HK.out w2 hx2;have hxl:=hx2)
  | (at_builtin;refine wpL_fresh slt_fld (.tmp 86) (.tmp 88) rfl rfl (o:=fun _=>0) 7 rfl rfl (Sl.src Tryz.underlying34 (n:=1) (rd_newJ _ _ rfl _ _) (by simp) (by omega) (by simp [Value.oneCell']) 1) (by omega) (by simp only [maxLen];omega) ?_;intro A9 c9 w9 o9 hs9 st9 hn9;have hx9:=(Ext.tr Xq st9.noExt:Ext w w9);obtain ⟨u1,u2,u3,u4,u5,u6,u7,u8,u9⟩:=HK.out w9 hx9;clear st9)
  | (go_at_call 63;refine (CW.out _ _ _ hs9.rd (HP.out.ext hx9) (HM.out.ext hx9)).mono ?_;rintro e w8 ⟨v,rfl,⟨A8,c8,rfl,hn8,o8,ho8,hs8⟩,hx8⟩;have ho8:∀ b,b<w.heap.size→o8 b=0:=(fun b hb=>ho8 b (Nat.lt_of_lt_of_le hb (Ext.size' hx9)));have hx8:=(Ext.tr hx9 hx8:Ext w w8);obtain ⟨u1,u2,u3,u4,u5,u6,u7,u8,u9⟩:=HK.out w8 hx8))
 go_ret2
 rw [HQ.out,List.append_nil]
 exact Ret.mk ⟨A8,c8,rfl,hs8.rd⟩ hx8
theorem nWritten_h1 (k c p j:Nat) (s:Cst) (ad:Cad) (t:Ask24) (x:List UInt8) (w:World) (o:Ow) (h:CnX w o k c s ad) (ha:AskAt w o j p t) (hx:t.ans=some x) (hxl:x.length≤100) (hP:Pow w) (hM:Mx w) (hH:t.r.1=headM) (hz:t.lasting=true) (hz1:s.row.length=1) (hz2:s.reads=false) :
  Calls Tryz.prog 44 #[.pointer (some ⟨c,0,none⟩),.pointer (some ⟨p,0,none⟩)] w (Ret (IsYE (writtenC t (decide (s.row.length=1) && !s.reads) x)) w):=by
 obtain ⟨_,A,ca,Q,hrow,_,hans⟩:=ha
 rw [hx] at hans
 obtain ⟨q,B,cb,rfl,_,hq,hB⟩:=hans
 obtain ⟨m,hm⟩:∃ m,m=str t.r.1:=⟨_,rfl⟩
 obtain ⟨mi,hmi⟩:∃ m,m=t.r.2.2.1:=⟨_,rfl⟩
 obtain ⟨lo,hlo⟩:∃ m,m=t.lasting:=⟨_,rfl⟩
 obtain ⟨rn,hrn⟩:∃ m,m=s.row.length:=⟨_,rfl⟩
 obtain ⟨rd,hrd⟩:∃ m,m=s.reads:=⟨_,rfl⟩
 have HK:=Hy (fun (w':World) (e:Ext w w')=>(show w'.cell? ⟨p,1,none⟩=some (.string m)∧w'.cell? ⟨p,3,none⟩=some (.int .i64 mi)∧w'.cell? ⟨p,5,none⟩=some (.bool lo)∧w'.cell? ⟨p,6,none⟩=some (.pointer (some ⟨q,0,none⟩))∧w'.cell? ⟨q,0,none⟩=some (.int .i64 200)∧w'.cell? ⟨q,1,none⟩=some (.slice none 0 0)∧w'.cell? ⟨q,2,none⟩=some (.slice B x.length cb)∧w'.cell? ⟨c,16,none⟩=some (.slice ad.L rn ad.cl)∧w'.cell? ⟨c,4,none⟩=some (.bool rd) from by
  have h1:=(e.block p (row_lt hrow)).trans hrow
  have h2:=(e.block q (row_lt hq)).trans hq
  have h3:=h.row.ext e
  rw [hm,hmi,hlo,hrn,hrd]
  exact ⟨(row_facts h1 1 _ rfl).1,(row_facts h1 3 _ rfl).1,(row_facts h1 5 _ rfl).1,(row_facts h1 6 _ rfl).1,(row_facts h2 0 _ rfl).1,(row_facts h2 1 _ rfl).1,(row_facts h2 2 _ rfl).1,h3.c16,h3.c4⟩))
 have HP:=Hy hP
 have HM:=Hy hM
 have HB:=Hy hB.rd
 have hok:=fieldsC_ok t (decide (s.row.length=1) && !s.reads) x hxl
 have HQ:=Hy (show writtenC t (decide (s.row.length=1) && !s.reads) x=(rsW 200 (fieldsC t (decide (s.row.length=1) && !s.reads) x)).1++(if t.r.1=headM then [] else x) from rfl)
 obtain ⟨sd,hsd⟩:∃ s,s=decB (x.length:Int):=⟨_,rfl⟩
 have CD:=Hy (fun (w:World) (hP:Pow w)=>(by have:=Digits_c (x.length:Int) w hP (by omega) (by omega);rw [← hsd] at this;exact this:Calls Tryz.prog 18 #[.int .i64 (x.length:Int)] w (Gives (.string sd) w)))
 have hil:=Lib.itoa_length_le (x.length:Int) (by omega) (by omega)
 have hfs:fieldsC t (decide (s.row.length=1) && !s.reads) x=[(cnN,clW)]:=by
  unfold fieldsC
  rw [if_pos hH,if_pos (.inr (by rw [hz1,hz2];rfl))]
  rfl
 have hfc:fc [(cnN,clW)]=(#[.string ⟨#[67,111,110,110,101,99,116,105,111,110]⟩,.string ⟨#[99,108,111,115,101]⟩]:Array Value).toList:=by rfl
 have CW:=fun (A:Option Addr) (c:Nat) (w:World) (h:Rd w A (#[.string ⟨#[67,111,110,110,101,99,116,105,111,110]⟩,.string ⟨#[99,108,111,115,101]⟩]:Array Value).toList) (hP:Pow w) (hM:Mx w)=>hWriteRspS_c 200 [(cnN,clW)] A 1 c (by omega) (by omega) rfl (by omega) (by
  intro p hp
  simp only [List.mem_cons,List.not_mem_nil,or_false,false_or] at hp
  subst hp
  exact ⟨by decide,by decide⟩) w (by rw [hfc];exact h) hP hM
 obtain ⟨⟨l8,e8⟩,hrs⟩:∃ r,r=rsW 200 [(cnN,clW)]:=⟨_,rfl⟩
 have hrl:=rsW_le 200 [(cnN,clW)]
 rw [hfs] at HQ hok
 rw [← hrs] at HQ hok CW hrl
 dsimp only at HQ hok hrl
 subst hok
 have HQ:=Hy (show writtenC t (decide (s.row.length=1) && !s.reads) x=l8++[] from by rw [HQ.out,if_pos hH])
 have CW:=Hy CW
 obtain rfl:m=⟨#[72,69,65,68]⟩:=by rw [hm,hH];rfl
 obtain ⟨R,hR⟩:∃ R,R=writtenC t (decide (s.row.length=1) && !s.reads) x:=⟨_,rfl⟩
 rw [← hR] at HQ ⊢
 obtain rfl:lo=true:=by rw [hlo,hz]
 obtain rfl:rn=1:=by rw [hrn,hz1]
 obtain rfl:rd=false:=by rw [hrd,hz2]
 clear hz hz1 hz2
 clear hfs hfc hrs hsd hil hq hrow hB h hx hm hmi hlo hrn hrd hP hM hR hH
 obtain ⟨v1,v2,v3,v4,v5,v6,v7,v8,v9⟩:=HK.out w (Ext.rfl' w)
 go_enter Tryz.func44,Tryz.ntmps44
 go_wp2_with (first
  | (go_at_call 66;refine (hWithout_none _ _ _ _).mono ?_;rintro e w2 ⟨rfl,hx2⟩;have hx2:=(Ext.tr Xq hx2:Ext w w2);obtain ⟨u1,u2,u3,u4,u5,u6,u7,u8,u9⟩:=HK.out w2 hx2;have hxl:=hx2)
  | (at_builtin;refine wpL_fresh slt_fld (.tmp 86) (.tmp 88) rfl rfl (o:=fun _=>0) 7 rfl rfl (Sl.src Tryz.underlying34 (n:=1) (rd_newJ _ _ rfl _ _) (by simp) (by omega) (by simp [Value.oneCell']) 1) (by omega) (by simp only [maxLen];omega) ?_;intro A9 c9 w9 o9 hs9 st9 hn9;have hx9:=(Ext.tr Xq st9.noExt:Ext w w9);obtain ⟨u1,u2,u3,u4,u5,u6,u7,u8,u9⟩:=HK.out w9 hx9;clear st9)
  | (go_at_call 63;refine (CW.out _ _ _ hs9.rd (HP.out.ext hx9) (HM.out.ext hx9)).mono ?_;rintro e w8 ⟨v,rfl,⟨A8,c8,rfl,hn8,o8,ho8,hs8⟩,hx8⟩;have ho8:∀ b,b<w.heap.size→o8 b=0:=(fun b hb=>ho8 b (Nat.lt_of_lt_of_le hb (Ext.size' hx9)));have hx8:=(Ext.tr hx9 hx8:Ext w w8);obtain ⟨u1,u2,u3,u4,u5,u6,u7,u8,u9⟩:=HK.out w8 hx8))
 go_ret2
 rw [HQ.out,List.append_nil]
 exact Ret.mk ⟨A8,c8,rfl,hs8.rd⟩ hx8
theorem nWritten_h2 (k c p j:Nat) (s:Cst) (ad:Cad) (t:Ask24) (x:List UInt8) (w:World) (o:Ow) (h:CnX w o k c s ad) (ha:AskAt w o j p t) (hx:t.ans=some x) (hxl:x.length≤100) (hP:Pow w) (hM:Mx w) (hH:t.r.1=headM) (hz:t.lasting=true) (hz1:(decide (s.row.length=1) && !s.reads)=false) (hz2:t.r.2.2.1=0) :
  Calls Tryz.prog 44 #[.pointer (some ⟨c,0,none⟩),.pointer (some ⟨p,0,none⟩)] w (Ret (IsYE (writtenC t (decide (s.row.length=1) && !s.reads) x)) w):=by
 obtain ⟨_,A,ca,Q,hrow,_,hans⟩:=ha
 rw [hx] at hans
 obtain ⟨q,B,cb,rfl,_,hq,hB⟩:=hans
 obtain ⟨m,hm⟩:∃ m,m=str t.r.1:=⟨_,rfl⟩
 obtain ⟨mi,hmi⟩:∃ m,m=t.r.2.2.1:=⟨_,rfl⟩
 obtain ⟨lo,hlo⟩:∃ m,m=t.lasting:=⟨_,rfl⟩
 obtain ⟨rn,hrn⟩:∃ m,m=s.row.length:=⟨_,rfl⟩
 obtain ⟨rd,hrd⟩:∃ m,m=s.reads:=⟨_,rfl⟩
 have HK:=Hy (fun (w':World) (e:Ext w w')=>(show w'.cell? ⟨p,1,none⟩=some (.string m)∧w'.cell? ⟨p,3,none⟩=some (.int .i64 mi)∧w'.cell? ⟨p,5,none⟩=some (.bool lo)∧w'.cell? ⟨p,6,none⟩=some (.pointer (some ⟨q,0,none⟩))∧w'.cell? ⟨q,0,none⟩=some (.int .i64 200)∧w'.cell? ⟨q,1,none⟩=some (.slice none 0 0)∧w'.cell? ⟨q,2,none⟩=some (.slice B x.length cb)∧w'.cell? ⟨c,16,none⟩=some (.slice ad.L rn ad.cl)∧w'.cell? ⟨c,4,none⟩=some (.bool rd) from by
  have h1:=(e.block p (row_lt hrow)).trans hrow
  have h2:=(e.block q (row_lt hq)).trans hq
  have h3:=h.row.ext e
  rw [hm,hmi,hlo,hrn,hrd]
  exact ⟨(row_facts h1 1 _ rfl).1,(row_facts h1 3 _ rfl).1,(row_facts h1 5 _ rfl).1,(row_facts h1 6 _ rfl).1,(row_facts h2 0 _ rfl).1,(row_facts h2 1 _ rfl).1,(row_facts h2 2 _ rfl).1,h3.c16,h3.c4⟩))
 have HP:=Hy hP
 have HM:=Hy hM
 have HB:=Hy hB.rd
 have hok:=fieldsC_ok t (decide (s.row.length=1) && !s.reads) x hxl
 have HQ:=Hy (show writtenC t (decide (s.row.length=1) && !s.reads) x=(rsW 200 (fieldsC t (decide (s.row.length=1) && !s.reads) x)).1++(if t.r.1=headM then [] else x) from rfl)
 obtain ⟨sd,hsd⟩:∃ s,s=decB (x.length:Int):=⟨_,rfl⟩
 have CD:=Hy (fun (w:World) (hP:Pow w)=>(by have:=Digits_c (x.length:Int) w hP (by omega) (by omega);rw [← hsd] at this;exact this:Calls Tryz.prog 18 #[.int .i64 (x.length:Int)] w (Gives (.string sd) w)))
 have hil:=Lib.itoa_length_le (x.length:Int) (by omega) (by omega)
 have hfs:fieldsC t (decide (s.row.length=1) && !s.reads) x=[(cnN,kaW)]:=by
  unfold fieldsC
  rw [if_pos hH,if_neg (by rw [hz,hz1];simp),if_pos hz2]
  rfl
 have hfc:fc [(cnN,kaW)]=(#[.string ⟨#[67,111,110,110,101,99,116,105,111,110]⟩,.string ⟨#[107,101,101,112,45,97,108,105,118,101]⟩]:Array Value).toList:=by rfl
 have CW:=fun (A:Option Addr) (c:Nat) (w:World) (h:Rd w A (#[.string ⟨#[67,111,110,110,101,99,116,105,111,110]⟩,.string ⟨#[107,101,101,112,45,97,108,105,118,101]⟩]:Array Value).toList) (hP:Pow w) (hM:Mx w)=>hWriteRspS_c 200 [(cnN,kaW)] A 1 c (by omega) (by omega) rfl (by omega) (by
  intro p hp
  simp only [List.mem_cons,List.not_mem_nil,or_false,false_or] at hp
  subst hp
  exact ⟨by decide,by decide⟩) w (by rw [hfc];exact h) hP hM
 obtain ⟨⟨l8,e8⟩,hrs⟩:∃ r,r=rsW 200 [(cnN,kaW)]:=⟨_,rfl⟩
 have hrl:=rsW_le 200 [(cnN,kaW)]
 rw [hfs] at HQ hok
 rw [← hrs] at HQ hok CW hrl
 dsimp only at HQ hok hrl
 subst hok
 have HQ:=Hy (show writtenC t (decide (s.row.length=1) && !s.reads) x=l8++[] from by rw [HQ.out,if_pos hH])
 have CW:=Hy CW
 obtain rfl:m=⟨#[72,69,65,68]⟩:=by rw [hm,hH];rfl
 obtain ⟨R,hR⟩:∃ R,R=writtenC t (decide (s.row.length=1) && !s.reads) x:=⟨_,rfl⟩
 rw [← hR] at HQ ⊢
 obtain rfl:lo=true:=by rw [hlo,hz]
 have HZ1:Hid ((decide (rn=1) && !rd)=false):=Hy (by rw [hrn,hrd];exact hz1)
 obtain rfl:mi=0:=by rw [hmi,hz2]
 clear hz hz1 hz2
 clear hfs hfc hrs hsd hil hq hrow hB h hx hm hmi hlo hrn hrd hP hM hR hH
 by_cases r1:rn=1
 ·subst r1
  obtain rfl:rd=true:=by have:=HZ1.out;simpa using this
  clear HZ1
  obtain ⟨v1,v2,v3,v4,v5,v6,v7,v8,v9⟩:=HK.out w (Ext.rfl' w)
  go_enter Tryz.func44,Tryz.ntmps44
  go_wp2_with (first
   | (go_at_call 66;refine (hWithout_none _ _ _ _).mono ?_;rintro e w2 ⟨rfl,hx2⟩;have hx2:=(Ext.tr Xq hx2:Ext w w2);obtain ⟨u1,u2,u3,u4,u5,u6,u7,u8,u9⟩:=HK.out w2 hx2;have hxl:=hx2)
   | (at_builtin;refine wpL_fresh slt_fld (.tmp 97) (.tmp 99) rfl rfl (o:=fun _=>0) 7 rfl rfl (Sl.src Tryz.underlying34 (n:=1) (rd_newJ _ _ rfl _ _) (by simp) (by omega) (by simp [Value.oneCell']) 1) (by omega) (by simp only [maxLen];omega) ?_;intro A9 c9 w9 o9 hs9 st9 hn9;have hx9:=(Ext.tr Xq st9.noExt:Ext w w9);obtain ⟨u1,u2,u3,u4,u5,u6,u7,u8,u9⟩:=HK.out w9 hx9;clear st9)
   | (go_at_call 63;refine (CW.out _ _ _ hs9.rd (HP.out.ext hx9) (HM.out.ext hx9)).mono ?_;rintro e w8 ⟨v,rfl,⟨A8,c8,rfl,hn8,o8,ho8,hs8⟩,hx8⟩;have ho8:∀ b,b<w.heap.size→o8 b=0:=(fun b hb=>ho8 b (Nat.lt_of_lt_of_le hb (Ext.size' hx9)));have hx8:=(Ext.tr hx9 hx8:Ext w w8);obtain ⟨u1,u2,u3,u4,u5,u6,u7,u8,u9⟩:=HK.out w8 hx8))
  go_ret2
  rw [HQ.out,List.append_nil]
  exact Ret.mk ⟨A8,c8,rfl,hs8.rd⟩ hx8
 ·have d1:((rn:Int) == 1)=false:=by rw [beq_eq_false_iff_ne];omega
  clear HZ1 r1
  obtain ⟨v1,v2,v3,v4,v5,v6,v7,v8,v9⟩:=HK.out w (Ext.rfl' w)
  go_enter Tryz.func44,Tryz.ntmps44
  go_wp2_with (first
   | (go_at_call 66;refine (hWithout_none _ _ _ _).mono ?_;rintro e w2 ⟨rfl,hx2⟩;have hx2:=(Ext.tr Xq hx2:Ext w w2);obtain ⟨u1,u2,u3,u4,u5,u6,u7,u8,u9⟩:=HK.out w2 hx2;have hxl:=hx2)
   | (at_builtin;refine wpL_fresh slt_fld (.tmp 97) (.tmp 99) rfl rfl (o:=fun _=>0) 7 rfl rfl (Sl.src Tryz.underlying34 (n:=1) (rd_newJ _ _ rfl _ _) (by simp) (by omega) (by simp [Value.oneCell']) 1) (by omega) (by simp only [maxLen];omega) ?_;intro A9 c9 w9 o9 hs9 st9 hn9;have hx9:=(Ext.tr Xq st9.noExt:Ext w w9);obtain ⟨u1,u2,u3,u4,u5,u6,u7,u8,u9⟩:=HK.out w9 hx9;clear st9)
   | (go_at_call 63;refine (CW.out _ _ _ hs9.rd (HP.out.ext hx9) (HM.out.ext hx9)).mono ?_;rintro e w8 ⟨v,rfl,⟨A8,c8,rfl,hn8,o8,ho8,hs8⟩,hx8⟩;have ho8:∀ b,b<w.heap.size→o8 b=0:=(fun b hb=>ho8 b (Nat.lt_of_lt_of_le hb (Ext.size' hx9)));have hx8:=(Ext.tr hx9 hx8:Ext w w8);obtain ⟨u1,u2,u3,u4,u5,u6,u7,u8,u9⟩:=HK.out w8 hx8))
  go_ret2
  rw [HQ.out,List.append_nil]
  exact Ret.mk ⟨A8,c8,rfl,hs8.rd⟩ hx8
theorem nWritten_h3 (k c p j:Nat) (s:Cst) (ad:Cad) (t:Ask24) (x:List UInt8) (w:World) (o:Ow) (h:CnX w o k c s ad) (ha:AskAt w o j p t) (hx:t.ans=some x) (hxl:x.length≤100) (hP:Pow w) (hM:Mx w) (hH:t.r.1=headM) (hz:t.lasting=true) (hz1:(decide (s.row.length=1) && !s.reads)=false) (hz2:t.r.2.2.1≠0) :
  Calls Tryz.prog 44 #[.pointer (some ⟨c,0,none⟩),.pointer (some ⟨p,0,none⟩)] w (Ret (IsYE (writtenC t (decide (s.row.length=1) && !s.reads) x)) w):=by
 obtain ⟨_,A,ca,Q,hrow,_,hans⟩:=ha
 rw [hx] at hans
 obtain ⟨q,B,cb,rfl,_,hq,hB⟩:=hans
 obtain ⟨m,hm⟩:∃ m,m=str t.r.1:=⟨_,rfl⟩
 obtain ⟨mi,hmi⟩:∃ m,m=t.r.2.2.1:=⟨_,rfl⟩
 obtain ⟨lo,hlo⟩:∃ m,m=t.lasting:=⟨_,rfl⟩
 obtain ⟨rn,hrn⟩:∃ m,m=s.row.length:=⟨_,rfl⟩
 obtain ⟨rd,hrd⟩:∃ m,m=s.reads:=⟨_,rfl⟩
 have HK:=Hy (fun (w':World) (e:Ext w w')=>(show w'.cell? ⟨p,1,none⟩=some (.string m)∧w'.cell? ⟨p,3,none⟩=some (.int .i64 mi)∧w'.cell? ⟨p,5,none⟩=some (.bool lo)∧w'.cell? ⟨p,6,none⟩=some (.pointer (some ⟨q,0,none⟩))∧w'.cell? ⟨q,0,none⟩=some (.int .i64 200)∧w'.cell? ⟨q,1,none⟩=some (.slice none 0 0)∧w'.cell? ⟨q,2,none⟩=some (.slice B x.length cb)∧w'.cell? ⟨c,16,none⟩=some (.slice ad.L rn ad.cl)∧w'.cell? ⟨c,4,none⟩=some (.bool rd) from by
  have h1:=(e.block p (row_lt hrow)).trans hrow
  have h2:=(e.block q (row_lt hq)).trans hq
  have h3:=h.row.ext e
  rw [hm,hmi,hlo,hrn,hrd]
  exact ⟨(row_facts h1 1 _ rfl).1,(row_facts h1 3 _ rfl).1,(row_facts h1 5 _ rfl).1,(row_facts h1 6 _ rfl).1,(row_facts h2 0 _ rfl).1,(row_facts h2 1 _ rfl).1,(row_facts h2 2 _ rfl).1,h3.c16,h3.c4⟩))
 have HP:=Hy hP
 have HM:=Hy hM
 have HB:=Hy hB.rd
 have hok:=fieldsC_ok t (decide (s.row.length=1) && !s.reads) x hxl
 have HQ:=Hy (show writtenC t (decide (s.row.length=1) && !s.reads) x=(rsW 200 (fieldsC t (decide (s.row.length=1) && !s.reads) x)).1++(if t.r.1=headM then [] else x) from rfl)
 obtain ⟨sd,hsd⟩:∃ s,s=decB (x.length:Int):=⟨_,rfl⟩
 have CD:=Hy (fun (w:World) (hP:Pow w)=>(by have:=Digits_c (x.length:Int) w hP (by omega) (by omega);rw [← hsd] at this;exact this:Calls Tryz.prog 18 #[.int .i64 (x.length:Int)] w (Gives (.string sd) w)))
 have hil:=Lib.itoa_length_le (x.length:Int) (by omega) (by omega)
 have hfs:fieldsC t (decide (s.row.length=1) && !s.reads) x=([]:List Fld):=by
  unfold fieldsC
  rw [if_pos hH,if_neg (by rw [hz,hz1];simp),if_neg hz2]
  rfl
 have hfc:fc ([]:List Fld)=(#[]:Array Value).toList:=by rfl
 have CW:=fun (A:Option Addr) (c:Nat) (w:World) (h:Rd w A (#[]:Array Value).toList) (hP:Pow w) (hM:Mx w)=>hWriteRspS_c 200 ([]:List Fld) A 0 c (by omega) (by omega) rfl (by omega) (by
  intro p hp
  simp only [List.mem_cons,List.not_mem_nil,or_false,false_or] at hp
  skip) w (by rw [hfc];exact h) hP hM
 obtain ⟨⟨l8,e8⟩,hrs⟩:∃ r,r=rsW 200 ([]:List Fld):=⟨_,rfl⟩
 have hrl:=rsW_le 200 ([]:List Fld)
 rw [hfs] at HQ hok
 rw [← hrs] at HQ hok CW hrl
 dsimp only at HQ hok hrl
 subst hok
 have HQ:=Hy (show writtenC t (decide (s.row.length=1) && !s.reads) x=l8++[] from by rw [HQ.out,if_pos hH])
 have CW:=Hy CW
 obtain rfl:m=⟨#[72,69,65,68]⟩:=by rw [hm,hH];rfl
 obtain ⟨R,hR⟩:∃ R,R=writtenC t (decide (s.row.length=1) && !s.reads) x:=⟨_,rfl⟩
 rw [← hR] at HQ ⊢
 obtain rfl:lo=true:=by rw [hlo,hz]
 have HZ1:Hid ((decide (rn=1) && !rd)=false):=Hy (by rw [hrn,hrd];exact hz1)
 have d0:(mi == 0)=false:=by rw [beq_eq_false_iff_ne,hmi];exact hz2
 clear hz hz1 hz2
 clear hfs hfc hrs hsd hil hq hrow hB h hx hm hmi hlo hrn hrd hP hM hR hH
 by_cases r1:rn=1
 ·subst r1
  obtain rfl:rd=true:=by have:=HZ1.out;simpa using this
  clear HZ1
  obtain ⟨v1,v2,v3,v4,v5,v6,v7,v8,v9⟩:=HK.out w (Ext.rfl' w)
  go_enter Tryz.func44,Tryz.ntmps44
  go_wp2_with (first
   | (go_at_call 66;refine (hWithout_none _ _ _ _).mono ?_;rintro e w2 ⟨rfl,hx2⟩;have hx2:=(Ext.tr Xq hx2:Ext w w2);obtain ⟨u1,u2,u3,u4,u5,u6,u7,u8,u9⟩:=HK.out w2 hx2;have hxl:=hx2)
   | (go_at_call 63;refine (CW.out _ _ _ (.inl rfl) (HP.out.ext hxl) (HM.out.ext hxl)).mono ?_;rintro e w8 ⟨v,rfl,⟨A8,c8,rfl,hn8,o8,ho8,hs8⟩,hx8⟩;have ho8:∀ b,b<w.heap.size→o8 b=0:=(fun b hb=>ho8 b (Nat.lt_of_lt_of_le hb (Ext.size' hxl)));have hx8:=(Ext.tr hxl hx8:Ext w w8);obtain ⟨u1,u2,u3,u4,u5,u6,u7,u8,u9⟩:=HK.out w8 hx8))
  go_ret2
  rw [HQ.out,List.append_nil]
  exact Ret.mk ⟨A8,c8,rfl,hs8.rd⟩ hx8
 ·have d1:((rn:Int) == 1)=false:=by rw [beq_eq_false_iff_ne];omega
  clear HZ1 r1
  obtain ⟨v1,v2,v3,v4,v5,v6,v7,v8,v9⟩:=HK.out w (Ext.rfl' w)
  go_enter Tryz.func44,Tryz.ntmps44
  go_wp2_with (first
   | (go_at_call 66;refine (hWithout_none _ _ _ _).mono ?_;rintro e w2 ⟨rfl,hx2⟩;have hx2:=(Ext.tr Xq hx2:Ext w w2);obtain ⟨u1,u2,u3,u4,u5,u6,u7,u8,u9⟩:=HK.out w2 hx2;have hxl:=hx2)
   | (go_at_call 63;refine (CW.out _ _ _ (.inl rfl) (HP.out.ext hxl) (HM.out.ext hxl)).mono ?_;rintro e w8 ⟨v,rfl,⟨A8,c8,rfl,hn8,o8,ho8,hs8⟩,hx8⟩;have ho8:∀ b,b<w.heap.size→o8 b=0:=(fun b hb=>ho8 b (Nat.lt_of_lt_of_le hb (Ext.size' hxl)));have hx8:=(Ext.tr hxl hx8:Ext w w8);obtain ⟨u1,u2,u3,u4,u5,u6,u7,u8,u9⟩:=HK.out w8 hx8))
  go_ret2
  rw [HQ.out,List.append_nil]
  exact Ret.mk ⟨A8,c8,rfl,hs8.rd⟩ hx8
theorem nWritten_g0 (k c p j:Nat) (s:Cst) (ad:Cad) (t:Ask24) (x:List UInt8) (w:World) (o:Ow) (h:CnX w o k c s ad) (ha:AskAt w o j p t) (hx:t.ans=some x) (hxl:x.length≤100) (hP:Pow w) (hM:Mx w) (hH:t.r.1≠headM) (hz:t.lasting=false) :
  Calls Tryz.prog 44 #[.pointer (some ⟨c,0,none⟩),.pointer (some ⟨p,0,none⟩)] w (Ret (IsYE (writtenC t (decide (s.row.length=1) && !s.reads) x)) w):=by
 obtain ⟨_,A,ca,Q,hrow,_,hans⟩:=ha
 rw [hx] at hans
 obtain ⟨q,B,cb,rfl,_,hq,hB⟩:=hans
 obtain ⟨m,hm⟩:∃ m,m=str t.r.1:=⟨_,rfl⟩
 obtain ⟨mi,hmi⟩:∃ m,m=t.r.2.2.1:=⟨_,rfl⟩
 obtain ⟨lo,hlo⟩:∃ m,m=t.lasting:=⟨_,rfl⟩
 obtain ⟨rn,hrn⟩:∃ m,m=s.row.length:=⟨_,rfl⟩
 obtain ⟨rd,hrd⟩:∃ m,m=s.reads:=⟨_,rfl⟩
 have HK:=Hy (fun (w':World) (e:Ext w w')=>(show w'.cell? ⟨p,1,none⟩=some (.string m)∧w'.cell? ⟨p,3,none⟩=some (.int .i64 mi)∧w'.cell? ⟨p,5,none⟩=some (.bool lo)∧w'.cell? ⟨p,6,none⟩=some (.pointer (some ⟨q,0,none⟩))∧w'.cell? ⟨q,0,none⟩=some (.int .i64 200)∧w'.cell? ⟨q,1,none⟩=some (.slice none 0 0)∧w'.cell? ⟨q,2,none⟩=some (.slice B x.length cb)∧w'.cell? ⟨c,16,none⟩=some (.slice ad.L rn ad.cl)∧w'.cell? ⟨c,4,none⟩=some (.bool rd) from by
  have h1:=(e.block p (row_lt hrow)).trans hrow
  have h2:=(e.block q (row_lt hq)).trans hq
  have h3:=h.row.ext e
  rw [hm,hmi,hlo,hrn,hrd]
  exact ⟨(row_facts h1 1 _ rfl).1,(row_facts h1 3 _ rfl).1,(row_facts h1 5 _ rfl).1,(row_facts h1 6 _ rfl).1,(row_facts h2 0 _ rfl).1,(row_facts h2 1 _ rfl).1,(row_facts h2 2 _ rfl).1,h3.c16,h3.c4⟩))
 have HP:=Hy hP
 have HM:=Hy hM
 have HB:=Hy hB.rd
 have hok:=fieldsC_ok t (decide (s.row.length=1) && !s.reads) x hxl
 have HQ:=Hy (show writtenC t (decide (s.row.length=1) && !s.reads) x=(rsW 200 (fieldsC t (decide (s.row.length=1) && !s.reads) x)).1++(if t.r.1=headM then [] else x) from rfl)
 obtain ⟨sd,hsd⟩:∃ s,s=decB (x.length:Int):=⟨_,rfl⟩
 have CD:=Hy (fun (w:World) (hP:Pow w)=>(by have:=Digits_c (x.length:Int) w hP (by omega) (by omega);rw [← hsd] at this;exact this:Calls Tryz.prog 18 #[.int .i64 (x.length:Int)] w (Gives (.string sd) w)))
 have hil:=Lib.itoa_length_le (x.length:Int) (by omega) (by omega)
 have hfs:fieldsC t (decide (s.row.length=1) && !s.reads) x=[(clN,Lib.itoa (x.length:Int)),(cnN,clW)]:=by
  unfold fieldsC
  rw [if_neg hH,if_pos (.inl hz)]
  rfl
 have hfc:fc [(clN,Lib.itoa (x.length:Int)),(cnN,clW)]=(#[.string ⟨#[67,111,110,116,101,110,116,45,76,101,110,103,116,104]⟩,.string sd,.string ⟨#[67,111,110,110,101,99,116,105,111,110]⟩,.string ⟨#[99,108,111,115,101]⟩]:Array Value).toList:=by rw [hsd];rfl
 have CW:=fun (A:Option Addr) (c:Nat) (w:World) (h:Rd w A (#[.string ⟨#[67,111,110,116,101,110,116,45,76,101,110,103,116,104]⟩,.string sd,.string ⟨#[67,111,110,110,101,99,116,105,111,110]⟩,.string ⟨#[99,108,111,115,101]⟩]:Array Value).toList) (hP:Pow w) (hM:Mx w)=>hWriteRspS_c 200 [(clN,Lib.itoa (x.length:Int)),(cnN,clW)] A 2 c (by omega) (by omega) rfl (by omega) (by
  intro p hp
  simp only [List.mem_cons,List.not_mem_nil,or_false,false_or] at hp
  rcases hp with rfl | rfl
  ·exact ⟨(by show (14:Nat)≤_;omega),(by show (Lib.itoa (x.length:Int)).length≤_;omega)⟩
  ·exact ⟨by decide,by decide⟩) w (by rw [hfc];exact h) hP hM
 obtain ⟨⟨l8,e8⟩,hrs⟩:∃ r,r=rsW 200 [(clN,Lib.itoa (x.length:Int)),(cnN,clW)]:=⟨_,rfl⟩
 have hrl:=rsW_le 200 [(clN,Lib.itoa (x.length:Int)),(cnN,clW)]
 rw [hfs] at HQ hok
 rw [← hrs] at HQ hok CW hrl
 dsimp only at HQ hok hrl
 subst hok
 have HQ:=Hy (show writtenC t (decide (s.row.length=1) && !s.reads) x=l8++x from by rw [HQ.out,if_neg hH])
 have CW:=Hy CW
 have g1:(m.toList == [72,69,65,68])=false:=by rw [hm,beq_eq_false_iff_ne,Lib.toList_data];exact hH
 have g2:¬ m.toList=[72,69,65,68]:=by rw [hm,Lib.toList_data];exact hH
 obtain ⟨R,hR⟩:∃ R,R=writtenC t (decide (s.row.length=1) && !s.reads) x:=⟨_,rfl⟩
 rw [← hR] at HQ ⊢
 obtain rfl:lo=false:=by rw [hlo,hz]
 clear hz
 clear hfs hfc hrs hsd hil hq hrow hB h hx hm hmi hlo hrn hrd hP hM hR hH
 obtain ⟨v1,v2,v3,v4,v5,v6,v7,v8,v9⟩:=HK.out w (Ext.rfl' w)
 go_enter Tryz.func44,Tryz.ntmps44
 go_wp2_with (first
  | (go_at_call 66;refine (hWithout_none _ _ _ _).mono ?_;rintro e w2 ⟨rfl,hx2⟩;have hx2:=(Ext.tr Xq hx2:Ext w w2);obtain ⟨u1,u2,u3,u4,u5,u6,u7,u8,u9⟩:=HK.out w2 hx2;have hxl:=hx2)
  | (go_at_call 18;refine (CD.out _ (HP.out.ext Xq)).mono ?_;rintro e w3 ⟨rfl,hx3⟩;have hx3:=(Ext.tr Xq hx3:Ext w w3))
  | (at_builtin;refine wpL_fresh slt_fld (.tmp 57) (.tmp 65) rfl rfl (o:=fun _=>0) 7 rfl rfl (Sl.src Tryz.underlying34 (n:=1) (rd_newJ _ _ rfl _ _) (by simp) (by omega) (by simp [Value.oneCell']) 1) (by omega) (by simp only [maxLen];omega) ?_;intro A5 c5 w5 o5 hs5 st5 hn5;have hx5:=(Ext.tr Xq st5.noExt:Ext w w5);have ho5:∀ b,b<w.heap.size→o5 b=0:=(fun b hb=>st5.own b (by have:=Ext.size' hx3;simp;omega));obtain ⟨u1,u2,u3,u4,u5,u6,u7,u8,u9⟩:=HK.out w5 hx5;clear st5)
  | (at_builtin;refine wpL_put slt_fld (.tmp 86) (.tmp 88) rfl rfl rfl rfl (hs5.ext Xq) hn5 (Sl.src Tryz.underlying34 (n:=1) (rd_newJ _ _ rfl _ _) (by simp) (by omega) (by simp [Value.oneCell']) 1) (by omega) (by simp only [maxLen];omega) ?_;intro A9 c9 w9 o9 hs9 st9 hn9;have hx9:=((old7 (Ext.tr hx5 Xq) ho5 st9 (by omega)).ext:Ext w w9);obtain ⟨u1,u2,u3,u4,u5,u6,u7,u8,u9⟩:=HK.out w9 hx9;clear st9)
  | (go_at_call 63;refine (CW.out _ _ _ hs9.rd (HP.out.ext hx9) (HM.out.ext hx9)).mono ?_;rintro e w8 ⟨v,rfl,⟨A8,c8,rfl,hn8,o8,ho8,hs8⟩,hx8⟩;have ho8:∀ b,b<w.heap.size→o8 b=0:=(fun b hb=>ho8 b (Nat.lt_of_lt_of_le hb (Ext.size' hx9)));have hx8:=(Ext.tr hx9 hx8:Ext w w8);obtain ⟨u1,u2,u3,u4,u5,u6,u7,u8,u9⟩:=HK.out w8 hx8)
  | (at_builtin;refine wpL_put slt_u8 (.tmp 111) (.tmp 115) rfl rfl rfl rfl hs8 hn8 (Sl.src Tryz.underlying22 (HB.out.ext hx8) (by rw [bc_len];omega) (by omega) (bc_one x) _) (by omega) (by simp only [maxLen];omega) ?_;intro A7 c7 w7 o7 hs7 st7 hn7))
 go_ret2
 have h7:=old7 hx8 ho8 st7 (by omega)
 rw [HQ.out]
 exact Ret.mk ⟨A7,c7,by rw [List.length_append];rfl,by rw [bc_app];exact hs7.rd⟩ h7.ext
theorem nWritten_g1 (k c p j:Nat) (s:Cst) (ad:Cad) (t:Ask24) (x:List UInt8) (w:World) (o:Ow) (h:CnX w o k c s ad) (ha:AskAt w o j p t) (hx:t.ans=some x) (hxl:x.length≤100) (hP:Pow w) (hM:Mx w) (hH:t.r.1≠headM) (hz:t.lasting=true) (hz1:s.row.length=1) (hz2:s.reads=false) :
  Calls Tryz.prog 44 #[.pointer (some ⟨c,0,none⟩),.pointer (some ⟨p,0,none⟩)] w (Ret (IsYE (writtenC t (decide (s.row.length=1) && !s.reads) x)) w):=by
 obtain ⟨_,A,ca,Q,hrow,_,hans⟩:=ha
 rw [hx] at hans
 obtain ⟨q,B,cb,rfl,_,hq,hB⟩:=hans
 obtain ⟨m,hm⟩:∃ m,m=str t.r.1:=⟨_,rfl⟩
 obtain ⟨mi,hmi⟩:∃ m,m=t.r.2.2.1:=⟨_,rfl⟩
 obtain ⟨lo,hlo⟩:∃ m,m=t.lasting:=⟨_,rfl⟩
 obtain ⟨rn,hrn⟩:∃ m,m=s.row.length:=⟨_,rfl⟩
 obtain ⟨rd,hrd⟩:∃ m,m=s.reads:=⟨_,rfl⟩
 have HK:=Hy (fun (w':World) (e:Ext w w')=>(show w'.cell? ⟨p,1,none⟩=some (.string m)∧w'.cell? ⟨p,3,none⟩=some (.int .i64 mi)∧w'.cell? ⟨p,5,none⟩=some (.bool lo)∧w'.cell? ⟨p,6,none⟩=some (.pointer (some ⟨q,0,none⟩))∧w'.cell? ⟨q,0,none⟩=some (.int .i64 200)∧w'.cell? ⟨q,1,none⟩=some (.slice none 0 0)∧w'.cell? ⟨q,2,none⟩=some (.slice B x.length cb)∧w'.cell? ⟨c,16,none⟩=some (.slice ad.L rn ad.cl)∧w'.cell? ⟨c,4,none⟩=some (.bool rd) from by
  have h1:=(e.block p (row_lt hrow)).trans hrow
  have h2:=(e.block q (row_lt hq)).trans hq
  have h3:=h.row.ext e
  rw [hm,hmi,hlo,hrn,hrd]
  exact ⟨(row_facts h1 1 _ rfl).1,(row_facts h1 3 _ rfl).1,(row_facts h1 5 _ rfl).1,(row_facts h1 6 _ rfl).1,(row_facts h2 0 _ rfl).1,(row_facts h2 1 _ rfl).1,(row_facts h2 2 _ rfl).1,h3.c16,h3.c4⟩))
 have HP:=Hy hP
 have HM:=Hy hM
 have HB:=Hy hB.rd
 have hok:=fieldsC_ok t (decide (s.row.length=1) && !s.reads) x hxl
 have HQ:=Hy (show writtenC t (decide (s.row.length=1) && !s.reads) x=(rsW 200 (fieldsC t (decide (s.row.length=1) && !s.reads) x)).1++(if t.r.1=headM then [] else x) from rfl)
 obtain ⟨sd,hsd⟩:∃ s,s=decB (x.length:Int):=⟨_,rfl⟩
 have CD:=Hy (fun (w:World) (hP:Pow w)=>(by have:=Digits_c (x.length:Int) w hP (by omega) (by omega);rw [← hsd] at this;exact this:Calls Tryz.prog 18 #[.int .i64 (x.length:Int)] w (Gives (.string sd) w)))
 have hil:=Lib.itoa_length_le (x.length:Int) (by omega) (by omega)
 have hfs:fieldsC t (decide (s.row.length=1) && !s.reads) x=[(clN,Lib.itoa (x.length:Int)),(cnN,clW)]:=by
  unfold fieldsC
  rw [if_neg hH,if_pos (.inr (by rw [hz1,hz2];rfl))]
  rfl
 have hfc:fc [(clN,Lib.itoa (x.length:Int)),(cnN,clW)]=(#[.string ⟨#[67,111,110,116,101,110,116,45,76,101,110,103,116,104]⟩,.string sd,.string ⟨#[67,111,110,110,101,99,116,105,111,110]⟩,.string ⟨#[99,108,111,115,101]⟩]:Array Value).toList:=by rw [hsd];rfl
 have CW:=fun (A:Option Addr) (c:Nat) (w:World) (h:Rd w A (#[.string ⟨#[67,111,110,116,101,110,116,45,76,101,110,103,116,104]⟩,.string sd,.string ⟨#[67,111,110,110,101,99,116,105,111,110]⟩,.string ⟨#[99,108,111,115,101]⟩]:Array Value).toList) (hP:Pow w) (hM:Mx w)=>hWriteRspS_c 200 [(clN,Lib.itoa (x.length:Int)),(cnN,clW)] A 2 c (by omega) (by omega) rfl (by omega) (by
  intro p hp
  simp only [List.mem_cons,List.not_mem_nil,or_false,false_or] at hp
  rcases hp with rfl | rfl
  ·exact ⟨(by show (14:Nat)≤_;omega),(by show (Lib.itoa (x.length:Int)).length≤_;omega)⟩
  ·exact ⟨by decide,by decide⟩) w (by rw [hfc];exact h) hP hM
 obtain ⟨⟨l8,e8⟩,hrs⟩:∃ r,r=rsW 200 [(clN,Lib.itoa (x.length:Int)),(cnN,clW)]:=⟨_,rfl⟩
 have hrl:=rsW_le 200 [(clN,Lib.itoa (x.length:Int)),(cnN,clW)]
 rw [hfs] at HQ hok
 rw [← hrs] at HQ hok CW hrl
 dsimp only at HQ hok hrl
 subst hok
 have HQ:=Hy (show writtenC t (decide (s.row.length=1) && !s.reads) x=l8++x from by rw [HQ.out,if_neg hH])
 have CW:=Hy CW
 have g1:(m.toList == [72,69,65,68])=false:=by rw [hm,beq_eq_false_iff_ne,Lib.toList_data];exact hH
 have g2:¬ m.toList=[72,69,65,68]:=by rw [hm,Lib.toList_data];exact hH
 obtain ⟨R,hR⟩:∃ R,R=writtenC t (decide (s.row.length=1) && !s.reads) x:=⟨_,rfl⟩
 rw [← hR] at HQ ⊢
 obtain rfl:lo=true:=by rw [hlo,hz]
 obtain rfl:rn=1:=by rw [hrn,hz1]
 obtain rfl:rd=false:=by rw [hrd,hz2]
 clear hz hz1 hz2
 clear hfs hfc hrs hsd hil hq hrow hB h hx hm hmi hlo hrn hrd hP hM hR hH
 obtain ⟨v1,v2,v3,v4,v5,v6,v7,v8,v9⟩:=HK.out w (Ext.rfl' w)
 go_enter Tryz.func44,Tryz.ntmps44
 go_wp2_with (first
  | (go_at_call 66;refine (hWithout_none _ _ _ _).mono ?_;rintro e w2 ⟨rfl,hx2⟩;have hx2:=(Ext.tr Xq hx2:Ext w w2);obtain ⟨u1,u2,u3,u4,u5,u6,u7,u8,u9⟩:=HK.out w2 hx2;have hxl:=hx2)
  | (go_at_call 18;refine (CD.out _ (HP.out.ext Xq)).mono ?_;rintro e w3 ⟨rfl,hx3⟩;have hx3:=(Ext.tr Xq hx3:Ext w w3))
  | (at_builtin;refine wpL_fresh slt_fld (.tmp 57) (.tmp 65) rfl rfl (o:=fun _=>0) 7 rfl rfl (Sl.src Tryz.underlying34 (n:=1) (rd_newJ _ _ rfl _ _) (by simp) (by omega) (by simp [Value.oneCell']) 1) (by omega) (by simp only [maxLen];omega) ?_;intro A5 c5 w5 o5 hs5 st5 hn5;have hx5:=(Ext.tr Xq st5.noExt:Ext w w5);have ho5:∀ b,b<w.heap.size→o5 b=0:=(fun b hb=>st5.own b (by have:=Ext.size' hx3;simp;omega));obtain ⟨u1,u2,u3,u4,u5,u6,u7,u8,u9⟩:=HK.out w5 hx5;clear st5)
  | (at_builtin;refine wpL_put slt_fld (.tmp 86) (.tmp 88) rfl rfl rfl rfl (hs5.ext Xq) hn5 (Sl.src Tryz.underlying34 (n:=1) (rd_newJ _ _ rfl _ _) (by simp) (by omega) (by simp [Value.oneCell']) 1) (by omega) (by simp only [maxLen];omega) ?_;intro A9 c9 w9 o9 hs9 st9 hn9;have hx9:=((old7 (Ext.tr hx5 Xq) ho5 st9 (by omega)).ext:Ext w w9);obtain ⟨u1,u2,u3,u4,u5,u6,u7,u8,u9⟩:=HK.out w9 hx9;clear st9)
  | (go_at_call 63;refine (CW.out _ _ _ hs9.rd (HP.out.ext hx9) (HM.out.ext hx9)).mono ?_;rintro e w8 ⟨v,rfl,⟨A8,c8,rfl,hn8,o8,ho8,hs8⟩,hx8⟩;have ho8:∀ b,b<w.heap.size→o8 b=0:=(fun b hb=>ho8 b (Nat.lt_of_lt_of_le hb (Ext.size' hx9)));have hx8:=(Ext.tr hx9 hx8:Ext w w8);obtain ⟨u1,u2,u3,u4,u5,u6,u7,u8,u9⟩:=HK.out w8 hx8)
  | (at_builtin;refine wpL_put slt_u8 (.tmp 111) (.tmp 115) rfl rfl rfl rfl hs8 hn8 (Sl.src Tryz.underlying22 (HB.out.ext hx8) (by rw [bc_len];omega) (by omega) (bc_one x) _) (by omega) (by simp only [maxLen];omega) ?_;intro A7 c7 w7 o7 hs7 st7 hn7))
 go_ret2
 have h7:=old7 hx8 ho8 st7 (by omega)
 rw [HQ.out]
 exact Ret.mk ⟨A7,c7,by rw [List.length_append];rfl,by rw [bc_app];exact hs7.rd⟩ h7.ext
theorem nWritten_g2 (k c p j:Nat) (s:Cst) (ad:Cad) (t:Ask24) (x:List UInt8) (w:World) (o:Ow) (h:CnX w o k c s ad) (ha:AskAt w o j p t) (hx:t.ans=some x) (hxl:x.length≤100) (hP:Pow w) (hM:Mx w) (hH:t.r.1≠headM) (hz:t.lasting=true) (hz1:(decide (s.row.length=1) && !s.reads)=false) (hz2:t.r.2.2.1=0) :
  Calls Tryz.prog 44 #[.pointer (some ⟨c,0,none⟩),.pointer (some ⟨p,0,none⟩)] w (Ret (IsYE (writtenC t (decide (s.row.length=1) && !s.reads) x)) w):=by
 obtain ⟨_,A,ca,Q,hrow,_,hans⟩:=ha
 rw [hx] at hans
 obtain ⟨q,B,cb,rfl,_,hq,hB⟩:=hans
 obtain ⟨m,hm⟩:∃ m,m=str t.r.1:=⟨_,rfl⟩
 obtain ⟨mi,hmi⟩:∃ m,m=t.r.2.2.1:=⟨_,rfl⟩
 obtain ⟨lo,hlo⟩:∃ m,m=t.lasting:=⟨_,rfl⟩
 obtain ⟨rn,hrn⟩:∃ m,m=s.row.length:=⟨_,rfl⟩
 obtain ⟨rd,hrd⟩:∃ m,m=s.reads:=⟨_,rfl⟩
 have HK:=Hy (fun (w':World) (e:Ext w w')=>(show w'.cell? ⟨p,1,none⟩=some (.string m)∧w'.cell? ⟨p,3,none⟩=some (.int .i64 mi)∧w'.cell? ⟨p,5,none⟩=some (.bool lo)∧w'.cell? ⟨p,6,none⟩=some (.pointer (some ⟨q,0,none⟩))∧w'.cell? ⟨q,0,none⟩=some (.int .i64 200)∧w'.cell? ⟨q,1,none⟩=some (.slice none 0 0)∧w'.cell? ⟨q,2,none⟩=some (.slice B x.length cb)∧w'.cell? ⟨c,16,none⟩=some (.slice ad.L rn ad.cl)∧w'.cell? ⟨c,4,none⟩=some (.bool rd) from by
  have h1:=(e.block p (row_lt hrow)).trans hrow
  have h2:=(e.block q (row_lt hq)).trans hq
  have h3:=h.row.ext e
  rw [hm,hmi,hlo,hrn,hrd]
  exact ⟨(row_facts h1 1 _ rfl).1,(row_facts h1 3 _ rfl).1,(row_facts h1 5 _ rfl).1,(row_facts h1 6 _ rfl).1,(row_facts h2 0 _ rfl).1,(row_facts h2 1 _ rfl).1,(row_facts h2 2 _ rfl).1,h3.c16,h3.c4⟩))
 have HP:=Hy hP
 have HM:=Hy hM
 have HB:=Hy hB.rd
 have hok:=fieldsC_ok t (decide (s.row.length=1) && !s.reads) x hxl
 have HQ:=Hy (show writtenC t (decide (s.row.length=1) && !s.reads) x=(rsW 200 (fieldsC t (decide (s.row.length=1) && !s.reads) x)).1++(if t.r.1=headM then [] else x) from rfl)
 obtain ⟨sd,hsd⟩:∃ s,s=decB (x.length:Int):=⟨_,rfl⟩
 have CD:=Hy (fun (w:World) (hP:Pow w)=>(by have:=Digits_c (x.length:Int) w hP (by omega) (by omega);rw [← hsd] at this;exact this:Calls Tryz.prog 18 #[.int .i64 (x.length:Int)] w (Gives (.string sd) w)))
 have hil:=Lib.itoa_length_le (x.length:Int) (by omega) (by omega)
 have hfs:fieldsC t (decide (s.row.length=1) && !s.reads) x=[(clN,Lib.itoa (x.length:Int)),(cnN,kaW)]:=by
  unfold fieldsC
  rw [if_neg hH,if_neg (by rw [hz,hz1];simp),if_pos hz2]
  rfl
 have hfc:fc [(clN,Lib.itoa (x.length:Int)),(cnN,kaW)]=(#[.string ⟨#[67,111,110,116,101,110,116,45,76,101,110,103,116,104]⟩,.string sd,.string ⟨#[67,111,110,110,101,99,116,105,111,110]⟩,.string ⟨#[107,101,101,112,45,97,108,105,118,101]⟩]:Array Value).toList:=by rw [hsd];rfl
 have CW:=fun (A:Option Addr) (c:Nat) (w:World) (h:Rd w A (#[.string ⟨#[67,111,110,116,101,110,116,45,76,101,110,103,116,104]⟩,.string sd,.string ⟨#[67,111,110,110,101,99,116,105,111,110]⟩,.string ⟨#[107,101,101,112,45,97,108,105,118,101]⟩]:Array Value).toList) (hP:Pow w) (hM:Mx w)=>hWriteRspS_c 200 [(clN,Lib.itoa (x.length:Int)),(cnN,kaW)] A 2 c (by omega) (by omega) rfl (by omega) (by
  intro p hp
  simp only [List.mem_cons,List.not_mem_nil,or_false,false_or] at hp
  rcases hp with rfl | rfl
  ·exact ⟨(by show (14:Nat)≤_;omega),(by show (Lib.itoa (x.length:Int)).length≤_;omega)⟩
  ·exact ⟨by decide,by decide⟩) w (by rw [hfc];exact h) hP hM
 obtain ⟨⟨l8,e8⟩,hrs⟩:∃ r,r=rsW 200 [(clN,Lib.itoa (x.length:Int)),(cnN,kaW)]:=⟨_,rfl⟩
 have hrl:=rsW_le 200 [(clN,Lib.itoa (x.length:Int)),(cnN,kaW)]
 rw [hfs] at HQ hok
 rw [← hrs] at HQ hok CW hrl
 dsimp only at HQ hok hrl
 subst hok
 have HQ:=Hy (show writtenC t (decide (s.row.length=1) && !s.reads) x=l8++x from by rw [HQ.out,if_neg hH])
 have CW:=Hy CW
 have g1:(m.toList == [72,69,65,68])=false:=by rw [hm,beq_eq_false_iff_ne,Lib.toList_data];exact hH
 have g2:¬ m.toList=[72,69,65,68]:=by rw [hm,Lib.toList_data];exact hH
 obtain ⟨R,hR⟩:∃ R,R=writtenC t (decide (s.row.length=1) && !s.reads) x:=⟨_,rfl⟩
 rw [← hR] at HQ ⊢
 obtain rfl:lo=true:=by rw [hlo,hz]
 have HZ1:Hid ((decide (rn=1) && !rd)=false):=Hy (by rw [hrn,hrd];exact hz1)
 obtain rfl:mi=0:=by rw [hmi,hz2]
 clear hz hz1 hz2
 clear hfs hfc hrs hsd hil hq hrow hB h hx hm hmi hlo hrn hrd hP hM hR hH
 by_cases r1:rn=1
 ·subst r1
  obtain rfl:rd=true:=by have:=HZ1.out;simpa using this
  clear HZ1
  obtain ⟨v1,v2,v3,v4,v5,v6,v7,v8,v9⟩:=HK.out w (Ext.rfl' w)
  go_enter Tryz.func44,Tryz.ntmps44
  go_wp2_with (first
   | (go_at_call 66;refine (hWithout_none _ _ _ _).mono ?_;rintro e w2 ⟨rfl,hx2⟩;have hx2:=(Ext.tr Xq hx2:Ext w w2);obtain ⟨u1,u2,u3,u4,u5,u6,u7,u8,u9⟩:=HK.out w2 hx2;have hxl:=hx2)
   | (go_at_call 18;refine (CD.out _ (HP.out.ext Xq)).mono ?_;rintro e w3 ⟨rfl,hx3⟩;have hx3:=(Ext.tr Xq hx3:Ext w w3))
   | (at_builtin;refine wpL_fresh slt_fld (.tmp 57) (.tmp 65) rfl rfl (o:=fun _=>0) 7 rfl rfl (Sl.src Tryz.underlying34 (n:=1) (rd_newJ _ _ rfl _ _) (by simp) (by omega) (by simp [Value.oneCell']) 1) (by omega) (by simp only [maxLen];omega) ?_;intro A5 c5 w5 o5 hs5 st5 hn5;have hx5:=(Ext.tr Xq st5.noExt:Ext w w5);have ho5:∀ b,b<w.heap.size→o5 b=0:=(fun b hb=>st5.own b (by have:=Ext.size' hx3;simp;omega));obtain ⟨u1,u2,u3,u4,u5,u6,u7,u8,u9⟩:=HK.out w5 hx5;clear st5)
   | (at_builtin;refine wpL_put slt_fld (.tmp 97) (.tmp 99) rfl rfl rfl rfl (hs5.ext Xq) hn5 (Sl.src Tryz.underlying34 (n:=1) (rd_newJ _ _ rfl _ _) (by simp) (by omega) (by simp [Value.oneCell']) 1) (by omega) (by simp only [maxLen];omega) ?_;intro A9 c9 w9 o9 hs9 st9 hn9;have hx9:=((old7 (Ext.tr hx5 Xq) ho5 st9 (by omega)).ext:Ext w w9);obtain ⟨u1,u2,u3,u4,u5,u6,u7,u8,u9⟩:=HK.out w9 hx9;clear st9)
   | (go_at_call 63;refine (CW.out _ _ _ hs9.rd (HP.out.ext hx9) (HM.out.ext hx9)).mono ?_;rintro e w8 ⟨v,rfl,⟨A8,c8,rfl,hn8,o8,ho8,hs8⟩,hx8⟩;have ho8:∀ b,b<w.heap.size→o8 b=0:=(fun b hb=>ho8 b (Nat.lt_of_lt_of_le hb (Ext.size' hx9)));have hx8:=(Ext.tr hx9 hx8:Ext w w8);obtain ⟨u1,u2,u3,u4,u5,u6,u7,u8,u9⟩:=HK.out w8 hx8)
   | (at_builtin;refine wpL_put slt_u8 (.tmp 111) (.tmp 115) rfl rfl rfl rfl hs8 hn8 (Sl.src Tryz.underlying22 (HB.out.ext hx8) (by rw [bc_len];omega) (by omega) (bc_one x) _) (by omega) (by simp only [maxLen];omega) ?_;intro A7 c7 w7 o7 hs7 st7 hn7))
  go_ret2
  have h7:=old7 hx8 ho8 st7 (by omega)
  rw [HQ.out]
  exact Ret.mk ⟨A7,c7,by rw [List.length_append];rfl,by rw [bc_app];exact hs7.rd⟩ h7.ext
 ·have d1:((rn:Int) == 1)=false:=by rw [beq_eq_false_iff_ne];omega
  clear HZ1 r1
  obtain ⟨v1,v2,v3,v4,v5,v6,v7,v8,v9⟩:=HK.out w (Ext.rfl' w)
  go_enter Tryz.func44,Tryz.ntmps44
  go_wp2_with (first
   | (go_at_call 66;refine (hWithout_none _ _ _ _).mono ?_;rintro e w2 ⟨rfl,hx2⟩;have hx2:=(Ext.tr Xq hx2:Ext w w2);obtain ⟨u1,u2,u3,u4,u5,u6,u7,u8,u9⟩:=HK.out w2 hx2;have hxl:=hx2)
   | (go_at_call 18;refine (CD.out _ (HP.out.ext Xq)).mono ?_;rintro e w3 ⟨rfl,hx3⟩;have hx3:=(Ext.tr Xq hx3:Ext w w3))
   | (at_builtin;refine wpL_fresh slt_fld (.tmp 57) (.tmp 65) rfl rfl (o:=fun _=>0) 7 rfl rfl (Sl.src Tryz.underlying34 (n:=1) (rd_newJ _ _ rfl _ _) (by simp) (by omega) (by simp [Value.oneCell']) 1) (by omega) (by simp only [maxLen];omega) ?_;intro A5 c5 w5 o5 hs5 st5 hn5;have hx5:=(Ext.tr Xq st5.noExt:Ext w w5);have ho5:∀ b,b<w.heap.size→o5 b=0:=(fun b hb=>st5.own b (by have:=Ext.size' hx3;simp;omega));obtain ⟨u1,u2,u3,u4,u5,u6,u7,u8,u9⟩:=HK.out w5 hx5;clear st5)
   | (at_builtin;refine wpL_put slt_fld (.tmp 97) (.tmp 99) rfl rfl rfl rfl (hs5.ext Xq) hn5 (Sl.src Tryz.underlying34 (n:=1) (rd_newJ _ _ rfl _ _) (by simp) (by omega) (by simp [Value.oneCell']) 1) (by omega) (by simp only [maxLen];omega) ?_;intro A9 c9 w9 o9 hs9 st9 hn9;have hx9:=((old7 (Ext.tr hx5 Xq) ho5 st9 (by omega)).ext:Ext w w9);obtain ⟨u1,u2,u3,u4,u5,u6,u7,u8,u9⟩:=HK.out w9 hx9;clear st9)
   | (go_at_call 63;refine (CW.out _ _ _ hs9.rd (HP.out.ext hx9) (HM.out.ext hx9)).mono ?_;rintro e w8 ⟨v,rfl,⟨A8,c8,rfl,hn8,o8,ho8,hs8⟩,hx8⟩;have ho8:∀ b,b<w.heap.size→o8 b=0:=(fun b hb=>ho8 b (Nat.lt_of_lt_of_le hb (Ext.size' hx9)));have hx8:=(Ext.tr hx9 hx8:Ext w w8);obtain ⟨u1,u2,u3,u4,u5,u6,u7,u8,u9⟩:=HK.out w8 hx8)
   | (at_builtin;refine wpL_put slt_u8 (.tmp 111) (.tmp 115) rfl rfl rfl rfl hs8 hn8 (Sl.src Tryz.underlying22 (HB.out.ext hx8) (by rw [bc_len];omega) (by omega) (bc_one x) _) (by omega) (by simp only [maxLen];omega) ?_;intro A7 c7 w7 o7 hs7 st7 hn7))
  go_ret2
  have h7:=old7 hx8 ho8 st7 (by omega)
  rw [HQ.out]
  exact Ret.mk ⟨A7,c7,by rw [List.length_append];rfl,by rw [bc_app];exact hs7.rd⟩ h7.ext
theorem nWritten_g3 (k c p j:Nat) (s:Cst) (ad:Cad) (t:Ask24) (x:List UInt8) (w:World) (o:Ow) (h:CnX w o k c s ad) (ha:AskAt w o j p t) (hx:t.ans=some x) (hxl:x.length≤100) (hP:Pow w) (hM:Mx w) (hH:t.r.1≠headM) (hz:t.lasting=true) (hz1:(decide (s.row.length=1) && !s.reads)=false) (hz2:t.r.2.2.1≠0) :
  Calls Tryz.prog 44 #[.pointer (some ⟨c,0,none⟩),.pointer (some ⟨p,0,none⟩)] w (Ret (IsYE (writtenC t (decide (s.row.length=1) && !s.reads) x)) w):=by
 obtain ⟨_,A,ca,Q,hrow,_,hans⟩:=ha
 rw [hx] at hans
 obtain ⟨q,B,cb,rfl,_,hq,hB⟩:=hans
 obtain ⟨m,hm⟩:∃ m,m=str t.r.1:=⟨_,rfl⟩
 obtain ⟨mi,hmi⟩:∃ m,m=t.r.2.2.1:=⟨_,rfl⟩
 obtain ⟨lo,hlo⟩:∃ m,m=t.lasting:=⟨_,rfl⟩
 obtain ⟨rn,hrn⟩:∃ m,m=s.row.length:=⟨_,rfl⟩
 obtain ⟨rd,hrd⟩:∃ m,m=s.reads:=⟨_,rfl⟩
 have HK:=Hy (fun (w':World) (e:Ext w w')=>(show w'.cell? ⟨p,1,none⟩=some (.string m)∧w'.cell? ⟨p,3,none⟩=some (.int .i64 mi)∧w'.cell? ⟨p,5,none⟩=some (.bool lo)∧w'.cell? ⟨p,6,none⟩=some (.pointer (some ⟨q,0,none⟩))∧w'.cell? ⟨q,0,none⟩=some (.int .i64 200)∧w'.cell? ⟨q,1,none⟩=some (.slice none 0 0)∧w'.cell? ⟨q,2,none⟩=some (.slice B x.length cb)∧w'.cell? ⟨c,16,none⟩=some (.slice ad.L rn ad.cl)∧w'.cell? ⟨c,4,none⟩=some (.bool rd) from by
  have h1:=(e.block p (row_lt hrow)).trans hrow
  have h2:=(e.block q (row_lt hq)).trans hq
  have h3:=h.row.ext e
  rw [hm,hmi,hlo,hrn,hrd]
  exact ⟨(row_facts h1 1 _ rfl).1,(row_facts h1 3 _ rfl).1,(row_facts h1 5 _ rfl).1,(row_facts h1 6 _ rfl).1,(row_facts h2 0 _ rfl).1,(row_facts h2 1 _ rfl).1,(row_facts h2 2 _ rfl).1,h3.c16,h3.c4⟩))
 have HP:=Hy hP
 have HM:=Hy hM
 have HB:=Hy hB.rd
 have hok:=fieldsC_ok t (decide (s.row.length=1) && !s.reads) x hxl
 have HQ:=Hy (show writtenC t (decide (s.row.length=1) && !s.reads) x=(rsW 200 (fieldsC t (decide (s.row.length=1) && !s.reads) x)).1++(if t.r.1=headM then [] else x) from rfl)
 obtain ⟨sd,hsd⟩:∃ s,s=decB (x.length:Int):=⟨_,rfl⟩
 have CD:=Hy (fun (w:World) (hP:Pow w)=>(by have:=Digits_c (x.length:Int) w hP (by omega) (by omega);rw [← hsd] at this;exact this:Calls Tryz.prog 18 #[.int .i64 (x.length:Int)] w (Gives (.string sd) w)))
 have hil:=Lib.itoa_length_le (x.length:Int) (by omega) (by omega)
 have hfs:fieldsC t (decide (s.row.length=1) && !s.reads) x=[(clN,Lib.itoa (x.length:Int))]:=by
  unfold fieldsC
  rw [if_neg hH,if_neg (by rw [hz,hz1];simp),if_neg hz2]
  rfl
 have hfc:fc [(clN,Lib.itoa (x.length:Int))]=(#[.string ⟨#[67,111,110,116,101,110,116,45,76,101,110,103,116,104]⟩,.string sd]:Array Value).toList:=by rw [hsd];rfl
 have CW:=fun (A:Option Addr) (c:Nat) (w:World) (h:Rd w A (#[.string ⟨#[67,111,110,116,101,110,116,45,76,101,110,103,116,104]⟩,.string sd]:Array Value).toList) (hP:Pow w) (hM:Mx w)=>hWriteRspS_c 200 [(clN,Lib.itoa (x.length:Int))] A 1 c (by omega) (by omega) rfl (by omega) (by
  intro p hp
  simp only [List.mem_cons,List.not_mem_nil,or_false,false_or] at hp
  subst hp
  exact ⟨(by show (14:Nat)≤_;omega),(by show (Lib.itoa (x.length:Int)).length≤_;omega)⟩) w (by rw [hfc];exact h) hP hM
 obtain ⟨⟨l8,e8⟩,hrs⟩:∃ r,r=rsW 200 [(clN,Lib.itoa (x.length:Int))]:=⟨_,rfl⟩
 have hrl:=rsW_le 200 [(clN,Lib.itoa (x.length:Int))]
 rw [hfs] at HQ hok
 rw [← hrs] at HQ hok CW hrl
 dsimp only at HQ hok hrl
 subst hok
 have HQ:=Hy (show writtenC t (decide (s.row.length=1) && !s.reads) x=l8++x from by rw [HQ.out,if_neg hH])
 have CW:=Hy CW
 have g1:(m.toList == [72,69,65,68])=false:=by rw [hm,beq_eq_false_iff_ne,Lib.toList_data];exact hH
 have g2:¬ m.toList=[72,69,65,68]:=by rw [hm,Lib.toList_data];exact hH
 obtain ⟨R,hR⟩:∃ R,R=writtenC t (decide (s.row.length=1) && !s.reads) x:=⟨_,rfl⟩
 rw [← hR] at HQ ⊢
 obtain rfl:lo=true:=by rw [hlo,hz]
 have HZ1:Hid ((decide (rn=1) && !rd)=false):=Hy (by rw [hrn,hrd];exact hz1)
 have d0:(mi == 0)=false:=by rw [beq_eq_false_iff_ne,hmi];exact hz2
 clear hz hz1 hz2
 clear hfs hfc hrs hsd hil hq hrow hB h hx hm hmi hlo hrn hrd hP hM hR hH
 by_cases r1:rn=1
 ·subst r1
  obtain rfl:rd=true:=by have:=HZ1.out;simpa using this
  clear HZ1
  obtain ⟨v1,v2,v3,v4,v5,v6,v7,v8,v9⟩:=HK.out w (Ext.rfl' w)
  go_enter Tryz.func44,Tryz.ntmps44
  go_wp2_with (first
   | (go_at_call 66;refine (hWithout_none _ _ _ _).mono ?_;rintro e w2 ⟨rfl,hx2⟩;have hx2:=(Ext.tr Xq hx2:Ext w w2);obtain ⟨u1,u2,u3,u4,u5,u6,u7,u8,u9⟩:=HK.out w2 hx2;have hxl:=hx2)
   | (go_at_call 18;refine (CD.out _ (HP.out.ext Xq)).mono ?_;rintro e w3 ⟨rfl,hx3⟩;have hx3:=(Ext.tr Xq hx3:Ext w w3))
   | (at_builtin;refine wpL_fresh slt_fld (.tmp 57) (.tmp 65) rfl rfl (o:=fun _=>0) 7 rfl rfl (Sl.src Tryz.underlying34 (n:=1) (rd_newJ _ _ rfl _ _) (by simp) (by omega) (by simp [Value.oneCell']) 1) (by omega) (by simp only [maxLen];omega) ?_;intro A5 c5 w5 o5 hs5 st5 hn5;have hx5:=(Ext.tr Xq st5.noExt:Ext w w5);have ho5:∀ b,b<w.heap.size→o5 b=0:=(fun b hb=>st5.own b (by have:=Ext.size' hx3;simp;omega));obtain ⟨u1,u2,u3,u4,u5,u6,u7,u8,u9⟩:=HK.out w5 hx5;clear st5)
   | (go_at_call 63;refine (CW.out _ _ _ hs5.rd (HP.out.ext hx5) (HM.out.ext hx5)).mono ?_;rintro e w8 ⟨v,rfl,⟨A8,c8,rfl,hn8,o8,ho8,hs8⟩,hx8⟩;have ho8:∀ b,b<w.heap.size→o8 b=0:=(fun b hb=>ho8 b (Nat.lt_of_lt_of_le hb (Ext.size' hx5)));have hx8:=(Ext.tr hx5 hx8:Ext w w8);obtain ⟨u1,u2,u3,u4,u5,u6,u7,u8,u9⟩:=HK.out w8 hx8)
   | (at_builtin;refine wpL_put slt_u8 (.tmp 111) (.tmp 115) rfl rfl rfl rfl hs8 hn8 (Sl.src Tryz.underlying22 (HB.out.ext hx8) (by rw [bc_len];omega) (by omega) (bc_one x) _) (by omega) (by simp only [maxLen];omega) ?_;intro A7 c7 w7 o7 hs7 st7 hn7))
  go_ret2
  have h7:=old7 hx8 ho8 st7 (by omega)
  rw [HQ.out]
  exact Ret.mk ⟨A7,c7,by rw [List.length_append];rfl,by rw [bc_app];exact hs7.rd⟩ h7.ext
 ·have d1:((rn:Int) == 1)=false:=by rw [beq_eq_false_iff_ne];omega
  clear HZ1 r1
  obtain ⟨v1,v2,v3,v4,v5,v6,v7,v8,v9⟩:=HK.out w (Ext.rfl' w)
  go_enter Tryz.func44,Tryz.ntmps44
  go_wp2_with (first
   | (go_at_call 66;refine (hWithout_none _ _ _ _).mono ?_;rintro e w2 ⟨rfl,hx2⟩;have hx2:=(Ext.tr Xq hx2:Ext w w2);obtain ⟨u1,u2,u3,u4,u5,u6,u7,u8,u9⟩:=HK.out w2 hx2;have hxl:=hx2)
   | (go_at_call 18;refine (CD.out _ (HP.out.ext Xq)).mono ?_;rintro e w3 ⟨rfl,hx3⟩;have hx3:=(Ext.tr Xq hx3:Ext w w3))
   | (at_builtin;refine wpL_fresh slt_fld (.tmp 57) (.tmp 65) rfl rfl (o:=fun _=>0) 7 rfl rfl (Sl.src Tryz.underlying34 (n:=1) (rd_newJ _ _ rfl _ _) (by simp) (by omega) (by simp [Value.oneCell']) 1) (by omega) (by simp only [maxLen];omega) ?_;intro A5 c5 w5 o5 hs5 st5 hn5;have hx5:=(Ext.tr Xq st5.noExt:Ext w w5);have ho5:∀ b,b<w.heap.size→o5 b=0:=(fun b hb=>st5.own b (by have:=Ext.size' hx3;simp;omega));obtain ⟨u1,u2,u3,u4,u5,u6,u7,u8,u9⟩:=HK.out w5 hx5;clear st5)
   | (go_at_call 63;refine (CW.out _ _ _ hs5.rd (HP.out.ext hx5) (HM.out.ext hx5)).mono ?_;rintro e w8 ⟨v,rfl,⟨A8,c8,rfl,hn8,o8,ho8,hs8⟩,hx8⟩;have ho8:∀ b,b<w.heap.size→o8 b=0:=(fun b hb=>ho8 b (Nat.lt_of_lt_of_le hb (Ext.size' hx5)));have hx8:=(Ext.tr hx5 hx8:Ext w w8);obtain ⟨u1,u2,u3,u4,u5,u6,u7,u8,u9⟩:=HK.out w8 hx8)
   | (at_builtin;refine wpL_put slt_u8 (.tmp 111) (.tmp 115) rfl rfl rfl rfl hs8 hn8 (Sl.src Tryz.underlying22 (HB.out.ext hx8) (by rw [bc_len];omega) (by omega) (bc_one x) _) (by omega) (by simp only [maxLen];omega) ?_;intro A7 c7 w7 o7 hs7 st7 hn7))
  go_ret2
  have h7:=old7 hx8 ho8 st7 (by omega)
  rw [HQ.out]
  exact Ret.mk ⟨A7,c7,by rw [List.length_append];rfl,by rw [bc_app];exact hs7.rd⟩ h7.ext
theorem nWritten_c (k c p j:Nat) (s:Cst) (ad:Cad) (t:Ask24) (x:List UInt8) (w:World) (o:Ow) (h:CnX w o k c s ad) (ha:AskAt w o j p t) (hx:t.ans=some x) (hxl:x.length≤100) (hP:Pow w) (hM:Mx w) :
  Calls Tryz.prog 44 #[.pointer (some ⟨c,0,none⟩),.pointer (some ⟨p,0,none⟩)] w (Ret (IsYE (writtenC t (decide (s.row.length=1) && !s.reads) x)) w):=by
 by_cases hH:t.r.1=headM
 ·cases hl:t.lasting with
  | false=>exact nWritten_h0 k c p j s ad t x w o h ha hx hxl hP hM hH hl
  | true =>
   cases ho:(decide (s.row.length=1) && !s.reads) with
   | true=>rw [Bool.and_eq_true,decide_eq_true_eq] at ho;rw [← show (decide (s.row.length=1) && !s.reads)=true from by rw [ho.1,ho.2];rfl];exact nWritten_h1 k c p j s ad t x w o h ha hx hxl hP hM hH hl ho.1 (by simpa using ho.2)
   | false =>
    rw [← ho]
    by_cases hm:t.r.2.2.1=0
    ·exact nWritten_h2 k c p j s ad t x w o h ha hx hxl hP hM hH hl ho hm
    ·exact nWritten_h3 k c p j s ad t x w o h ha hx hxl hP hM hH hl ho hm
 ·cases hl:t.lasting with
  | false=>exact nWritten_g0 k c p j s ad t x w o h ha hx hxl hP hM hH hl
  | true =>
   cases ho:(decide (s.row.length=1) && !s.reads) with
   | true=>rw [Bool.and_eq_true,decide_eq_true_eq] at ho;rw [← show (decide (s.row.length=1) && !s.reads)=true from by rw [ho.1,ho.2];rfl];exact nWritten_g1 k c p j s ad t x w o h ha hx hxl hP hM hH hl ho.1 (by simpa using ho.2)
   | false =>
    rw [← ho]
    by_cases hm:t.r.2.2.1=0
    ·exact nWritten_g2 k c p j s ad t x w o h ha hx hxl hP hM hH hl ho hm
    ·exact nWritten_g3 k c p j s ad t x w o h ha hx hxl hP hM hH hl ho hm
end Go.Proofs.YthbofilcnpdghaaGreatDoor
