/- A part of the proofs of the Top laws. -/
import Derived.Test.YthomjcjnalfipaaGreatDoorYB13
set_option linter.all false
set_option maxRecDepth 100000
set_option maxHeartbeats 1600000
open Go.Lib (hid)
namespace Go.Proofs.YthomjcjnalfipaaGreatDoor
open Go.RowKit
def setOut (err:Int) (s:List Sp):List Sp×Int:=if err≠0 then ([],err) else if 200<s.length then ([],5) else (s,0)
theorem setOut_bad {err:Int} {s:List Sp} (h:err≠0):setOut err s=([],err):=by unfold setOut;rw[if_pos h]
theorem setOut_big {s:List Sp} (h:200<s.length):setOut 0 s=([],5):=by unfold setOut;rw[if_neg (by simp),if_pos h]
theorem setOut_ok {s:List Sp} (h:¬ 200<s.length):setOut 0 s=(s,0):=by unfold setOut;rw[if_neg (by simp),if_neg h]
abbrev SetO (base:Nat) (p:List Sp×Int) (w':World) (e:Ending):Prop:=SetF base p.1 p.2 w' e
theorem SetF.pair {base:Nat} {p:List Sp×Int} {s:List Sp} {er:Int} {w':World} {e:Ending} (h:p=(s,er)) (k:SetF base s er w' e):SetF base p.1 p.2 w' e:=by rw[h];exact k
theorem good_ok {l:List Sp} (h:Good l):∀ x∈l,okSp x:=fun x hx=>h.rng x hx
theorem wrongSets_two {a b:List Sp} (h:wrongSets [a,b]=0):wrongSet a=0/\wrongSet b=0:=by
 have:=wrongSets_zero h;exact⟨this a (by simp),this b (by simp)⟩
theorem NotF_any (A:Option Addr) (n c:Nat) (a:List Sp) (w:World) (hA:Spans w A n c a) :
  Calls Tryz.prog 116 #[.slice A n c] w fun e w'=>SetO w.heap.size (setOut (wrongSets [a]) (notL a)) w' e/\Ext w w':=by
 have e1:=(Ext.refl w).alloc (.cells #[.slice A n c] 23);have HC:=hid (setsRight_any _ 1 1 [a] _ (sets_one 23 hA) (by omega));by_cases hz:wrongSets [a]=0
 ·rw[hz] at HC ⊢;have G:=good_of (by rw[wrongSets_one] at hz;exact hz);have HN:=hid (fun W (e:Ext w W)=>not_any A n c a W (hA.ext e) G);clear hz;by_cases hbig:200<(notL a).length
  ·have HV:=hid (setOut_big hbig);go_enter Tryz.func116,Tryz.ntmps116
   go_wp2_with (first
    | (go_at_call 142;refine HC.out.mono ?_;rintro e w1 ⟨rfl,x1⟩;have ex1:=e1.trans x1)
    | (go_at_call 147;refine (HN.out _ ex1).mono ?_;rintro e w2 ⟨v,rfl,ov,x2⟩;obtain⟨A3,c3,rfl,s3⟩:=(ov.mono ex1.size).sl;have e3:=ex1.trans x2)
    | (go_at_call 62;refine (fit_big A3 _ c3 _ hbig s3.cap s3.max).mono ?_;rintro e w' ⟨rfl,rfl⟩))
   go_ret2;exact⟨SetF.pair HV.out (SetF.no rfl rfl),e3⟩
  ·have HV:=hid (setOut_ok hbig);go_enter Tryz.func116,Tryz.ntmps116
   go_wp2_with (first
    | (go_at_call 142;refine HC.out.mono ?_;rintro e w1 ⟨rfl,x1⟩;have ex1:=e1.trans x1)
    | (go_at_call 147;refine (HN.out _ ex1).mono ?_;rintro e w2 ⟨v,rfl,ov,x2⟩;obtain⟨A3,c3,rfl,s3⟩:=(ov.mono ex1.size).sl;have e3:=ex1.trans x2)
    | (go_at_call 62;refine (fit_small A3 _ c3 _ hbig).mono ?_;rintro e w' ⟨rfl,rfl⟩))
   go_ret2;exact⟨SetF.pair HV.out ⟨A3,c3,rfl,s3⟩,e3⟩
 ·have HV:=hid (setOut_bad (s:=notL a) hz);have hb:(wrongSets [a] != 0)=true:=by simpa using hz
  clear hz;generalize wrongSets [a]=q at *;go_enter Tryz.func116,Tryz.ntmps116;go_wp2_with (go_at_call 142;refine HC.out.mono ?_;rintro e w1 ⟨rfl,x1⟩);go_ret2;exact⟨SetF.pair HV.out (SetF.no rfl rfl),e1.trans x1⟩
theorem MeetF_any (A:Option Addr) (n c:Nat) (a:List Sp) (B:Option Addr) (m d:Nat) (b:List Sp) (w:World) (hA:Spans w A n c a) (hB:Spans w B m d b) :
  Calls Tryz.prog 113 #[.slice A n c,.slice B m d] w fun e w'=>SetO w.heap.size (setOut (wrongSets [a,b]) (meetL a b)) w' e/\Ext w w':=by
 have e1:=(Ext.refl w).alloc (.cells #[.slice A n c,.slice B m d] 23);have HC:=hid (setsRight_any _ 2 2 [a,b] _ (sets_two 23 hA hB) (by omega));by_cases hz:wrongSets [a,b]=0
 ·rw[hz] at HC ⊢;have G1:=good_of (wrongSets_two hz).1;have G2:=good_of (wrongSets_two hz).2;have n1:n<=200:=by rw[<- hA.len];exact G1.len
  have n2:m<=200:=by rw[<- hB.len];exact G2.len
  have HM:=hid (fun W (e:Ext w W)=>meet_any A n c a B m d b W (hA.ext e) (hB.ext e) (good_ok G1) (good_ok G2) (by omega) (by omega));clear hz;by_cases hbig:200<(meetL a b).length
  ·have HV:=hid (setOut_big hbig);go_enter Tryz.func113,Tryz.ntmps113
   go_wp2_with (first
    | (go_at_call 142;refine HC.out.mono ?_;rintro e w1 ⟨rfl,x1⟩;have ex1:=e1.trans x1)
    | (go_at_call 146;refine (HM.out _ ex1).mono ?_;rintro e w2 ⟨v,rfl,ov,x2⟩;obtain⟨A3,c3,rfl,s3⟩:=(ov.mono ex1.size).sl;have e3:=ex1.trans x2)
    | (go_at_call 62;refine (fit_big A3 _ c3 _ hbig s3.cap s3.max).mono ?_;rintro e w' ⟨rfl,rfl⟩))
   go_ret2;exact⟨SetF.pair HV.out (SetF.no rfl rfl),e3⟩
  ·have HV:=hid (setOut_ok hbig);go_enter Tryz.func113,Tryz.ntmps113
   go_wp2_with (first
    | (go_at_call 142;refine HC.out.mono ?_;rintro e w1 ⟨rfl,x1⟩;have ex1:=e1.trans x1)
    | (go_at_call 146;refine (HM.out _ ex1).mono ?_;rintro e w2 ⟨v,rfl,ov,x2⟩;obtain⟨A3,c3,rfl,s3⟩:=(ov.mono ex1.size).sl;have e3:=ex1.trans x2)
    | (go_at_call 62;refine (fit_small A3 _ c3 _ hbig).mono ?_;rintro e w' ⟨rfl,rfl⟩))
   go_ret2;exact⟨SetF.pair HV.out ⟨A3,c3,rfl,s3⟩,e3⟩
 ·have HV:=hid (setOut_bad (s:=meetL a b) hz);have hb:(wrongSets [a,b] != 0)=true:=by simpa using hz
  clear hz;generalize wrongSets [a,b]=q at *;go_enter Tryz.func113,Tryz.ntmps113;go_wp2_with (go_at_call 142;refine HC.out.mono ?_;rintro e w1 ⟨rfl,x1⟩);go_ret2;exact⟨SetF.pair HV.out (SetF.no rfl rfl),e1.trans x1⟩
theorem MinusF_any (A:Option Addr) (n c:Nat) (a:List Sp) (B:Option Addr) (m d:Nat) (b:List Sp) (w:World) (hA:Spans w A n c a) (hB:Spans w B m d b) :
  Calls Tryz.prog 114 #[.slice A n c,.slice B m d] w fun e w'=>SetO w.heap.size (setOut (wrongSets [a,b]) (meetL a (notL b))) w' e/\Ext w w':=by
 have e1:=(Ext.refl w).alloc (.cells #[.slice A n c,.slice B m d] 23);have HC:=hid (setsRight_any _ 2 2 [a,b] _ (sets_two 23 hA hB) (by omega));by_cases hz:wrongSets [a,b]=0
 ·rw[hz] at HC ⊢;have G1:=good_of (wrongSets_two hz).1;have G2:=good_of (wrongSets_two hz).2;have n1:n<=200:=by rw[<- hA.len];exact G1.len
  have n2:(notL b).length<=201:=by have:=notFrom_len b 0;have:=G2.len;unfold notL;omega
  have HN:=hid (fun W (e:Ext w W)=>not_any B m d b W (hB.ext e) G2);have HM:=hid (fun W (e:Ext w W) B' d' (hs:Spans W B' (notL b).length d' (notL b))=>meet_any A n c a B' (notL b).length d' (notL b) W (hA.ext e) hs (good_ok G1) (fun x hx=>(not_canon G2.canon).rng x hx) (by omega) (by omega));clear hz;by_cases hbig:200<(meetL a (notL b)).length
  ·have HV:=hid (setOut_big hbig);go_enter Tryz.func114,Tryz.ntmps114
   go_wp2_with (first
    | (go_at_call 142;refine HC.out.mono ?_;rintro e w1 ⟨rfl,x1⟩;have ex1:=e1.trans x1)
    | (go_at_call 147;refine (HN.out _ ex1).mono ?_;rintro e w2 ⟨v,rfl,ov,x2⟩;obtain⟨A2,c2,rfl,s2⟩:=ov.top;have e2:=ex1.trans x2)
    | (go_at_call 146;refine (HM.out _ e2 A2 c2 s2).mono ?_;rintro e w3 ⟨v3,rfl,ov3,x3⟩;obtain⟨A3,c3,rfl,s3⟩:=(ov3.mono e2.size).sl;have e3:=e2.trans x3)
    | (go_at_call 62;refine (fit_big A3 _ c3 _ hbig s3.cap s3.max).mono ?_;rintro e w' ⟨rfl,rfl⟩))
   go_ret2;exact⟨SetF.pair HV.out (SetF.no rfl rfl),e3⟩
  ·have HV:=hid (setOut_ok hbig);go_enter Tryz.func114,Tryz.ntmps114
   go_wp2_with (first
    | (go_at_call 142;refine HC.out.mono ?_;rintro e w1 ⟨rfl,x1⟩;have ex1:=e1.trans x1)
    | (go_at_call 147;refine (HN.out _ ex1).mono ?_;rintro e w2 ⟨v,rfl,ov,x2⟩;obtain⟨A2,c2,rfl,s2⟩:=ov.top;have e2:=ex1.trans x2)
    | (go_at_call 146;refine (HM.out _ e2 A2 c2 s2).mono ?_;rintro e w3 ⟨v3,rfl,ov3,x3⟩;obtain⟨A3,c3,rfl,s3⟩:=(ov3.mono e2.size).sl;have e3:=e2.trans x3)
    | (go_at_call 62;refine (fit_small A3 _ c3 _ hbig).mono ?_;rintro e w' ⟨rfl,rfl⟩))
   go_ret2;exact⟨SetF.pair HV.out ⟨A3,c3,rfl,s3⟩,e3⟩
 ·have HV:=hid (setOut_bad (s:=meetL a (notL b)) hz);have hb:(wrongSets [a,b] != 0)=true:=by simpa using hz
  clear hz;generalize wrongSets [a,b]=q at *;go_enter Tryz.func114,Tryz.ntmps114;go_wp2_with (go_at_call 142;refine HC.out.mono ?_;rintro e w1 ⟨rfl,x1⟩);go_ret2;exact⟨SetF.pair HV.out (SetF.no rfl rfl),e1.trans x1⟩
theorem any_bad {a b:List Sp} (ha:∀ x∈a,okSp x) (hb:∀ x∈b,okSp x):(a++b).any spBad=false:=by
 rw[List.any_eq_false];intro x hx;have:okSp x:=(List.mem_append.1 hx).elim (ha x) (hb x);simpa using okSp_iff.2 this
theorem UnionF_any (A:Option Addr) (n c:Nat) (a:List Sp) (B:Option Addr) (m d:Nat) (b:List Sp) (w:World) (hA:Spans w A n c a) (hB:Spans w B m d b) :
  Calls Tryz.prog 111 #[.slice A n c,.slice B m d] w fun e w'=>SetO w.heap.size (setOut (wrongSets [a,b]) (ofS (a++b))) w' e/\Ext w w':=by
 have e1:=(Ext.refl w).alloc (.cells #[.slice A n c,.slice B m d] 23);have HC:=hid (setsRight_any _ 2 2 [a,b] _ (sets_two 23 hA hB) (by omega));by_cases hz:wrongSets [a,b]=0
 ·rw[hz] at HC ⊢;have G1:=good_of (wrongSets_two hz).1;have G2:=good_of (wrongSets_two hz).2;have n1:n<=200:=by rw[<- hA.len];exact G1.len
  have n2:m<=200:=by rw[<- hB.len];exact G2.len
  have hfl:[a,b].flatten=a++b:=by simp
  have hl:(a++b).length<=400:=by rw[List.length_append];have:=G1.len;have:=G2.len;omega
  have HCo:=hid (fun W (e:Ext w W)=>by
   have:=Concat_span one_span (keep_span bot) _ 2 2 [a,b] _ (sets_two 23 (hA.ext e) (hB.ext e)) (by rw[hfl];omega) (fun _ _ h=>h)
   rw[hfl] at this;exact this)
  have hnb:=any_bad (good_ok G1) (good_ok G2)
  have HV:Hid (setOut 0 (ofS (a++b))=(ofV (a++b),ofE (a++b))):=hid (by
   by_cases hbig:200<(ofS (a++b)).length
   ·rw[setOut_big hbig,(ofE_big hnb hbig).1,(ofE_big hnb hbig).2]
   ·rw[setOut_ok hbig,(ofE_ok hnb hbig).1,(ofE_ok hnb hbig).2])
  clear hz hnb hfl;generalize hu:a++b=u at *;have HO:=hid (fun W A' c' (hs:Spans W A' u.length c' u)=>OfF_any A' u.length c' u W hs (by omega));clear hu;go_enter Tryz.func111,Tryz.ntmps111
  go_wp2_with (first
   | (go_at_call 142;refine HC.out.mono ?_;rintro e w1 ⟨rfl,x1⟩;have ex1:=e1.trans x1)
   | (go_at_call 143;refine (HCo.out _ ex1).mono ?_;rintro e w2 ⟨v,rfl,ov,x2⟩;obtain⟨A2,c2,rfl,s2⟩:=ov.top;have e2:=(ex1.alloc (.cells #[.slice A n c,.slice B m d] 23)).trans x2)
   | (go_at_call 29;refine (HO.out _ A2 c2 s2).mono ?_;rintro e w3 ⟨⟨A3,c3,rfl,s3⟩,x3⟩;have s3:=s3.mono (fun _ _ h=>h) (fun b hb=>Nat.le_trans e2.size hb);have e3:=e2.trans x3))
  go_ret2;exact⟨SetF.pair HV.out ⟨A3,c3,rfl,s3⟩,e3⟩
 ·have HV:=hid (setOut_bad (s:=ofS (a++b)) hz);have hb:(wrongSets [a,b] != 0)=true:=by simpa using hz
  clear hz;generalize wrongSets [a,b]=q at *;go_enter Tryz.func111,Tryz.ntmps111;go_wp2_with (go_at_call 142;refine HC.out.mono ?_;rintro e w1 ⟨rfl,x1⟩);go_ret2;exact⟨SetF.pair HV.out (SetF.no rfl rfl),e1.trans x1⟩
end Go.Proofs.YthomjcjnalfipaaGreatDoor
namespace Go.Proofs.YthomjcjnalfipaaGreatDoor
def spanF (L:List Int) (k:Nat):PR (List Sp):=
 (charF L k).bind fun low k1=>
  if lookF L k1=45/\lookF L (k1+1)≠91 then
   (charF L (k1+1)).bind fun high k2=>if high<low then .fail 3 (k1+1) else .ok [⟨low,high⟩] k2
  else .ok [⟨low,low⟩] k1
def pairsOf:List Int->List Sp
 | a::b::l=>⟨a,b⟩::pairsOf l
 | _=>[]
def classT:List (List UInt8×List Int):=[
 ([100,105,103,105,116],[48,57]),
 ([108,111,119,101,114],[97,122,223,246,248,255]),
 ([117,112,112,101,114],[65,90,192,214,216,222]),
 ([108,101,116,116,101,114],[65,90,97,122,192,214,216,246,248,255]),
 ([118,111,119,101,108],[65,65,69,69,73,73,79,79,85,85,97,97,101,101,105,105,111,111,117,117]),
 ([103,114,101,101,107],[880,1023]),
 ([99,121,114,105,108,108,105,99],[1024,1279]),
 ([115,112,97,99,101],[9,10,32,32]),
 ([97,110,121],[0,1114111])]
def classV (s:ByteArray):Option (List Sp):=(classT.find? fun p=>p.1==s.data.toList).map fun p=>pairsOf p.2
def classF (L:List Int) (k:Nat):PR (List Sp):=
 let e:=scanF plainB L (k+2)
 match classV (nameB L (k+2) e) with
 | none=>.fail 7 (k+2)
 | some s=>(needF L 58 e).bind fun _ k1=>(needF L 93 k1).bind fun _ k2=>.ok s k2
def keepF (o:List Sp×Int) (k:Nat):PR (List Sp):=if o.2≠0 then .fail o.2 k else .ok o.1 k
def unionO (a b:List Sp):List Sp×Int:=setOut (wrongSets [a,b]) (ofS (a++b))
def meetO (a b:List Sp):List Sp×Int:=setOut (wrongSets [a,b]) (meetL a b)
def minusO (a b:List Sp):List Sp×Int:=setOut (wrongSets [a,b]) (meetL a (notL b))
def notO (a:List Sp):List Sp×Int:=setOut (wrongSets [a]) (notL a)
def opF (L:List Int) (S:Nat->PR (List Sp)) (cur:List Sp) (k:Nat):PR (List Sp):=
 if lookF L k=91/\lookF L (k+1)=58 then (classF L k).bind fun s k1=>keepF (unionO cur s) k1
 else if lookF L k=91 then (S k).bind fun s k1=>keepF (unionO cur s) k1
 else if lookF L k=38 then (S (skipF L (k+1))).bind fun s k1=>keepF (meetO cur s) k1
 else if lookF L k=45 then (S (skipF L (k+1))).bind fun s k1=>keepF (minusO cur s) k1
 else (spanF L k).bind fun s k1=>keepF (unionO cur s) k1
def opsF (L:List Int) (S:Nat->PR (List Sp)):Nat->List Sp->Nat->PR (List Sp)
 | 0,_,_=>.fail 0 0
 | f+1,cur,k=>if lookF L k=93 then .ok cur (k+1) else (opF L S cur k).bind fun cur' k1=>opsF L S f cur' (skipF L k1)
def setF (L:List Int):Nat->Nat->PR (List Sp)
 | 0,k=>if lookF L k=91 then .fail 4 k else .fail 2 k
 | n+1,k=>
  if lookF L k≠91 then .fail 2 k
  else if lookF L (k+1)=94 then (opsF L (setF L n) (L.length+1) [] (skipF L (k+2))).bind fun cur k1=>keepF (notO cur) k1
  else opsF L (setF L n) (L.length+1) [] (skipF L (k+1))
structure It where
 kind:Int
 rune:Int
 set:List Sp
 name:ByteArray
structure Side where
 st:Bool
 en:Bool
 before:List It
 source:List It
 after:List It
 cursor:Int
structure Part where
 kind:Int
 name:ByteArray
 set:List Sp
 dir:Int
 left:Side
 right:Side
def side0:Side:=⟨false,false,[],[],[],0⟩
def passN:List (List UInt8):=[[108,111,119,101,114],[110,117,108,108],[114,101,109,111,118,101],[117,112,112,101,114]]
def isPass (s:ByteArray):Bool:=passN.any fun p=>s.data.toList==p
def nameC (b:UInt8):Bool:=(decide (97<=b.toNat)&&decide (b.toNat<=122))||b.toNat==95
def nameD (b:UInt8):Bool:=decide (48<=b.toNat)&&decide (b.toNat<=57)
def namedL:List UInt8->Bool
 | []=>false
 | b::l=>nameC b&&l.all fun x=>nameC x||nameD x
def namedB (s:ByteArray):Bool:=namedL s.data.toList&&decide (s.size<=20)
def itemW (x:It):Int:=
 if x.kind=1 then (if right x.rune then 0 else 3)
 else if x.kind=2 then wrongSet x.set
 else if x.kind=3 then (if namedB x.name then 0 else 7)
 else 1
def itemsW0:List It->Int
 | []=>0
 | x::l=>if itemW x≠0 then itemW x else itemsW0 l
def itemsW (l:List It):Int:=if 20<l.length then 5 else itemsW0 l
def rowsW:List (List It)->Int
 | []=>0
 | l::r=>if itemsW l≠0 then itemsW l else rowsW r
def sideW (s:Side) (must:Bool):Int:=
 if rowsW [s.before,s.source,s.after]≠0 then rowsW [s.before,s.source,s.after]
 else if s.cursor< -1\/(s.source.length:Int)<s.cursor then 3
 else if must/\s.source.length=0 then 6 else 0
def toldB (s:Side):Bool:=s.source.all fun x=>x.kind==1
def bareB (s:Side):Bool:=!s.st&&(!s.en&&s.before.length+s.after.length==0)
def fitB (p:Part):Bool:=
 let forth:=p.dir != 2
 let back:=p.dir != 1
 (forth&& !toldB p.right)||((back&& !toldB p.left)||((!back&& !bareB p.right)||((!forth&& !bareB p.left)||((!back&&decide (0<=p.left.cursor))||(!forth&&decide (0<=p.right.cursor))))))
def ruleW (p:Part):Int:=
 if p.dir<1\/3<p.dir then 1
 else if sideW p.left (p.dir != 2)≠0 then sideW p.left (p.dir != 2)
 else if sideW p.right (p.dir != 1)≠0 then sideW p.right (p.dir != 1)
 else if fitB p then 8 else 0
def partW (p:Part):Int:=
 if p.kind=1 then (if namedB p.name then wrongSet p.set else 7)
 else if p.kind=3 then wrongSet p.set
 else if p.kind=4 then (if isPass p.name then 0 else 7)
 else if p.kind=2 then ruleW p
 else 1
def nameF (L:List Int) (k:Nat):PR ByteArray:=if namedB (nameB L k (wordF L k)) then .ok (nameB L k (wordF L k)) (wordF L k) else .fail 7 k
def quotedF (L:List Int):Nat->List It->Nat->PR (List It)
 | 0,_,_=>.fail 0 0
 | f+1,out,k=>if lookF L k=39 then .ok out (k+1) else if lookF L k<0 then .fail 2 k else quotedF L f (out++[⟨1,lookF L k,[],.empty⟩]) (k+1)
def beginsB (L:List Int) (k:Nat):Bool:=
 lookF L k==124||lookF L k==91||(lookF L k==36&&letterB (lookF L (k+1)))||lookF L k==39||lookF L k==92||plainB (lookF L k)
def itemF (L:List Int) (out:List It) (cur:Int) (k:Nat):PR (List It×Int):=
 if lookF L k=124 then (if 0<=cur then .fail 5 k else .ok (out,(out.length:Int)) (k+1))
 else if lookF L k=91 then (setF L 20 k).bind fun s k1=>.ok (out++[⟨2,0,s,.empty⟩],cur) k1
 else if lookF L k=36/\letterB (lookF L (k+1)) then (nameF L (k+1)).bind fun s k1=>.ok (out++[⟨3,0,[],s⟩],cur) k1
 else if lookF L k=39 then (quotedF L (L.length+1) [] (k+1)).bind fun q k1=>.ok (out++q,cur) k1
 else (charF L k).bind fun x k1=>if right x then .ok (out++[⟨1,x,[],.empty⟩],cur) k1 else .fail 3 k
def itemsN (L:List Int):Nat->List It->Int->Nat->PR (List It×Int)
 | 0,_,_,_=>.fail 0 0
 | f+1,out,cur,k=>
  if beginsB L k then (itemF L out cur k).bind fun o k1=>if 20<o.1.length then .fail 5 k else itemsN L f o.1 o.2 (spaceF L k1)
  else .ok (out,cur) k
def itemsF (L:List Int) (k:Nat):PR (List It×Int):=itemsN L (L.length+1) [] (-1) (spaceF L k)
def restF (L:List Int) (st:Bool) (before:List It) (o:List It×Int) (k:Nat):PR Side:=
 if lookF L k=125 then
  (itemsF L (k+1)).bind fun a k1=>
   if 0<=a.2 then .fail 8 (k+1)
   else if lookF L k1=36 then .ok ⟨st,true,before,o.1,a.1,o.2⟩ (spaceF L (k1+1))
   else .ok ⟨st,false,before,o.1,a.1,o.2⟩ (spaceF L k1)
 else .ok ⟨st,false,before,o.1,[],o.2⟩ (spaceF L k)
def sideFrom (L:List Int) (st:Bool) (k:Nat):PR Side:=
 (itemsF L k).bind fun o k1=>
  if lookF L k1=123 then (if 0<=o.2 then .fail 8 k else (itemsF L (k1+1)).bind fun q k2=>restF L st o.1 q k2)
  else if st then .fail 2 k1 else restF L st [] o k1
def sideF (L:List Int) (k:Nat):PR Side:=
 if lookF L (spaceF L k)=94 then sideFrom L true (spaceF L k+1) else sideFrom L false (spaceF L k)
def arrowF (L:List Int) (k:Nat):PR Int:=
 if lookF L k=62 then .ok 1 (k+1)
 else if lookF L k=60/\lookF L (k+1)=62 then .ok 3 (k+2)
 else (needF L 60 k).bind fun _ k1=>.ok 2 k1
def varB (L:List Int) (k:Nat):Bool:=lookF L (spaceF L (wordF L (k+1)))==61
def rulePF (L:List Int) (k:Nat):PR Part:=
 (sideF L k).bind fun a k1=>(arrowF L k1).bind fun d k2=>(sideF L k2).bind fun b k3=>
  if partW ⟨2,.empty,[],d,a,b⟩≠0 then .fail (partW ⟨2,.empty,[],d,a,b⟩) k else .ok ⟨2,.empty,[],d,a,b⟩ k3
def partF (L:List Int) (k:Nat):PR Part:=
 if lookF L k=58 then
  (needF L 58 (k+1)).bind fun _ k1=>
   if lookF L (spaceF L k1)=91 then (setF L 20 (spaceF L k1)).bind fun s k2=>.ok ⟨3,.empty,s,0,side0,side0⟩ k2
   else if isPass (nameB L (spaceF L k1) (wordF L (spaceF L k1))) then .ok ⟨4,nameB L (spaceF L k1) (wordF L (spaceF L k1)),[],0,side0,side0⟩ (wordF L (spaceF L k1))
   else .fail 7 (spaceF L k1)
 else if lookF L k=36/\varB L k then
  (nameF L (k+1)).bind fun s k1=>(needF L 61 (spaceF L k1)).bind fun _ k2=>(setF L 20 (spaceF L k2)).bind fun t k3=>.ok ⟨1,s,t,0,side0,side0⟩ k3
 else rulePF L k
def readN (L:List Int):Nat->List Part->Nat->PR (List Part)
 | 0,_,_=>.fail 0 0
 | f+1,out,k=>
  if lookF L k<0 then .ok out k
  else if out.length=200 then .fail 5 k
  else (partF L k).bind fun p k1=>(needF L 59 (spaceF L k1)).bind fun _ k2=>readN L f (out++[p]) (spaceF L k2)
def readF (L:List Int):PR (List Part):=if 16000<L.length then .fail 4 0 else readN L (L.length+1) [] (spaceF L 0)
end Go.Proofs.YthomjcjnalfipaaGreatDoor
namespace Go.Proofs.YthomjcjnalfipaaGreatDoor
theorem PR.bind_ok {α β :Type} {x:PR α} {f: α ->Nat->PR β} {b: β} {k:Nat} (h:x.bind f=.ok b k):∃ a j,x=.ok a j/\f a j=.ok b k:=by
 cases x with
 | ok a j=>exact⟨a,j,rfl,h⟩
 | fail e p=>exact absurd h (by simp[PR.bind])
def Adv {α :Type} (L:List Int) (k m:Nat) (x:PR α):Prop:=∀ a k1,x=.ok a k1->k+m<=k1/\k1<=L.length
theorem Adv.fail {α :Type} {L:List Int} {k m:Nat} (e:Int) (p:Nat):Adv L k m (.fail e p:PR α):=fun a k1 h=>by cases h
theorem Adv.ok {α :Type} {L:List Int} {k m k1:Nat} {a: α} (h1:k+m<=k1) (h2:k1<=L.length):Adv L k m (.ok a k1:PR α):=fun a k1 h=>by cases h;exact⟨h1,h2⟩
theorem Adv.bind {α β :Type} {L:List Int} {k m kx m1:Nat} {x:PR α} {f: α ->Nat->PR β} (h:Adv L kx m1 x) (g:∀ a j,x=.ok a j->kx+m1<=j->j<=L.length->Adv L k m (f a j)):Adv L k m (x.bind f):=by
 intro b k1 e;obtain⟨a,j,e1,e2⟩:=PR.bind_ok e;have:=h a j e1;exact g a j e1 this.1 this.2 b k1 e2
theorem Adv.le {α :Type} {L:List Int} {k m k' m':Nat} {x:PR α} (h:Adv L k m x) (hk:k'+m'<=k+m):Adv L k' m' x:=fun a k1 e=>by have:=h a k1 e;omega
theorem Adv.ite {α :Type} {L:List Int} {k m:Nat} {p:Prop} [Decidable p] {x y:PR α} (h1:p->Adv L k m x) (h2:¬ p->Adv L k m y):Adv L k m (if p then x else y):=by
 split
 ·exact h1 ‹_›
 ·exact h2 ‹_›
section
variable {L : List Int} {k : Nat}
theorem skipF_ge:k<=skipF L k:=scanF_ge
theorem skipF_le (h:k<=L.length):skipF L k<=L.length:=scanF_le h
theorem spaceN_ge:∀ (f k:Nat),k<=spaceN L f k
 | 0,k=>Nat.le_refl _
 | f+1,k=>by
  unfold spaceN;have h1:k<=skipF L k:=skipF_ge;split
  ·have h2:=spaceN_ge f (scanF lineB L (skipF L k));have h3:skipF L k<=scanF lineB L (skipF L k):=scanF_ge;omega
  ·exact h1
theorem spaceN_le:∀ (f k:Nat),k<=L.length->spaceN L f k<=L.length
 | 0,k,h=>h
 | f+1,k,h=>by
  unfold spaceN;have h1:=skipF_le h;split
  ·exact spaceN_le f _ (scanF_le h1)
  ·exact h1
theorem spaceF_ge:k<=spaceF L k:=spaceN_ge _ _
theorem spaceF_le (h:k<=L.length):spaceF L k<=L.length:=spaceN_le _ _ h
theorem letter_end:letterB (-1)=false:=rfl
theorem wordF_ge:k<=wordF L k:=by
 unfold wordF;split
 ·have:k+1<=scanF (fun r=>letterB r||digitB r) L (k+1):=scanF_ge;omega
 ·omega
theorem wordF_le (h:k<=L.length):wordF L k<=L.length:=by
 unfold wordF;split
 ·rename_i hb;exact scanF_le (scanF_lt letter_end hb)
 ·exact h
theorem look_lt' {x:Int} (h:lookF L k=x) (hx:0<=x):k<L.length:=look_lt (by omega)
theorem look_lt0 (h:0<=lookF L k):k<L.length:=look_lt (by omega)
theorem needF_adv {r:Int} (hr:0<=r):Adv L k 1 (needF L r k):=by
 unfold needF;refine Adv.ite (fun h=>Adv.ok (by omega) ?_) (fun _=>Adv.fail _ _);have:=look_lt' h hr;omega
theorem hexF_adv:Adv L k 1 (hexF L k):=by
 unfold hexF;refine Adv.ite (fun _=>Adv.fail _ _) (fun h1=>?_);refine Adv.ite (fun _=>Adv.fail _ _) (fun h2=>?_);refine Adv.ite (fun _=>Adv.fail _ _) (fun h3=>?_);refine Adv.ite (fun _=>Adv.fail _ _) (fun h4=>?_);have h3':lookF L (scanF hexB L (k+2))=125:=by simpa using h3
 have:=look_lt' h3' (by omega);exact Adv.ok (by omega) (by omega)
theorem charF_adv:Adv L k 1 (charF L k):=by
 unfold charF;refine Adv.ite (fun h=>?_) (fun h1=>?_)
 ·have:=scanF_lt plain_end h;exact Adv.ok (by omega) (by omega)
 refine Adv.ite (fun _=>Adv.fail _ _) (fun h2=>?_);refine Adv.ite (fun h=>?_) (fun h3=>?_)
 ·have:=look_lt' h (by omega);exact Adv.ok (by omega) (by omega)
 refine Adv.ite (fun h=>?_) (fun h4=>?_)
 ·have:=look_lt' h (by omega);exact Adv.ok (by omega) (by omega)
 refine Adv.ite (fun h=>hexF_adv.le (by omega)) (fun h5=>?_);refine Adv.ite (fun h=>Adv.fail _ _) (fun h6=>?_);have:=look_lt0 (L:=L) (k:=k+1) (by omega);exact Adv.ok (by omega) (by omega)
theorem spanF_adv:Adv L k 1 (spanF L k):=by
 unfold spanF;refine charF_adv.bind fun low k1 _ h1 h2=>Adv.ite (fun _=>?_) (fun _=>Adv.ok (by omega) h2);exact charF_adv.bind fun high k2 _ h3 h4=>Adv.ite (fun _=>Adv.fail _ _) (fun _=>Adv.ok (by omega) h4)
theorem keepF_adv {o:List Sp×Int} {j m:Nat} (h1:j+m<=k) (h2:k<=L.length):Adv L j m (keepF o k):=Adv.ite (fun _=>Adv.fail _ _) (fun _=>Adv.ok h1 h2)
theorem classF_adv:Adv L k 3 (classF L k):=by
 have h0:k+2<=scanF plainB L (k+2):=scanF_ge;unfold classF;dsimp only;split
 ·exact Adv.fail _ _
 ·exact (needF_adv (by omega)).bind fun _ k1 _ h1 _=>(needF_adv (by omega)).bind fun _ k2 _ h2 h3=>Adv.ok (by omega) h3
theorem opF_adv {S:Nat->PR (List Sp)} (hS:∀ k,Adv L k 1 (S k)) {cur:List Sp}:Adv L k 1 (opF L S cur k):=by
 unfold opF;have hg:k+1<=skipF L (k+1):=skipF_ge;refine Adv.ite (fun _=>classF_adv.bind fun _ _ _ h1 h2=>keepF_adv (by omega) h2) (fun _=>?_);refine Adv.ite (fun _=>(hS k).bind fun _ _ _ h1 h2=>keepF_adv (by omega) h2) (fun _=>?_);refine Adv.ite (fun _=>(hS _).bind fun _ _ _ h1 h2=>keepF_adv (by omega) h2) (fun _=>?_);refine Adv.ite (fun _=>(hS _).bind fun _ _ _ h1 h2=>keepF_adv (by omega) h2) (fun _=>?_)
 ·exact spanF_adv.bind fun _ _ _ h1 h2=>keepF_adv (by omega) h2
theorem opsF_adv {S:Nat->PR (List Sp)} (hS:∀ k,Adv L k 1 (S k)):∀ (f:Nat) (cur:List Sp) (k:Nat),k<=L.length->Adv L k 1 (opsF L S f cur k)
 | 0,_,_,_=>Adv.fail _ _
 | f+1,cur,k,hk=>by
  unfold opsF;refine Adv.ite (fun h=>?_) (fun _=>(opF_adv hS).bind fun cur' k1 _ h1 h2=>?_)
  ·have:=look_lt' h (by omega);exact Adv.ok (by omega) (by omega)
  ·have:k1<=skipF L k1:=skipF_ge;exact (opsF_adv hS f cur' _ (skipF_le h2)).le (by omega)
theorem setF_adv:∀ (n k:Nat),Adv L k 1 (setF L n k)
 | 0,k=>by unfold setF;exact Adv.ite (fun _=>Adv.fail _ _) (fun _=>Adv.fail _ _)
 | n+1,k=>by
  unfold setF;refine Adv.ite (fun _=>Adv.fail _ _) (fun h=>?_);have h':lookF L k=91:=by simpa using h
  have hk:=look_lt' h' (by omega);refine Adv.ite (fun h2=>?_) (fun _=>?_)
  ·have hk2:=look_lt' h2 (by omega);have:k+2<=skipF L (k+2):=skipF_ge;exact (opsF_adv (setF_adv n) _ _ _ (skipF_le (by omega))).bind fun _ _ _ h1 h2=>keepF_adv (by omega) h2
  ·have:k+1<=skipF L (k+1):=skipF_ge;exact (opsF_adv (setF_adv n) _ _ _ (skipF_le (by omega))).le (by omega)
theorem nameF_adv (h:k<=L.length):Adv L k 0 (nameF L k):=by
 unfold nameF;have h1:k<=wordF L k:=wordF_ge;exact Adv.ite (fun _=>Adv.ok (by omega) (wordF_le h)) (fun _=>Adv.fail _ _)
theorem quotedF_adv:∀ (f:Nat) (out:List It) (k:Nat),k<=L.length->Adv L k 1 (quotedF L f out k)
 | 0,_,_,_=>Adv.fail _ _
 | f+1,out,k,hk=>by
  unfold quotedF;refine Adv.ite (fun h=>?_) (fun _=>Adv.ite (fun _=>Adv.fail _ _) (fun h2=>?_))
  ·have:=look_lt' h (by omega);exact Adv.ok (by omega) (by omega)
  ·have:=look_lt0 (L:=L) (k:=k) (by omega);exact (quotedF_adv f _ (k+1) (by omega)).le (by omega)
theorem itemF_adv {out:List It} {cur:Int}:Adv L k 1 (itemF L out cur k):=by
 unfold itemF;refine Adv.ite (fun h=>Adv.ite (fun _=>Adv.fail _ _) (fun _=>?_)) (fun _=>?_)
 ·have:=look_lt' h (by omega);exact Adv.ok (by omega) (by omega)
 refine Adv.ite (fun _=>(setF_adv _ _).bind fun _ _ _ h1 h2=>Adv.ok h1 h2) (fun _=>?_);refine Adv.ite (fun h=>?_) (fun _=>?_)
 ·have:=look_lt' h.1 (by omega);exact (nameF_adv (by omega)).bind fun _ _ _ h1 h2=>Adv.ok (by omega) h2
 refine Adv.ite (fun h=>?_) (fun _=>?_)
 ·have:=look_lt' h (by omega);exact (quotedF_adv _ _ _ (by omega)).bind fun _ _ _ h1 h2=>Adv.ok (by omega) h2
 ·exact charF_adv.bind fun _ _ _ h1 h2=>Adv.ite (fun _=>Adv.ok h1 h2) (fun _=>Adv.fail _ _)
theorem itemsN_adv:∀ (f:Nat) (out:List It) (cur:Int) (k:Nat),k<=L.length->Adv L k 0 (itemsN L f out cur k)
 | 0,_,_,_,_=>Adv.fail _ _
 | f+1,out,cur,k,hk=>by
  unfold itemsN;refine Adv.ite (fun _=>itemF_adv.bind fun o k1 _ h1 h2=>Adv.ite (fun _=>Adv.fail _ _) (fun _=>?_)) (fun _=>Adv.ok (by omega) hk);have:k1<=spaceF L k1:=spaceF_ge;exact (itemsN_adv f _ _ _ (spaceF_le h2)).le (by omega)
theorem itemsF_adv (h:k<=L.length):Adv L k 0 (itemsF L k):=by
 have:k<=spaceF L k:=spaceF_ge;exact (itemsN_adv _ _ _ _ (spaceF_le h)).le (by omega)
theorem restF_adv {st:Bool} {b:List It} {o:List It×Int} (h:k<=L.length):Adv L k 0 (restF L st b o k):=by
 unfold restF;have h0:k<=spaceF L k:=spaceF_ge;refine Adv.ite (fun h1=>?_) (fun _=>Adv.ok (by omega) (spaceF_le h));have:=look_lt' h1 (by omega);refine (itemsF_adv (by omega)).bind fun a k1 _ h2 h3=>Adv.ite (fun _=>Adv.fail _ _) (fun _=>?_);have h4:k1<=spaceF L k1:=spaceF_ge;have h5:k1+1<=spaceF L (k1+1):=spaceF_ge;refine Adv.ite (fun h6=>?_) (fun _=>Adv.ok (by omega) (spaceF_le h3));have:=look_lt' h6 (by omega);exact Adv.ok (by omega) (spaceF_le (by omega))
theorem sideFrom_adv {st:Bool} (h:k<=L.length):Adv L k 0 (sideFrom L st k):=by
 unfold sideFrom;refine (itemsF_adv h).bind fun o k1 _ h1 h2=>Adv.ite (fun h3=>Adv.ite (fun _=>Adv.fail _ _) (fun _=>?_)) (fun _=>Adv.ite (fun _=>Adv.fail _ _) (fun _=>(restF_adv h2).le (by omega)));have:=look_lt' h3 (by omega);exact (itemsF_adv (by omega)).bind fun q k2 _ h4 h5=>(restF_adv h5).le (by omega)
theorem sideF_adv (h:k<=L.length):Adv L k 0 (sideF L k):=by
 unfold sideF;have h0:k<=spaceF L k:=spaceF_ge;have h1:=spaceF_le h;refine Adv.ite (fun h2=>?_) (fun _=>(sideFrom_adv h1).le (by omega));have:=look_lt' h2 (by omega);exact (sideFrom_adv (by omega)).le (by omega)
theorem arrowF_adv:Adv L k 1 (arrowF L k):=by
 unfold arrowF;refine Adv.ite (fun h=>?_) (fun _=>Adv.ite (fun h=>?_) (fun _=>(needF_adv (by omega)).bind fun _ _ _ h1 h2=>Adv.ok h1 h2))
 ·have:=look_lt' h (by omega);exact Adv.ok (by omega) (by omega)
 ·have:=look_lt' h.2 (by omega);exact Adv.ok (by omega) (by omega)
theorem rulePF_adv (h:k<=L.length):Adv L k 1 (rulePF L k):=by
 unfold rulePF;refine (sideF_adv h).bind fun a k1 _ h1 h2=>arrowF_adv.bind fun d k2 _ h3 h4=>(sideF_adv h4).bind fun b k3 _ h5 h6=>Adv.ite (fun _=>Adv.fail _ _) (fun _=>Adv.ok (by omega) h6)
theorem partF_adv (h:k<=L.length):Adv L k 1 (partF L k):=by
 unfold partF;refine Adv.ite (fun h0=>?_) (fun _=>Adv.ite (fun h0=>?_) (fun _=>rulePF_adv h))
 ·refine (needF_adv (by omega)).bind fun _ k1 _ h1 h2=>?_;have h3:k1<=spaceF L k1:=spaceF_ge;have h4:spaceF L k1<=wordF L (spaceF L k1):=wordF_ge;refine Adv.ite (fun _=>(setF_adv _ _).bind fun _ _ _ h5 h6=>Adv.ok (by omega) h6) (fun _=>Adv.ite (fun _=>Adv.ok (by omega) (wordF_le (spaceF_le h2))) (fun _=>Adv.fail _ _))
 ·have:=look_lt' h0.1 (by omega);refine (nameF_adv (by omega)).bind fun s k1 _ h1 h2=>?_;have h3:k1<=spaceF L k1:=spaceF_ge;refine (needF_adv (by omega)).bind fun _ k2 _ h4 h5=>(setF_adv _ _).bind fun t k3 _ h6 h7=>?_;have h8:k2<=spaceF L k2:=spaceF_ge;exact Adv.ok (by omega) h7
end
end Go.Proofs.YthomjcjnalfipaaGreatDoor
