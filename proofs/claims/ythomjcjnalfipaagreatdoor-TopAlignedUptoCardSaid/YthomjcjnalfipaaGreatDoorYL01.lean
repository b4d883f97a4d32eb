/- A part of the proof of rowTopAligned.proved. -/
import Derived.Test.YthomjcjnalfipaaGreatDoorYB34
set_option linter.all false
set_option maxRecDepth 100000
set_option maxHeartbeats 800000
open Go.Lib (hid)
namespace Go.Proofs.YthomjcjnalfipaaGreatDoor
def runAll (l:List Rule) (t:List Int):Out:=if (checkRun l t).1≠0 then ⟨[],0,0,(checkRun l t).1⟩ else runText l t
def runF (l:List Rule) (t:List Int):Int×Nat:=if (checkRun l t).1≠0 then checkRun l t else ((runText l t).err,0)
theorem runF_ok {l:List Rule} {t:List Int} (h:(checkRun l t).1=0):runF l t=((runText l t).err,0):=by unfold runF;rw[if_neg (by simp[h])]
theorem runAll_ok {l:List Rule} {t:List Int} (h:(checkRun l t).1=0):runAll l t=runText l t:=by unfold runAll;rw[if_neg (by simp[h])]
end Go.Proofs.YthomjcjnalfipaaGreatDoor
namespace Go.Proofs.YthomjcjnalfipaaGreatDoor
open Go.RowKit
def PredRule (g:FuncId) (caps:Array Value) (p:Rule->Bool) (l:List Rule) (w:World):Prop:=
 ∀ W s f A1 n1 c1 A2 n2 c2 A3 n3 c3 A4 n4 c4 q r,Ext w W->RuleV W s f A1 n1 c1 A2 n2 c2 A3 n3 c3 A4 n4 c4 q r->r∈l ->
  Calls Tryz.prog g (#[.agg #[.bool s,.bool f,.slice A1 n1 c1,.slice A2 n2 c2,.slice A3 n3 c3,.slice A4 n4 c4,.int .i64 q]]++caps) W fun e w'=>e=.returned (.bool (p r))/\Ext W w'
theorem IndexRule_any (A:Option Addr) (n c:Nat) (l:List Rule) (w:World) (g:FuncId) (caps:Array Value) (p:Rule->Bool)
  (eg:∀ args w,(callFunc g args).run Tryz.prog w=.ok (.enter g args) w) (hp:PredRule g caps p l w) (h:Rules w A n c l) :
  Calls Tryz.prog 64 #[.slice A n c,.func (.func g) #[] caps] w fun e w'=>e=.returned (.int .i64 (idxFrom p 0 l))/\Ext w w':=by
 have hm:=h.max;unfold maxLen at hm;have hcap:=h.cap;have hlen:=hid h.len;have HP:=hid hp;clear hp;go_enter Tryz.func64,Tryz.ntmps64;go_wp2;go_loopw [8] (fun i wr=>∃ k:Nat,k<=n/\i=.int .i64 k/\idxFrom p 0 l=idxFrom p k (l.drop k)/\Ext w wr) (fun i _=>n-(intOf i).toNat);case atStart=>exact⟨0,by omega,rfl,rfl,Ext.refl _⟩
 case round=>
  obtain⟨k,hk,rfl,hkk,hx⟩:=hrel;have HK:=hid hkk;clear hkk;by_cases hlt:k<n
  ·obtain⟨r,hrr⟩:=h.idx hlt;obtain⟨b,off,s,f,A1,n1,c1,A2,n2,c2,A3,n3,c3,A4,n4,c4,q,rfl,⟨_,hne⟩,hv,c0,c1',c2',c3',c4',c5',c6'⟩:=(h.ext hx).rule hrr;have HC:=hid (HP.out wr s f A1 n1 c1 A2 n2 c2 A3 n3 c3 A4 n4 c4 q r hx hv (List.mem_of_getElem? hrr));have HD:=hid (drop_cons hrr);clear hrr;cases hr:p r
   ·have HR:=hid hr;clear hr;go_wp2_with fail;refine HC.out.mono ?_;rintro e w1 ⟨rfl,hx1⟩;rw[HR.out];go_wp2;go_roundw;case rel=>exact⟨k+1,by omega,by go_num,by rw[HK.out,HD.out,idxFrom_no HR.out],hx.trans hx1⟩
    case measure=>simp[intOf];omega
   ·have HR:=hid hr;clear hr;go_wp2_with fail;refine HC.out.mono ?_;rintro e w1 ⟨rfl,hx1⟩;rw[HR.out];go_wp2;go_ret;rw[HK.out,HD.out,idxFrom_yes HR.out];exact⟨rfl,hx.trans hx1⟩
  ·go_wp2;go_ret;rw[HK.out,drop_end hlen.out hlt];exact⟨rfl,hx⟩
end Go.Proofs.YthomjcjnalfipaaGreatDoor
namespace Go.Proofs.YthomjcjnalfipaaGreatDoor
def sureR (l:List Rule):Bool:=l.all fun r=>decide (r.cursor=r.target.length)
theorem sureR_mem {l:List Rule} (h:sureR l=true) {r:Rule} (hr:r∈l):r.cursor=r.target.length:=by
 unfold sureR at h;rw[List.all_eq_true] at h;simpa using h r hr
end Go.Proofs.YthomjcjnalfipaaGreatDoor
namespace Go.Proofs.YthomjcjnalfipaaGreatDoor
open Go.RowKit
theorem ContainsRule_any (A:Option Addr) (n c:Nat) (l:List Rule) (w:World) (g:FuncId) (caps:Array Value) (p:Rule->Bool)
  (eg:∀ args w,(callFunc g args).run Tryz.prog w=.ok (.enter g args) w) (hp:PredRule g caps p l w) (h:Rules w A n c l) :
  Calls Tryz.prog 39 #[.slice A n c,.func (.func g) #[] caps] w fun e w'=>e=.returned (.bool (l.any p))/\Ext w w':=by
 have HC:=hid (IndexRule_any A n c l w g caps p eg hp h);have hm:=h.max;unfold maxLen at hm;have hb:=idxFrom_le p 0 l;have hg:=hid (idxFrom_geq p 0 l);clear eg hp h;generalize idxFrom p 0 l=z at *;go_enter Tryz.func39,Tryz.ntmps39;go_wp2_with (go_at_call 64;refine HC.out.mono ?_;rintro e w' ⟨rfl,hx⟩);go_ret;rw[<- hg.out];exact⟨rfl,hx⟩
theorem sureAt_any (s f:Bool) (A1:Option Addr) (n1 c1:Nat) (A2:Option Addr) (n2 c2:Nat) (A3:Option Addr) (n3 c3:Nat) (A4:Option Addr) (n4 c4:Nat) (q:Int) (r:Rule) (w:World) (hv:RuleV w s f A1 n1 c1 A2 n2 c2 A3 n3 c3 A4 n4 c4 q r) :
  Calls Tryz.prog 70 #[.agg #[.bool s,.bool f,.slice A1 n1 c1,.slice A2 n2 c2,.slice A3 n3 c3,.slice A4 n4 c4,.int .i64 q]] w
   fun e w'=>e=.returned (.bool (q != (n4:Int)))/\Ext w w':=by
 have e1:=(Ext.refl w).alloc (.cells #[.bool s,.bool f,.slice A1 n1 c1,.slice A2 n2 c2,.slice A3 n3 c3,.slice A4 n4 c4,.int .i64 q] 61);clear hv;go_enter Tryz.func70,Tryz.ntmps70;go_wp2;go_ret;exact⟨rfl,e1⟩
theorem any_not_sure (l:List Rule):(l.any fun r=>(r.cursor != (r.target.length:Int)))= !sureR l:=by
 unfold sureR
 induction l with
 | nil=>rfl
 | cons x l ih=>
  rw[List.any_cons,List.all_cons,ih]
  have:(x.cursor != (x.target.length:Int))= !decide (x.cursor=x.target.length):=by
   by_cases h:x.cursor=x.target.length
   ·rw[decide_eq_true h,h];simp
   ·rw[decide_eq_false h];simpa using h
  rw[this];cases decide (x.cursor=x.target.length) <;> simp
theorem Sure_any (A:Option Addr) (n c:Nat) (l:List Rule) (w:World) (h:Rules w A n c l) :
  Calls Tryz.prog 38 #[.slice A n c] w fun e w'=>e=.returned (.bool (sureR l))/\Ext w w':=by
 have hmf:∀ (fn:Fn) (first cap:Array Value) (w:World),(Instr.makeFunc fn first cap).run Tryz.prog w=.ok (.func fn first cap) w:=fun _ _ _ _=>rfl;have eg:∀ args w,(callFunc 70 args).run Tryz.prog w=.ok (.enter 70 args) w:=enters Tryz.func70 (by kernel_rfl) rfl
 have hp:PredRule 70 #[] (fun r=>(r.cursor != (r.target.length:Int))) l w:=by
  intro W s f A1 n1 c1 A2 n2 c2 A3 n3 c3 A4 n4 c4 q r hW hv hr;have:=sureAt_any s f A1 n1 c1 A2 n2 c2 A3 n3 c3 A4 n4 c4 q r W hv;have e1:(r.cursor != (r.target.length:Int))=(q != (n4:Int)):=by rw[hv.cursor,hv.target.len]
  simp only[e1];exact this
 have HC:=hid (ContainsRule_any A n c l w _ _ _ eg hp h);have HS:=hid (any_not_sure l);clear hp h;generalize (l.any fun r=>(r.cursor != (r.target.length:Int)))=x at *;go_enter Tryz.func38,Tryz.ntmps38;go_wp2_with (go_at_call 39;refine HC.out.mono ?_;rintro e w1 ⟨rfl,hx⟩);go_ret;rw[show sureR l= !x by rw[HS.out];simp];exact⟨rfl,hx⟩
section
variable {So : Nat -> Prop} {a w w' : World}
theorem Aside.ext (h:Aside So w w') (hn:∀ b,So b->a.heap.size<=b) (e:Ext a w):Ext a w':=
 Below.trans (show Below a.heap.size a w from e) ⟨h.os,h.tape,h.output,h.size,fun b hb=>h.block b (Nat.lt_of_lt_of_le hb (Ext.size e)) fun hs=>by have:=hn b hs;omega⟩
end
end Go.Proofs.YthomjcjnalfipaaGreatDoor
namespace Go.Proofs.YthomjcjnalfipaaGreatDoor
theorem play_still {l:List Rule} {t:List Int} (h:∀ a:Nat,a<t.length->first l t a<0):∀ (n a s p:Nat),a<=t.length->t.length-a<=n ->
  play l n ⟨t,a,s,p⟩=⟨t,s+(t.length-a),p,0⟩
 | n,a,s,p,ha,hn=>by
  by_cases hlt:a<t.length
  ·match n with
   | 0=>omega
   | n+1=>
    rw[play_next hlt (playStep_no (h a hlt)),play_still h n (a+1) (s+1) p (by omega) (by omega)];congr 1;omega
  ·rw[play_end (by simpa using hlt)];show (⟨t,s,p,0⟩:Out)=⟨t,s+(t.length-a),p,0⟩;congr 1;omega
theorem run_still {l:List Rule} {t:List Int} (hc:(checkRun l t).1=0) (h:∀ a:Nat,a<t.length->first l t a<0):runAll l t=⟨t,t.length,0,0⟩/\runF l t=(0,0):=by
 have e:runText l t=⟨t,t.length,0,0⟩:=by
  unfold runText;rw[play_still h _ 0 0 0 (by omega) (by omega)];congr 1;omega
 rw[runAll_ok hc,runF_ok hc,e];exact⟨rfl,rfl⟩
theorem check_both {l:List Rule} {t:List Int} (hr:(wrongRules l).1=0) (ht:wrongText t=0):(checkRun l t).1=0:=by rw[checkRun_text hr];exact ht
end Go.Proofs.YthomjcjnalfipaaGreatDoor
namespace Go.Proofs.YthomjcjnalfipaaGreatDoor
theorem wrongPs_of:∀ {ps:List Pas} {k:Nat},(∀ p∈ps,wrongPas p=0)->wrongPs k ps=(0,0)
 | [],k,_=>rfl
 | q::ps,k,h=>by
  unfold wrongPs;rw[if_neg (by rw[h q (by simp)];simp)];exact wrongPs_of fun p hp=>h p (by simp[hp])
theorem meant_none {s:Script} (h:s.filt=false) (x:Int):meant s x=true:=by unfold meant;rw[h];rfl
theorem vm_run {l:List Rule} {t:List Int} (h:(vmE l t).1=0):runF l t=(0,0)/\vmV l t=(runAll l t).text:=by
 have h':=h;unfold vmE at h';by_cases hc:(checkRun l t).1≠0
 ·rw[if_pos hc] at h';exact absurd h' hc
 ·rw[if_neg hc] at h';by_cases h5:compE l≠0
  ·rw[if_pos h5] at h';simp at h'
  ·rw[if_neg h5] at h';have hc0:(checkRun l t).1=0:=Decidable.not_not.1 hc;refine⟨by rw[runF_ok hc0];exact Prod.ext h' rfl,?_⟩;unfold vmV;rw[if_neg (by simp[h]),runAll_ok hc0]
theorem run_nil {l:List Rule} (h:(wrongRules l).1=0):runF l []=(0,0)/\(runAll l []).text=[]:=by
 have hs:=run_still (l:=l) (t:=[]) (check_both h rfl) fun a ha=>by simp at ha
 rw[hs.1,hs.2];exact⟨rfl,rfl⟩
theorem goS_whole {s:Script} (h:s.filt=false):∀ {r pc out:List Int},goS s r pc out=match flushF s (pc++r) out with
  | .inl e=>([],e)
  | .inr o=>lastF s o
 | [],pc,out=>by rw[List.append_nil];rfl
 | x::r,pc,out=>by
  unfold goS;rw[if_pos (meant_none h x),goS_whole h,List.append_assoc];rfl
end Go.Proofs.YthomjcjnalfipaaGreatDoor
namespace Go.Proofs.YthomjcjnalfipaaGreatDoor
open Go.RowKit
structure Lk where
 fr:Int
 til:Int
 be:Int
 en:Int
 ru:Int
def linkOne (l:List Rule) (f:Int) (x:Int×Int):Lk:=
 if 0<=x.2 then ⟨f,f+(l.getD x.2.toNat default).source.length,x.1,x.1+(l.getD x.2.toNat default).target.length,x.2⟩ else ⟨f,f+1,x.1,x.1+1,-1⟩
def linksF (l:List Rule):Int->List (Int×Int)->List Lk
 | _,[]=>[]
 | f,x::xs=>linkOne l f x::linksF l (linkOne l f x).til xs
def endF (l:List Rule):Int->List (Int×Int)->Int
 | f,[]=>f
 | f,x::xs=>endF l (linkOne l f x).til xs
theorem linksF_snoc {l:List Rule}:∀ {xs:List (Int×Int)} {f:Int} {x:Int×Int},linksF l f (xs++[x])=linksF l f xs++[linkOne l (endF l f xs) x]
 | [],f,x=>rfl
 | y::xs,f,x=>by
  show linkOne l f y::linksF l _ (xs++[x])=_;rw[linksF_snoc];rfl
theorem endF_snoc {l:List Rule}:∀ {xs:List (Int×Int)} {f:Int} {x:Int×Int},endF l f (xs++[x])=(linkOne l (endF l f xs) x).til
 | [],f,x=>rfl
 | y::xs,f,x=>by
  show endF l _ (xs++[x])=_;rw[endF_snoc];rfl
theorem linksF_len {l:List Rule}:∀ {xs:List (Int×Int)} {f:Int},(linksF l f xs).length=xs.length
 | [],f=>rfl
 | y::xs,f=>by
  show (linksF l _ xs).length+1=_;rw[linksF_len];rfl
theorem linksF_get {l:List Rule}:∀ {xs:List (Int×Int)} {f:Int} {i:Nat} {x:Int×Int},xs[i]? =some x->(linksF l f xs)[i]? =some (linkOne l (endF l f (xs.take i)) x)
 | [],f,i,x,h=>by cases h
 | y::xs,f,0,x,h=>by cases h;rfl
 | y::xs,f,i+1,x,h=>linksF_get (xs:=xs) (i:=i) h
def piece (l:List Rule) (t:List Int) (k:Lk):List Int:=if 0<=k.ru then (l.getD k.ru.toNat default).target else (t.take k.til.toNat).drop k.fr.toNat
structure LkOk (l:List Rule) (t:List Int) (k:Lk):Prop where
 ru:k.ru<l.length
 lo: -1<=k.ru
 f0:0<=k.fr
 ft:k.fr<=k.til
 tl:k.til<=t.length
 b0:0<=k.be
 b1:k.be<=4000
 e0:0<=k.en
 e1:k.en<=8000
theorem drop_more {D t:List Int} {f n:Nat}:(D++t.drop f).drop (D.length+n)=t.drop (f+n):=by
 rw[<- List.drop_drop,List.drop_left,List.drop_drop]
theorem align_step {l:List Rule} {t:List Int} (hs:sureR l=true) (hok:∀ r∈l,OkRule r):∀ (n:Nat) (D:List Int) (f s p:Nat),f<=t.length->(D++t.drop f).length<=4000 ->
  (play l n ⟨D++t.drop f,D.length,s,p⟩).err=0 ->
  (play l n ⟨D++t.drop f,D.length,s,p⟩).text=D++((linksF l f (shots l n ⟨D++t.drop f,D.length,s,p⟩)).map (piece l t)).flatten /\
  ∀ k∈linksF l f (shots l n ⟨D++t.drop f,D.length,s,p⟩),LkOk l t k
 | n,D,f,s,p,hf,h4,he=>by
  have hlen:(D++t.drop f).length=D.length+(t.length-f):=by simp
  by_cases hlt:D.length<(D++t.drop f).length
  ·have hft:f<t.length:=by omega
   match n with
   | 0=>rw[play_out hlt] at he;simp at he
   | n+1=>
    by_cases hk:first l (D++t.drop f) D.length<0
    ·have hst:=playStep_no (s:=s) (p:=p) hk;have hE:D++t.drop f=(D++[t[f]])++t.drop (f+1):=by rw[List.append_assoc,List.singleton_append,<- List.drop_eq_getElem_cons hft]
     rw[play_next hlt hst] at he;rw[play_next hlt hst,shots_next (p:=⟨D++t.drop f,D.length,s,p⟩) hlt hst];have hD:D.length+1=(D++[t[f]]).length:=by simp
     have hone:linkOne l f ((D.length:Int),first l (D++t.drop f) D.length)=⟨f,(f:Int)+1,D.length,(D.length:Int)+1,-1⟩:=by
      unfold linkOne;rw[if_neg (by show ¬ 0<=first l _ _;omega)]
     show _/\∀ k∈linkOne l f ((D.length:Int),first l (D++t.drop f) D.length)::linksF l (linkOne l f ((D.length:Int),first l (D++t.drop f) D.length)).til _,LkOk l t k;show _=D++((linkOne l f ((D.length:Int),first l (D++t.drop f) D.length)::linksF l (linkOne l f ((D.length:Int),first l (D++t.drop f) D.length)).til _).map (piece l t)).flatten/\_;rw[hone];simp only[hE,hD] at he ⊢;obtain⟨i1,i2⟩:=align_step hs hok n (D++[t[f]]) (f+1) (s+1) p (by omega) (by rw[<- hE];exact h4) he;rw[Int.natCast_add] at i1 i2
     have hp:piece l t ⟨f,(f:Int)+1,D.length,(D.length:Int)+1,-1⟩=[t[f]]:=by
      unfold piece;rw[if_neg (show ¬ (0:Int)<= -1 by decide)];show (t.take ((f:Int)+1).toNat).drop (f:Int).toNat=_;rw[show ((f:Int)+1).toNat=f+1 by omega,show (f:Int).toNat=f by omega,List.take_add_one,List.drop_left' (by simp;omega)];rw[List.getElem?_eq_getElem hft];rfl
     refine⟨?_,?_⟩
     ·rw[i1,List.map_cons,List.flatten_cons,hp];simp
     ·intro k hk';rcases List.mem_cons.1 hk' with rfl | hk'
      ·exact⟨by show (-1:Int)<_;omega,by show (-1:Int)<= -1;omega,by show (0:Int)<=f;omega,by show (f:Int)<=f+1;omega,by show (f:Int)+1<=t.length;omega,by show (0:Int)<=D.length;omega,by show (D.length:Int)<=4000;omega,by show (0:Int)<=D.length+1;omega,by show (D.length:Int)+1<=8000;omega⟩
      ·exact i2 k (by simpa using hk')
    ·obtain⟨i,r,hir,hh,hfi⟩:=first_mem (by omega:0<=first l (D++t.drop f) D.length);have hroom:=here_room hh;have hm:=List.mem_of_getElem? hir;have ok:=hok r hm;have hc:=sureR_mem hs hm;by_cases hb:4000<((D++t.drop f).length:Int)-r.source.length+r.target.length
     ·rw[play_none hlt (playStep_much hfi hir hb)] at he;simp at he
     ·have hst:=playStep_put (s:=s) (p:=p) hfi hir hb;rw[play_next hlt hst] at he;rw[play_next hlt hst,shots_next (p:=⟨D++t.drop f,D.length,s,p⟩) hlt hst]
      have hP:putAt r (D++t.drop f) D.length=(D++r.target)++t.drop (f+r.source.length):=by
       unfold putAt;rw[List.take_left,drop_more]
      have hD:D.length+r.cursor.toNat=(D++r.target).length:=by rw[hc];simp
      have hil:i<l.length:=(List.getElem?_eq_some_iff.1 hir).1;have hg:l.getD i default=r:=by rw[List.getD,hir];rfl
      have hone:linkOne l f ((D.length:Int),first l (D++t.drop f) D.length)=⟨f,(f:Int)+r.source.length,D.length,(D.length:Int)+r.target.length,i⟩:=by
       unfold linkOne;rw[if_pos (by show 0<=first l _ _;omega)];simp only[hfi,Int.toNat_natCast,hg]
      have hl4:(D++r.target++t.drop (f+r.source.length)).length<=4000:=by
       have:(D++r.target++t.drop (f+r.source.length)).length=D.length+r.target.length+(t.length-(f+r.source.length)):=by simp only[List.length_append,List.length_drop]
       omega
      show _=D++((linkOne l f ((D.length:Int),first l (D++t.drop f) D.length)::linksF l (linkOne l f ((D.length:Int),first l (D++t.drop f) D.length)).til _).map (piece l t)).flatten/\∀ k∈linkOne l f ((D.length:Int),first l (D++t.drop f) D.length)::linksF l (linkOne l f ((D.length:Int),first l (D++t.drop f) D.length)).til _,LkOk l t k;rw[hone];simp only[hP,hD] at he ⊢;obtain⟨i1,i2⟩:=align_step hs hok n (D++r.target) (f+r.source.length) (s+1) (p+1) (by omega) hl4 he;rw[Int.natCast_add] at i1 i2
      have hp:piece l t ⟨f,(f:Int)+r.source.length,D.length,(D.length:Int)+r.target.length,i⟩=r.target:=by
       unfold piece;rw[if_pos (by show (0:Int)<=i;omega)];show (l.getD (i:Int).toNat default).target=_;rw[Int.toNat_natCast,hg]
      refine⟨?_,?_⟩
      ·rw[i1,List.map_cons,List.flatten_cons,hp,List.append_assoc]
      ·intro k hk';rcases List.mem_cons.1 hk' with rfl | hk'
       ·have h20:=ok.lt;exact⟨by show (i:Int)<_;omega,by show (-1:Int)<=i;omega,by show (0:Int)<=f;omega,by show (f:Int)<=f+r.source.length;omega,by show (f:Int)+r.source.length<=t.length;omega,by show (0:Int)<=D.length;omega,by show (D.length:Int)<=4000;omega,by show (0:Int)<=D.length+r.target.length;omega,by show (D.length:Int)+r.target.length<=8000;omega⟩
       ·exact i2 k hk'
  ·rw[play_end (by simpa using hlt),shots_end (p:=⟨D++t.drop f,D.length,s,p⟩) (by simpa using hlt)];have:t.drop f=[]:=List.drop_of_length_le (by omega);exact⟨by simp[linksF,this],fun k hk=>by simp[linksF] at hk⟩
theorem shots_len {l:List Rule}:∀ (n:Nat) (p:Play),(shots l n p).length<=n
 | n,p=>by
  by_cases h:p.at_<p.text.length
  ·match n with
   | 0=>unfold shots;rw[if_pos h];exact Nat.le_refl _
   | n+1=>
    cases hs:playStep l p with
    | none=>unfold shots;rw[if_pos h];simp only[hs];exact Nat.zero_le _
    | some q=>rw[shots_next h hs];exact Nat.succ_le_succ (shots_len n q)
  ·rw[shots_end h];exact Nat.zero_le _
theorem shotsF_len (l:List Rule) (t:List Int) (h:t.length<=4000):(shotsF l t).length<=40000:=by
 have:=shots_len (l:=l) (8*t.length+40) ⟨t,0,0,0⟩;unfold shotsF;omega
theorem align_law {l:List Rule} {t:List Int} (hs:sureR l=true) (he:(vmE l t).1=0) :
  (∀ k∈linksF l 0 (shotsF l t),LkOk l t k)/\vmV l t=((linksF l 0 (shotsF l t)).map (piece l t)).flatten/\(vmV l t).length<=4000/\t.length<=4000/\goF ⟨false,[],[⟨.empty,l⟩]⟩ t=(vmV l t,0,0):=by
 have hv:=he;unfold vmE at hv;by_cases hc:(checkRun l t).1≠0
 ·rw[if_pos hc] at hv;exact absurd hv hc
 rw[if_neg hc] at hv;have hc0:(checkRun l t).1=0:=Decidable.not_not.1 hc;by_cases h5:compE l≠0
 ·rw[if_pos h5] at hv;simp at hv
 rw[if_neg h5] at hv;obtain⟨hr,ht⟩:=check_parts hc0;obtain⟨_,_,hok⟩:=wrongRules_zero hr;obtain⟨t1,t2⟩:=text_parts ht;have hV:vmV l t=(runText l t).text:=by unfold vmV;rw[if_neg (by simp[he])]
 have hA:=align_step hs hok (8*t.length+40) [] 0 0 0 (Nat.zero_le _) (by simpa using t1) hv;have hA1:(runText l t).text=((linksF l 0 (shotsF l t)).map (piece l t)).flatten:=hA.1;have hA2:∀ k∈linksF l 0 (shotsF l t),LkOk l t k:=hA.2;have hL:(vmV l t).length<=4000:=vmV_len l t;refine⟨hA2,hV.trans hA1,hL,t1,?_⟩
 have hw:wrongScript ⟨false,[],[⟨.empty,l⟩]⟩=(0,0):=by
  unfold wrongScript;rw[if_neg (by simp),if_neg (by simp)];refine wrongPs_of fun p hp=>?_;obtain rfl:=List.mem_singleton.1 hp;unfold wrongPas;rw[if_pos rfl];exact hr
 unfold goF;rw[hw,if_neg (by simp),if_neg (by simp[ht]),goS_whole rfl];unfold flushF;rw[List.nil_append];by_cases h3:t=[]
 ·rw[if_pos h3];subst h3;have:vmV l []=[]:=by rw[(vm_run he).2,(run_nil hr).2]
  rw[this];show lastF _ []=_;unfold lastF;rw[if_neg (by simp)]
 rw[if_neg h3]
 have hall:allP 0 [⟨.empty,l⟩] t=(vmV l t,0,0):=by
  unfold allP
  have hp:passF ⟨.empty,l⟩ t=(vmV l t,0):=by
   rw[passF_rules (show (ByteArray.empty)≠upperS by decide) (show (ByteArray.empty)≠lowerS by decide) (show (ByteArray.empty)≠removeS by decide) (show (ByteArray.empty)≠nullS by decide)];show (vmV l t,(vmE l t).1)=_;rw[he]
  rw[hp,if_neg (by simp)];rfl
 rw[hall,if_neg (by simp),List.nil_append];show lastF _ (vmV l t)=_;unfold lastF;rw[if_neg (by omega)]
def rShot:World->List Value->Int×Int->Prop:=fun _ vs x=>vs=[.int .i64 x.1,.int .i64 x.2]/\i64 x.1/\i64 x.2
def rLk:World->List Value->Lk->Prop:=fun _ vs x=>vs=[.int .i64 x.fr,.int .i64 x.til,.int .i64 x.be,.int .i64 x.en,.int .i64 x.ru]/\i64 x.fr/\i64 x.til/\i64 x.be/\i64 x.en/\i64 x.ru
theorem keep_shot (ok:Nat->Prop):Keep rShot ok:=fun _ _ _ _ _ h=>h
theorem keep_lk (ok:Nat->Prop):Keep rLk ok:=fun _ _ _ _ _ h=>h
theorem one_shot:One rShot:=fun w vs x h u hu=>by obtain⟨rfl,_⟩:=h;simp at hu;rcases hu with rfl | rfl <;> rfl
theorem one_lk:One rLk:=fun w vs x h u hu=>by obtain⟨rfl,_⟩:=h;simp at hu;rcases hu with rfl | rfl | rfl | rfl | rfl <;> rfl
theorem TE_shot:ElemT Tryz.prog 88 93 2 16:=elemT Tryz.underlying88 (z:=.agg #[.int .i64 0,.int .i64 0]) (by kernel_rfl) rfl (by omega)
theorem TE_lk:ElemT Tryz.prog 54 58 5 40:=elemT Tryz.underlying54 (z:=.agg #[.int .i64 0,.int .i64 0,.int .i64 0,.int .i64 0,.int .i64 0]) (by kernel_rfl) rfl (by omega)
section
variable {w : World} {A : Option Addr} {n c k : Nat} {ok : Nat -> Prop}
theorem SlR.shot {l:List (Int×Int)} {x:Int×Int} (h:SlR rShot 2 ok w A n c l) (hx:l[k]? =some x) :
  ∃ b off,A=some ⟨b,off,none⟩/\(b<w.heap.size/\b≠w.heap.size)/\w.cell? ⟨b,off+k*2,none⟩=some (.int .i64 x.1)/\w.cell? ⟨b,off+k*2+1,none⟩=some (.int .i64 x.2)/\i64 x.1/\i64 x.2:=by
 obtain⟨b,off,vs,e,ho,_,⟨rfl,hb,hb'⟩,hc⟩:=h.at_ k x hx;have h0:=hc 0 _ rfl;have hlt:b<w.heap.size:=World.block_lt_of_cell? w _ h0;exact⟨b,off,e,⟨hlt,by omega⟩,by simpa using h0,by simpa using hc 1 _ rfl,hb,hb'⟩
theorem SlR.lk {l:List Lk} {x:Lk} (h:SlR rLk 5 ok w A n c l) (hx:l[k]? =some x) :
  ∃ b off,A=some ⟨b,off,none⟩/\(b<w.heap.size/\b≠w.heap.size)/\w.cell? ⟨b,off+k*5,none⟩=some (.int .i64 x.fr)/\w.cell? ⟨b,off+k*5+1,none⟩=some (.int .i64 x.til)/\w.cell? ⟨b,off+k*5+2,none⟩=some (.int .i64 x.be) /\
   w.cell? ⟨b,off+k*5+3,none⟩=some (.int .i64 x.en)/\w.cell? ⟨b,off+k*5+4,none⟩=some (.int .i64 x.ru):=by
 obtain⟨b,off,vs,e,ho,_,⟨rfl,_⟩,hc⟩:=h.at_ k x hx;have h0:=hc 0 _ rfl;have hlt:b<w.heap.size:=World.block_lt_of_cell? w _ h0;exact⟨b,off,e,⟨hlt,by omega⟩,by simpa using h0,by simpa using hc 1 _ rfl,by simpa using hc 2 _ rfl,by simpa using hc 3 _ rfl,by simpa using hc 4 _ rfl⟩
end
theorem shot_one (w:World) (x:Int×Int) (t:TypeId) (h1:i64 x.1) (h2:i64 x.2):SlR rShot 2 top (w.alloc (.cells #[.int .i64 x.1,.int .i64 x.2] t)) (some ⟨w.heap.size,0,none⟩) 1 1 [x]:=by
 refine SlR.fresh rfl (by unfold maxLen;omega) fun k u huu=>?_
 match k,huu with
 | 0,huu=>
  cases huu
  exact⟨[.int .i64 x.1,.int .i64 x.2],rfl,⟨rfl,h1,h2⟩,fun j v hv=>by
   match j,hv with
   | 0,hv=>simpa using hv
   | 1,hv=>simpa using hv⟩
theorem lk_one (w:World) (x:Lk) (t:TypeId) (h1:i64 x.fr) (h2:i64 x.til) (h3:i64 x.be) (h4:i64 x.en) (h5:i64 x.ru):SlR rLk 5 top (w.alloc (.cells #[.int .i64 x.fr,.int .i64 x.til,.int .i64 x.be,.int .i64 x.en,.int .i64 x.ru] t)) (some ⟨w.heap.size,0,none⟩) 1 1 [x]:=by
 refine SlR.fresh rfl (by unfold maxLen;omega) fun k u huu=>?_
 match k,huu with
 | 0,huu=>
  cases huu
  exact⟨[.int .i64 x.fr,.int .i64 x.til,.int .i64 x.be,.int .i64 x.en,.int .i64 x.ru],rfl,⟨rfl,h1,h2,h3,h4,h5⟩,fun j v hv=>by
   match j,hv with
   | 0,hv=>simpa using hv
   | 1,hv=>simpa using hv
   | 2,hv=>simpa using hv
   | 3,hv=>simpa using hv
   | 4,hv=>simpa using hv⟩
structure Trc (C:Nat) (O:Nat->Prop) (W:World) (xs:List (Int×Int)) (v:Value):Prop where
 vr:Vr W C v
 row:OwnR rShot 93 2 (C+1) W v xs
 oc:O C
 ov:∀ g,v.ownBlock=some g->O g
 olt:∀ b,O b->b<W.heap.size
def TrcT (C:Nat):(Nat->Prop)->World->List (Int×Int)->Prop:=fun O W xs=>∃ v,Trc C O W xs v
theorem Trc.keep {C:Nat} {O S:Nat->Prop} {W W':World} {xs:List (Int×Int)} {v:Value} (h:Trc C O W xs v) (e:Aside S W W') (hn:∀ b,O b->¬ S b):Trc C O W' xs v:=
 ⟨h.vr.keep (e.block C (h.olt C h.oc) (hn C h.oc)) e.size,h.row.keep (keep_shot bot) (fun b hb=>hb.elim) (fun g hg=>e.block g (h.olt g (h.ov g hg)) (hn g (h.ov g hg))),h.oc,h.ov,fun b hb=>Nat.lt_of_lt_of_le (h.olt b hb) e.size⟩
end Go.Proofs.YthomjcjnalfipaaGreatDoor
