/- A part of the proof of rowTopUntouched.proved. -/
import Derived.Lib.QuoteLoop
import Derived.Lib.TrimUEq
import Derived.Test.YthomjcjnalfipaaGreatDoorYB44
set_option linter.all false
namespace Go.Proofs.YthomjcjnalfipaaGreatDoor
theorem wrongFrom_of:∀ (l:List Sp) (p:Option Sp),(∀ x∈l,0<=x.lo/\x.lo<=x.hi/\x.hi<=1114111)->l.Pairwise (fun a b=>a.hi+1<b.lo) ->
  (∀ y,p=some y->∀ x∈l,y.hi+1<x.lo)->wrongFrom p l=0
 | [],_,_,_,_=>rfl
 | x::r,p,h1,h2,h3=>by
  have hx:=h1 x (List.mem_cons_self ..);have hb:spBad x=false:=by simp[spBad];omega
  have hn:near p x=false:=by
   cases p with
   | none=>rfl
   | some y=>exact near_no (by have:=h3 y rfl x (List.mem_cons_self ..);omega)
  rw[wrongFrom_next hb hn];rw[List.pairwise_cons] at h2;exact wrongFrom_of r (some x) (fun z hz=>h1 z (List.mem_cons_of_mem _ hz)) h2.2 (fun y hy z hz=>by cases hy;exact h2.1 z hz)
theorem wrong_of_good {l:List Sp} (h:Good l):wrongSet l=0:=by
 unfold wrongSet;have:=h.len;rw[if_neg (by omega)];exact wrongFrom_of l none h.rng h.pw (fun y hy=>by simp at hy)
end Go.Proofs.YthomjcjnalfipaaGreatDoor
namespace Go.Proofs.YthomjcjnalfipaaGreatDoor
def runAll (l:List Rule) (t:List Int):Out:=if (checkRun l t).1≠0 then ⟨[],0,0,(checkRun l t).1⟩ else runText l t
def runF (l:List Rule) (t:List Int):Int×Nat:=if (checkRun l t).1≠0 then checkRun l t else ((runText l t).err,0)
theorem runF_ok {l:List Rule} {t:List Int} (h:(checkRun l t).1=0):runF l t=((runText l t).err,0):=by unfold runF;rw[if_neg (by simp[h])]
theorem runAll_ok {l:List Rule} {t:List Int} (h:(checkRun l t).1=0):runAll l t=runText l t:=by unfold runAll;rw[if_neg (by simp[h])]
end Go.Proofs.YthomjcjnalfipaaGreatDoor
namespace Go.Proofs.YthomjcjnalfipaaGreatDoor
theorem Canon.good {l:List Sp} (h:Canon l) (hl:l.length<=200):Good l:=⟨hl,h.rng,h.pw⟩
end Go.Proofs.YthomjcjnalfipaaGreatDoor
namespace Go.Proofs.YthomjcjnalfipaaGreatDoor
open Go.RowKit Go.Shelf Go.Lib Go.Sort
def SetR (s:List Sp) (err:Int) (w':World) (e:Ending):Prop:=∃ A c,e=.returned (.tuple #[.slice A s.length c,.int .i64 err])/\Spans w' A s.length c s
theorem SetF.weak {base:Nat} {s:List Sp} {err:Int} {w':World} {e:Ending} (h:SetF base s err w' e):SetR s err w' e:=by
 obtain⟨A,c,e,hs⟩:=h;exact⟨A,c,e,hs.mono (fun _ _ h=>h) (fun _ _=>trivial)⟩
theorem Of_any (A:Option Addr) (n c:Nat) (l:List Sp) (w:World) (h:Spans w A n c l) (hn:n*8<=140737488353280) :
  Calls Tryz.prog 29 #[.slice A n c] w fun e w'=>SetR (ofV l) (ofE l) w' e/\Ext w w':=
 (OfF_any A n c l w h hn).mono fun e w' h=>⟨h.1.weak,h.2⟩
end Go.Proofs.YthomjcjnalfipaaGreatDoor
namespace Go.Proofs.YthomjcjnalfipaaGreatDoor
def set0 (r:Rule):List Sp:=r.source.headD []
def allF (l:List Rule):List Sp:=l.flatMap set0
theorem has_allF {l:List Rule} {r:Rule} (hr:r∈l) {x:Int} (h:has (set0 r) x=true):has (allF l) x=true:=by
 unfold has at h ⊢;rw[List.any_eq_true] at h ⊢;obtain⟨y,hy,hx⟩:=h;exact⟨y,List.mem_flatMap.2 ⟨r,hr,hy⟩,hx⟩
theorem set0_ok {r:Rule} (ok:OkRule r):∃ ss,r.source=set0 r::ss/\Good (set0 r):=by
 have h0:=ok.s0;unfold set0
 cases h:r.source with
 | nil=>rw[h] at h0;simp at h0
 | cons s ss=>exact⟨ss,rfl,good_of (ok.s s (by rw[h];simp))⟩
theorem allF_ok {l:List Rule} (ok:∀ r∈l,OkRule r):∀ x∈allF l,okSp x:=fun x hx=>by
 obtain⟨r,hr,hx⟩:=List.mem_flatMap.1 hx;obtain⟨_,_,g⟩:=set0_ok (ok r hr);exact good_ok g x hx
theorem allF_snoc (l:List Rule) (r:Rule):allF (l++[r])=allF l++set0 r:=by simp[allF]
theorem allF_len:∀ (l:List Rule),(∀ r∈l,OkRule r)->(allF l).length<=200*l.length
 | [],_=>by simp[allF]
 | r::l,h=>by
  have h1:=allF_len l fun x hx=>h x (by simp[hx]);obtain⟨_,_,g⟩:=set0_ok (h r (by simp));have:=g.len;have e:allF (r::l)=set0 r++allF l:=by simp[allF]
  rw[e,List.length_append,List.length_cons];omega
theorem here_first {r:Rule} (ok:OkRule r) {t:List Int} {a:Nat} {x:Int} (hx:t[a]? =some x) (hn:has (set0 r) x=false):here r t a=false:=by
 obtain⟨ss,hs,_⟩:=set0_ok ok
 have:allAt t a r.source=false:=by
  unfold allAt;rw[hs,Int.toNat_natCast,drop_cons hx];unfold zipHas;rw[hn];simp
 unfold here;rw[this];rfl
theorem first_none {l:List Rule} {t:List Int} {a:Int} (h:∀ r∈l,here r t a=false):first l t a= -1:=by
 unfold first
 exact idxFrom_neg _ _ _ (by rw[List.any_eq_false];intro r hr;rw[h r hr];simp)
theorem play_still {l:List Rule} {t:List Int} (h:∀ a:Nat,a<t.length->first l t a<0):∀ (n a s p:Nat),a<=t.length->t.length-a<=n ->
  play l n ⟨t,a,s,p⟩=⟨t,s+(t.length-a),p,0⟩
 | n,a,s,p,ha,hn=>by
  by_cases hlt:a<t.length
  ·match n with
   | 0=>omega
   | n+1=>
    rw[play_next hlt (playStep_no (h a hlt)),play_still h n (a+1) (s+1) p (by omega) (by omega)];congr 1;omega
  ·rw[play_end (by simpa using hlt)];show (⟨t,s,p,0⟩:Out)=⟨t,s+(t.length-a),p,0⟩;congr 1;omega
theorem run_still {l:List Rule} {t:List Int} (hc:(checkRun l t).1=0) (h:∀ a:Nat,a<t.length->first l t a<0):runAll l t=⟨t,t.length,0,0⟩/\runF l t=(0,0):=by
 have e:runText l t=⟨t,t.length,0,0⟩:=by
  unfold runText;rw[play_still h _ 0 0 0 (by omega) (by omega)];congr 1;omega
 rw[runAll_ok hc,runF_ok hc,e];exact⟨rfl,rfl⟩
theorem check_both {l:List Rule} {t:List Int} (hr:(wrongRules l).1=0) (ht:wrongText t=0):(checkRun l t).1=0:=by rw[checkRun_text hr];exact ht
theorem text_mk {t:List Int} (h1:t.length<=4000) (h2:t.all right=true):wrongText t=0:=by
 unfold wrongText;rw[if_neg (by omega),h2];rfl
theorem firsts_law {l:List Rule} {t:List Int} (hr:(wrongRules l).1=0) (he:ofE (allF l)=0) (ht:wrongText t=0) :
  runAll l (t.filter fun x=>!has (ofV (allF l)) x)=⟨t.filter fun x=>!has (ofV (allF l)) x,(t.filter fun x=>!has (ofV (allF l)) x).length,0,0⟩/\runF l (t.filter fun x=>!has (ofV (allF l)) x)=(0,0):=by
 obtain⟨_,_,hok⟩:=wrongRules_zero hr;obtain⟨t1,t2⟩:=text_parts ht;have hset:=ofS_set (allF_ok hok)
 have hv:ofV (allF l)=ofS (allF l):=by
  by_cases hg:200<(ofS (allF l)).length
  ·have hb:(allF l).any spBad=false:=by rw[List.any_eq_false];intro x hx;simpa using okSp_iff.2 (allF_ok hok x hx)
   rw[(ofE_big hb hg).1] at he;simp at he
  ·have hb:(allF l).any spBad=false:=by rw[List.any_eq_false];intro x hx;simpa using okSp_iff.2 (allF_ok hok x hx)
   exact (ofE_ok hb hg).2
 refine run_still (check_both hr (text_mk (Nat.le_trans (List.length_filter_le _ _) t1) ?_)) fun a ha=>?_
 ·rw[List.all_eq_true] at t2 ⊢;exact fun x hx=>t2 x (List.mem_filter.1 hx).1
 ·obtain⟨x,hx⟩:∃ x,(t.filter fun x=>!has (ofV (allF l)) x)[a]? =some x:=⟨_,List.getElem?_eq_getElem ha⟩
  have hm:=(List.mem_filter.1 (List.mem_of_getElem? hx)).2;rw[first_none fun r hr'=>here_first (hok r hr') hx ?_]
  ·omega
  ·cases hh:has (set0 r) x with
   | false=>rfl
   | true=>
    rw[hv,hset.2 x,has_allF hr' hh] at hm;simp at hm
end Go.Proofs.YthomjcjnalfipaaGreatDoor
namespace Go.Proofs.YthomjcjnalfipaaGreatDoor
theorem wrongPas_rules {p:Pas} (h:wrongPas p=0):wrongRules p.rules=(0,0)/\(p.name≠ .empty->p.rules=[]):=by
 unfold wrongPas at h;by_cases h1:p.name=.empty
 ·rw[if_pos h1] at h;exact⟨(wrongRules_zero h).1,fun hn=>absurd h1 hn⟩
 ·rw[if_neg h1] at h;by_cases h2:(!(passS.any fun x=>decide (p.name=x)))=true
  ·rw[if_pos h2] at h;simp at h
  ·rw[if_neg h2] at h;by_cases h3:0<p.rules.length
   ·rw[if_pos h3] at h;simp at h
   ·have:p.rules=[]:=List.eq_nil_of_length_eq_zero (by omega);exact⟨by rw[this];rfl,fun _=>this⟩
theorem vm_still {l:List Rule} {t:List Int} (hr:(wrongRules l).1=0) (he:ofE (allF l)=0) (ht:wrongText t=0) (hn:∀ x∈t,has (ofV (allF l)) x=false):(vmE l t).1=5\/(vmE l t=(0,0)/\vmV l t=t):=by
 have hf:(t.filter fun x=>!has (ofV (allF l)) x)=t:=List.filter_eq_self.2 fun x hx=>by rw[hn x hx];rfl
 have hl:=firsts_law hr he ht;rw[hf] at hl;have hc:=check_both hr ht;by_cases h5:compE l≠0
 ·left;unfold vmE;rw[if_neg (by simp[hc]),if_pos h5]
 ·have hE:vmE l t=(0,0):=by
   unfold vmE;rw[if_neg (by simp[hc]),if_neg h5,<- runAll_ok hc,hl.1]
  exact .inr ⟨hE,by unfold vmV;rw[hE,if_neg (by simp),<- runAll_ok hc,hl.1]⟩
theorem map_same {f:Int->Int} {t:List Int} (h:∀ x∈t,f x=x):t.map f=t:=by
 conv=>rhs;rw[<- List.map_id t]
 exact List.map_congr_left fun x hx=>h x hx
theorem pass_still {p:Pas} {t:List Int} (hp:wrongPas p=0) (hn:p.name≠removeS) (he:ofE (allF p.rules)=0) (ht:wrongText t=0) (h:∀ x∈t,has (ofV (allF p.rules)) x=false/\upF x=x/\loF x=x) :
  (passF p t).2=5\/passF p t=(t,0):=by
 unfold passF;by_cases h1:p.name=upperS
 ·rw[if_pos h1];right;rw[map_same fun x hx=>(h x hx).2.1]
 rw[if_neg h1];by_cases h2:p.name=lowerS
 ·rw[if_pos h2];right;rw[map_same fun x hx=>(h x hx).2.2]
 rw[if_neg h2,if_neg hn];by_cases h4:p.name=nullS
 ·rw[if_pos h4];right;rfl
 rw[if_neg h4];rcases vm_still (by rw[(wrongPas_rules hp).1]) he ht fun x hx=>(h x hx).1 with h5 | ⟨h5,h6⟩
 ·left;exact h5
 ·right;rw[h5,h6]
theorem all_still:∀ {ps:List Pas} {k:Nat} {t:List Int},(∀ p∈ps,wrongPas p=0/\p.name≠removeS/\ofE (allF p.rules)=0/\∀ x∈t,has (ofV (allF p.rules)) x=false/\upF x=x/\loF x=x)->wrongText t=0 ->
  (allP k ps t).2.1=5\/allP k ps t=(t,0,0)
 | [],k,t,_,_=>.inr rfl
 | p::ps,k,t,h,ht=>by
  obtain⟨h1,h2,h3,h4⟩:=h p (by simp);unfold allP;rcases pass_still h1 h2 h3 ht h4 with h5 | h5
  ·left;rw[if_pos (by rw[h5];simp)];exact h5
  ·rw[h5,if_neg (by simp)];exact all_still (fun q hq=>h q (by simp[hq])) ht
theorem text_sub {t u:List Int} (h:wrongText t=0) (hl:u.length<=t.length) (hm:∀ x∈u,x∈t):wrongText u=0:=by
 obtain⟨h1,h2⟩:=text_parts h;refine text_mk (by omega) ?_;rw[List.all_eq_true] at h2 ⊢;exact fun x hx=>h2 x (hm x hx)
theorem goS_still {s:Script} {T:List Int} (hT:wrongText T=0) (h:∀ p∈s.passes,wrongPas p=0/\p.name≠removeS/\ofE (allF p.rules)=0/\∀ x∈T,has (ofV (allF p.rules)) x=false/\upF x=x/\loF x=x) :
  ∀ {r pc out:List Int},out++pc++r=T->(goS s r pc out).2.1=5\/goS s r pc out=(T,0,0)
 | [],pc,out,e=>by
  rw[List.append_nil] at e;have hpc:wrongText pc=0:=text_sub hT (by rw[<- e];simp) fun x hx=>by rw[<- e];simp[hx]
  have hall:=all_still (ps:=s.passes) (k:=0) (t:=pc) (fun p hp=>⟨(h p hp).1,(h p hp).2.1,(h p hp).2.2.1,fun x hx=>(h p hp).2.2.2 x (by rw[<- e];simp[hx])⟩) hpc;have hlen:T.length<=4000:=(text_parts hT).1;unfold goS flushF;by_cases hn:pc=[]
  ·rw[if_pos hn];subst hn;rw[List.append_nil] at e;right;show lastF s out=_;unfold lastF;rw[e,if_neg (by omega)]
  ·rw[if_neg hn];rcases hall with h5 | h5
   ·rw[if_pos (by rw[h5];simp)];left;exact h5
   ·rw[h5,if_neg (by simp)];right;show lastF s (out++pc)=_;unfold lastF;rw[e,if_neg (by omega)]
 | x::r,pc,out,e=>by
  have hpc:wrongText pc=0:=text_sub hT (by rw[<- e];simp;omega) fun y hy=>by rw[<- e];simp[hy]
  have hall:=all_still (ps:=s.passes) (k:=0) (t:=pc) (fun p hp=>⟨(h p hp).1,(h p hp).2.1,(h p hp).2.2.1,fun y hy=>(h p hp).2.2.2 y (by rw[<- e];simp[hy])⟩) hpc;unfold goS flushF;by_cases hm:meant s x=true
  ·rw[if_pos hm];exact goS_still hT h (by rw[<- e];simp)
  ·rw[if_neg hm];by_cases hn:pc=[]
   ·rw[if_pos hn];subst hn;exact goS_still hT h (by rw[<- e];simp)
   ·rw[if_neg hn];rcases hall with h5 | h5
    ·rw[if_pos (by rw[h5];simp)];left;exact h5
    ·rw[h5,if_neg (by simp)];exact goS_still hT h (by rw[<- e];simp)
theorem untouched_law {s:Script} {t:List Int} (hs:(wrongScript s).1=0) (hr:t.all right=true)
  (h:∀ p∈s.passes,p.name≠removeS/\ofE (allF p.rules)=0/\∀ x∈t,has (ofV (allF p.rules)) x=false/\upF x=x/\loF x=x) :
  goF s t=(t,0,0)\/(goF s t).2.1=5\/((goF s t).2.1=4/\4000<t.length):=by
 obtain⟨_,_,h3⟩:=wrongScript_zero hs;unfold goF;rw[if_neg (by simp[hs])];by_cases ht:wrongText t=0
 ·rw[if_neg (by simp[ht])];rcases goS_still (r:=t) (pc:=[]) (out:=[]) ht (fun p hp=>⟨h3 p hp,h p hp⟩) (by simp) with h5 | h5
  ·exact .inr (.inl h5)
  ·exact .inl h5
 ·rw[if_pos ht];right;right;unfold wrongText at ht ⊢;by_cases hl:4000<t.length
  ·rw[if_pos hl];exact⟨rfl,hl⟩
  ·rw[if_neg hl,hr] at ht;simp at ht
end Go.Proofs.YthomjcjnalfipaaGreatDoor
namespace Go.Proofs.YthomjcjnalfipaaGreatDoor
open Go.RowKit
theorem decode_right (s:ByteArray) (pos:Nat):right ((Utf8.decode s pos).1:Int)=true:=by
 have h:=Lib.decodeN_valid (s.size-pos) (s.get! pos).toNat (s.get! (pos+1)).toNat (s.get! (pos+2)).toNat (s.get! (pos+3)).toNat (UInt8.toNat_lt _);rw[<- Lib.decode_at] at h;unfold right;simp;omega
theorem decodeN_right (s:ByteArray):∀ (f pos:Nat),(decodeN s f pos).all right=true
 | 0,_=>rfl
 | f+1,pos=>by
  unfold decodeN;split
  ·rw[List.all_cons,decode_right,decodeN_right s f];rfl
  ·rfl
theorem decodeF_right (s:ByteArray):(decodeF s).all right=true:=decodeN_right s _ _
theorem scriptF_wrong {s:ByteArray} {S:Script} (h:scriptF s=some S):(wrongScript S).1=0:=by
 unfold scriptF at h;split at h
 ·cases h
 ·split at h
  ·cases h
  ·split at h
   ·cases h
   ·rename_i h3;cases h;exact Decidable.not_not.1 h3
def unR (p:Pas) (x:Int):Prop:=has (ofV (allF p.rules)) x=false/\upF x=x/\loF x=x
def unP (t:List Int) (p:Pas):Prop:=p.name≠removeS/\ofE (allF p.rules)=0/\∀ x∈t,unR p x
theorem unP_law {s:Script} {b:ByteArray} {S:ByteArray} (hs:scriptF S=some s) (h:∀ j,j<s.passes.length->∀ p,s.passes[j]? =some p->unP (decodeF b) p) :
  goF s (decodeF b)=(decodeF b,0,0)\/(goF s (decodeF b)).2.1=5\/((goF s (decodeF b)).2.1=4/\4000<(decodeF b).length):=
 untouched_law (scriptF_wrong hs) (decodeF_right b) fun p hp=>by
  obtain⟨j,hj,e⟩:=List.getElem_of_mem hp;exact h j hj p (by rw[List.getElem?_eq_getElem hj,e])
end Go.Proofs.YthomjcjnalfipaaGreatDoor
