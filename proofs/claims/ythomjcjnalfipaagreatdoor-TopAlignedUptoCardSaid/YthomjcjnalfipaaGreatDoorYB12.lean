/- A part of the proofs of the Top laws. -/
import Derived.RegionTactic
import Derived.StillTailTactics
import Derived.Deep.Cut
import Derived.Deep.CutRange
import Derived.Test.YthomjcjnalfipaaGreatDoorYB10
set_option linter.all false
set_option maxRecDepth 100000
set_option maxHeartbeats 1600000
open Go.Lib (hid)
namespace Go.Proofs.YthomjcjnalfipaaGreatDoor
structure Canon (l:List Sp):Prop where
 rng:∀ x∈l,0<=x.lo/\x.lo<=x.hi/\x.hi<=1114111
 pw:l.Pairwise fun a b=>a.hi+1<b.lo
theorem Good.canon {l:List Sp} (h:Good l):Canon l:=⟨h.rng,h.pw⟩
theorem Canon.tail {x:Sp} {l:List Sp} (h:Canon (x::l)):Canon l:=⟨fun y hy=>h.rng y (List.mem_cons_of_mem _ hy),(List.pairwise_cons.1 h.pw).2⟩
theorem Canon.nil:Canon []:=⟨fun x hx=>by simp at hx,List.Pairwise.nil⟩
theorem has_cons (x:Sp) (l:List Sp) (r:Int):has (x::l) r=(inSp x r||has l r):=rfl
theorem has_nil (r:Int):has [] r=false:=rfl
theorem inSp_iff {x:Sp} {r:Int}:inSp x r=true↔x.lo<=r/\r<=x.hi:=by simp[inSp]
theorem Canon.behind {x:Sp} {l:List Sp} (h:Canon (x::l)) {r:Int} (hr:has l r=true):x.hi+1<r:=by
 obtain⟨y,hy,h1,h2⟩:=has_iff.1 hr;have:=(List.pairwise_cons.1 h.pw).1 y hy;omega
theorem canon_eq:∀ {a b:List Sp},Canon a->Canon b->(∀ r,has a r=has b r)->a=b
 | [],[],_,_,_=>rfl
 | [],y::b,_,hb,h=>by
  have:=h y.lo;have hy:=hb.rng y (by simp);rw[has_nil,has_cons,inSp_iff.2 ⟨by omega,by omega⟩] at this;simp at this
 | x::a,[],ha,_,h=>by
  have:=h x.lo;have hx:=ha.rng x (by simp);rw[has_nil,has_cons,inSp_iff.2 ⟨by omega,by omega⟩] at this;simp at this
 | x::a,y::b,ha,hb,h=>by
  have hx:=ha.rng x (by simp);have hy:=hb.rng y (by simp)
  have key:∀ {x y:Sp} {a b:List Sp},Canon (x::a)->Canon (y::b)->(∀ r,has (x::a) r=has (y::b) r)->y.lo<=x.lo:=by
   intro x y a b ha hb h;have hx:=ha.rng x (by simp);have:=h x.lo;rw[has_cons,inSp_iff.2 ⟨by omega,by omega⟩,Bool.true_or,has_cons] at this;have:=this.symm;rw[Bool.or_eq_true] at this;rcases this with h1 | h1
   ·exact (inSp_iff.1 h1).1
   ·have:=hb.behind h1;have:=hb.rng y (by simp);omega
  have e1:x.lo=y.lo:=Int.le_antisymm (key hb ha fun r=>(h r).symm) (key ha hb h)
  have key2:∀ {x y:Sp} {a b:List Sp},Canon (x::a)->Canon (y::b)->(∀ r,has (x::a) r=has (y::b) r)->x.lo=y.lo->y.hi<=x.hi:=by
   intro x y a b ha hb h e;by_cases hlt:x.hi<y.hi
   ·exfalso;have hx:=ha.rng x (by simp);have:=h (x.hi+1);have h2:has (y::b) (x.hi+1)=true:=by rw[has_cons,inSp_iff.2 ⟨by omega,by omega⟩,Bool.true_or]
    rw[h2,has_cons,Bool.or_eq_true] at this;rcases this with h1 | h1
    ·have:=(inSp_iff.1 h1).2;omega
    ·have:=ha.behind h1;omega
   ·omega
  have e2:x.hi=y.hi:=Int.le_antisymm (key2 hb ha (fun r=>(h r).symm) e1.symm) (key2 ha hb h e1);have exy:x=y:=Sp.ext' e1 e2;subst exy
  have:a=b:=canon_eq ha.tail hb.tail fun r=>by
   have:=h r;rw[has_cons,has_cons] at this;cases hi:inSp x r
   ·simpa [hi] using this
   ·have h1:has a r=false:=by
     cases e:has a r
     ·rfl
     ·have:=ha.behind e;have:=(inSp_iff.1 hi).2;omega
    have h2:has b r=false:=by
     cases e:has b r
     ·rfl
     ·have:=hb.behind e;have:=(inSp_iff.1 hi).2;omega
    rw[h1,h2]
  rw[this]
def mergeFrom:Sp->List Sp->List Sp
 | c,[]=>[c]
 | c,x::r=>if x.lo<=c.hi+1 then mergeFrom ⟨c.lo,max c.hi x.hi⟩ r else c::mergeFrom x r
def mergedL:List Sp->List Sp
 | []=>[]
 | x::r=>mergeFrom x r
def okSp (x:Sp):Prop:=0<=x.lo/\x.lo<=x.hi/\x.hi<=1114111
theorem okSp_iff {x:Sp}:spBad x=false↔okSp x:=⟨fun h=>by have:=spBad_no h;exact⟨this.1,this.2.2,this.2.1⟩,fun h=>by unfold okSp at h;unfold spBad;rw[decide_eq_false (by omega),decide_eq_false (by omega),decide_eq_false (by omega)];rfl⟩
theorem mergeFrom_has:∀ (l:List Sp) (c:Sp) (r:Int),okSp c->(∀ x∈l,okSp x)->(c::l).Pairwise (fun a b=>a.lo<=b.lo)->has (mergeFrom c l) r=(inSp c r||has l r)
 | [],c,r,_,_,_=>by simp[mergeFrom,has]
 | x::l,c,r,hc,hl,hp=>by
  have hx:=hl x (by simp);obtain⟨p1,p2⟩:=List.pairwise_cons.1 hp;obtain⟨p3,p4⟩:=List.pairwise_cons.1 p2;have hcx:=p1 x (by simp);unfold okSp at hc hx;unfold mergeFrom;by_cases hm:x.lo<=c.hi+1
  ·have hc':okSp ⟨c.lo,max c.hi x.hi⟩:=by unfold okSp;simp only[];omega
   rw[if_pos hm,mergeFrom_has l _ r hc' (fun y hy=>hl y (by simp[hy])) (List.pairwise_cons.2 ⟨fun y hy=>p1 y (by simp[hy]),p4⟩),has_cons,<- Bool.or_assoc];congr 1;rw[Bool.eq_iff_iff,Bool.or_eq_true,inSp_iff,inSp_iff,inSp_iff];simp only[];omega
  ·rw[if_neg hm,has_cons,mergeFrom_has l x r hx (fun y hy=>hl y (by simp[hy])) p2,has_cons]
theorem mergeFrom_canon:∀ (l:List Sp) (c:Sp),okSp c->(∀ x∈l,okSp x)->(c::l).Pairwise (fun a b=>a.lo<=b.lo) ->
  Canon (mergeFrom c l)/\∀ y∈mergeFrom c l,c.lo<=y.lo
 | [],c,hc,_,_=>⟨⟨fun x hx=>by simp[mergeFrom] at hx;subst hx;exact hc,by simp[mergeFrom]⟩,fun y hy=>by simp[mergeFrom] at hy;subst hy;exact Int.le_refl _⟩
 | x::l,c,hc,hl,hp=>by
  have hx:=hl x (by simp);obtain⟨p1,p2⟩:=List.pairwise_cons.1 hp;obtain⟨p3,p4⟩:=List.pairwise_cons.1 p2;have hcx:=p1 x (by simp);unfold okSp at hc hx;unfold mergeFrom;by_cases hm:x.lo<=c.hi+1
  ·rw[if_pos hm];exact mergeFrom_canon l ⟨c.lo,max c.hi x.hi⟩ (by unfold okSp;simp only[];omega) (fun y hy=>hl y (by simp[hy])) (List.pairwise_cons.2 ⟨fun y hy=>p1 y (by simp[hy]),p4⟩)
  ·rw[if_neg hm];obtain⟨h1,h2⟩:=mergeFrom_canon l x hx (fun y hy=>hl y (by simp[hy])) p2;refine⟨⟨fun y hy=>?_,List.pairwise_cons.2 ⟨fun y hy=>by have:=h2 y hy;omega,h1.pw⟩⟩,fun y hy=>?_⟩
   ·rcases List.mem_cons.1 hy with rfl | hy
    ·exact hc
    ·exact h1.rng y hy
   ·rcases List.mem_cons.1 hy with rfl | hy
    ·exact Int.le_refl _
    ·have:=h2 y hy;omega
theorem merged_has {l:List Sp} (hl:∀ x∈l,okSp x) (hp:l.Pairwise (fun a b=>a.lo<=b.lo)) (r:Int):has (mergedL l) r=has l r:=by
 cases l with
 | nil=>rfl
 | cons x l=>exact mergeFrom_has l x r (hl x (by simp)) (fun y hy=>hl y (by simp[hy])) hp
theorem merged_canon {l:List Sp} (hl:∀ x∈l,okSp x) (hp:l.Pairwise (fun a b=>a.lo<=b.lo)):Canon (mergedL l):=by
 cases l with
 | nil=>exact Canon.nil
 | cons x l=>exact (mergeFrom_canon l x (hl x (by simp)) (fun y hy=>hl y (by simp[hy])) hp).1
theorem has_perm {a b:List Sp} (h:a.Perm b) (r:Int):has a r=has b r:=by
 rw[Bool.eq_iff_iff,has_iff,has_iff];exact⟨fun ⟨x,hx,h1⟩=>⟨x,h.mem_iff.1 hx,h1⟩,fun ⟨x,hx,h1⟩=>⟨x,h.mem_iff.2 hx,h1⟩⟩
def IsSet (l:List Sp) (s:List Sp):Prop:=Canon s/\∀ r,has s r=has l r
theorem IsSet.uniq {l s t:List Sp} (h:IsSet l s) (k:IsSet l t):s=t:=canon_eq h.1 k.1 fun r=>(h.2 r).trans (k.2 r).symm
theorem merged_set {l s:List Sp} (hl:∀ x∈l,okSp x) (hp:s.Perm l) (hs:s.Pairwise (fun a b=>a.lo<=b.lo)):IsSet l (mergedL s):=by
 have hl':∀ x∈s,okSp x:=fun x hx=>hl x (hp.mem_iff.1 hx);exact⟨merged_canon hl' hs,fun r=>(merged_has hl' hs r).trans (has_perm hp r)⟩
end Go.Proofs.YthomjcjnalfipaaGreatDoor
namespace Go.Proofs.YthomjcjnalfipaaGreatDoor
open Go.RowKit
theorem T_span:ElemT Tryz.prog 23 30 2 8:=elemT Tryz.underlying23 (z:=.agg #[.int .i32 0,.int .i32 0]) (by kernel_rfl) rfl (by omega)
section
variable {α : Type} {R : World -> List Value -> α -> Prop}
theorem Clone_span (one:One R) {okk:Nat->Prop} (hk:Keep R okk) (A:Option Addr) (n c:Nat) (l:List α) (w:World) {ok:Nat->Prop} (h:SlR R 2 ok w A n c l) (hb:n*8<=140737488355328) (hd:∀ g,w.heap.size<=g->¬ okk g) :
  Calls Tryz.prog 58 #[.slice A n c] w fun e w'=>∃ v,e=.returned v/\OwnR R 30 2 w.heap.size w' v l/\Ext w w':=by
 have hcap:=h.cap;have hmax:=h.max;have hlen:=h.len;rcases A with _ | ad
 ·have hl:l=[]:=by
   cases hl:l with
   | nil=>rfl
   | cons x r=>obtain⟨b,off,vs,e,_⟩:=h.at_ 0 x (by rw[hl];rfl);cases e
  subst hl;have en:=fun W=>Lib.run_eql_slice_nil (P:=Tryz.prog) W 23 30 none n c 0 0 Tryz.underlying23;go_enter Tryz.func58,Tryz.ntmps58;go_wp2;go_ret;exact⟨_,rfl,OwnR.nil _ _ _ _ _,Ext.refl _⟩
 ·have en:=fun W=>Lib.run_eql_slice_nil (P:=Tryz.prog) W 23 30 (some ad) n c 0 0 Tryz.underlying23;have e1:=(Ext.refl w).alloc (.cells #[] 30);have o1:=OwnR.empty R 30 2 w.heap.size w (Nat.le_refl _);have hs:=h.extX (hk.x) e1;go_enter Tryz.func58,Tryz.ntmps58
  go_wp2_with (at_builtin
               refine wpList_app T_span rfl (.tmp 5) (.tmp 6) rfl rfl o1 rfl hs (fun _ _ h=>h) one hk (fun g hg=>hd g (o1.lt g hg).1) ?_ ?_ e1.size ?_
               ·simpa using hb
               ·simp only[List.length_nil,Nat.zero_add];omega
               intro v1 w1 o2 g1 hat1)
  go_ret;exact⟨v1,rfl,by simpa using o2,e1.app g1 o1⟩
theorem Grow_span (n:Nat) (w:World) (hn:n<=60000) :
  Calls Tryz.prog 163 #[.slice none 0 0,.int .i64 n] w fun e w'=>∃ v,e=.returned v/\OwnR R 30 2 w.heap.size w' v []/\Ext w w':=by
 by_cases hz:n=0
 ·subst hz;go_enter Tryz.func163,Tryz.ntmps163;go_wp2;go_ret;exact⟨_,rfl,OwnR.nil _ _ _ _ _,Ext.refl _⟩
 ·obtain⟨cap,cur,hrun,h1,h2,h3⟩:=run_grow_nil T_span (tn:=3) Tryz.underlying3 23 n w (by omega) hn (by omega);have hs1:=fun W=>run_cut_h T_span (some ⟨w.heap.size,0,none⟩) n cap 0 0 rfl (by omega) W;have hs0:=fun W=>run_cut_h T_span none 0 0 0 0 rfl (by omega) W;have o1:=OwnR.made (R:=R) (base:=w.heap.size) (w:=w.drew) (e:=30) (sz:=2) (Nat.le_refl _) h2 h3;have hr:=hid hrun;clear hrun;go_enter Tryz.func163,Tryz.ntmps163;go_wp2_with (at_builtin;refine Lib.wpList_append_run _ rfl _ _ _ _ rfl _ _ rfl rfl _ _ hr.out ?_);go_ret;exact⟨_,rfl,o1,((Ext.refl w).drew).alloc _⟩
theorem Concat_span (one:One R) {okk:Nat->Prop} (hk:Keep R okk) {ok1 ok2:Nat->Prop} (A:Option Addr) (n c:Nat) (l:List (List α)) (w:World) (h:SlR (rSl R 2 ok1) 1 ok2 w A n c l)
  (hsum:l.flatten.length<=60000) (hd:∀ g,w.heap.size<=g->¬ okk g) :
  Calls Tryz.prog 143 #[.slice A n c] w fun e w'=>∃ v,e=.returned v/\OwnR R 30 2 w.heap.size w' v l.flatten/\Ext w w':=by
 have hcap:=h.cap;have hmax:=h.max;unfold maxLen at hmax;have hlen:=hid h.len;have HS:=hid hsum;clear hsum;go_enter Tryz.func143,Tryz.ntmps143;go_wp2;go_loop [3,11] (fun u i=>∃ k:Nat,k<=n/\i=.int .i64 k/\u=.int .i64 ((l.take k).flatten.length)) (fun _ i=>n-(intOf i).toNat);case atStart=>exact⟨0,by omega,rfl,by simp⟩
 case round=>
  obtain⟨k,hk',rfl,rfl⟩:=hrel;by_cases hlt:k<n
  ·obtain⟨x,hxx⟩:=h.idx hlt;obtain⟨b,off,A',n',c',rfl,_,hc,hsl⟩:=h.sl hxx;have hl2:(l.take (k+1)).flatten.length=(l.take k).flatten.length+n':=by rw[take_snoc hxx];simp[hsl.len]
   have hle:(l.take (k+1)).flatten.length<=60000:=Nat.le_trans (take_flatten_le _) HS.out;have HL:=hid hl2;have hle':(l.take k).flatten.length+n'<=60000:=by omega
   clear hl2 hle hxx;generalize (l.take k).flatten.length=a at *;have hn0:((a:Int)+(n':Int)<0)=False:=by simp;omega
   go_wp2;go_round;case rel=>exact⟨k+1,by omega,by go_num,by rw[HL.out];go_num⟩
   case measure=>simp[intOf];omega
  ·have e:l.take k=l:=take_all hlen.out (by omega);rw[e];have HS':=HS.out;have HG:=hid (Grow_span (R:=R) l.flatten.length w HS');clear HS' e;generalize hz:l.flatten.length=z at *;have HZ:=hid hz;clear hz;go_wp2_with (go_at_call 163;refine HG.out.mono ?_;rintro e w1 ⟨v1,rfl,o1,e1⟩);go_loopw [6,27] (fun u i wr=>∃ k:Nat,k<=n/\i=.int .i64 k/\OwnR R 30 2 w.heap.size wr u (l.take k).flatten/\Ext w wr) (fun _ i _=>n-(intOf i).toNat);case atStart=>exact⟨0,by omega,rfl,by simpa using o1,e1⟩
   case round=>
    obtain⟨k,hk',rfl,ow,ex⟩:=hrel;by_cases hlt:k<n
    ·obtain⟨x,hxx⟩:=h.idx hlt;obtain⟨b,off,A',n',c',rfl,_,hc,hsl⟩:=(h.extX (keepX_sl hk.x) ex).sl hxx;have hl2:(l.take (k+1)).flatten=(l.take k).flatten++x:=by rw[take_snoc hxx];simp
     have hle:(l.take (k+1)).flatten.length<=60000:=Nat.le_trans (take_flatten_le _) (by rw[HZ.out];exact HS.out);rw[hl2,List.length_append,hsl.len] at hle;have HL:=hid hl2;clear hl2 hxx
     go_wp2_with (at_builtin
                  refine wpList_appS T_span (by omega) rfl (.tmp 31) (.tmp 32) rfl rfl ow rfl hsl (fun _ _ h=>h) one hk (fun g hg=>hd g (ow.lt g hg).1) hle ex.size ?_
                  intro v2 w2 o2 g2 hat2)
     go_roundw;case rel=>exact⟨k+1,by omega,by go_num,by rw[HL.out];exact o2,ex.app g2 ow⟩
     case measure=>simp[intOf];omega
    ·go_wp2;go_ret;rw[take_all hlen.out (by omega)] at ow;exact⟨_,rfl,ow,ex⟩
end
theorem agree_set (B o:Nat) (w:World) (u:Value):Agree (fun b=>b≠B) w (w.setCell ⟨B,o,none⟩ u):=fun b hb _=>Below.heap_setCell _ _ _ _ hb
theorem Agree.mono {ok ok':Nat->Prop} {w w':World} (h:Agree ok w w') (hk:∀ b,ok' b->ok b):Agree ok' w w':=fun b hb=>h b (hk b hb)
section
variable {K B : Nat} {w w' : World} {A : Option Addr} {m d : Nat} {t : List Int} {s p : Nat}
theorem set_same {b o:Nat} {u v:Value} (h:w.cell? ⟨b,o,none⟩=some u):(w.setCell ⟨b,o,none⟩ v).cell? ⟨b,o,none⟩=some v:=World.cell?_setCell_same' _ _ _ (by rw[h];rfl)
theorem set_other {b o o':Nat} {u v:Value} (h:w.cell? ⟨b,o,none⟩=some u) (hn:o≠o'):(w.setCell ⟨b,o',none⟩ v).cell? ⟨b,o,none⟩=some u:=by
 rw[World.cell?_setCell_other _ _ _ _ (by intro e;cases e;exact hn rfl)];exact h
end
theorem putAt_len {r:Rule} {t:List Int} {a:Nat} (h:a+r.source.length<=t.length):((putAt r t a).length:Int)=t.length-r.source.length+r.target.length:=by
 unfold putAt;simp only[List.length_append,List.length_take,List.length_drop];omega
theorem idxFrom_mem {α :Type} (p: α ->Bool):∀ (k:Nat) (l:List α),0<=idxFrom p k l->∃ i x,l[i]? =some x/\p x=true/\idxFrom p k l=(k+i:Nat)
 | k,[],h=>by simp[idxFrom] at h
 | k,x::r,h=>by
  unfold idxFrom at h ⊢;by_cases hp:p x=true
  ·rw[if_pos hp];exact⟨0,x,rfl,hp,rfl⟩
  ·rw[if_neg hp] at h ⊢;obtain⟨i,y,h1,h2,h3⟩:=idxFrom_mem p (k+1) r h;exact⟨i+1,y,h1,h2,by rw[h3];congr 1;omega⟩
theorem first_mem {l:List Rule} {t:List Int} {a:Int} (h:0<=first l t a):∃ (i:Nat) (r:Rule),l[i]? =some r/\here r t a=true/\first l t a=i:=by
 obtain⟨i,x,h1,h2,h3⟩:=idxFrom_mem _ 0 l h;exact⟨i,x,h1,h2,by unfold first;rw[h3];congr 1;omega⟩
theorem fit_big (A:Option Addr) (n c:Nat) (w:World) (h:200<n) (hn:n<=c) (hc:c<=maxLen) :
  Calls Tryz.prog 62 #[.slice A n c] w fun e w'=>e=.returned (.tuple #[.slice none 0 0,.int .i64 5])/\w=w':=by
 unfold maxLen at hc;have b:decide (200<(n:Int))=true:=by simp;omega
 go_enter Tryz.func62,Tryz.ntmps62;go_wp2;go_ret2;exact⟨rfl,rfl⟩
theorem fit_small (A:Option Addr) (n c:Nat) (w:World) (h:¬ 200<n) :
  Calls Tryz.prog 62 #[.slice A n c] w fun e w'=>e=.returned (.tuple #[.slice A n c,.int .i64 0])/\w=w':=by
 have b:decide (200<(n:Int))=false:=by simp;omega
 go_enter Tryz.func62,Tryz.ntmps62;go_wp2;go_ret2;exact⟨rfl,rfl⟩
theorem setsRight_any (A:Option Addr) (n c:Nat) (l:List (List Sp)) (w:World) (h:Sets w A n c l) (hn:n<=40) :
  Calls Tryz.prog 142 #[.slice A n c] w fun e w'=>e=.returned (.int .i64 (wrongSets l))/\Ext w w':=by
 have hlen:=hid h.len;have hcap:=h.cap;go_enter Tryz.func142,Tryz.ntmps142;go_wp2;go_loopw [8] (fun i wr=>∃ k:Nat,k<=n/\i=.int .i64 k/\wrongSets l=wrongSets (l.drop k)/\Ext w wr) (fun i _=>n-(intOf i).toNat);case atStart=>exact⟨0,by omega,rfl,rfl,Ext.refl _⟩
 case round=>
  obtain⟨k,hk,rfl,hkk,hx⟩:=hrel;have HK:=hid hkk;clear hkk;by_cases hlt:k<n
  ·obtain⟨s,hss⟩:=h.idx hlt;obtain⟨b,off,A',n',c',rfl,⟨_,hne⟩,hc,hsl⟩:=(h.ext hx).sl hss;have HC:=hid (setsWrong_any A' n' c' s wr hsl);have HD:=hid (drop_cons hss);clear hss hsl;by_cases hz:wrongSet s=0
   ·have HZ:=hid hz;clear hz;go_wp2_with (go_at_call 50;refine HC.out.mono ?_;rintro e w1 ⟨rfl,hx1⟩;rw[HZ.out]);go_roundw;case rel=>exact⟨k+1,by omega,by go_num,by rw[HK.out,HD.out,wrongSets_ok HZ.out],hx.trans hx1⟩
    case measure=>simp[intOf];omega
   ·have HZ:=hid hz;have hb:(wrongSet s != 0)=true:=by simpa using hz
    clear hz;generalize hq:wrongSet s=q at *;have HQ:=hid hq;clear hq;go_wp2_with (go_at_call 50;refine HC.out.mono ?_;rintro e w1 ⟨rfl,hx1⟩);go_ret;rw[HK.out,HD.out,wrongSets_bad (by rw[HQ.out];exact HZ.out),HQ.out];exact⟨rfl,hx.trans hx1⟩
  ·go_wp2;go_ret;rw[HK.out,drop_end hlen.out hlt];exact⟨rfl,hx⟩
theorem sets_one {w:World} {A:Option Addr} {n c:Nat} {x:List Sp} (t:TypeId) (h:Spans w A n c x):Sets (w.alloc (.cells #[.slice A n c] t)) (some ⟨w.heap.size,0,none⟩) 1 1 [x]:=
 SlR.fresh rfl (by unfold maxLen;omega) fun k u hu=>by
  match k,hu with
  | 0,hu=>cases hu;exact⟨[.slice A n c],rfl,⟨A,n,c,rfl,h.ext ((Ext.refl w).alloc _)⟩,fun j v hv=>by match j,hv with | 0,hv=>simpa using hv⟩
theorem sets_two {w:World} {A B:Option Addr} {n c m d:Nat} {x y:List Sp} (t:TypeId) (h:Spans w A n c x) (k:Spans w B m d y):Sets (w.alloc (.cells #[.slice A n c,.slice B m d] t)) (some ⟨w.heap.size,0,none⟩) 2 2 [x,y]:=
 SlR.fresh rfl (by unfold maxLen;omega) fun i u hu=>by
  match i,hu with
  | 0,hu=>cases hu;exact⟨[.slice A n c],rfl,⟨A,n,c,rfl,h.ext ((Ext.refl w).alloc _)⟩,fun j v hv=>by match j,hv with | 0,hv=>simpa using hv⟩
  | 1,hu=>cases hu;exact⟨[.slice B m d],rfl,⟨B,m,d,rfl,k.ext ((Ext.refl w).alloc _)⟩,fun j v hv=>by match j,hv with | 0,hv=>simpa using hv⟩
theorem wrongSets_one (s:List Sp):wrongSets [s]=wrongSet s:=by
 by_cases h:wrongSet s=0
 ·rw[wrongSets_ok h,h];rfl
 ·exact wrongSets_bad h
end Go.Proofs.YthomjcjnalfipaaGreatDoor
namespace Go.Proofs.YthomjcjnalfipaaGreatDoor
open Go.RowKit
def mergeStep (out:List Sp) (x:Sp):List Sp:=match out.getLast? with
 | none=>out++[x]
 | some z=>if x.lo<=z.hi+1 then out.dropLast++[⟨z.lo,max z.hi x.hi⟩] else out++[x]
def mergeAll (out:List Sp):List Sp->List Sp
 | []=>out
 | x::l=>mergeAll (mergeStep out x) l
theorem mergeStep_last (o:List Sp) (z x:Sp):mergeStep (o++[z]) x=if x.lo<=z.hi+1 then o++[⟨z.lo,max z.hi x.hi⟩] else o++[z]++[x]:=by
 unfold mergeStep;simp
theorem mergeAll_from:∀ (l:List Sp) (o:List Sp) (c:Sp),mergeAll (o++[c]) l=o++mergeFrom c l
 | [],o,c=>rfl
 | x::l,o,c=>by
  unfold mergeAll mergeFrom;rw[mergeStep_last];by_cases h:x.lo<=c.hi+1
  ·rw[if_pos h,if_pos h,mergeAll_from l o]
  ·rw[if_neg h,if_neg h,mergeAll_from l (o++[c]),List.append_assoc];rfl
theorem mergeAll_nil (l:List Sp):mergeAll [] l=mergedL l:=by
 cases l with
 | nil=>rfl
 | cons x l=>exact mergeAll_from l [] x
theorem mergeStep_len (out:List Sp) (x:Sp):(mergeStep out x).length<=out.length+1:=by
 unfold mergeStep
 cases out.getLast? with
 | none=>simp
 | some z=>
  simp only[];split
  ·simp only[List.length_append,List.length_dropLast,List.length_cons,List.length_nil];omega
  ·simp
theorem Enc.snoc_inv {α :Type} {R:World->List Value-> α ->Prop} {sz:Nat} {w:World}:∀ {xs:List Value} {l:List α} {x: α},Enc R sz w xs (l++[x])->∃ ys vs,xs=ys++vs/\vs.length=sz/\R w vs x/\Enc R sz w ys l
 | xs,[],x,h=>by
  obtain⟨vs,r,rfl,h1,h2,h3⟩:=h;simp only[Enc] at h3;subst h3;exact⟨[],vs,by simp,h1,h2,rfl⟩
 | xs,y::l,x,h=>by
  obtain⟨vs,r,rfl,h1,h2,h3⟩:=h;obtain⟨ys,vs',rfl,k1,k2,k3⟩:=Enc.snoc_inv h3;exact⟨vs++ys,vs',by simp,k1,k2,vs,ys,rfl,h1,h2,k3⟩
theorem heap_setRow {w:World} {g i:Nat} {v:Value} {cur:Array Value} {e:TypeId} {fz:Nat×Nat} (hh:w.heap[g]? =some (.cells cur e fz)):(w.setCell ⟨g,i,none⟩ v).heap[g]? =some (.cells (cur.setIfInBounds i v) e fz):=by
 simp[World.setCell,Array.getElem?_modify,hh]
theorem OwnR.setLast {e:TypeId} {base:Nat} {w:World} {A:Option Addr} {m g c:Nat} {o:List Sp} {z:Sp} {v:Int} (h:OwnR rSpan e 2 base w (.slice A m c) (o++[z])) (hA:A=some ⟨g,0,none⟩) (hv:i32 v) :
  OwnR rSpan e 2 base (w.setCell ⟨g,o.length*2+1,none⟩ (.int .i32 v)) (.slice A m c) (o++[⟨z.lo,v⟩]):=by
 subst hA;obtain⟨xs,⟨hl,hcase⟩,he⟩:=h;obtain⟨ys,vs,rfl,k1,⟨rfl,k2,k3⟩,k4⟩:=he.snoc_inv;have ky:=k4.len;have hlen:(o++[z]).length=o.length+1:=by simp
 have hlen2:(o++[(⟨z.lo,v⟩:Sp)]).length=o.length+1:=by simp
 rw[hlen] at hl hcase;rcases hcase with ⟨hn,_⟩ | ⟨g',cap,cur,hn,hb,hh,h1,h2,h3,h4⟩
 ·cases hn
 ·simp only[Value.slice.injEq,Option.some.injEq,Addr.mk.injEq,and_true] at hn;obtain⟨rfl,rfl,rfl⟩:=hn;have hw:Enc rSpan 2 (w.setCell ⟨g,o.length*2+1,none⟩ (.int .i32 v)) ys o:=k4.keep (ok:=bot) (keep_span bot) (fun _ hb=>hb.elim);refine⟨ys++[.int .i32 z.lo,.int .i32 v],⟨by rw[hlen2];simp;omega,.inr ⟨g,c,cur.setIfInBounds (o.length*2+1) (.int .i32 v),by rw[hlen2],hb,heap_setRow hh,by rw[hlen2];exact h1,h2,by simpa using h3,?_⟩⟩,?_⟩
  ·rw[Array.toList_setIfInBounds,hlen2,List.take_set,h4,<- ky];simp
  ·exact hw.append (Enc.sing (by rfl) ⟨rfl,k2,hv⟩)
theorem span_new (w:World) (x:Sp) (t:TypeId) (h1:i32 x.lo) (h2:i32 x.hi):Spans (w.alloc (.cells #[.int .i32 x.lo,.int .i32 x.hi] t)) (some ⟨w.heap.size,0,none⟩) 1 1 [x]:=
 SlR.fresh rfl (by unfold maxLen;omega) fun k y hy=>by
  match k,hy with
  | 0,hy=>cases hy;exact⟨[.int .i32 x.lo,.int .i32 x.hi],rfl,⟨rfl,h1,h2⟩,fun j u hu=>by match j,hu with | 0,hu=>simpa using hu | 1,hu=>simpa using hu⟩
theorem mergeAll_snoc:∀ (l:List Sp) (out:List Sp) (x:Sp),mergeAll out (l++[x])=mergeStep (mergeAll out l) x
 | [],out,x=>rfl
 | y::l,out,x=>by rw[List.cons_append];unfold mergeAll;exact mergeAll_snoc l _ x
theorem mergeAll_len:∀ (l:List Sp) (out:List Sp),(mergeAll out l).length<=out.length+l.length
 | [],out=>by simp[mergeAll]
 | y::l,out=>by
  unfold mergeAll;have h1:=mergeAll_len l (mergeStep out y);have h2:=mergeStep_len out y;simp only[List.length_cons];omega
theorem mergeAll_ok:∀ (l:List Sp) (out:List Sp),(∀ x∈l,okSp x)->(∀ x∈out,okSp x)->∀ x∈mergeAll out l,okSp x
 | [],out,_,h=>h
 | y::l,out,hl,h=>by
  unfold mergeAll;refine mergeAll_ok l _ (fun x hx=>hl x (by simp[hx])) ?_;have hy:=hl y (by simp);rcases List.eq_nil_or_concat out with rfl | ⟨o,z,rfl⟩
  ·intro x hx;simp[mergeStep] at hx;subst hx;exact hy
  ·rw[List.concat_eq_append] at h ⊢;rw[mergeStep_last];have hz:=h z (by simp);unfold okSp at hy hz;split
   ·intro x hx;rcases List.mem_append.1 hx with hx | hx
    ·exact h x (by simp[hx])
    ·simp at hx;subst hx;unfold okSp;simp only[];omega
   ·intro x hx;rcases List.mem_append.1 hx with hx | hx
    ·exact h x hx
    ·simp at hx;subst hx;exact hy
theorem OwnR.loose {α :Type} {R:World->List Value-> α ->Prop} {e:TypeId} {sz base:Nat} {w:World} {A:Option Addr} {n c:Nat} {l:List α} (h:OwnR R e sz base w (.slice A n c) l) {g off:Nat} (hA:A=some ⟨g,off,none⟩) :
  base<=g/\∀ i,w.frozen? ⟨g,i,none⟩=false:=by
 subst hA;obtain⟨xs,⟨_,⟨hv,_⟩ | ⟨g',cap,cur,hv,hb,hh,_⟩⟩,_⟩:=h
 ·cases hv
 ·cases hv;exact⟨hb,fun i=>frozen_of_row w _ i cur e hh⟩
theorem OwnR.head {α :Type} {R:World->List Value-> α ->Prop} {e:TypeId} {sz base:Nat} {w:World} {A:Option Addr} {n c:Nat} {o:List α} {z: α} (h:OwnR R e sz base w (.slice A n c) (o++[z])):∃ g,A=some ⟨g,0,none⟩/\n=o.length+1:=by
 obtain⟨xs,⟨_,⟨_,hn⟩ | ⟨g',cap,cur,hn,_⟩⟩,_⟩:=h
 ·simp at hn
 ·cases hn;exact⟨g',rfl,by simp⟩
theorem merged_any (A:Option Addr) (n c:Nat) (l:List Sp) (w:World) (h:Spans w A n c l) (hn:n*8<=140737488353280) (hok:∀ x∈l,okSp x) :
  Calls Tryz.prog 63 #[.slice A n c] w fun e w'=>∃ v,e=.returned v/\OwnR rSpan 30 2 w.heap.size w' v (mergedL l)/\Ext w w':=by
 have hlen:=hid h.len;have hcap:=h.cap;have OK:=hid hok;clear hok;go_enter Tryz.func63,Tryz.ntmps63;go_wp2;go_loopw [3,9] (fun v i wr=>∃ k:Nat,k<=n/\i=.int .i64 k/\OwnR rSpan 30 2 w.heap.size wr v (mergeAll [] (l.take k))/\Ext w wr) (fun _ i _=>n-(intOf i).toNat);case atStart=>exact⟨0,by omega,rfl,OwnR.nil _ _ _ _ _,Ext.refl _⟩
 case round=>
  obtain⟨k,hk,rfl,ow,hx⟩:=hrel;by_cases hlt:k<n
  ·obtain⟨x,hxx⟩:=h.idx hlt;obtain⟨b,off,rfl,⟨_,hne⟩,c1,c2,xb1,xb2⟩:=(h.ext hx).span hxx;have hokx:=OK.out x (List.mem_of_getElem? hxx);unfold okSp at hokx;obtain⟨hx1,hx2,hx3⟩:=hokx;have HT:=hid (take_snoc hxx);clear hxx;have ex:=(Ext.refl wr).alloc (.cells #[.int .i32 x.lo,.int .i32 x.hi] 30);have hx2a:=hx.alloc (.cells #[.int .i32 x.lo,.int .i32 x.hi] 30);have ow1:=ow.ext (keep_span bot) ex;have hokl:=mergeAll_ok (l.take k) [] (fun y hy=>OK.out y (List.mem_of_mem_take hy)) (fun y hy=>by simp at hy);have hml:=mergeAll_len (l.take k) [];rw[List.length_take,hlen.out,List.length_nil] at hml;have HM:Hid (mergeAll [] (l.take (k+1))=mergeStep (mergeAll [] (l.take k)) x):=hid (by rw[HT.out,mergeAll_snoc]);generalize mergeAll [] (l.take k)=out at *;have X0:=hid (cell_new wr #[.int .i32 x.lo,.int .i32 x.hi] 30 0 (.int .i32 x.lo) rfl);have X1:=hid (cell_new wr #[.int .i32 x.lo,.int .i32 x.hi] 30 1 (.int .i32 x.hi) rfl);rcases List.eq_nil_or_concat out with rfl | ⟨o,z,rfl⟩
   ·have HM2:Hid (mergeAll [] (l.take (k+1))=[x]):=hid (by rw[HM.out];rfl);obtain⟨AO,cO,rfl,hcO,hmO⟩:=ow.form;simp only[List.length_nil] at hcO ow1;clear HM HT;go_upto_region 6 with fail;go_quiet (fail);generalize hw5:(wr.alloc (.cells #[.int .i32 x.lo,.int .i32 x.hi] 30)).drewN _=w5;have e5:Ext (wr.alloc (.cells #[.int .i32 x.lo,.int .i32 x.hi] 30)) w5:=by rw[<- hw5];exact (Ext.refl _).drewN _
    clear hw5;have y0:=e5.cell X0.out;have y1:=e5.cell X1.out;have hx6:=(hx2a.trans e5).alloc (.cells #[.int .i32 x.lo,.int .i32 x.hi] 30);have ow6:=ow1.ext (keep_span bot) (e5.alloc (.cells #[.int .i32 x.lo,.int .i32 x.hi] 30));have s6:=span_new w5 x 30 xb1 xb2
    go_wp2_with (at_builtin
                 refine wpList_appS T_span (by omega) rfl (.tmp 41) (.tmp 43) rfl rfl ow6 rfl s6 (fun _ _ h=>h) one_span (keep_span bot) (bot_no _) ?_ hx6.size ?_
                 ·simp
                 intro v7 w7 o7 g7 hat7
                 have g8:=hx6.app g7 ow6)
    go_roundw;case rel=>exact⟨k+1,by omega,by go_num,by rw[HM2.out];exact o7,g8⟩
    case measure=>simp[intOf];omega
   ·rw[List.concat_eq_append] at *;obtain⟨AO,cO,rfl,hcO,hmO⟩:=ow.form;obtain⟨g,rfl,hl1⟩:=ow.head;obtain⟨A9,c9,e9,s9⟩:=ow1.sl;obtain⟨_,_,e8,⟨hg,_⟩,z0,z1,_,zb⟩:=s9.span (k:=o.length) (x:=z) (by simp);have hfz:=(ow1.loose rfl).2;have hbase:=(ow1.loose rfl).1;cases e9;cases e8;have hzz:=hokl z (by simp);unfold okSp at hzz;obtain⟨hz1,hz2,hz3⟩:=hzz;simp only[Nat.zero_add] at z0 z1;simp only[List.length_append,List.length_cons,List.length_nil,Nat.zero_add] at ow ow1 hcO hml;have hzw:IntKind.i32.wrap (z.hi+1)=z.hi+1:=IntWalk.i32_in _ (by omega);have hmx:i32 (max z.hi x.hi):=by unfold i32;omega
    have HM2:Hid (mergeAll [] (l.take (k+1))=if x.lo<=z.hi+1 then o++[⟨z.lo,max z.hi x.hi⟩] else o++[z]++[x]):=hid (by rw[HM.out];exact mergeStep_last o z x);have q1:(o.length:Int)<(o.length:Int)+1:=by omega
    clear HM HT hokl s9 ow;by_cases t:x.lo<=z.hi+1
    ·have t':decide (x.lo<=z.hi+1)=true:=by simpa using t
     rw[if_pos t] at HM2;go_upto_region 6 with fail;go_quiet (fail);generalize hw5:(wr.alloc (.cells #[.int .i32 x.lo,.int .i32 x.hi] 30)).drewN _=w5;have e5:Ext (wr.alloc (.cells #[.int .i32 x.lo,.int .i32 x.hi] 30)) w5:=by rw[<- hw5];exact (Ext.refl _).drewN _
     clear hw5;have y0:=e5.cell X0.out;have y1:=e5.cell X1.out;have u0:=e5.cell z0;have u1:=e5.cell z1;have fz:∀ i,w5.frozen? ⟨g,i,none⟩=false:=fun i=>(e5.frozen hg).trans (hfz i);clear z0 z1 hfz;have ow5:=ow1.ext (keep_span bot) e5;go_wp2_with fail;go_region;go_wp2;have emx:(if z.hi<x.hi then x.hi else z.hi)=max z.hi x.hi:=by split <;> omega
     (try rw[emx]);rw[hl1]
     have owf:=(ow5.setLast rfl hmx).ext (keep_span bot) (Ext.refl _).drew;refine⟨⟨k+1,by omega,by go_num,by rw[HM2.out];exact owf,(ext_set (hx2a.trans e5) hbase _ _).drew⟩,by simp[intOf];omega⟩
    ·have t':decide (x.lo<=z.hi+1)=false:=by simpa using t
     rw[if_neg t] at HM2;go_upto_region 6 with fail;go_quiet (fail);generalize hw5:(wr.alloc (.cells #[.int .i32 x.lo,.int .i32 x.hi] 30)).drewN _=w5;have e5:Ext (wr.alloc (.cells #[.int .i32 x.lo,.int .i32 x.hi] 30)) w5:=by rw[<- hw5];exact (Ext.refl _).drewN _
     clear hw5;have y0:=e5.cell X0.out;have y1:=e5.cell X1.out;clear z0 z1 hfz;have hx6:=(hx2a.trans e5).alloc (.cells #[.int .i32 x.lo,.int .i32 x.hi] 30);have ow6:=ow1.ext (keep_span bot) (e5.alloc (.cells #[.int .i32 x.lo,.int .i32 x.hi] 30));have s6:=span_new w5 x 30 xb1 xb2;rw[<- hl1] at ow6
     go_wp2_with (at_builtin
                  refine wpList_app T_span rfl (.tmp 41) (.tmp 43) rfl rfl ow6 rfl s6 (fun _ _ h=>h) one_span (keep_span bot) (bot_no _) ?_ ?_ hx6.size ?_
                  ·rw[hl1];omega
                  ·rw[hl1];unfold maxLen;omega
                  intro v7 w7 o7 g7 hat7
                  have g8:=hx6.app g7 ow6)
     go_roundw;case rel=>exact⟨k+1,by omega,by go_num,by rw[HM2.out];exact o7,g8⟩
     case measure=>simp[intOf];omega
  ·go_wp2;go_ret;rw[take_all hlen.out (by omega),mergeAll_nil] at ow;exact⟨_,rfl,ow,hx⟩
end Go.Proofs.YthomjcjnalfipaaGreatDoor
