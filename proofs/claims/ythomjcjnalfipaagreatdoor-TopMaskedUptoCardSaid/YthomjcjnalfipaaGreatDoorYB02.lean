/- A part of the proofs of the Top laws. -/
import Derived.Maps.AppendAt
import Derived.Deep.RegionHeld3
import Derived.BigRegion
import Derived.Deep.QuietTactic
import Derived.Test.YthomjcjnalfipaaGreatDoorRows
import Derived.ProofKit
import Derived.OpenShut
import Derived.ChangeOld
import Derived.Deep.Fields
import Derived.Test.YthomjcjnalfipaaGreatDoorYB01
set_option linter.all false
set_option maxRecDepth 1000000
set_option maxHeartbeats 8000000
open Go.Lib (hid)
namespace Go.Proofs.YthomjcjnalfipaaGreatDoor
open Go.RowKit
def Enc {α :Type} (R:World->List Value-> α ->Prop) (sz:Nat) (w:World):List Value->List α ->Prop
 | xs,[]=>xs=[]
 | xs,x::l=>∃ vs r,xs=vs++r/\vs.length=sz/\R w vs x/\Enc R sz w r l
def One {α :Type} (R:World->List Value-> α ->Prop):Prop:=∀ w vs x,R w vs x->∀ u∈vs,u.oneCell'=true
theorem one_rune:One rRune:=fun w vs x h u hu=>by obtain⟨rfl,_⟩:=h;simp at hu;subst hu;rfl
theorem one_int:One rInt:=fun w vs x h u hu=>by obtain⟨rfl,_⟩:=h;simp at hu;subst hu;rfl
theorem one_span:One rSpan:=fun w vs x h u hu=>by obtain⟨rfl,_⟩:=h;simp at hu;rcases hu with rfl | rfl <;> rfl
theorem one_sl {α :Type} (R:World->List Value-> α ->Prop) (sz:Nat) (ok:Nat->Prop):One (rSl R sz ok):=fun w vs x h u hu=>by obtain⟨A,n,c,rfl,_⟩:=h;simp at hu;subst hu;rfl
theorem one_rule:One rRule:=fun w vs x h u hu=>by
 obtain⟨s,f,A1,n1,c1,A2,n2,c2,A3,n3,c3,A4,n4,c4,k,rfl,_⟩:=h;simp at hu;rcases hu with rfl | rfl | rfl | rfl | rfl | rfl | rfl <;> rfl
section
variable {α : Type} {R : World -> List Value -> α -> Prop} {sz : Nat} {w w' : World}
theorem Enc.append:∀ {xs:List Value} {l:List α} {ys:List Value} {m:List α},Enc R sz w xs l->Enc R sz w ys m->Enc R sz w (xs++ys) (l++m)
 | xs,[],ys,m,h,k=>by simp only[Enc] at h;subst h;simpa using k
 | xs,x::l,ys,m,h,k=>by
  obtain⟨vs,r,rfl,h1,h2,h3⟩:=h;exact⟨vs,r++ys,by simp,h1,h2,h3.append k⟩
theorem Enc.len:∀ {xs:List Value} {l:List α},Enc R sz w xs l->xs.length=l.length*sz
 | xs,[],h=>by simp only[Enc] at h;subst h;simp
 | xs,x::l,h=>by
  obtain⟨vs,r,rfl,h1,h2,h3⟩:=h;rw[List.length_append,h1,h3.len,List.length_cons,Nat.add_mul,Nat.one_mul,Nat.add_comm]
theorem Enc.get:∀ {xs:List Value} {l:List α},Enc R sz w xs l->∀ (k:Nat) (x: α),l[k]? =some x->∃ vs,vs.length=sz/\R w vs x/\∀ j u,vs[j]? =some u->xs[k*sz+j]? =some u
 | xs,[],h,k,x,hx=>by simp at hx
 | xs,y::l,h,0,x,hx=>by
  obtain⟨vs,r,rfl,h1,h2,h3⟩:=h;simp at hx;subst hx;exact⟨vs,h1,h2,fun j u hu=>by rw[Nat.zero_mul,Nat.zero_add,List.getElem?_append_left (lt_of_get hu)];exact hu⟩
 | xs,y::l,h,k+1,x,hx=>by
  obtain⟨vs,r,rfl,h1,h2,h3⟩:=h;simp at hx;obtain⟨vs',a,b,c⟩:=h3.get k x hx;refine⟨vs',a,b,fun j u hu=>?_⟩;rw[List.getElem?_append_right (by rw[h1,Nat.add_mul];omega)];have:=c j u hu;rw[show (k+1)*sz+j-vs.length=k*sz+j by rw[h1,Nat.add_mul];omega];exact this
theorem Enc.keep {ok:Nat->Prop} (hk:Keep R ok) (ha:Agree ok w w'):∀ {xs:List Value} {l:List α},Enc R sz w xs l->Enc R sz w' xs l
 | xs,[],h=>h
 | xs,x::l,h=>by
  obtain⟨vs,r,e,h1,h2,h3⟩:=h;exact⟨vs,r,e,h1,hk _ _ _ _ ha h2,h3.keep hk ha⟩
theorem Enc.mono {R':World->List Value-> α ->Prop} (hR:∀ vs x,R w vs x->R' w vs x):∀ {xs:List Value} {l:List α},Enc R sz w xs l->Enc R' sz w xs l
 | xs,[],h=>h
 | xs,x::l,h=>by
  obtain⟨vs,r,e,h1,h2,h3⟩:=h;exact⟨vs,r,e,h1,hR _ _ h2,h3.mono hR⟩
theorem Enc.one (ho:One R):∀ {xs:List Value} {l:List α},Enc R sz w xs l->∀ u∈xs,u.oneCell'=true
 | xs,[],h,u,hu=>by simp only[Enc] at h;subst h;simp at hu
 | xs,x::l,h,u,hu=>by
  obtain⟨vs,r,rfl,h1,h2,h3⟩:=h;rcases List.mem_append.1 hu with hu | hu
  ·exact ho _ _ _ h2 u hu
  ·exact h3.one ho u hu
theorem Enc.sing {vs:List Value} {x: α} (h1:vs.length=sz) (h2:R w vs x):Enc R sz w vs [x]:=⟨vs,[],by simp,h1,h2,rfl⟩
theorem Enc.of_get:∀ (xs:List Value) (l:List α),xs.length=l.length*sz ->
  (∀ k x,l[k]? =some x->∃ vs,vs.length=sz/\R w vs x/\∀ j u,vs[j]? =some u->xs[k*sz+j]? =some u)->Enc R sz w xs l
 | xs,[],hl,h=>List.eq_nil_of_length_eq_zero (by simpa using hl)
 | xs,x::l,hl,h=>by
  simp only[List.length_cons,Nat.add_mul,Nat.one_mul] at hl;obtain⟨vs,h1,h2,h3⟩:=h 0 x rfl
  have hvs:xs.take sz=vs:=by
   apply List.ext_getElem?;intro j;by_cases hj:j<sz
   ·rw[List.getElem?_take_of_lt hj];have:=h3 j (vs[j]'(by omega)) (List.getElem?_eq_getElem (by omega));rw[Nat.zero_mul,Nat.zero_add] at this;rw[this,List.getElem?_eq_getElem (by omega)]
   ·rw[List.getElem?_eq_none (by simp;omega),List.getElem?_eq_none (by omega)]
  refine⟨vs,xs.drop sz,by rw[<- hvs,List.take_append_drop],h1,h2,Enc.of_get _ l (by simp;omega) fun k y hy=>?_⟩;obtain⟨vs',a,b,c⟩:=h (k+1) y (by simpa using hy);refine⟨vs',a,b,fun j u hu=>?_⟩;have:=c j u hu;rw[List.getElem?_drop,<- this];congr 1;rw[Nat.add_mul];omega
theorem SlR.news {ok:Nat->Prop} {A:Option Addr} {n c:Nat} {l:List α} (h:SlR R sz ok w A n c l) (hn:0<n) :
  ∃ ad news,A=some ad/\news.length=n*sz/\Enc R sz w news l/\∀ j u,news[j]? =some u->w.cell? (ad.add j)=some u:=by
 obtain⟨x0,hx0⟩:=h.idx hn;obtain⟨b,off,vs0,rfl,_⟩:=h.at_ 0 x0 hx0
 have key:∀ m,m<=n->∃ news,news.length=m*sz/\Enc R sz w news (l.take m)/\∀ j u,news[j]? =some u->w.cell? ⟨b,off+j,none⟩=some u:=by
  intro m
  induction m with
  | zero=>exact fun _=>⟨[],by simp,rfl,fun j u hu=>by simp at hu⟩
  | succ m ih=>
   intro hm;obtain⟨news,h1,h2,h3⟩:=ih (by omega);obtain⟨x,hx⟩:=h.idx (k:=m) (by omega);obtain⟨b',off',vs,e,_,hv1,hv2,hv3⟩:=h.at_ m x hx;simp only[Option.some.injEq,Addr.mk.injEq,and_true] at e;obtain⟨rfl,rfl⟩:=e;refine⟨news++vs,by rw[List.length_append,h1,hv1,Nat.add_mul,Nat.one_mul],?_,fun j u hu=>?_⟩
   ·rw[take_snoc hx];exact h2.append (Enc.sing hv1 hv2)
   ·by_cases hj:j<news.length
    ·rw[List.getElem?_append_left hj] at hu;exact h3 j u hu
    ·rw[List.getElem?_append_right (by omega)] at hu;have:=hv3 _ u hu;rw[h1] at this;rw[show off+j=off+m*sz+(j-m*sz) by omega];exact this
 obtain⟨news,h1,h2,h3⟩:=key n (Nat.le_refl _);rw[take_all h.len (Nat.le_refl _)] at h2;exact⟨⟨b,off,none⟩,news,rfl,h1,h2,fun j u hu=>by rw[addr_add];exact h3 j u hu⟩
end
def OwnR {α :Type} (R:World->List Value-> α ->Prop) (e:TypeId) (sz base:Nat) (w:World) (v:Value) (l:List α):Prop:=
 ∃ xs,w.ownsRow base e sz v l.length xs/\Enc R sz w xs l
section
variable {α : Type} {R : World -> List Value -> α -> Prop} {e : TypeId} {sz base : Nat} {w w' : World} {v : Value} {l : List α}
theorem OwnR.nil (R:World->List Value-> α ->Prop) (e:TypeId) (sz base:Nat) (w:World):OwnR R e sz base w (.slice none 0 0) []:=⟨[],World.ownsRow_nil w base e sz,rfl⟩
theorem OwnR.made {cur:Array Value} {cap:Nat} (hb:base<=w.heap.size) (hm:cap<=maxLen) (hs:cur.size=cap*sz) :
  OwnR R e sz base (w.alloc (.cells cur e)) (.slice (some ⟨w.heap.size,0,none⟩) 0 cap) []:=⟨[],World.ownsRow_made w cur cap hb hm hs,rfl⟩
theorem OwnR.fresh {cs:List Value} (hb:base<=w.heap.size) (hm:l.length<=maxLen) (he:Enc R sz (w.alloc (.cells cs.toArray e)) cs l) :
  OwnR R e sz base (w.alloc (.cells cs.toArray e)) (.slice (some ⟨w.heap.size,0,none⟩) l.length l.length) l:=
 ⟨cs,⟨he.len,.inr ⟨w.heap.size,l.length,cs.toArray,rfl,hb,heap_alloc_new w _,Nat.le_refl _,hm,by simpa using he.len,by
  rw[<- he.len];simp⟩⟩,he⟩
theorem OwnR.form (h:OwnR R e sz base w v l):∃ A c,v=.slice A l.length c/\l.length<=c/\c<=maxLen:=by
 obtain⟨xs,⟨_,h | ⟨g,cap,cur,rfl,_,_,h1,h2,_⟩⟩,_⟩:=h
 ·obtain⟨rfl,h⟩:=h;rw[h];exact⟨none,0,rfl,Nat.le_refl _,by simp[maxLen]⟩
 ·exact⟨_,_,rfl,h1,h2⟩
theorem OwnR.sl (h:OwnR R e sz base w v l):∃ A c,v=.slice A l.length c/\SlR R sz (fun b=>base<=b) w A l.length c l:=by
 obtain⟨xs,⟨hl,h | ⟨g,cap,cur,rfl,hb,hh,h1,h2,h3,h4⟩⟩,he⟩:=h
 ·obtain⟨rfl,h⟩:=h;rw[h];have:l=[]:=List.eq_nil_of_length_eq_zero h;subst this;exact⟨none,0,rfl,SlR.nil _ _ _ _ _ _ (by simp[maxLen])⟩
 ·refine⟨_,_,rfl,rfl,h1,h2,fun k x hx=>?_⟩;obtain⟨vs,a,b,c⟩:=he.get k x hx;refine⟨g,0,vs,rfl,hb,a,b,fun j u hu=>?_⟩;rw[Nat.zero_add,cell_of_row w g _ cur e (0,0) hh];have hc:=c j u hu;rw[<- h4,List.getElem?_take] at hc;split at hc
  ·simpa using hc
  ·simp at hc
theorem OwnR.top (h:OwnR R e sz base w v l):∃ A c,v=.slice A l.length c/\SlR R sz top w A l.length c l:=by
 obtain⟨A,c,e,hs⟩:=h.sl;exact⟨A,c,e,hs.mono (fun _ _ h=>h) (fun _ _=>trivial)⟩
theorem OwnR.lt (h:OwnR R e sz base w v l):∀ g,v.ownBlock=some g->base<=g/\g<w.heap.size:=by
 obtain⟨xs,ho,_⟩:=h;exact ho.lt
theorem OwnR.keep {ok:Nat->Prop} (hk:Keep R ok) (ha:Agree ok w w') (hv:∀ g,v.ownBlock=some g->w'.heap[g]? =w.heap[g]?) (h:OwnR R e sz base w v l):OwnR R e sz base w' v l:=by
 obtain⟨xs,⟨hl,h⟩,he⟩:=h;refine⟨xs,⟨hl,?_⟩,he.keep hk ha⟩;rcases h with h | ⟨g,cap,cur,rfl,hb,hh,r⟩
 ·exact .inl h
 ·exact .inr ⟨g,cap,cur,rfl,hb,by rw[hv g rfl];exact hh,r⟩
theorem OwnR.ext {ok:Nat->Prop} (hk:Keep R ok) (h:OwnR R e sz base w v l) (hx:Ext w w'):OwnR R e sz base w' v l:=
 h.keep hk (hx.agree ok) (fun g hg=>hx.block (h.lt g hg).2)
theorem OwnR.mono {base':Nat} (h:OwnR R e sz base w v l) (hb:base'<=base):OwnR R e sz base' w v l:=by
 obtain⟨xs,⟨hl,h⟩,he⟩:=h;refine⟨xs,⟨hl,?_⟩,he⟩;rcases h with h | ⟨g,cap,cur,rfl,hbb,r⟩
 ·exact .inl h
 ·exact .inr ⟨g,cap,cur,rfl,by omega,r⟩
theorem OwnR.weaken {R':World->List Value-> α ->Prop} (h:OwnR R e sz base w v l) (hR:∀ vs x,R w vs x->R' w vs x):OwnR R' e sz base w v l:=by
 obtain⟨xs,ho,he⟩:=h;exact⟨xs,ho,he.mono hR⟩
end
section
variable {P : Program} {α : Type} {R : World -> List Value -> α -> Prop} {e : TypeId} {sz base : Nat} {w : World} {v : Value} {l : List α}
theorem run_append_noneR (t ty:TypeId) (i:TypeInfo) (ht:P.underlying t=some (.slice e)) (hi:P.info? e=some i) (n:Nat) (xs:List Value) (hown:w.ownsRow base e sz v n xs) (c:Nat) :
  (Builtin.append_ #[t,t] ty #[v,.slice none 0 c]).run P w=.ok v w:=by
 rcases hown.2 with ⟨rfl,rfl⟩ | ⟨g,cap,cur,rfl,_,_,hnc,_⟩
 ·simp[Builtin.append_,run_underlying ht,sizeOf,typeInfo,hi,Builtin.lenOf,Builtin.firstCells]
 ·simp[Builtin.append_,run_underlying ht,sizeOf,typeInfo,hi,Builtin.lenOf,Builtin.firstCells,hnc,storeCells]
structure ElemT (P:Program) (t e:TypeId) (sz bytes:Nat):Prop where
 und:P.underlying t=some (.slice e)
 info:∃ i z,P.info? e=some i/\i.zero=some z/\i.size=sz/\i.bytes=bytes/\z.cells.size=sz
 pos:0<sz
theorem elemT {t:TypeId} {bytes:Nat} {z:Value} (ht:P.underlying t=some (.slice e)) (h:(P.info? e).map (fun i=>(i.zero,i.size,i.bytes))=some (some z,sz,bytes)) (hz:z.cells.size=sz) (hs:0<sz):ElemT P t e sz bytes:=by
 obtain⟨i,h1,h2,h3,h4⟩:=info_parts h;exact⟨ht,⟨i,z,h1,h2,h3,h4,hz⟩,hs⟩
theorem run_app {t:TypeId} {bytes:Nat} (T:ElemT P t e sz bytes) (ty:TypeId) (hown:OwnR R e sz base w v l) {A:Option Addr} {m c:Nat} {l2:List α} {R2:World->List Value-> α ->Prop} {ok2:Nat->Prop}
  (hsrc:SlR R2 sz ok2 w A m c l2) (hR:∀ vs x,R2 w vs x->R w vs x) (one:One R) {okk:Nat->Prop} (hk:Keep R okk) (hok:∀ g,v.ownBlock=some g->¬ okk g)
  (hb:(l.length+m)*bytes<=140737488355328) (h63:l.length+m<=maxLen) (hbase:base<=w.heap.size) :
  ∃ v' w',(Builtin.append_ #[t,t] ty #[v,.slice A m c]).run P w=.ok v' w'/\OwnR R e sz base w' v' (l++l2)/\w.grownBy w' v.ownBlock/\(v'.ownBlock=v.ownBlock\/v'.ownBlock=some w.heap.size):=by
 obtain⟨ht,⟨i,z,hi,hz,hsz,hby,hzs⟩,hpos⟩:=T;obtain⟨xs,ho,he⟩:=hown;have hlen2:l2.length=m:=hsrc.len;by_cases hm:m=0
 ·subst hm;have:l2=[]:=List.eq_nil_of_length_eq_zero hlen2;subst this;rcases A with _ | ad
  ·exact⟨v,w,run_append_noneR t ty i ht hi _ xs ho c,⟨xs,by simpa using ho,by simpa using he⟩,World.grownBy.refl w _,.inl rfl⟩
  ·obtain⟨v',w',hrun,h2,h3,_,h5⟩:=run_append_own_at (P:=P) w base t ty e i z sz bytes ht hi hz hsz hby hzs hpos v _ xs ho ad 0 c [] (by simp) (fun j u hu=>by simp at hu) (fun u hu=>by simp at hu) h63 hb hbase;exact⟨v',w',hrun,⟨xs,by simpa using h2,by simpa using he.keep hk (grown_agree h3 hok)⟩,h3,h5⟩
 ·obtain⟨ad,news,rfl,hnl,hne,hnc⟩:=hsrc.news (by omega);have hne':=hne.mono hR;obtain⟨v',w',hrun,h2,h3,_,h5⟩:=run_append_own_at (P:=P) w base t ty e i z sz bytes ht hi hz hsz hby hzs hpos v _ xs ho ad m c news hnl hnc (hne'.one one) h63 hb hbase;refine⟨v',w',hrun,⟨xs++news,?_,(he.keep hk (grown_agree h3 hok)).append (hne'.keep hk (grown_agree h3 hok))⟩,h3,h5⟩;rw[List.length_append,hlen2];exact h2
theorem wp_app {t:TypeId} {bytes:Nat} (T:ElemT P t e sz bytes) {o:Oper} {a:Act} {K:Act->World->Prop} {Q:Exit->Act->World->Prop} (s x:Operand)
  (ho:o.op=.call { callee:=.builtin .append,args:=#[s,x],argTypes:=#[t,t] }) (hs:a.eval s=v) (hown:OwnR R e sz base w v l) {A:Option Addr} {m c:Nat} (hx:a.eval x=.slice A m c) {l2:List α} {R2:World->List Value-> α ->Prop} {ok2:Nat->Prop}
  (hsrc:SlR R2 sz ok2 w A m c l2) (hR:∀ vs x,R2 w vs x->R w vs x) (one:One R) {okk:Nat->Prop} (hk:Keep R okk) (hok:∀ g,v.ownBlock=some g->¬ okk g)
  (hb:(l.length+m)*bytes<=140737488355328) (h63:l.length+m<=maxLen) (hbase:base<=w.heap.size)
  (h:∀ v' w',OwnR R e sz base w' v' (l++l2)->w.grownBy w' v.ownBlock->(v'.ownBlock=v.ownBlock\/v'.ownBlock=some w.heap.size)->K (a.put o.dst v') w'):o.wp P a w K Q:=by
 obtain⟨v',w',hrun,h2,h3,h4⟩:=run_app (P:=P) T o.type hown hsrc hR one hk hok hb h63 hbase;unfold Oper.wp execOp;simp only[ho,resolve,invoke,builtin,Sem.run_bind,Sem.run_pure,Result.andThen_ok,List.map_toArray,List.map_cons,List.map_nil,hs,hx,hrun];exact h v' w' h2 h3 h4
theorem wpList_app {t:TypeId} {bytes:Nat} (T:ElemT P t e sz bytes) {ops:Array Oper} {rest:List Oper} {o:Oper} {a:Act} {Q:Exit->Act->World->Prop} (hgd:o.guard=none) (s x:Operand)
  (ho:o.op=.call { callee:=.builtin .append,args:=#[s,x],argTypes:=#[t,t] }) (hs:a.eval s=v) (hown:OwnR R e sz base w v l) {A:Option Addr} {m c:Nat} (hx:a.eval x=.slice A m c) {l2:List α} {R2:World->List Value-> α ->Prop} {ok2:Nat->Prop}
  (hsrc:SlR R2 sz ok2 w A m c l2) (hR:∀ vs x,R2 w vs x->R w vs x) (one:One R) {okk:Nat->Prop} (hk:Keep R okk) (hok:∀ g,v.ownBlock=some g->¬ okk g)
  (hb:(l.length+m)*bytes<=140737488355328) (h63:l.length+m<=maxLen) (hbase:base<=w.heap.size)
  (h:∀ v' w',OwnR R e sz base w' v' (l++l2)->w.grownBy w' v.ownBlock->(v'.ownBlock=v.ownBlock\/v'.ownBlock=some w.heap.size)->wpList P ops Q rest (a.put o.dst v') w'):wpList P ops Q (o::rest) a w:=
 wpList_plain hgd fun _ hK=>wp_app T s x ho hs hown hx hsrc hR one hk hok hb h63 hbase fun v' w' h2 h3 h4=>hK _ _ (h v' w' h2 h3 h4)
theorem step_app {t:TypeId} {bytes:Nat} (T:ElemT P t e sz bytes) {ops:Array Oper} {o:Oper} {a:Act} {K:Act->World->Prop} {Q:Exit->Act->World->Prop} {E:Prop} (hgd:o.guard=none) (s x:Operand)
  (ho:o.op=.call { callee:=.builtin .append,args:=#[s,x],argTypes:=#[t,t] }) (hs:a.eval s=v) (hown:OwnR R e sz base w v l) {A:Option Addr} {m c:Nat} (hx:a.eval x=.slice A m c) {l2:List α} {R2:World->List Value-> α ->Prop} {ok2:Nat->Prop}
  (hsrc:SlR R2 sz ok2 w A m c l2) (hR:∀ vs x,R2 w vs x->R w vs x) (one:One R) {okk:Nat->Prop} (hk:Keep R okk) (hok:∀ g,v.ownBlock=some g->¬ okk g)
  (hb:(l.length+m)*bytes<=140737488355328) (h63:l.length+m<=maxLen) (hbase:base<=w.heap.size)
  (h:∀ v' w',OwnR R e sz base w' v' (l++l2)->w.grownBy w' v.ownBlock->(v'.ownBlock=v.ownBlock\/v'.ownBlock=some w.heap.size)->K (a.put o.dst v') w') :
  if Region.wanted o (yielded ops a.tmps)=true then Oper.wp P o a w K Q else E:=by
 have hw:Region.wanted o (yielded ops a.tmps)=true:=by simp[Region.wanted,hgd]
 rw[if_pos hw];exact wp_app T s x ho hs hown hx hsrc hR one hk hok hb h63 hbase h
end
def bot:Nat->Prop:=fun _=>False
theorem bot_no (v:Value):∀ g,v.ownBlock=some g->¬ bot g:=fun _ _ h=>h
theorem Ext.app {a w w':World} {v:Value} (h:Ext a w) (hg:w.grownBy w' v.ownBlock) {α :Type} {R:World->List Value-> α ->Prop} {e:TypeId} {sz:Nat} {l:List α} (ho:OwnR R e sz a.heap.size w v l):Ext a w':=
 h.grown hg (fun k hk=>(ho.lt k hk).1)
def cutA (A:Option Addr) (c lo sz:Nat):Option Addr:=if c=lo then A else A.map (·.add (lo*sz))
section
variable {P : Program} {t e : TypeId} {sz bytes : Nat}
theorem elem_of (T:ElemT P t e sz bytes):P.underlying t=some (.slice (P.elem t))/\P.elem t=e:=by
 have h:=T.und;have:P.elem t=e:=by simp[Program.elem,h]
 exact⟨by rw[this];exact h,this⟩
theorem sizeOf_of (T:ElemT P t e sz bytes) (W:World):(sizeOf (P.elem t)).run P W=.ok sz W:=by
 obtain⟨i,z,h1,_,h3,_⟩:=T.info;rw[(elem_of T).2];simp[sizeOf,typeInfo,h1,h3]
theorem run_cut_h (T:ElemT P t e sz bytes) (A:Option Addr) (n c:Nat) (i:Int) (h:Nat) (ei:i=h) (hh:h<=c) (W:World) :
  (Instr.sliceAt t (.slice A n c) none (some (.int .i64 i)) none).run P W=.ok (.slice A h c) W:=by
 subst ei;rw[run_sliceAt_slice (h:=(elem_of T).1),run_slice_h (ht:=(elem_of T).1) (h0:=by omega) (h2:=by omega),sizeOf_of T];simp[sliced,Result.andThen,Addr.add]
theorem run_cut_l (T:ElemT P t e sz bytes) (A:Option Addr) (n c:Nat) (i:Int) (l:Nat) (ei:i=l) (hh:l<=n) (W:World) :
  (Instr.sliceAt t (.slice A n c) (some (.int .i64 i)) none none).run P W=.ok (.slice (cutA A c l sz) (n-l) (c-l)) W:=by
 subst ei;rw[run_sliceAt_slice (h:=(elem_of T).1),run_slice_l (ht:=(elem_of T).1) (h0:=by omega) (h1:=by omega),sizeOf_of T];simp[sliced,Result.andThen,cutA]
theorem run_cut_lh (T:ElemT P t e sz bytes) (A:Option Addr) (n c:Nat) (i j:Int) (l h:Nat) (ei:i=l) (ej:j=h) (hl:l<=h) (hh:h<=c) (W:World) :
  (Instr.sliceAt t (.slice A n c) (some (.int .i64 i)) (some (.int .i64 j)) none).run P W=.ok (.slice (cutA A c l sz) (h-l) (c-l)) W:=by
 subst ei;subst ej;rw[run_sliceAt_slice (h:=(elem_of T).1),run_slice_lh (ht:=(elem_of T).1) (h0:=by omega) (h1:=by omega) (h2:=by omega),sizeOf_of T];simp[sliced,Result.andThen,cutA]
end
section
variable {α : Type} {R : World -> List Value -> α -> Prop} {sz : Nat} {ok : Nat -> Prop} {w : World} {A : Option Addr} {n c : Nat} {l : List α}
theorem SlR.take (h:SlR R sz ok w A n c l) {hi:Nat} (hh:hi<=n):SlR R sz ok w A hi c (l.take hi):=by
 have:=h.cut (lo:=0) (hi:=hi) (A':=A) (by omega) hh (fun _=>by cases A <;> simp[Addr.add]);simpa using this
theorem SlR.drop (h:SlR R sz ok w A n c l) {lo:Nat} (hh:lo<=n):SlR R sz ok w (cutA A c lo sz) (n-lo) (c-lo) (l.drop lo):=by
 have hc:=h.cap;have:=h.cut (lo:=lo) (hi:=n) (A':=cutA A c lo sz) hh (Nat.le_refl _) (fun hlt=>by unfold cutA;rw[if_neg (by omega)])
 rwa [take_all h.len (Nat.le_refl _)] at this
theorem SlR.mid (h:SlR R sz ok w A n c l) {lo hi:Nat} (h1:lo<=hi) (h2:hi<=n):SlR R sz ok w (cutA A c lo sz) (hi-lo) (c-lo) ((l.take hi).drop lo):=by
 have hc:=h.cap;exact h.cut h1 h2 (fun hlt=>by unfold cutA;rw[if_neg (by omega)])
end
def KeepX {α :Type} (R:World->List Value-> α ->Prop):Prop:=∀ w w' vs x,Ext w w'->R w vs x->R w' vs x
theorem Keep.x {α :Type} {R:World->List Value-> α ->Prop} {ok:Nat->Prop} (h:Keep R ok):KeepX R:=fun w w' vs x e=>h w w' vs x (e.agree ok)
theorem SlR.extX {α :Type} {R:World->List Value-> α ->Prop} {sz:Nat} {ok:Nat->Prop} {w w':World} {A:Option Addr} {n c:Nat} {l:List α} (h:SlR R sz ok w A n c l) (hk:KeepX R) (e:Ext w w'):SlR R sz ok w' A n c l:=
 ⟨h.len,h.cap,h.max,fun k x hx=>by
  obtain⟨b,off,vs,e1,ho,hl,hr,hc⟩:=h.at_ k x hx
  exact⟨b,off,vs,e1,ho,hl,hk _ _ _ _ e hr,fun j u hu=>e.cell (hc j u hu)⟩⟩
theorem keepX_sl {α :Type} {R:World->List Value-> α ->Prop} {sz:Nat} {ok:Nat->Prop} (hk:KeepX R):KeepX (rSl R sz ok):=
 fun _ _ _ _ e ⟨A,n,c,e1,h⟩=>⟨A,n,c,e1,h.extX hk e⟩
theorem sets_lt {w:World} {A:Option Addr} {n c:Nat} {l:List (List Sp)} (h:Sets w A n c l):SlR (rSl rSpan 2 (fun b=>b<w.heap.size)) 1 (fun b=>b<w.heap.size) w A n c l:=by
 have h1:=SlR.lt (by omega) h;exact h1.mono (fun vs x ⟨A',n',c',e,hs⟩=>⟨A',n',c',e,(SlR.lt (by omega) hs).mono (fun _ _ h=>h) (fun _ h=>h.2)⟩) (fun _ h=>h.2)
theorem sets_top {ok1 ok2:Nat->Prop} {w:World} {A:Option Addr} {n c:Nat} {l:List (List Sp)} (h:SlR (rSl rSpan 2 ok1) 1 ok2 w A n c l):Sets w A n c l:=
 h.mono (fun vs x ⟨A',n',c',e,hs⟩=>⟨A',n',c',e,hs.mono (fun _ _ h=>h) (fun _ _=>trivial)⟩) (fun _ _=>trivial)
theorem run_grow_nil {P:Program} {t e:TypeId} {sz bytes:Nat} (T:ElemT P t e sz bytes) {tn:TypeId} (htn:P.underlying tn=some (.int .i64)) (ty:TypeId) (n:Nat) (w:World) (h0:0<n) (hn:n<=60000) (hby:bytes<=1000) :
  ∃ cap cur,(Builtin.append_ #[t,tn] ty #[.slice none 0 0,.int .i64 n]).run P w=.ok (.slice (some ⟨w.heap.size,0,none⟩) n cap) (w.drew.alloc (.cells cur e))/\n<=cap/\cap<=maxLen/\cur.size=cap*sz:=by
 obtain⟨ht,⟨i,z,hi,hz,hsz,hb,hzs⟩,hpos⟩:=T;have hm:n*i.bytes<=60000*1000:=Nat.mul_le_mul hn (by omega);have hr:=Lib.run_append_nil_zeros (P:=P) w t tn ty e i z .i64 .i64 ht htn hi hz n h0 (by omega) (by omega) (by omega);refine⟨_,_,hr,grownCap_ge w n 0 e,grownCap_le_maxLen w n 0 e (by unfold maxLen;omega),?_⟩;have:=grownCap_ge w n 0 e;rw[Array.size_append,size_zeroCells,size_zeroCells,hzs,<- Nat.add_mul];congr 1;omega
theorem far_cell {w w':World} {v:Value} {b off:Nat} {u:Value} (hg:w.grownBy w' v.ownBlock) (h:w.cell? ⟨b,off,none⟩=some u) (hne:v.ownBlock≠some b):w'.cell? ⟨b,off,none⟩=some u:=
 (hg.cell_far ⟨b,off,none⟩ (World.block_lt_of_cell? w _ h) (Ne.symm hne)).trans h
section
variable {P : Program} {α : Type} {R : World -> List Value -> α -> Prop} {e : TypeId} {sz base : Nat} {w : World} {v : Value} {l : List α}
theorem small_bytes {a bytes:Nat} (h:a<=60000) (hb:bytes<=1000):a*bytes<=140737488355328:=by
 have:a*bytes<=60000*1000:=Nat.mul_le_mul h hb;omega
theorem small_len {a:Nat} (h:a<=60000):a<=maxLen:=by unfold maxLen;omega
theorem wpList_appS {t:TypeId} {bytes:Nat} (T:ElemT P t e sz bytes) (hby:bytes<=1000) {ops:Array Oper} {rest:List Oper} {o:Oper} {a:Act} {Q:Exit->Act->World->Prop} (hgd:o.guard=none) (s x:Operand)
  (ho:o.op=.call { callee:=.builtin .append,args:=#[s,x],argTypes:=#[t,t] }) (hs:a.eval s=v) (hown:OwnR R e sz base w v l) {A:Option Addr} {m c:Nat} (hx:a.eval x=.slice A m c) {l2:List α} {R2:World->List Value-> α ->Prop} {ok2:Nat->Prop}
  (hsrc:SlR R2 sz ok2 w A m c l2) (hR:∀ vs x,R2 w vs x->R w vs x) (one:One R) {okk:Nat->Prop} (hk:Keep R okk) (hok:∀ g,v.ownBlock=some g->¬ okk g)
  (hb:l.length+m<=60000) (hbase:base<=w.heap.size)
  (h:∀ v' w',OwnR R e sz base w' v' (l++l2)->w.grownBy w' v.ownBlock->(v'.ownBlock=v.ownBlock\/v'.ownBlock=some w.heap.size)->wpList P ops Q rest (a.put o.dst v') w'):wpList P ops Q (o::rest) a w:=
 wpList_app T hgd s x ho hs hown hx hsrc hR one hk hok (small_bytes hb hby) (small_len hb) hbase h
theorem step_appS {t:TypeId} {bytes:Nat} (T:ElemT P t e sz bytes) (hby:bytes<=1000) {ops:Array Oper} {o:Oper} {a:Act} {K:Act->World->Prop} {Q:Exit->Act->World->Prop} {E:Prop} (hgd:o.guard=none) (s x:Operand)
  (ho:o.op=.call { callee:=.builtin .append,args:=#[s,x],argTypes:=#[t,t] }) (hs:a.eval s=v) (hown:OwnR R e sz base w v l) {A:Option Addr} {m c:Nat} (hx:a.eval x=.slice A m c) {l2:List α} {R2:World->List Value-> α ->Prop} {ok2:Nat->Prop}
  (hsrc:SlR R2 sz ok2 w A m c l2) (hR:∀ vs x,R2 w vs x->R w vs x) (one:One R) {okk:Nat->Prop} (hk:Keep R okk) (hok:∀ g,v.ownBlock=some g->¬ okk g)
  (hb:l.length+m<=60000) (hbase:base<=w.heap.size)
  (h:∀ v' w',OwnR R e sz base w' v' (l++l2)->w.grownBy w' v.ownBlock->(v'.ownBlock=v.ownBlock\/v'.ownBlock=some w.heap.size)->K (a.put o.dst v') w') :
  if Region.wanted o (yielded ops a.tmps)=true then Oper.wp P o a w K Q else E:=
 step_app T hgd s x ho hs hown hx hsrc hR one hk hok (small_bytes hb hby) (small_len hb) hbase h
theorem OwnR.empty (R:World->List Value-> α ->Prop) (e:TypeId) (sz base:Nat) (w:World) (hb:base<=w.heap.size) :
  OwnR R e sz base (w.alloc (.cells #[] e)) (.slice (some ⟨w.heap.size,0,none⟩) 0 0) []:=OwnR.made hb (by unfold maxLen;omega) (by simp)
end
end Go.Proofs.YthomjcjnalfipaaGreatDoor
namespace Go.Proofs.YthomjcjnalfipaaGreatDoor
open Go.RowKit Go.Sort
theorem isNaNR_any (x:Int) (w:World):Calls Tryz.prog 97 #[.int .i32 x] w fun e w'=>e=.returned (.bool false)/\w=w':=by
 go_enter Tryz.func97,Tryz.ntmps97;go_wp2;go_ret;exact⟨by simp,rfl⟩
theorem Less_any (x y:Int) (w:World):Calls Tryz.prog 175 #[.int .i32 x,.int .i32 y] w fun e w'=>e=.returned (.bool (decide (x<y)))/\w=w':=by
 go_enter Tryz.func175,Tryz.ntmps175;go_wp2_with (go_at_call 97;refine (isNaNR_any _ _).mono ?_;rintro e w' ⟨rfl,rfl⟩);go_ret;exact⟨rfl,rfl⟩
theorem Less_far {w:World} (x y:Int) (p:Far w):Calls Tryz.prog 175 #[.int .i32 x,.int .i32 y] p.out fun e w'=>e=.returned (.bool (decide (x<y)))/\Ext p.out w':=
 (Less_any x y p.out).mono fun e w' h=>⟨h.1,h.2▸Ext.refl _⟩
theorem insertion_r (w0:World) (b off N cap:Nat) (L0 L:List Int) (w:World) (x y:Nat) (S:SE .i32 w0 b off L0 i32 L w) (hN:L.length=N) (hxy:x<=y) (hy:y<=N) (hm:N<4611686018427387904) :
  Calls Tryz.prog 169 #[.slice (some ⟨b,off,none⟩) N cap,.int .i64 x,.int .i64 y] w fun e w'=>e=.returned (.tuple #[])/\∃ D,SE .i32 w0 b off L0 i32 D w'/\Sw x y L D/\Sd x y D:=by
 have S0:=hid S;have HN:=hid hN;clear S hN;have e1:IntKind.i64.wrap ((x:Int)+1)=(x:Int)+1:=IntWalk.i64_in _ (by omega);go_enter Tryz.func169,Tryz.ntmps169;go_wp2;clear e1;go_loopw [6] (fun vi wr=>∃ (i:Nat) (D:List Int),vi=.int .i64 i/\x<i/\(i<=y\/i=x+1)/\Hid (SE .i32 w0 b off L0 i32 D wr)/\Hid (Sw x y L D)/\Hid (Sd x (min i y) D)) (fun vi _=>y+1-(intOf vi).toNat);case atStart=>exact⟨x+1,L,by go_num,by omega,.inr rfl,S0,hid (.refl L),hid (Sd.nil _ (by omega))⟩
 case round=>
  clear S0;obtain⟨i,D,rfl,hxi,hiy,S1,HW,HD⟩:=hrel;by_cases hlt:i<y
  ·have HJ:=hid (InJ.start (x:=x) (i:=i) (D:=D) (by have:=HD.out;rwa [Nat.min_eq_left (by omega)] at this));clear HD;go_wp2;go_loopw [7] (fun vj wr2=>∃ (j:Nat) (D:List Int),vj=.int .i64 j/\x<=j/\j<=i/\Hid (SE .i32 w0 b off L0 i32 D wr2)/\Hid (Sw x y L D)/\Hid (InJ x i j D)) (fun vj _=>(intOf vj).toNat);case atStart=>exact⟨i,D,rfl,by omega,by omega,S1,HW,HJ⟩
   case round=>
    clear S1 HW HJ;obtain⟨j,D,rfl,hxj,hji,S1,HW,HJ⟩:=hrel;have HL:Hid (D.length=N):=hid (HW.out.len.trans HN.out);by_cases hja:x<j
    ·obtain⟨q,hq⟩:∃ q,q+1=j:=⟨j-1,by omega⟩
     have HQ:=hid hq;obtain⟨u,hu⟩:∃ z,z=D.getD j 0:=⟨_,rfl⟩
     have HU:=hid hu;clear hu;obtain⟨v,hv⟩:∃ z,z=D.getD q 0:=⟨_,rfl⟩
     have HV:=hid hv;clear hv;have c1:=fun pF:Far wr=>(S1.out.more pF.ext).cell (i:=j) (by rw[HL.out];omega);rw[<- HU.out] at c1;have c2:=fun pF:Far wr=>(S1.out.more pF.ext).cell (i:=q) (by rw[HL.out];omega);rw[<- HV.out] at c2;have eq:(j:Int)-1=(q:Int):=by omega
     have wq:IntKind.i64.wrap ((j:Int)-1)=(q:Int):=by rw[IntKind.wrap_i64];omega
     have wq':IntKind.i64.wrap (q:Int)=(q:Int):=by rw[IntKind.wrap_i64];omega
     have bj:(j:Int)<(N:Int):=by omega
     have bq:(q:Int)<(N:Int):=by omega
     have gz:(x:Int)<(j:Int):=by omega
     have gd:decide ((x:Int)<(j:Int))=true:=decide_eq_true gz;have gd':decide ((j:Int) > (x:Int))=true:=decide_eq_true gz;clear hq;by_cases hlv:u<v
     ·have hvd:decide (u<v)=true:=decide_eq_true hlv
      have HJ2:=hid (show InJ x i q (sw D j q) from by
       have h1:=HJ.out;rw[<- HQ.out] at h1 ⊢
       exact h1.go (by have:=HQ.out;omega) (by have:=HQ.out;omega) (by rw[HL.out];omega) (by rw[HQ.out,<- HU.out,<- HV.out];exact hlv))
      have HW2:=hid (show Sw x y L (sw D j q) from .step HW.out (by omega) (by omega) (by have:=HQ.out;omega) (by omega));clear HJ HW;go_wp2;refine wp_region_far (by kernel_rfl) (by kernel_rfl) ?_
      repeat (quiet_step (first | (go_at_call 175;refine Calls.far_of (Less_far _ _ _))))
      refine wpQuiet_nil ?_;intro w2 hw';obtain⟨pf,hw2⟩:=hw';have hx2:Ext wr w2:=by rw[hw2];exact pf.ext
      clear hw2 pf;have S2:=hid (S1.out.more hx2);clear hx2;have S3:=hid (S2.out.swap (i:=j) (j:=q) (by rw[HL.out];omega) (by rw[HL.out];omega));rw[<- HU.out,<- HV.out] at S3;have m1:=S2.out.cell (i:=j) (by rw[HL.out];omega);have m2:=S2.out.cell (i:=q) (by rw[HL.out];omega);rw[<- HU.out] at m1;rw[<- HV.out] at m2;have m3:=S2.out.frz (i:=j) (by rw[HL.out];omega);have m4:=S2.out.frz (i:=q) (by rw[HL.out];omega);obtain⟨t,m5⟩:=S2.out.c2 (i:=j) (j:=q) (by rw[HL.out];omega) (by rw[HL.out];omega) (.int .i32 v);clear S2;clear c1 c2 HU HV;generalize sw D j q=D3 at *;go_wp2;go_region;generalize (((w2.setCell ⟨b,off+j,none⟩ (Value.int .i32 v)).setCell ⟨b,off+q,none⟩ (Value.int .i32 u)).drew)=w3 at *;go_wp2;go_roundw;case rel=>exact⟨q,D3,by go_num,by have:=HQ.out;omega,by omega,S3,HW2,HJ2⟩
      case measure=>have:=HQ.out;simp[intOf];omega
     ·have hvd:decide (u<v)=false:=decide_eq_false hlv;have HS:=hid (show Sd x (i+1) D from HJ.out.stop hxj hji (.inr (by have:=HQ.out;rw[show j-1=q by omega,<- HU.out,<- HV.out];omega)));clear HJ HU HV;go_wp2;refine wp_region_far (by kernel_rfl) (by kernel_rfl) ?_
      repeat (quiet_step (first | (go_at_call 175;refine Calls.far_of (Less_far _ _ _))))
      refine wpQuiet_nil ?_;intro w2 hw';obtain⟨pf,hw2⟩:=hw';have hx2:Ext wr w2:=by rw[hw2];exact pf.ext
      clear hw2 pf;have S2:=hid (S1.out.more hx2);clear hx2;clear c1 c2;go_wp2;go_roundw;case rel=>exact⟨i+1,D,by go_num,by omega,.inl (by omega),S2,HW,by rw[Nat.min_eq_left (by omega)];exact HS⟩
      case measure=>simp[intOf];omega
    ·have gd:decide ((x:Int)<(j:Int))=false:=decide_eq_false (by omega);have gd':decide ((j:Int) > (x:Int))=false:=decide_eq_false (by omega);have gz:¬ (x:Int)<(j:Int):=by omega
     have HS:=hid (show Sd x (i+1) D from HJ.out.stop hxj hji (.inl (by omega)));clear HJ;go_wp2;go_region;have S2:=hid (S1.out.more ((Ext.refl _).drew));clear S1;generalize wr.drew=w2 at *;go_wp2;go_roundw;case rel=>exact⟨i+1,D,by go_num,by omega,.inl (by omega),S2,HW,by rw[Nat.min_eq_left (by omega)];exact HS⟩
     case measure=>simp[intOf];omega
  ·go_wp2;go_end0;exact⟨rfl,D,S1.out,HW.out,by have:=HD.out;rwa [Nat.min_eq_right (by omega)] at this⟩
theorem reverse_r (w0:World) (b off N cap:Nat) (L0 L:List Int) (w:World) (x y:Nat) (S:SE .i32 w0 b off L0 i32 L w) (hN:L.length=N) (hxy:x<y) (hy:y<=N) (hm:N<4611686018427387904) :
  Calls Tryz.prog 173 #[.slice (some ⟨b,off,none⟩) N cap,.int .i64 x,.int .i64 y] w fun e w'=>e=.returned (.tuple #[])/\∃ D,SE .i32 w0 b off L0 i32 D w'/\Sw x y L D:=by
 have S0:=hid S;have HN:=hid hN;clear S hN;have e1:IntKind.i64.wrap ((y:Int)-1)=(y:Int)-1:=IntWalk.i64_in _ (by omega);go_enter Tryz.func173,Tryz.ntmps173;go_wp2;clear e1;go_loopw [6,7] (fun vi vj wr=>∃ (i j:Nat) (D:List Int),vi=.int .i64 i/\vj=.int .i64 ((j:Int)-1)/\x<=i/\i<=y/\x<=j/\j<=y/\Hid (SE .i32 w0 b off L0 i32 D wr)/\Hid (Sw x y L D)) (fun vi vj _=>y-(intOf vi).toNat);case atStart=>exact⟨x,y,L,rfl,by first | rfl | go_num,by omega,by omega,by omega,by omega,S0,hid (.refl L)⟩
 case round=>
  clear S0;obtain⟨i,j,D,rfl,rfl,h1,h2,h3,h4,S1,HW⟩:=hrel;have HL:Hid (D.length=N):=hid (HW.out.len.trans HN.out);by_cases hlt:(i:Int)<(j:Int)-1
  ·obtain⟨q,hq⟩:∃ q,q+1=j:=⟨j-1,by omega⟩
   have HQ:=hid hq;have ej:(j:Int)-1=(q:Int):=by omega
   have hq1:q<y:=by omega
   have hq2:i<q:=by omega
   have hq3:(q:Int)-1+1=(q:Int):=by omega
   rw[ej] at hlt ⊢;clear ej hq hq3;obtain⟨u,hu⟩:∃ z,z=D.getD i 0:=⟨_,rfl⟩
   have HU:=hid hu;clear hu;obtain⟨v,hv⟩:∃ z,z=D.getD q 0:=⟨_,rfl⟩
   have HV:=hid hv;clear hv;have bj:(i:Int)<(N:Int):=by omega
   have bq:(q:Int)<(N:Int):=by omega
   have HW2:=hid (show Sw x y L (sw D i q) from .step HW.out (by omega) (by omega) (by omega) (by omega));clear HW;have S3:=hid (S1.out.swap (i:=i) (j:=q) (by rw[HL.out];omega) (by rw[HL.out];omega));rw[<- HU.out,<- HV.out] at S3;have m1:=S1.out.cell (i:=i) (by rw[HL.out];omega);have m2:=S1.out.cell (i:=q) (by rw[HL.out];omega);rw[<- HU.out] at m1;rw[<- HV.out] at m2;have m3:=S1.out.frz (i:=i) (by rw[HL.out];omega);have m4:=S1.out.frz (i:=q) (by rw[HL.out];omega);obtain⟨t,m5⟩:=S1.out.c2 (i:=i) (j:=q) (by rw[HL.out];omega) (by rw[HL.out];omega) (.int .i32 v);clear S1;clear HU HV;generalize sw D i q=D3 at *;go_wp2;go_region;generalize (((wr.setCell ⟨b,off+i,none⟩ (Value.int .i32 v)).setCell ⟨b,off+q,none⟩ (Value.int .i32 u)).drew)=w3 at *;go_wp2;go_roundw;case rel=>exact⟨i+1,q,D3,by go_num,by first | rfl | go_num,by omega,by omega,by omega,by omega,S3,HW2⟩
   case measure=>simp[intOf];omega
  ·go_wp2;go_end0;exact⟨rfl,D,S1.out,HW.out⟩
end Go.Proofs.YthomjcjnalfipaaGreatDoor
